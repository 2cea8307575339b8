/- slices.DeleteFunc by a name: its walk. -/
import Derived.Test.YtnellpilmjjbcaaH8
namespace Go.Proofs.Ytnellpilmjjbcaa.G
open Go.RowKit Go.Proofs.YtnellpilmjjbcaaW.PrintWords Go.Proofs.YtnellpilmjjbcaaW.PrintLast Go.Proofs.YtnellpilmjjbcaaW.PrintMore
set_option linter.unusedVariables false
set_option linter.unusedSimpArgs false

/-- The list under way: the first i are those of the first j that stay; behind j all is as it was. -/
structure DL (n : ByteArray) (l L : List S45) (i j : Int) : Prop where
  h0 : 0 ≤ i
  hij : i < j
  hj : j ≤ l.length
  len : L.length = l.length
  pre : L.take i.toNat = keep n (l.take j.toNat)
  post : L.drop j.toNat = l.drop j.toNat
theorem DL.at {n : ByteArray} {l L : List S45} {i j : Int} (h : DL n l L i j) (hj : j < l.length) : rd_T45 L j = rd_T45 l j := by
  have h1 := drop_T45 L j (by have := h.h0; have := h.hij; omega) (by rw [h.len]; exact hj)
  have h2 := drop_T45 l j (by have := h.h0; have := h.hij; omega) hj
  rw [h.post, h2] at h1
  exact (List.cons.inj h1).1.symm
theorem take_T45 (l : List S45) (i : Int) (h0 : 0 ≤ i) (h : i < l.length) : l.take (i + 1).toNat = l.take i.toNat ++ [rd_T45 l i] := by
  have e : (i + 1).toNat = i.toNat + 1 := by omega
  rw [e, List.take_add_one]
  unfold rd_T45
  rw [List.getD_eq_getElem?_getD, List.getElem?_eq_getElem (by omega)]
  rfl
theorem DL.skip {n : ByteArray} {l L : List S45} {i j : Int} (h : DL n l L i j) (hj : j < l.length) (hy : isN n (rd_T45 l j) = true) : DL n l L i (j + 1) := by
  have h0 := h.h0
  have h1 := h.hij
  refine ⟨h.h0, by omega, by omega, h.len, ?_, ?_⟩
  · rw [take_T45 l j (by omega) hj, keep_snoc, if_pos hy, h.pre]
  · have e : (j + 1).toNat = j.toNat + 1 := by omega
    have h2 := h.post
    rw [e, ← List.drop_drop, ← List.drop_drop, h2]
theorem DL.move {n : ByteArray} {l L : List S45} {i j : Int} (h : DL n l L i j) (hj : j < l.length) (hy : ¬ isN n (rd_T45 l j) = true) : DL n l (L.set i.toNat (rd_T45 l j)) (i + 1) (j + 1) := by
  have h0 := h.h0
  have h1 := h.hij
  have hl := h.len
  refine ⟨by omega, by omega, by omega, by rw [List.length_set, h.len], ?_, ?_⟩
  · rw [take_T45 l j (by omega) hj, keep_snoc, if_neg hy, ← h.pre]
    have e : (i + 1).toNat = i.toNat + 1 := by omega
    rw [e, List.take_add_one, List.take_set_of_le (by omega), List.getElem?_set_self (by omega)]
    rfl
  · have e : (j + 1).toNat = j.toNat + 1 := by omega
    rw [List.drop_set_of_lt (by omega), e, ← List.drop_drop, ← List.drop_drop, h.post]

set_option maxHeartbeats 4000000 in
set_option maxRecDepth 100000 in
theorem deleteF (w0 W : World) (A : Option Addr) (c : Nat) (l : List S45) (gn : Nat) (n : ByteArray) (hR : Kd.R k45 45 W w0.heap.size (fun _ => True) (.slice A l.length c) l) (hB : Below w0.heap.size w0 W) (hn : W.heap[gn]? = some (.cells #[.string n] 9 (0, 0))) (hl : l.length ≤ 4398046510000) :
    Calls Try.prog 30 #[.slice A l.length c, .func (.func 31) #[] #[.pointer (some ⟨gn, 0, none⟩)]] W fun e w' => ∃ v', e = .returned v' ∧ Kd.R k45 45 w' w0.heap.size (fun _ => True) v' (keep n l) ∧ Below w0.heap.size w0 w' := by
  have HR := Aside0.mk hR
  have HB := Aside0.mk hB
  have HN := Aside0.mk hn
  have HL := Aside0.mk hl
  have HC := Aside0.mk (Kd.R_reads' hR).2.2
  clear hR hB hn hl
  obtain ⟨t, ht⟩ : ∃ t, idxFrom n l 0 = t := ⟨_, rfl⟩
  have HT := Aside0.mk ht
  by_cases h1 : t = -1
  · have a1 : (t == -1) = true := by simp [h1]
    have HK := Aside0.mk (idx_none n l 0 (by omega) (ht.trans h1))
    clear ht h1
    go_enter Try.func30, Try.ntmps30
    go_wp2_with (go_at_call 41; refine (indexF A c l gn n W HC.out HN.out (by have := HL.out; omega)).mono ?_; rw [HT.out]; rintro e w1 ⟨rfl, hb⟩; have B1 := Aside0.mk hb; clear hb)
    go_ret
    exact ⟨_, rfl, by rw [HK.out]; exact Kd.R_below HR.out B1.out, HB.out.trans (B1.out.mono HB.out.size)⟩
  · have a1 : (t == -1) = false := by simp [h1]
    obtain ⟨i1, i2, i3, i4⟩ := idx_some n l 0 t (by omega) ht h1
    rw [Int.sub_zero] at i3 i4
    have D0 := Aside0.mk (show DL n l l t (t + 1) from ⟨by omega, by omega, by omega, rfl, by rw [take_T45 l t (by omega) (by omega), keep_snoc, if_pos i4, i3], rfl⟩)
    obtain ⟨g, cap, eA, hbg, hgl, hgc⟩ := Kd.R_form HR.out (by omega)
    injection eA with e1 e2 e3
    subst e1 e3
    have hw1 : IntKind.i64.wrap (t + 1) = t + 1 := IntWalk.i64_in _ (by have := HL.out; omega)
    have HG := Aside0.mk hbg
    have HI := Aside0.mk i2
    have HT0 := Aside0.mk i1
    have hgn : Aside0 (gn ≠ g) := ⟨fun e => by obtain ⟨cells, hc⟩ := hgc; have := HN.out; rw [e, hc] at this; injection this with this; injection this with _ this; cases this⟩
    clear i1 i2 i3 i4 hbg hgl hgc e2 h1
    go_enter Try.func30, Try.ntmps30
    go_wp2_with (go_at_call 41; refine (indexF (some ⟨g, 0, none⟩) c l gn n W HC.out HN.out (by have := HL.out; omega)).mono ?_; rw [HT.out]; rintro e w1 ⟨rfl, hb⟩; have B1 := Aside0.mk hb; clear hb)
    have R1 := Aside0.mk (Kd.R_below HR.out B1.out)
    have N1 := Aside0.mk (blk_below HN.out B1.out)
    have BB := Aside0.mk (HB.out.trans (B1.out.mono HB.out.size))
    clear HR HB HN B1 HC
    go_loopg [5, 6, 7] l.length (fun kq v5 v6 v7 W' => ∃ (i j : Int) (L : List S45), v5 = .int .i64 i ∧ v6 = .int .i64 j ∧ Aside0 (j + kq = t + 1 + l.length) ∧ Aside0 (DL n l L i j) ∧ Aside0 (Kd.R k45 45 W' w0.heap.size (fun _ => True) (.slice (some ⟨g, 0, none⟩) l.length c) L) ∧ Aside0 (W'.heap[gn]? = some (.cells #[.string n] 9 (0, 0))) ∧ Aside0 (Below w0.heap.size w0 W'))
    case atStart => exact ⟨t, t + 1, l, rfl, rfl, ⟨by omega⟩, D0, R1, N1, BB⟩
    case round =>
    clear R1 N1 BB D0
    obtain ⟨i, j, L, rfl, rfl, HK, HD, HR, HN, HB⟩ := hrel
    by_cases hj : j < l.length
    case neg =>
      have hjb : decide (j < (l.length : Int)) = false := decide_eq_false hj
      have HJE := Aside0.mk (show j = l.length by have := HD.out.hj; omega)
      obtain ⟨m, hm⟩ : ∃ m : Nat, i = m := ⟨i.toNat, by have := HD.out.h0; omega⟩
      subst hm
      have hml : m < l.length := by have := HD.out.hij; have := HJE.out; omega
      obtain ⟨_, inner, hown, hrep⟩ := HR.out
      rcases hown.2 with ⟨e, _⟩ | ⟨g', cap, cur, e, hbg, hg, hnc, hcm, hcs, htake⟩
      · cases e
      injection e with e1 e2 e3
      injection e1 with e1
      injection e1 with e1
      subst e1 e3
      have hcs2 : cur.size = c * 2 := hcs
      have hlc : l.length ≤ c := by rw [← HD.out.len]; exact hnc
      have hfl : cur.toList.take (l.length * 2) = fl L := by
        rw [← HD.out.len]
        have h2 := htake
        rw [reps_fl (fun _ _ h => k45_openM h) L inner hrep] at h2
        exact h2
      obtain ⟨zs, hzl, hrun⟩ := run_clear2 wr g (m * 2) (l.length - m) (c - m) cur 0 hg (by omega) (by omega)
      have HRUN := Aside0.mk hrun
      have HFL := Aside0.mk hfl
      have HCS := Aside0.mk hcs2
      have HCM := Aside0.mk hcm
      have HGG := Aside0.mk hg
      have HZ := Aside0.mk hzl
      have HKP := Aside0.mk (show L.take m = keep n l by
        have h1 := HD.out.pre
        rw [HJE.out] at h1
        simpa using h1)
      have q1 : m ≤ l.length := by omega
      have q2 : m ≤ c := by omega
      have q3 : ¬ c = m := by omega
      have q4 : (m : Int) ≤ (l.length : Int) := by omega
      have q5 : (m : Int) ≤ (c : Int) := by omega
      clear hj hrun hfl hcs2 hcm hg hzl hown hrep hcs htake hnc hbg e2
      go_wp2_with fail
      rw [HRUN.out]
      simp only [Result.andThen]
      rw [Oper.upon_value]
      go_wp2_with fail
      go_ret
      have hkl : (keep n l).length = m := by
        rw [← HKP.out, List.length_take, HD.out.len]
        omega
      refine ⟨_, rfl, ?_, below_setRow HB.out HG.out _⟩
      refine R_raw HG.out (setRow_heap wr g _ _ 45 _ HGG.out) q2 HCM.out ?_ ?_ hkl
      · have e1 : cur.toList.length = c * 2 := by rw [Array.length_toList, HCS.out]
        have e2 := HZ.out
        simp only [List.size_toArray, List.length_append, List.length_take, List.length_drop, e1, e2]
        omega
      · have e1 : (cur.toList.take (m * 2)).length = m * 2 := by
          rw [List.length_take, Array.length_toList, HCS.out]
          omega
        have e3 : cur.toList.take (m * 2) = fl (keep n l) := by
          rw [← HKP.out, ← fl_take, ← HFL.out, List.take_take, Nat.min_eq_left (by omega)]
        rw [← e3]
        exact List.take_left' e1
    have hjb : decide (j < (l.length : Int)) = true := decide_eq_true hj
    have hj0 : decide (0 ≤ j) = true := decide_eq_true (by have := HD.out.h0; have := HD.out.hij; omega)
    have p9 := eq_true (show 0 ≤ j by have := HD.out.h0; have := HD.out.hij; omega)
    have q9 := eq_true hj
    have hwj : IntKind.i64.wrap (j + 1) = j + 1 := IntWalk.i64_in _ (by have := HL.out; have := HD.out.h0; have := HD.out.hij; omega)
    have hwi : IntKind.i64.wrap (i + 1) = i + 1 := IntWalk.i64_in _ (by have := HL.out; have := HD.out.h0; have := HD.out.hij; omega)
    obtain ⟨cs, hcl, hM, hcc, hfr⟩ := Kd.R_elem HR.out z45 j (by have := HD.out.h0; have := HD.out.hij; omega) hj
    obtain rfl := k45_openM hM
    have hrd : L.getD j.toNat z45 = rd_T45 l j := HD.out.at hj
    rw [hrd] at hcc
    obtain ⟨y, hy⟩ : ∃ y, rd_T45 l j = y := ⟨_, rfl⟩
    rw [hy] at hcc
    have HY := Aside0.mk hy
    have HJ := Aside0.mk hj
    have t0 : wr.cell? ⟨g, j.toNat * 2, none⟩ = some (.string y.f0) := hcc 0 _ rfl
    have t1 : wr.cell? ⟨g, j.toNat * 2 + 1, none⟩ = some (.string y.f1) := hcc 1 _ rfl
    clear hcl hM hcc hfr hrd hy hj
    go_upto_region 8 with ((with_reducible refine gate_dst (N := 7) rfl ?_); refine box_event ?hg (N := 7) ?hd (cs := #[.string ⟨#[]⟩, .string ⟨#[]⟩]) (t := 45) ?hr ?_; (case hd => rfl); (case hg => rfl); (case hr => first | (go_simp; done) | (go_simp; rfl)); intro g7 hg w2 hbox hb; have G7 := Aside0.mk hg; have X7 := Aside0.mk hbox; have B2 := Aside0.mk hb; have c70 : w2.cell? ⟨g7, 0, none⟩ = some (.string ⟨#[]⟩) := (blk_cell hbox 0).trans rfl; have c71 : w2.cell? ⟨g7, 1, none⟩ = some (.string ⟨#[]⟩) := (blk_cell hbox 1).trans rfl; have f70 := blk_frozen hbox 0; have f71 := blk_frozen hbox 1; clear hbox hb hg)
    obtain ⟨W3, hW3⟩ : ∃ W3, (w2.setCell ⟨g7, 0, none⟩ (.string y.f0)).setCell ⟨g7, 1, none⟩ (.string y.f1) = W3 := ⟨_, rfl⟩
    rw [hW3]
    have L7 := Aside0.mk (show g ≠ g7 ∧ gn ≠ g7 ∧ w0.heap.size ≤ g7 from by
      have h1 := blk_lt HN.out
      obtain ⟨cells, h2⟩ := (Kd.R_typed HR.out) g rfl
      have h3 := blk_lt h2
      have h4 := HB.out.size
      have h5 := G7.out
      exact ⟨by omega, by omega, by omega⟩)
    have X3 := Aside0.mk (show W3.heap[g7]? = some (.cells #[.string y.f0, .string y.f1] 45 (0, 0)) from hW3 ▸ blk_put (cs := #[.string y.f0, .string ⟨#[]⟩]) (blk_put (cs := #[.string ⟨#[]⟩, .string ⟨#[]⟩]) X7.out 0 (.string y.f0) rfl) 1 (.string y.f1) rfl)
    have R3 := Aside0.mk (show Kd.R k45 45 W3 w0.heap.size (fun _ => True) (.slice (some ⟨g, 0, none⟩) l.length c) L from hW3 ▸ Kd.R_mono (Kd.R_far (p := ⟨g7, 1, none⟩) (Kd.R_far (p := ⟨g7, 0, none⟩) (Kd.R_below (Kd.R_elderB HR.out g7 (Nat.le_of_eq G7.out.symm)) B2.out) (fun _ hk => hk.2) (.string y.f0)) (fun _ hk => hk.2) (.string y.f1)) (fun _ _ => trivial))
    have N3 := Aside0.mk (show W3.heap[gn]? = some (.cells #[.string n] 9 (0, 0)) from hW3 ▸ blk_far (blk_far (blk_below HN.out B2.out) (p := ⟨g7, 0, none⟩) L7.out.2.1 (.string y.f0)) (p := ⟨g7, 1, none⟩) L7.out.2.1 (.string y.f1))
    have B3 := Aside0.mk (show Below w0.heap.size w0 W3 from hW3 ▸ below_set (below_set (HB.out.trans (B2.out.mono HB.out.size)) L7.out.2.2) L7.out.2.2)
    clear hW3 c70 c71 f70 f71 X7 B2 HR HN HB t0 t1
    have c70 : W3.cell? ⟨g7, 0, none⟩ = some (.string y.f0) := (blk_cell X3.out 0).trans rfl
    have c71 : W3.cell? ⟨g7, 1, none⟩ = some (.string y.f1) := (blk_cell X3.out 1).trans rfl
    by_cases hy : isN n y = true
    · go_wp2_with (go_at_call 31; refine (del gn n y _ N3.out).mono ?_; rintro e w4 ⟨rfl, hb⟩; have B4 := Aside0.mk hb; clear hb)
      cases gk with
      | zero => exact absurd HK.out (by have := HJ.out; have := HT0.out; omega)
      | succ k1 =>
        go_roundg k1
        case measure => omega
        case rel => exact ⟨i, j + 1, L, rfl, rfl, ⟨by have := HK.out; omega⟩, ⟨HD.out.skip HJ.out (by rw [HY.out]; exact hy)⟩, ⟨Kd.R_below R3.out B4.out⟩, ⟨blk_below N3.out B4.out⟩, ⟨B3.out.trans (B4.out.mono B3.out.size)⟩⟩
    · have hy3 : isN n y = false := by simpa using hy
      have HNY := Aside0.mk hy
      clear hy
      go_upto_region 9 with (go_at_call 31; refine (del gn n y _ N3.out).mono ?_; rintro e w4 ⟨rfl, hb⟩; have B4 := Aside0.mk hb; clear hb)
      have R4 := Aside0.mk (Kd.R_below R3.out B4.out)
      have X4 := Aside0.mk (blk_below X3.out B4.out)
      have N4 := Aside0.mk (blk_below N3.out B4.out)
      have B5 := Aside0.mk (B3.out.trans (B4.out.mono B3.out.size))
      clear R3 X3 N3 B3 B4 c70 c71
      have c70 : w4.cell? ⟨g7, 0, none⟩ = some (.string y.f0) := (blk_cell X4.out 0).trans rfl
      have c71 : w4.cell? ⟨g7, 1, none⟩ = some (.string y.f1) := (blk_cell X4.out 1).trans rfl
      have hil : i < l.length := by have := HD.out.hij; have := HD.out.hj; omega
      obtain ⟨cs, hcl, hM, hcc, hfr⟩ := Kd.R_elem R4.out z45 i HD.out.h0 hil
      have HP := Aside0.mk (Kd.R_seg R4.out i HD.out.h0 hil (seg := [.string y.f0, .string y.f1]) (j := 0) hcl hcc (show 2 ≤ 2 from by decide) (x' := y) (by rw [List.take_zero, List.nil_append, List.drop_eq_nil_of_le (by rw [hcl]; exact Nat.le_refl 2), List.append_nil]; exact k45_mkM _ _ _ y) (fun _ hk => hk))
      obtain rfl := k45_openM hM
      have t0 := hcc 0 _ rfl
      have t1 := hcc 1 _ rfl
      have f0 := hfr 0
      have f1 := hfr 1
      simp only [show k45.sz = 2 from rfl, Nat.add_zero] at t0 t1 f0 f1
      have p8 := eq_true HD.out.h0
      have q8 := eq_true hil
      clear hcl hM hcc hfr hil
      go_wp2_with fail
      cases gk with
      | zero => exact absurd HK.out (by have := HJ.out; have := HT0.out; omega)
      | succ k1 =>
        go_roundg k1
        case measure => omega
        case rel => exact ⟨i + 1, j + 1, L.set i.toNat y, rfl, rfl, ⟨by have := HK.out; omega⟩, ⟨HY.out ▸ HD.out.move HJ.out (by rw [HY.out]; exact HNY.out)⟩, ⟨HP.out.1⟩, ⟨blk_far (blk_far N4.out (p := ⟨g, i.toNat * 2, none⟩) hgn.out (.string y.f0)) (p := ⟨g, i.toNat * 2 + 1, none⟩) hgn.out (.string y.f1)⟩, ⟨below_set (below_set B5.out HG.out) HG.out⟩⟩
end Go.Proofs.Ytnellpilmjjbcaa.G
