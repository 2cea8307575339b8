/- The index's Put and Drop walked once more: all blocks but its own two are kept; entries beside it. -/
import Derived.Test.YtmndedahkodibaaH19
namespace Go.Proofs.Ytmndedahkodibaa.G
open Go.RowKit Go.Proofs.YtmndedahkodibaaW.PrintWords Go.Proofs.YtmndedahkodibaaW.PrintLast Go.Proofs.YtmndedahkodibaaW.PrintMore
open Go.Proofs.Ytmndedahkodibaa.Pure (lt Lt Lt_tri Lt_irrefl Lt_trans Rep keys_eq rd_mem find_ref put_ref drop_ref)
set_option linter.unusedVariables false
set_option linter.unusedSimpArgs false

/-- An index whose table lies at g. -/
def IXg (W : World) (base p g n : Nat) (D : S28 → Option Int) : Prop := ∃ S used, TB W base p g S n used D
theorem IXg.ix {W : World} {base p g n : Nat} {D : S28 → Option Int} (h : IXg W base p g n D) : IX W base p n D := by
  obtain ⟨S, used, h⟩ := h
  exact ⟨g, S, used, h⟩
theorem IXg.below {W W' : World} {base p g n : Nat} {D : S28 → Option Int} (h : IXg W base p g n D) (hb : Below W.heap.size W W') : IXg W' base p g n D := by
  obtain ⟨S, used, h⟩ := h
  exact ⟨S, used, h.below hb⟩
theorem IXg.lt {W : World} {base p g n : Nat} {D : S28 → Option Int} (h : IXg W base p g n D) : p < W.heap.size ∧ g < W.heap.size ∧ base ≤ p ∧ base ≤ g := by
  obtain ⟨S, used, h⟩ := h
  exact ⟨blk_lt h.tw.bp, blk_lt h.tw.bg, h.tw.hp, h.tw.hg⟩
theorem put_g (W : World) (base p g n : Nat) (D : S28 → Option Int) (k : S28) (v : Int) (hk : Fit k) (hnb : n ≤ 1073741824) (hbase : base ≤ W.heap.size) (h : IXg W base p g n D) :
    Calls Try.prog 23 #[.pointer (some ⟨p, 0, none⟩), .agg #[.string k.f0, .string k.f1, .int .i64 k.f2], .int .i64 v] W fun e w' => Kp W w' p g ∧ ((D k ≠ none ∧ e = .returned (.bool false) ∧ ∃ g', (g' = g ∨ W.heap.size ≤ g') ∧ IXg w' base p g' n D) ∨ (D k = none ∧ e = .returned (.bool true) ∧ ∃ g', (g' = g ∨ W.heap.size ≤ g') ∧ IXg w' base p g' (n + 1) (upd D k (some v)))) := by
  obtain ⟨S, used, ht⟩ := h
  refine (put_walk W base p g n D k v hk hnb (fun _ _ => True) ⟨S, used, ht⟩ ?_).mono ?_
  · intro W1 hb
    exact grow W1 base p g S n used D (ht.below hb) hnb (Nat.le_trans hbase hb.size)
  · rintro e w' (⟨h1, rfl, kp, g', S', used', hgg, tb, _⟩ | ⟨h1, rfl, kp, g', S', used', hgg, tb, _⟩)
    · exact ⟨kp, Or.inl ⟨h1, rfl, g', hgg, S', used', tb⟩⟩
    · exact ⟨kp, Or.inr ⟨h1, rfl, g', hgg, S', used', tb⟩⟩
set_option maxHeartbeats 4000000 in
set_option maxRecDepth 100000 in
theorem drop_g (W : World) (base p g n : Nat) (D : S28 → Option Int) (k : S28) (hk : Fit k) (hnb : n ≤ 1073741824) (hbase : base ≤ W.heap.size) (h : IXg W base p g n D) :
    Calls Try.prog 24 #[.pointer (some ⟨p, 0, none⟩), .agg #[.string k.f0, .string k.f1, .int .i64 k.f2]] W fun e w' => Kp W w' p g ∧ ((D k = none ∧ e = .returned (.bool false) ∧ IXg w' base p g n D) ∨ (D k ≠ none ∧ e = .returned (.bool true) ∧ IXg w' base p g (n - 1) (upd D k none))) := by
  obtain ⟨S, used, ht⟩ := h
  have HK := Aside0.mk hk
  have HT := Aside0.mk ht
  have HN := Aside0.mk hnb
  have HBS := Aside0.mk hbase
  have hp1 : W.cell? ⟨p, 1, none⟩ = some (.int .i64 (n : Int)) := (blk_cell ht.tw.bp 1).trans rfl
  obtain ⟨f, j, b, hplc, hjl, hcase⟩ := ht.ok.place2 ht.le k
  have PL := Aside0.mk hplc
  have JL := Aside0.mk hjl
  have CA := Aside0.mk hcase
  clear hk ht hplc hjl hcase hnb hbase
  by_cases hn : n = 0
  · have H0 := Aside0.mk (show D k = none from by have := HT.out.ok; rw [hn] at this; rw [this.zero])
    have hnb : ((n : Int) == 0) = true := by simp [hn]
    clear hn
    go_enter Try.func24, Try.ntmps24
    go_wp2_with ((with_reducible refine gate_dst (N := 3) rfl ?_); refine box_event ?hg (N := 3) ?hd (cs := #[.string k.f0, .string k.f1, .int .i64 k.f2]) (t := 28) ?hr ?_; (case hd => rfl); (case hg => rfl); (case hr => first | (go_simp; done) | (go_simp; rfl)); intro gb hg w1 hbox hb; have G1 := Aside0.mk hg; have B1 := Aside0.mk hb; have hp1 : w1.cell? ⟨p, 1, none⟩ = some (.int .i64 (n : Int)) := (blk_cell (HT.out.below hb).tw.bp 1).trans rfl; clear hbox hb hg)
    refine bodyPost_ret (results_tmp rfl _ _ _) rfl ?_
    exact ⟨Kp.of B1.out p g, Or.inl ⟨H0.out, rfl, S, used, HT.out.below B1.out⟩⟩
  · have hnb : ((n : Int) == 0) = false := by simp [hn]
    have HN0 := Aside0.mk hn
    clear hn
    go_enter Try.func24, Try.ntmps24
    go_upto_region 4 with (first | ((with_reducible refine gate_dst (N := 3) rfl ?_); refine box_event ?hg (N := 3) ?hd (cs := #[.string k.f0, .string k.f1, .int .i64 k.f2]) (t := 28) ?hr ?_; (case hd => rfl); (case hg => rfl); (case hr => first | (go_simp; done) | (go_simp; rfl)); intro gb hg w1 hbox hb; have G1 := Aside0.mk hg; have B1 := Aside0.mk hb; have X1 := Aside0.mk hbox; have hp1 : w1.cell? ⟨p, 1, none⟩ = some (.int .i64 (n : Int)) := (blk_cell (HT.out.below hb).tw.bp 1).trans rfl; have c0 : w1.cell? ⟨gb, 0, none⟩ = some (.string k.f0) := (blk_cell hbox 0).trans rfl; have c1 : w1.cell? ⟨gb, 1, none⟩ = some (.string k.f1) := (blk_cell hbox 1).trans rfl; have c2 : w1.cell? ⟨gb, 2, none⟩ = some (.int .i64 k.f2) := (blk_cell hbox 2).trans rfl; clear hbox hb hg) | (go_at_call 30; refine (place f w1 base p g S n used k _ _ (HT.out.below B1.out).tw HT.out.ok.pw.choose_spec.1 HT.out.ok.pw.choose_spec.2 PL.out HK.out.1 HK.out.2).mono ?_; rintro e w3 ⟨rfl, hb3⟩; have B3 := Aside0.mk (B1.out.trans (hb3.mono B1.out.size)); clear hb3))
    have T3 := Aside0.mk (HT.out.below B3.out)
    have KP := Aside0.mk (Kp.of B3.out p g)
    clear hp1 c0 c1 c2 X1 B1
    rcases CA.out with ⟨rfl, q1, q2⟩ | ⟨rfl, q1, q2, q3⟩
    · have Q := Aside0.mk (HT.out.ok.some_of JL.out q1 q2)
      have O := Aside0.mk (HT.out.ok.drop JL.out q1 q2)
      have hp0 : w3.cell? ⟨p, 0, none⟩ = some (.slice (some ⟨g, 0, none⟩) S.length S.length) := (blk_cell T3.out.tw.bp 0).trans rfl
      have z0 := blk_frozen T3.out.tw.bg (j * 5)
      have z1 := blk_frozen T3.out.tw.bg (j * 5 + 1)
      have z2 := blk_frozen T3.out.tw.bg (j * 5 + 2)
      have z3 := blk_frozen T3.out.tw.bg (j * 5 + 3)
      have z4 := blk_frozen T3.out.tw.bg (j * 5 + 4)
      have y0 : w3.cell? ⟨g, j * 5, none⟩ = some (.int .i64 (at60 S j).f0) := T3.out.tw.cell j JL.out 0 (by omega)
      have y1 : w3.cell? ⟨g, j * 5 + 1, none⟩ = some (.string (at60 S j).f1.f0) := T3.out.tw.cell j JL.out 1 (by omega)
      have y2 : w3.cell? ⟨g, j * 5 + 2, none⟩ = some (.string (at60 S j).f1.f1) := T3.out.tw.cell j JL.out 2 (by omega)
      have y3 : w3.cell? ⟨g, j * 5 + 3, none⟩ = some (.int .i64 (at60 S j).f1.f2) := T3.out.tw.cell j JL.out 3 (by omega)
      have y4 : w3.cell? ⟨g, j * 5 + 4, none⟩ = some (.int .i64 (at60 S j).f2) := T3.out.tw.cell j JL.out 4 (by omega)
      have hjn := JL.out
      clear q1 q2 CA
      go_upto_region 7 with fail
      obtain ⟨W6, hW6⟩ : ∃ W6, ((((w3.setCell ⟨g, j * 5, none⟩ (.int .i64 2)).setCell ⟨g, j * 5 + 1, none⟩ (.string ⟨#[]⟩)).setCell ⟨g, j * 5 + 2, none⟩ (.string ⟨#[]⟩)).setCell ⟨g, j * 5 + 3, none⟩ (.int .i64 0)).setCell ⟨g, j * 5 + 4, none⟩ (.int .i64 0) = W6 := ⟨_, rfl⟩
      rw [hW6]
      have T6 := Aside0.mk (show TW W6 base p g (S.set j ⟨2, z28, 0⟩) (n : Int) (used : Int) from hW6 ▸ T3.out.tw.slot T3.out.ne j JL.out ⟨2, z28, 0⟩)
      have KP6 := Aside0.mk (show Kp W W6 p g from hW6 ▸ KP.out.slot (Or.inl rfl) _ _ _ _ _ _ _ _ _ _)
      clear hW6 z0 z1 z2 z3 z4 y0 y1 y2 y3 y4 hp0 hjn
      have hp1 : W6.cell? ⟨p, 1, none⟩ = some (.int .i64 (n : Int)) := (blk_cell T6.out.bp 1).trans rfl
      have fz1 := blk_frozen T6.out.bp 1
      go_upto_region 8 with fail
      obtain ⟨m, hm⟩ : ∃ m, n = m + 1 := ⟨n - 1, by have := HN0.out; omega⟩
      have hwm : wrap64 ((n : Int) - 1) = (m : Int) := by have := HN.out; unfold wrap64; omega
      have HM := Aside0.mk hm
      rw [hwm]
      clear hm hwm hp1 fz1
      obtain ⟨W7, hW7⟩ : ∃ W7, W6.setCell ⟨p, 1, none⟩ (.int .i64 (m : Int)) = W7 := ⟨_, rfl⟩
      rw [hW7]
      have T7 := Aside0.mk (show TB W7 base p g (S.set j ⟨2, z28, 0⟩) m used (upd D k none) from by
        have o := O.out
        rw [HM.out, Nat.add_sub_cancel] at o
        refine ⟨hW7 ▸ T6.out.live T3.out.ne _, o, ?_⟩
        rw [List.length_set]
        exact T3.out.le)
      have KP7 := Aside0.mk (show Kp W W7 p g from hW7 ▸ KP6.out.trans (Or.inl rfl) (Kp.set _ _ (Or.inl rfl)))
      have DK := Aside0.mk (show D k ≠ none from by rw [Q.out]; intro h; cases h)
      clear hW7 T6 KP6 T3 KP
      have hp1 : W7.cell? ⟨p, 1, none⟩ = some (.int .i64 (m : Int)) := (blk_cell T7.out.tw.bp 1).trans rfl
      by_cases hm0 : m = 0
      · have hmb : ((m : Int) == 0) = true := by simp [hm0]
        have hp0 : W7.cell? ⟨p, 0, none⟩ = some (.slice (some ⟨g, 0, none⟩) (S.set j ⟨2, z28, 0⟩).length (S.set j ⟨2, z28, 0⟩).length) := (blk_cell T7.out.tw.bp 0).trans rfl
        have HM0 := Aside0.mk hm0
        obtain ⟨S2, hS2⟩ : ∃ S2, S.set j ⟨2, z28, 0⟩ = S2 := ⟨_, rfl⟩
        rw [hS2] at hp0 T7
        clear hm0 hS2
        go_wp2_with fail
        rw [clear60 W7 base p g m used S2 (upd D k none) _ T7.out]
        simp only [Result.andThen]
        rw [Oper.upon_value]
        obtain ⟨W8, hW8⟩ : ∃ W8, W7.setRow g (fs (List.replicate S2.length z60)).toArray = W8 := ⟨_, rfl⟩
        rw [hW8]
        have P8 := Aside0.mk (show W8.heap[p]? = some (.cells #[.slice (some ⟨g, 0, none⟩) S2.length S2.length, .int .i64 (m : Int), .int .i64 (used : Int)] 56 (0, 0)) from by
          rw [← hW8]
          have h := T7.out.tw.bp
          have hne := T7.out.ne
          simp only [World.setRow, Array.getElem?_modify, if_neg (Ne.symm hne)]
          exact h)
        have G8 := Aside0.mk (show W8.heap[g]? = some (.cells (fs (List.replicate S2.length z60)).toArray 60 (0, 0)) from hW8 ▸ setRow_heap W7 g _ _ 60 _ T7.out.tw.bg)
        have KP8 := Aside0.mk (show Kp W W8 p g from hW8 ▸ KP7.out.trans (Or.inl rfl) (Kp.row W7 p g _))
        have fz2 := blk_frozen P8.out 2
        have hp2 : W8.cell? ⟨p, 2, none⟩ = some (.int .i64 (used : Int)) := (blk_cell P8.out 2).trans rfl
        clear hW8 hp0 hp1
        go_wp2_with fail
        refine bodyPost_ret (results_tmp rfl _ _ _) rfl ?_
        have hpg := T7.out.ne
        have k9 := KP8.out.trans (Or.inl rfl) (Kp.set (W := W8) (p := p) (g := g) ⟨p, 2, none⟩ (.int .i64 0) (Or.inl rfl))
        have o := T7.out.ok
        rw [HM0.out] at o
        refine ⟨k9, Or.inr ⟨DK.out, rfl, List.replicate S2.length z60, 0, ⟨?_, ?_, HT.out.tw.hp, HT.out.tw.hg⟩, ?_, by omega⟩⟩
        · rw [List.length_replicate, HM.out, Nat.add_sub_cancel]
          exact blk_put P8.out 2 _ rfl
        · exact blk_far G8.out (p := ⟨p, 2, none⟩) (Ne.symm hpg) _
        · rw [HM.out, Nat.add_sub_cancel, HM0.out]
          exact o.clear
      · have hmb : ((m : Int) == 0) = false := by simp [hm0]
        clear hm0
        go_wp2_with fail
        refine bodyPost_ret (results_tmp rfl _ _ _) rfl ?_
        exact ⟨KP7.out, Or.inr ⟨DK.out, rfl, by rw [HM.out, Nat.add_sub_cancel]; exact ⟨_, used, T7.out⟩⟩⟩
    · have Q := Aside0.mk (HT.out.ok.none_of q2)
      clear q1 q2 q3 CA
      go_wp2_with fail
      refine bodyPost_ret (results_tmp rfl _ _ _) rfl ?_
      exact ⟨KP.out, Or.inl ⟨Q.out, rfl, S, used, T3.out⟩⟩

theorem drew_below (w : World) : Below w.heap.size w w.drew := (Below.refl _ w).drew
theorem put_gU (W : World) (base p g n : Nat) (D : S28 → Option Int) (k : S28) (v : Int) (hk : Fit k) (hnb : n ≤ 1073741824) (hbase : base ≤ W.heap.size) (h : IXg W base p g n D) (b : Bool) (hbb : (D k).isNone = b) :
    Calls Try.prog 23 #[.pointer (some ⟨p, 0, none⟩), .agg #[.string k.f0, .string k.f1, .int .i64 k.f2], .int .i64 v] W fun e w' => e = .returned (.bool b) ∧ Kp W w' p g ∧ ∃ g', (g' = g ∨ W.heap.size ≤ g') ∧ IXg w' base p g' (if b = true then n + 1 else n) (if b = true then upd D k (some v) else D) := by
  refine (put_g W base p g n D k v hk hnb hbase h).mono ?_
  rintro e w' ⟨kp, ⟨h1, rfl, hi⟩ | ⟨h1, rfl, hi⟩⟩
  · obtain rfl : b = false := by
      rw [← hbb]
      cases hd : D k with
      | none => exact absurd hd h1
      | some x => rfl
    exact ⟨rfl, kp, hi⟩
  · obtain rfl : b = true := by rw [← hbb, h1]; rfl
    exact ⟨rfl, kp, hi⟩
theorem drop_gU (W : World) (base p g n : Nat) (D : S28 → Option Int) (k : S28) (hk : Fit k) (hnb : n ≤ 1073741824) (hbase : base ≤ W.heap.size) (h : IXg W base p g n D) (b : Bool) (hbb : (D k).isSome = b) :
    Calls Try.prog 24 #[.pointer (some ⟨p, 0, none⟩), .agg #[.string k.f0, .string k.f1, .int .i64 k.f2]] W fun e w' => e = .returned (.bool b) ∧ Kp W w' p g ∧ IXg w' base p g (if b = true then n - 1 else n) (upd D k none) := by
  refine (drop_g W base p g n D k hk hnb hbase h).mono ?_
  rintro e w' ⟨kp, ⟨h1, rfl, hi⟩ | ⟨h1, rfl, hi⟩⟩
  · obtain rfl : b = false := by rw [← hbb, h1]; rfl
    rw [upd_none h1]
    exact ⟨rfl, kp, hi⟩
  · obtain rfl : b = true := by
      rw [← hbb]
      cases hd : D k with
      | none => exact absurd hd h1
      | some x => rfl
    exact ⟨rfl, kp, hi⟩
set_option maxHeartbeats 4000000 in
set_option maxRecDepth 100000 in
theorem Index_Put_g (W : World) (base p g n : Nat) (D : S28 → Option Int) (k : S28) (v : Int) (hk : Fit k) (hnb : n ≤ 1073741824) (hbase : base ≤ W.heap.size) (h : IXg W base p g n D) (b : Bool) (hbb : (D k).isNone = b) (n' : Nat) (hn : (if b = true then n + 1 else n) = n') (D' : S28 → Option Int) (hD : (if b = true then upd D k (some v) else D) = D') :
    Calls Try.prog 9 #[.pointer (some ⟨p, 0, none⟩), .agg #[.string k.f0, .string k.f1, .int .i64 k.f2], .int .i64 v] W fun e w' => e = .returned (.bool b) ∧ Kp W w' p g ∧ ∃ g', (g' = g ∨ W.heap.size ≤ g') ∧ IXg w' base p g' n' D' := by
  have HH := Aside0.mk (And.intro hk (And.intro hnb hbase))
  have HI := Aside0.mk h
  have HBB := Aside0.mk hbb
  have HND := Aside0.mk (And.intro hn hD)
  clear hk hnb hbase h hbb hn hD
  go_enter Try.func9, Try.ntmps9
  go_upto_region 1 with ((with_reducible refine gate_dst (N := 4) rfl ?_); refine box_event ?hg (N := 4) ?hd (cs := #[.string k.f0, .string k.f1, .int .i64 k.f2]) (t := 28) ?hr ?_; (case hd => rfl); (case hg => rfl); (case hr => first | (go_simp; done) | (go_simp; rfl)); intro gb hg w1 hbox hb; have G1 := Aside0.mk hg; have B1 := Aside0.mk hb; have c0 : w1.cell? ⟨gb, 0, none⟩ = some (.string k.f0) := (blk_cell hbox 0).trans rfl; have c1 : w1.cell? ⟨gb, 1, none⟩ = some (.string k.f1) := (blk_cell hbox 1).trans rfl; have c2 : w1.cell? ⟨gb, 2, none⟩ = some (.int .i64 k.f2) := (blk_cell hbox 2).trans rfl; clear hbox hb hg)
  refine start_ (n := 11) (S := (fun w' => w'.cell? ⟨gb, 0, none⟩ = some (.string k.f0) ∧ w'.cell? ⟨gb, 1, none⟩ = some (.string k.f1) ∧ w'.cell? ⟨gb, 2, none⟩ = some (.int .i64 k.f2))) (ds := [8]) #[false, false, false, false, false, false, false, false, false, false, false] (by kernel_rfl) rfl rfl ?_ ?_
  · exact ⟨c0, c1, c2⟩
  intro hHeld
  refine pure_ (i := 0) (N := some 7) (v := ?_) (a' := ?_) #[true, false, false, false, false, false, false, false, false, false, false] rfl rfl (by kernel_rfl) (fun _ _ _ h => h) (Or.inl ⟨by rfl, ?_⟩) ?_ ?_
  rotate_left
  · intro w'
    go_simp
    with_reducible rfl
  rotate_left
  · simp only [Act.put, List.setIfInBounds_toArray, List.set_cons_zero, List.set_cons_succ, i64_w, i32_w]
    rfl
  refine pure_ (i := 1) (N := some 8) (v := ?_) (a' := ?_) #[true, true, false, false, false, false, false, false, false, false, false] rfl rfl (by kernel_rfl) (fun _ _ _ h => h) (Or.inl ⟨by rfl, ?_⟩) ?_ ?_
  rotate_left
  · intro w'
    go_simp
    with_reducible rfl
  rotate_left
  · simp only [Act.put, List.setIfInBounds_toArray, List.set_cons_zero, List.set_cons_succ, i64_w, i32_w]
    rfl
  refine pure_ (i := 2) (N := some 9) (v := ?_) (a' := ?_) #[true, true, true, false, false, false, false, false, false, false, false] rfl rfl (by kernel_rfl) (fun _ _ _ h => h) (Or.inl ⟨by rfl, ?_⟩) ?_ ?_
  rotate_left
  · intro w'
    go_simp
    with_reducible rfl
  rotate_left
  · simp only [Act.put, List.setIfInBounds_toArray, List.set_cons_zero, List.set_cons_succ, i64_w, i32_w]
    rfl
  refine pure_ (i := 3) (N := some 10) (v := ?_) (a' := ?_) #[true, true, true, true, false, false, false, false, false, false, false] rfl rfl (by kernel_rfl) (fun _ _ _ h => h) (Or.inl ⟨by rfl, ?_⟩) ?_ ?_
  rotate_left
  · intro w'
    go_simp
    with_reducible rfl
  rotate_left
  · simp only [Act.put, List.setIfInBounds_toArray, List.set_cons_zero, List.set_cons_succ, i64_w, i32_w]
    rfl
  refine pure_ (i := 4) (N := some 11) (v := ?_) (a' := ?_) #[true, true, true, true, true, false, false, false, false, false, false] rfl rfl (by kernel_rfl) (fun _ _ _ h => h) (Or.inl ⟨by rfl, ?_⟩) ?_ ?_
  rotate_left
  · intro w'
    go_simp
    with_reducible rfl
  rotate_left
  · simp only [Act.put, List.setIfInBounds_toArray, List.set_cons_zero, List.set_cons_succ, i64_w, i32_w]
    rfl
  refine pure_ (i := 5) (N := some 12) (v := ?_) (a' := ?_) #[true, true, true, true, true, true, false, false, false, false, false] rfl rfl (by kernel_rfl) (fun _ _ _ h => h) (Or.inl ⟨by rfl, ?_⟩) ?_ ?_
  rotate_left
  · intro w'
    go_simp
    with_reducible rfl
  rotate_left
  · simp only [Act.put, List.setIfInBounds_toArray, List.set_cons_zero, List.set_cons_succ, i64_w, i32_w]
    rfl
  refine pure_ (i := 7) (N := some 14) (v := ?_) (a' := ?_) #[true, true, true, true, true, true, false, true, false, false, false] rfl rfl (by kernel_rfl) (fun _ _ _ h => h) (Or.inl ⟨by rfl, ?_⟩) ?_ ?_
  rotate_left
  · intro w'
    go_simp
    with_reducible rfl
  rotate_left
  · simp only [Act.put, List.setIfInBounds_toArray, List.set_cons_zero, List.set_cons_succ, i64_w, i32_w]
    rfl
  refine take_ (i := 6) (N := some 13) (v := ?_) (a' := ?_) #[true, true, true, true, true, true, true, true, false, false, false] rfl rfl (by kernel_rfl) (fun _ _ _ h => h) (Or.inl ⟨by rfl, ?_⟩) hHeld ?_ ?_
  rotate_left
  · rintro w' ⟨s0, s1, s2⟩
    go_simp
    with_reducible rfl
  rotate_left
  · simp only [Act.put, List.setIfInBounds_toArray, List.set_cons_zero, List.set_cons_succ, i64_w, i32_w]
    rfl
  refine last_ (i := 8) (N := some 15) #[true, true, true, true, true, true, true, true, true, false, false] rfl rfl (by kernel_rfl) (by decide) (fun K hK => ?_)
  refine goes_ Try.func23 (by kernel_rfl) rfl #[.pointer (some ⟨p, 0, none⟩), .agg #[.string k.f0, .string k.f1, .int .i64 k.f2], .int .i64 v] (by rfl) rfl rfl (by (try simp only [List.map_toArray, List.map_cons, List.map_nil]); first | done | rfl) ?_
  have B2 := B1.out.trans ((drew_below w1).mono B1.out.size)
  refine (put_gU w1.drew base p g n D k v HH.out.1 HH.out.2.1 (Nat.le_trans HH.out.2.2 B2.size) (HI.out.below B2) b HBB.out).mono ?_
  rintro e W2 ⟨rfl, kp, g', hg', hi⟩
  rw [HND.out.1, HND.out.2] at hi
  have K3 := Aside0.mk ((Kp.of B2 p g).trans (Or.inl rfl) kp)
  have HG := Aside0.mk (show g' = g ∨ W.heap.size ≤ g' from by
    rcases hg' with q | q
    · exact Or.inl q
    · exact Or.inr (Nat.le_trans B2.size q))
  have I3 := Aside0.mk hi
  clear hi hg' kp
  refine ⟨_, rfl, ?_⟩
  refine hK.out _ _ ?_
  clear hK K
  refine norm_ (a' := ?_) ?_ ?_
  rotate_left
  · show Act.put _ (some 15) _ = _
    simp only [Act.put, List.setIfInBounds_toArray, List.set_cons_zero, List.set_cons_succ, i64_w, i32_w]
    rfl
  refine pure_ (i := 9) (N := some 16) (v := ?_) (a' := ?_) #[true, true, true, true, true, true, true, true, true, true, false] rfl rfl (by kernel_rfl) (fun _ _ _ h => h) (Or.inl ⟨by rfl, ?_⟩) ?_ ?_
  rotate_left
  · intro w'
    go_simp
    with_reducible rfl
  rotate_left
  · simp only [Act.put, List.setIfInBounds_toArray, List.set_cons_zero, List.set_cons_succ, i64_w, i32_w]
    rfl
  refine pure_ (i := 10) (N := some 6) (v := ?_) (a' := ?_) #[true, true, true, true, true, true, true, true, true, true, true] rfl rfl (by kernel_rfl) (fun _ _ _ h => h) (Or.inl ⟨by rfl, ?_⟩) ?_ ?_
  rotate_left
  · intro w'
    go_simp
    with_reducible rfl
  rotate_left
  · simp only [Act.put, List.setIfInBounds_toArray, List.set_cons_zero, List.set_cons_succ, i64_w, i32_w]
    rfl
  refine done_ (by kernel_rfl) ?_
  go_wp2_with fail
  refine bodyPost_ret (results_tmp rfl _ _ _) rfl ?_
  exact ⟨rfl, K3.out, g', HG.out, I3.out⟩
set_option maxHeartbeats 4000000 in
set_option maxRecDepth 100000 in
theorem Index_Drop_g (W : World) (base p g n : Nat) (D : S28 → Option Int) (k : S28) (hk : Fit k) (hnb : n ≤ 1073741824) (hbase : base ≤ W.heap.size) (h : IXg W base p g n D) (b : Bool) (hbb : (D k).isSome = b) (n' : Nat) (hn : (if b = true then n - 1 else n) = n') :
    Calls Try.prog 11 #[.pointer (some ⟨p, 0, none⟩), .agg #[.string k.f0, .string k.f1, .int .i64 k.f2]] W fun e w' => e = .returned (.bool b) ∧ Kp W w' p g ∧ IXg w' base p g n' (upd D k none) := by
  have HH := Aside0.mk (And.intro hk (And.intro hnb hbase))
  have HI := Aside0.mk h
  have HBB := Aside0.mk hbb
  have HND := Aside0.mk hn
  clear hk hnb hbase h hbb hn
  go_enter Try.func11, Try.ntmps11
  go_upto_region 1 with ((with_reducible refine gate_dst (N := 3) rfl ?_); refine box_event ?hg (N := 3) ?hd (cs := #[.string k.f0, .string k.f1, .int .i64 k.f2]) (t := 28) ?hr ?_; (case hd => rfl); (case hg => rfl); (case hr => first | (go_simp; done) | (go_simp; rfl)); intro gb hg w1 hbox hb; have G1 := Aside0.mk hg; have B1 := Aside0.mk hb; have c0 : w1.cell? ⟨gb, 0, none⟩ = some (.string k.f0) := (blk_cell hbox 0).trans rfl; have c1 : w1.cell? ⟨gb, 1, none⟩ = some (.string k.f1) := (blk_cell hbox 1).trans rfl; have c2 : w1.cell? ⟨gb, 2, none⟩ = some (.int .i64 k.f2) := (blk_cell hbox 2).trans rfl; clear hbox hb hg)
  refine start_ (n := 10) (S := (fun w' => w'.cell? ⟨gb, 0, none⟩ = some (.string k.f0) ∧ w'.cell? ⟨gb, 1, none⟩ = some (.string k.f1) ∧ w'.cell? ⟨gb, 2, none⟩ = some (.int .i64 k.f2))) (ds := [7]) #[false, false, false, false, false, false, false, false, false, false] (by kernel_rfl) rfl rfl ?_ ?_
  · exact ⟨c0, c1, c2⟩
  intro hHeld
  refine pure_ (i := 0) (N := some 5) (v := ?_) (a' := ?_) #[true, false, false, false, false, false, false, false, false, false] rfl rfl (by kernel_rfl) (fun _ _ _ h => h) (Or.inl ⟨by rfl, ?_⟩) ?_ ?_
  rotate_left
  · intro w'
    go_simp
    with_reducible rfl
  rotate_left
  · simp only [Act.put, List.setIfInBounds_toArray, List.set_cons_zero, List.set_cons_succ, i64_w, i32_w]
    rfl
  refine pure_ (i := 1) (N := some 6) (v := ?_) (a' := ?_) #[true, true, false, false, false, false, false, false, false, false] rfl rfl (by kernel_rfl) (fun _ _ _ h => h) (Or.inl ⟨by rfl, ?_⟩) ?_ ?_
  rotate_left
  · intro w'
    go_simp
    with_reducible rfl
  rotate_left
  · simp only [Act.put, List.setIfInBounds_toArray, List.set_cons_zero, List.set_cons_succ, i64_w, i32_w]
    rfl
  refine pure_ (i := 2) (N := some 7) (v := ?_) (a' := ?_) #[true, true, true, false, false, false, false, false, false, false] rfl rfl (by kernel_rfl) (fun _ _ _ h => h) (Or.inl ⟨by rfl, ?_⟩) ?_ ?_
  rotate_left
  · intro w'
    go_simp
    with_reducible rfl
  rotate_left
  · simp only [Act.put, List.setIfInBounds_toArray, List.set_cons_zero, List.set_cons_succ, i64_w, i32_w]
    rfl
  refine pure_ (i := 3) (N := some 8) (v := ?_) (a' := ?_) #[true, true, true, true, false, false, false, false, false, false] rfl rfl (by kernel_rfl) (fun _ _ _ h => h) (Or.inl ⟨by rfl, ?_⟩) ?_ ?_
  rotate_left
  · intro w'
    go_simp
    with_reducible rfl
  rotate_left
  · simp only [Act.put, List.setIfInBounds_toArray, List.set_cons_zero, List.set_cons_succ, i64_w, i32_w]
    rfl
  refine pure_ (i := 4) (N := some 9) (v := ?_) (a' := ?_) #[true, true, true, true, true, false, false, false, false, false] rfl rfl (by kernel_rfl) (fun _ _ _ h => h) (Or.inl ⟨by rfl, ?_⟩) ?_ ?_
  rotate_left
  · intro w'
    go_simp
    with_reducible rfl
  rotate_left
  · simp only [Act.put, List.setIfInBounds_toArray, List.set_cons_zero, List.set_cons_succ, i64_w, i32_w]
    rfl
  refine pure_ (i := 5) (N := some 10) (v := ?_) (a' := ?_) #[true, true, true, true, true, true, false, false, false, false] rfl rfl (by kernel_rfl) (fun _ _ _ h => h) (Or.inl ⟨by rfl, ?_⟩) ?_ ?_
  rotate_left
  · intro w'
    go_simp
    with_reducible rfl
  rotate_left
  · simp only [Act.put, List.setIfInBounds_toArray, List.set_cons_zero, List.set_cons_succ, i64_w, i32_w]
    rfl
  refine take_ (i := 6) (N := some 11) (v := ?_) (a' := ?_) #[true, true, true, true, true, true, true, false, false, false] rfl rfl (by kernel_rfl) (fun _ _ _ h => h) (Or.inl ⟨by rfl, ?_⟩) hHeld ?_ ?_
  rotate_left
  · rintro w' ⟨s0, s1, s2⟩
    go_simp
    with_reducible rfl
  rotate_left
  · simp only [Act.put, List.setIfInBounds_toArray, List.set_cons_zero, List.set_cons_succ, i64_w, i32_w]
    rfl
  refine last_ (i := 7) (N := some 12) #[true, true, true, true, true, true, true, true, false, false] rfl rfl (by kernel_rfl) (by decide) (fun K hK => ?_)
  refine goes_ Try.func24 (by kernel_rfl) rfl #[.pointer (some ⟨p, 0, none⟩), .agg #[.string k.f0, .string k.f1, .int .i64 k.f2]] (by rfl) rfl rfl (by (try simp only [List.map_toArray, List.map_cons, List.map_nil]); first | done | rfl) ?_
  have B2 := B1.out.trans ((drew_below w1).mono B1.out.size)
  refine (drop_gU w1.drew base p g n D k HH.out.1 HH.out.2.1 (Nat.le_trans HH.out.2.2 B2.size) (HI.out.below B2) b HBB.out).mono ?_
  rintro e W2 ⟨rfl, kp, hi⟩
  rw [HND.out] at hi
  have K3 := Aside0.mk ((Kp.of B2 p g).trans (Or.inl rfl) kp)
  have I3 := Aside0.mk hi
  clear hi kp
  refine ⟨_, rfl, ?_⟩
  refine hK.out _ _ ?_
  clear hK K
  refine norm_ (a' := ?_) ?_ ?_
  rotate_left
  · show Act.put _ (some 12) _ = _
    simp only [Act.put, List.setIfInBounds_toArray, List.set_cons_zero, List.set_cons_succ, i64_w, i32_w]
    rfl
  refine pure_ (i := 8) (N := some 13) (v := ?_) (a' := ?_) #[true, true, true, true, true, true, true, true, true, false] rfl rfl (by kernel_rfl) (fun _ _ _ h => h) (Or.inl ⟨by rfl, ?_⟩) ?_ ?_
  rotate_left
  · intro w'
    go_simp
    with_reducible rfl
  rotate_left
  · simp only [Act.put, List.setIfInBounds_toArray, List.set_cons_zero, List.set_cons_succ, i64_w, i32_w]
    rfl
  refine pure_ (i := 9) (N := some 4) (v := ?_) (a' := ?_) #[true, true, true, true, true, true, true, true, true, true] rfl rfl (by kernel_rfl) (fun _ _ _ h => h) (Or.inl ⟨by rfl, ?_⟩) ?_ ?_
  rotate_left
  · intro w'
    go_simp
    with_reducible rfl
  rotate_left
  · simp only [Act.put, List.setIfInBounds_toArray, List.set_cons_zero, List.set_cons_succ, i64_w, i32_w]
    rfl
  refine done_ (by kernel_rfl) ?_
  go_wp2_with fail
  refine bodyPost_ret (results_tmp rfl _ _ _) rfl ?_
  exact ⟨rfl, K3.out, I3.out⟩

/-! Entries beside an index. -/
theorem add_blk (a : Addr) (n : Nat) : (a.add n).block = a.block := by unfold Addr.add; split <;> rfl
def Sep (w : World) (v : Value) (p g : Nat) : Prop := ∀ b, v.ownBlock = some b → b < w.heap.size ∧ b ≠ p ∧ b ≠ g
theorem Ent.kp {w w' : World} {v : Value} {r : List S39} {D : S28 → Option Int} {i p g : Nat} (h : Ent w v r D i) (hk : Kp w w' p g) (hs : Sep w v p g) : Ent w' v r D i := by
  obtain ⟨⟨A, c, rfl, h2, h3⟩, h4, h5⟩ := h
  refine ⟨⟨A, c, rfl, h2, h3.1, h3.2.1, fun h0 => ?_⟩, h4, h5⟩
  obtain ⟨ad, rfl, hc⟩ := h3.2.2 h0
  refine ⟨ad, rfl, fun j p hj => ?_⟩
  obtain ⟨c, hl, hk2, hcell⟩ := hc j p hj
  obtain rfl := k39_open hk2
  refine ⟨_, hl, k39_mk w' p, fun i u hi => ?_⟩
  obtain ⟨q1, q2, q3⟩ := hs ad.block rfl
  exact (World.cell?_of_block (w := w) (show w'.heap[(ad.add (j * k39.sz + i)).block]? = w.heap[(ad.add (j * k39.sz + i)).block]? from (add_blk ad _).symm ▸ hk.block ad.block q1 q2 q3)).trans (hcell i u hi)
/-- What stands between two acts: the index at D, the entries at E. -/
structure PX (W w : World) (p : Nat) (v : Value) (i n : Nat) (r : List S39) (D E : S28 → Option Int) : Prop where
  b : Below W.heap.size W w
  ix : ∃ g, IXg w W.heap.size p g n D ∧ Sep w v p g
  ent : Ent w v r E i
theorem PX.below {W w w' : World} {p i n : Nat} {v : Value} {r : List S39} {D E : S28 → Option Int} (h : PX W w p v i n r D E) (hb : Below w.heap.size w w') : PX W w' p v i n r D E := by
  obtain ⟨h1, ⟨g, h2, h3⟩, h4⟩ := h
  exact ⟨h1.trans (hb.mono h1.size), ⟨g, h2.below hb, fun b e => ⟨Nat.lt_of_lt_of_le (h3 b e).1 hb.size, (h3 b e).2⟩⟩, h4.below hb⟩
theorem PX.put {W w : World} {p i n : Nat} {v : Value} {r : List S39} {D E : S28 → Option Int} (h : PX W w p v i n r D E) (k : S28) (x : Int) (hk : Fit k) (hnb : n ≤ 1073741824) (b : Bool) (hbb : (D k).isNone = b) :
    Calls Try.prog 9 #[.pointer (some ⟨p, 0, none⟩), .agg #[.string k.f0, .string k.f1, .int .i64 k.f2], .int .i64 x] w fun e w' => e = .returned (.bool b) ∧ PX W w' p v i (if b = true then n + 1 else n) r (if b = true then upd D k (some x) else D) E := by
  obtain ⟨h1, ⟨g, h2, h3⟩, h4⟩ := h
  refine (Index_Put_g w W.heap.size p g n D k x hk hnb h1.size h2 b hbb _ rfl _ rfl).mono ?_
  rintro e w' ⟨he, kp, g', hg', hi⟩
  refine ⟨he, h1.trans (kp.below h2.lt.2.2.1 h2.lt.2.2.2 h1.size), ⟨g', hi, fun b e => ⟨Nat.lt_of_lt_of_le (h3 b e).1 kp.size, (h3 b e).2.1, ?_⟩⟩, h4.kp kp h3⟩
  have q := h3 b e
  rcases hg' with q2 | q2
  · rw [q2]; exact q.2.2
  · have := q.1; omega
theorem PX.drop {W w : World} {p i n : Nat} {v : Value} {r : List S39} {D E : S28 → Option Int} (h : PX W w p v i n r D E) (k : S28) (hk : Fit k) (hnb : n ≤ 1073741824) (b : Bool) (hbb : (D k).isSome = b) :
    Calls Try.prog 11 #[.pointer (some ⟨p, 0, none⟩), .agg #[.string k.f0, .string k.f1, .int .i64 k.f2]] w fun e w' => e = .returned (.bool b) ∧ PX W w' p v i (if b = true then n - 1 else n) r (upd D k none) E := by
  obtain ⟨h1, ⟨g, h2, h3⟩, h4⟩ := h
  refine (Index_Drop_g w W.heap.size p g n D k hk hnb h1.size h2 b hbb _ rfl).mono ?_
  rintro e w' ⟨he, kp, hi⟩
  exact ⟨he, h1.trans (kp.below h2.lt.2.2.1 h2.lt.2.2.2 h1.size), ⟨g, hi, fun b e => ⟨Nat.lt_of_lt_of_le (h3 b e).1 kp.size, (h3 b e).2⟩⟩, h4.kp kp h3⟩
theorem sep_R {w w' : World} {p g base : Nat} {v : Value} {r : List S39} {ok : Nat → Prop} (hp : p < w.heap.size) (hg : g < w.heap.size) (h : Kd.R k39 39 w' w.heap.size ok v r) : Sep w' v p g := by
  obtain ⟨inner, _, hown⟩ := Kd.R_own h
  intro b hb
  rcases hown with ⟨rfl, _⟩ | ⟨g2, cap, cur, rfl, hbg, hcell, _⟩
  · simp [Value.ownBlock] at hb
  · obtain rfl : g2 = b := by simpa [Value.ownBlock] using hb
    exact ⟨blk_lt hcell, by omega, by omega⟩
theorem PX.entPut {W w : World} {p i n : Nat} {v : Value} {r : List S39} {D E : S28 → Option Int} (h : PX W w p v i n r D E) (hi : i ≤ 100000000) (k : S28) (x : Int) (hk : Fit k) (hd : E k = none) :
    Calls Try.prog 15 #[v, .agg #[.string k.f0, .string k.f1, .int .i64 k.f2, .int .i64 x]] w fun e w' => ∃ v' r', e = .returned v' ∧ PX W w' p v' (i + 1) n r' D (upd E k (some x)) := by
  obtain ⟨h1, ⟨g, h2, h3⟩, ⟨A, c, rfl, q2, q3⟩, h4, h5⟩ := h
  obtain ⟨r', ⟨f, hf⟩, hr, hl⟩ := put_ref h4 (by omega) k x hk hd
  exact (tendrilref07_Put.calls f A c r _ _ _ x r' w q3 q2 hf).mono fun e w' ⟨v', he, hR, hb⟩ => ⟨v', r', he, h1.trans (hb.mono h1.size), ⟨g, h2.below hb, sep_R (base := 0) h2.lt.1 h2.lt.2.1 hR⟩, Ent.of_R hR hr (by omega)⟩
theorem PX.entDrop {W w : World} {p i n : Nat} {v : Value} {r : List S39} {D E : S28 → Option Int} (h : PX W w p v i n r D E) (hi : i ≤ 100000000) (k : S28) (j : Nat) (hj : j < r.length) (hk : (rd_T39 r (j : Int)).f0 = k) :
    Calls Try.prog 19 #[v, .int .i64 (j : Int)] w fun e w' => ∃ v' r', e = .returned v' ∧ PX W w' p v' (i + 1) n r' D (upd E k none) := by
  obtain ⟨h1, ⟨g, h2, h3⟩, ⟨A, c, rfl, q2, q3⟩, h4, h5⟩ := h
  obtain ⟨r', hf, hr, hl⟩ := drop_ref h4 (by omega) k j hj hk
  exact (tendrilref07_Drop.calls A c r _ r' w q3 q2 hf).mono fun e w' ⟨v', he, hR, hb⟩ => ⟨v', r', he, h1.trans (hb.mono h1.size), ⟨g, h2.below hb, sep_R (base := 0) h2.lt.1 h2.lt.2.1 hR⟩, Ent.of_R hR hr (by omega)⟩
theorem PX.up {W w : World} {p i n : Nat} {v : Value} {r : List S39} {D E : S28 → Option Int} (h : PX W w p v i n r D E) : PX W w p v (i + 1) n r D E := ⟨h.b, h.ix, h.ent.sl, h.ent.rep, by have := h.ent.le; omega⟩
end Go.Proofs.Ytmndedahkodibaa.G
