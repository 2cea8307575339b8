/- The table of labels walked: finding and dropping. -/
import Derived.Test.YtmndedahkodibaaH5
namespace Go.Proofs.Ytmndedahkodibaa.G
open Go.RowKit Go.Proofs.YtmndedahkodibaaW.PrintWords Go.Proofs.YtmndedahkodibaaW.PrintLast Go.Proofs.YtmndedahkodibaaW.PrintMore
set_option linter.unusedVariables false
set_option linter.unusedSimpArgs false

set_option maxHeartbeats 4000000 in
set_option maxRecDepth 100000 in
theorem get (W : World) (base p n : Nat) (D : S28 → Option Int) (k : S28) (hk : Fit k) (h : IX W base p n D) :
    Calls Try.prog 25 #[.pointer (some ⟨p, 0, none⟩), .agg #[.string k.f0, .string k.f1, .int .i64 k.f2]] W fun e w' => Below W.heap.size W w' ∧ e = .returned (.tuple #[.int .i64 ((D k).getD 0), .bool (D k).isSome]) := by
  obtain ⟨g, S, used, ht⟩ := h
  have HK := Aside0.mk hk
  have HT := Aside0.mk ht
  have hp1 : W.cell? ⟨p, 1, none⟩ = some (.int .i64 (n : Int)) := (blk_cell ht.tw.bp 1).trans rfl
  obtain ⟨f, j, b, hplc, hjl, hcase⟩ := ht.ok.place2 ht.le k
  have PL := Aside0.mk hplc
  have JL := Aside0.mk hjl
  have CA := Aside0.mk hcase
  clear hk ht hplc hjl hcase
  by_cases hn : n = 0
  · have H0 := Aside0.mk (show D k = none from by have := HT.out.ok; rw [hn] at this; rw [this.zero])
    have hnb : ((n : Int) == 0) = true := by simp [hn]
    clear hn
    go_enter Try.func25, Try.ntmps25
    go_wp2_with ((with_reducible refine gate_dst (N := 3) rfl ?_); refine box_event ?hg (N := 3) ?hd (cs := #[.string k.f0, .string k.f1, .int .i64 k.f2]) (t := 28) ?hr ?_; (case hd => rfl); (case hg => rfl); (case hr => first | (go_simp; done) | (go_simp; rfl)); intro gb hg w1 hbox hb; have G1 := Aside0.mk hg; have B1 := Aside0.mk hb; have hp1 : w1.cell? ⟨p, 1, none⟩ = some (.int .i64 (n : Int)) := (blk_cell (HT.out.below hb).tw.bp 1).trans rfl; clear hbox hb hg)
    go_ret2
    exact ⟨B1.out, by rw [H0.out]; rfl⟩
  · have hnb : ((n : Int) == 0) = false := by simp [hn]
    clear hn
    go_enter Try.func25, Try.ntmps25
    go_upto_region 4 with (first | ((with_reducible refine gate_dst (N := 3) rfl ?_); refine box_event ?hg (N := 3) ?hd (cs := #[.string k.f0, .string k.f1, .int .i64 k.f2]) (t := 28) ?hr ?_; (case hd => rfl); (case hg => rfl); (case hr => first | (go_simp; done) | (go_simp; rfl)); intro gb hg w1 hbox hb; have G1 := Aside0.mk hg; have B1 := Aside0.mk hb; have X1 := Aside0.mk hbox; have hp1 : w1.cell? ⟨p, 1, none⟩ = some (.int .i64 (n : Int)) := (blk_cell (HT.out.below hb).tw.bp 1).trans rfl; have c0 : w1.cell? ⟨gb, 0, none⟩ = some (.string k.f0) := (blk_cell hbox 0).trans rfl; have c1 : w1.cell? ⟨gb, 1, none⟩ = some (.string k.f1) := (blk_cell hbox 1).trans rfl; have c2 : w1.cell? ⟨gb, 2, none⟩ = some (.int .i64 k.f2) := (blk_cell hbox 2).trans rfl; clear hbox hb hg) | (go_at_call 30; refine (place f w1 base p g S n used k _ _ (HT.out.below B1.out).tw HT.out.ok.pw.choose_spec.1 HT.out.ok.pw.choose_spec.2 PL.out HK.out.1 HK.out.2).mono ?_; rintro e w3 ⟨rfl, hb3⟩; have B3 := Aside0.mk (B1.out.trans (hb3.mono B1.out.size)); clear hb3))
    have T3 := Aside0.mk (HT.out.below B3.out)
    clear hp1 c0 c1 c2 X1 B1
    rcases CA.out with ⟨rfl, q1, q2⟩ | ⟨rfl, q1, q2, q3⟩
    · have Q := Aside0.mk (HT.out.ok.some_of JL.out q1 q2)
      have hp0 : w3.cell? ⟨p, 0, none⟩ = some (.slice (some ⟨g, 0, none⟩) S.length S.length) := (blk_cell T3.out.tw.bp 0).trans rfl
      obtain ⟨s0, hs0⟩ : ∃ s0, (at60 S j).f2 = s0 := ⟨_, rfl⟩
      have t0 : w3.cell? ⟨g, j * 5 + 4, none⟩ = some (.int .i64 s0) := hs0 ▸ T3.out.tw.cell j JL.out 4 (by omega)
      have hjn := JL.out
      have HS := Aside0.mk hs0
      clear q1 q2 CA hs0
      go_wp2_with fail
      go_ret2
      exact ⟨B3.out, by rw [Q.out, HS.out]; rfl⟩
    · have Q := Aside0.mk (HT.out.ok.none_of q2)
      clear q1 q2 q3 CA
      go_wp2_with fail
      go_ret2
      exact ⟨B3.out, by rw [Q.out]; rfl⟩

theorem clear60 (W : World) (base p g n used : Nat) (S : List S60) (D : S28 → Option Int) (ty : TypeId) (h : TB W base p g S n used D) :
    (Builtin.clear_ #[52] ty #[.slice (some ⟨g, 0, none⟩) S.length S.length]).run Try.prog W = .ok (.tuple #[]) (W.setRow g (fs (List.replicate S.length z60)).toArray) := by
  have hL := h.ok.len.1
  obtain ⟨m, hm⟩ : ∃ m, S.length = m := ⟨_, rfl⟩
  have hz : Builtin.zeroCells (Value.agg #[(.int .i64 0), (.string ⟨#[]⟩), (.string ⟨#[]⟩), (.int .i64 0), (.int .i64 0)]).cells m = (fs (List.replicate m z60)).toArray := made60 m
  have h1 : ∀ v ∈ fs (List.replicate m z60), v.oneCell' = true := by
    generalize List.replicate m z60 = l
    induction l with
    | nil => intro v hv; cases hv
    | cons x l ih =>
      intro v hv
      simp only [fs, List.mem_cons] at hv
      rcases hv with rfl | rfl | rfl | rfl | rfl | hv
      · rfl
      · rfl
      · rfl
      · rfl
      · rfl
      · exact ih v hv
  have hst := run_storeCells_at Try.prog g 0 60 (fs (List.replicate m z60)) 0 (fs S).toArray W h.tw.bg (by rw [List.size_toArray, fs_len, fs_len, List.length_replicate, hm]; omega) h1
  have hzv : (zeroValue 60).run Try.prog W = .ok (.agg #[(.int .i64 0), (.string ⟨#[]⟩), (.string ⟨#[]⟩), (.int .i64 0), (.int .i64 0)]) W := by kernel_rfl
  have hl : (fs (List.replicate m z60)).length = m * 5 := by rw [fs_len, List.length_replicate]
  simp only [Nat.add_zero, hl] at hst
  have e : ((fs S).toArray.toList.take 0 ++ fs (List.replicate m z60) ++ (fs S).toArray.toList.drop (0 + m * 5)) = fs (List.replicate m z60) := by
    rw [List.take_zero, List.nil_append, List.drop_eq_nil_of_le, List.append_nil]
    rw [List.toList_toArray, fs_len, hm]
    omega
  rw [hm]
  cases m with
  | zero => omega
  | succ m =>
    unfold Builtin.clear_
    rw [e] at hst
    simp [run_underlying Try.underlying52, hzv, hz, hst]
theorem Kp.row (W : World) (p g : Nat) (cs : Array Value) : Kp W (W.setRow g cs) p g :=
  ⟨rfl, rfl, rfl, by simp [World.setRow], fun b _ _ h => by simp [World.setRow, Array.getElem?_modify, Ne.symm h]⟩

set_option maxHeartbeats 4000000 in
set_option maxRecDepth 100000 in
theorem drop (W : World) (base p n : Nat) (D : S28 → Option Int) (k : S28) (hk : Fit k) (hnb : n ≤ 1073741824) (hbase : base ≤ W.heap.size) (h : IX W base p n D) :
    Calls Try.prog 24 #[.pointer (some ⟨p, 0, none⟩), .agg #[.string k.f0, .string k.f1, .int .i64 k.f2]] W fun e w' => Below base W w' ∧ ((D k = none ∧ e = .returned (.bool false) ∧ IX w' base p n D) ∨ (D k ≠ none ∧ e = .returned (.bool true) ∧ IX w' base p (n - 1) (upd D k none))) := by
  obtain ⟨g, S, used, ht⟩ := h
  have HK := Aside0.mk hk
  have HT := Aside0.mk ht
  have HN := Aside0.mk hnb
  have HBS := Aside0.mk hbase
  have hp1 : W.cell? ⟨p, 1, none⟩ = some (.int .i64 (n : Int)) := (blk_cell ht.tw.bp 1).trans rfl
  obtain ⟨f, j, b, hplc, hjl, hcase⟩ := ht.ok.place2 ht.le k
  have PL := Aside0.mk hplc
  have JL := Aside0.mk hjl
  have CA := Aside0.mk hcase
  clear hk ht hplc hjl hcase hnb hbase
  by_cases hn : n = 0
  · have H0 := Aside0.mk (show D k = none from by have := HT.out.ok; rw [hn] at this; rw [this.zero])
    have hnb : ((n : Int) == 0) = true := by simp [hn]
    clear hn
    go_enter Try.func24, Try.ntmps24
    go_wp2_with ((with_reducible refine gate_dst (N := 3) rfl ?_); refine box_event ?hg (N := 3) ?hd (cs := #[.string k.f0, .string k.f1, .int .i64 k.f2]) (t := 28) ?hr ?_; (case hd => rfl); (case hg => rfl); (case hr => first | (go_simp; done) | (go_simp; rfl)); intro gb hg w1 hbox hb; have G1 := Aside0.mk hg; have B1 := Aside0.mk hb; have hp1 : w1.cell? ⟨p, 1, none⟩ = some (.int .i64 (n : Int)) := (blk_cell (HT.out.below hb).tw.bp 1).trans rfl; clear hbox hb hg)
    refine bodyPost_ret (results_tmp rfl _ _ _) rfl ?_
    exact ⟨B1.out.mono HBS.out, Or.inl ⟨H0.out, rfl, g, S, used, HT.out.below B1.out⟩⟩
  · have hnb : ((n : Int) == 0) = false := by simp [hn]
    have HN0 := Aside0.mk hn
    clear hn
    go_enter Try.func24, Try.ntmps24
    go_upto_region 4 with (first | ((with_reducible refine gate_dst (N := 3) rfl ?_); refine box_event ?hg (N := 3) ?hd (cs := #[.string k.f0, .string k.f1, .int .i64 k.f2]) (t := 28) ?hr ?_; (case hd => rfl); (case hg => rfl); (case hr => first | (go_simp; done) | (go_simp; rfl)); intro gb hg w1 hbox hb; have G1 := Aside0.mk hg; have B1 := Aside0.mk hb; have X1 := Aside0.mk hbox; have hp1 : w1.cell? ⟨p, 1, none⟩ = some (.int .i64 (n : Int)) := (blk_cell (HT.out.below hb).tw.bp 1).trans rfl; have c0 : w1.cell? ⟨gb, 0, none⟩ = some (.string k.f0) := (blk_cell hbox 0).trans rfl; have c1 : w1.cell? ⟨gb, 1, none⟩ = some (.string k.f1) := (blk_cell hbox 1).trans rfl; have c2 : w1.cell? ⟨gb, 2, none⟩ = some (.int .i64 k.f2) := (blk_cell hbox 2).trans rfl; clear hbox hb hg) | (go_at_call 30; refine (place f w1 base p g S n used k _ _ (HT.out.below B1.out).tw HT.out.ok.pw.choose_spec.1 HT.out.ok.pw.choose_spec.2 PL.out HK.out.1 HK.out.2).mono ?_; rintro e w3 ⟨rfl, hb3⟩; have B3 := Aside0.mk (B1.out.trans (hb3.mono B1.out.size)); clear hb3))
    have T3 := Aside0.mk (HT.out.below B3.out)
    have KP := Aside0.mk (Kp.of B3.out p g)
    clear hp1 c0 c1 c2 X1 B1
    rcases CA.out with ⟨rfl, q1, q2⟩ | ⟨rfl, q1, q2, q3⟩
    · have Q := Aside0.mk (HT.out.ok.some_of JL.out q1 q2)
      have O := Aside0.mk (HT.out.ok.drop JL.out q1 q2)
      have hp0 : w3.cell? ⟨p, 0, none⟩ = some (.slice (some ⟨g, 0, none⟩) S.length S.length) := (blk_cell T3.out.tw.bp 0).trans rfl
      have z0 := blk_frozen T3.out.tw.bg (j * 5)
      have z1 := blk_frozen T3.out.tw.bg (j * 5 + 1)
      have z2 := blk_frozen T3.out.tw.bg (j * 5 + 2)
      have z3 := blk_frozen T3.out.tw.bg (j * 5 + 3)
      have z4 := blk_frozen T3.out.tw.bg (j * 5 + 4)
      have y0 : w3.cell? ⟨g, j * 5, none⟩ = some (.int .i64 (at60 S j).f0) := T3.out.tw.cell j JL.out 0 (by omega)
      have y1 : w3.cell? ⟨g, j * 5 + 1, none⟩ = some (.string (at60 S j).f1.f0) := T3.out.tw.cell j JL.out 1 (by omega)
      have y2 : w3.cell? ⟨g, j * 5 + 2, none⟩ = some (.string (at60 S j).f1.f1) := T3.out.tw.cell j JL.out 2 (by omega)
      have y3 : w3.cell? ⟨g, j * 5 + 3, none⟩ = some (.int .i64 (at60 S j).f1.f2) := T3.out.tw.cell j JL.out 3 (by omega)
      have y4 : w3.cell? ⟨g, j * 5 + 4, none⟩ = some (.int .i64 (at60 S j).f2) := T3.out.tw.cell j JL.out 4 (by omega)
      have hjn := JL.out
      clear q1 q2 CA
      go_upto_region 7 with fail
      obtain ⟨W6, hW6⟩ : ∃ W6, ((((w3.setCell ⟨g, j * 5, none⟩ (.int .i64 2)).setCell ⟨g, j * 5 + 1, none⟩ (.string ⟨#[]⟩)).setCell ⟨g, j * 5 + 2, none⟩ (.string ⟨#[]⟩)).setCell ⟨g, j * 5 + 3, none⟩ (.int .i64 0)).setCell ⟨g, j * 5 + 4, none⟩ (.int .i64 0) = W6 := ⟨_, rfl⟩
      rw [hW6]
      have T6 := Aside0.mk (show TW W6 base p g (S.set j ⟨2, z28, 0⟩) (n : Int) (used : Int) from hW6 ▸ T3.out.tw.slot T3.out.ne j JL.out ⟨2, z28, 0⟩)
      have KP6 := Aside0.mk (show Kp W W6 p g from hW6 ▸ KP.out.slot (Or.inl rfl) _ _ _ _ _ _ _ _ _ _)
      clear hW6 z0 z1 z2 z3 z4 y0 y1 y2 y3 y4 hp0 hjn
      have hp1 : W6.cell? ⟨p, 1, none⟩ = some (.int .i64 (n : Int)) := (blk_cell T6.out.bp 1).trans rfl
      have fz1 := blk_frozen T6.out.bp 1
      go_upto_region 8 with fail
      obtain ⟨m, hm⟩ : ∃ m, n = m + 1 := ⟨n - 1, by have := HN0.out; omega⟩
      have hwm : wrap64 ((n : Int) - 1) = (m : Int) := by have := HN.out; unfold wrap64; omega
      have HM := Aside0.mk hm
      rw [hwm]
      clear hm hwm hp1 fz1
      obtain ⟨W7, hW7⟩ : ∃ W7, W6.setCell ⟨p, 1, none⟩ (.int .i64 (m : Int)) = W7 := ⟨_, rfl⟩
      rw [hW7]
      have T7 := Aside0.mk (show TB W7 base p g (S.set j ⟨2, z28, 0⟩) m used (upd D k none) from by
        have o := O.out
        rw [HM.out, Nat.add_sub_cancel] at o
        refine ⟨hW7 ▸ T6.out.live T3.out.ne _, o, ?_⟩
        rw [List.length_set]
        exact T3.out.le)
      have KP7 := Aside0.mk (show Kp W W7 p g from hW7 ▸ KP6.out.trans (Or.inl rfl) (Kp.set _ _ (Or.inl rfl)))
      have DK := Aside0.mk (show D k ≠ none from by rw [Q.out]; intro h; cases h)
      clear hW7 T6 KP6 T3 KP
      have hp1 : W7.cell? ⟨p, 1, none⟩ = some (.int .i64 (m : Int)) := (blk_cell T7.out.tw.bp 1).trans rfl
      by_cases hm0 : m = 0
      · have hmb : ((m : Int) == 0) = true := by simp [hm0]
        have hp0 : W7.cell? ⟨p, 0, none⟩ = some (.slice (some ⟨g, 0, none⟩) (S.set j ⟨2, z28, 0⟩).length (S.set j ⟨2, z28, 0⟩).length) := (blk_cell T7.out.tw.bp 0).trans rfl
        have HM0 := Aside0.mk hm0
        obtain ⟨S2, hS2⟩ : ∃ S2, S.set j ⟨2, z28, 0⟩ = S2 := ⟨_, rfl⟩
        rw [hS2] at hp0 T7
        clear hm0 hS2
        go_wp2_with fail
        rw [clear60 W7 base p g m used S2 (upd D k none) _ T7.out]
        simp only [Result.andThen]
        rw [Oper.upon_value]
        obtain ⟨W8, hW8⟩ : ∃ W8, W7.setRow g (fs (List.replicate S2.length z60)).toArray = W8 := ⟨_, rfl⟩
        rw [hW8]
        have P8 := Aside0.mk (show W8.heap[p]? = some (.cells #[.slice (some ⟨g, 0, none⟩) S2.length S2.length, .int .i64 (m : Int), .int .i64 (used : Int)] 56 (0, 0)) from by
          rw [← hW8]
          have h := T7.out.tw.bp
          have hne := T7.out.ne
          simp only [World.setRow, Array.getElem?_modify, if_neg (Ne.symm hne)]
          exact h)
        have G8 := Aside0.mk (show W8.heap[g]? = some (.cells (fs (List.replicate S2.length z60)).toArray 60 (0, 0)) from hW8 ▸ setRow_heap W7 g _ _ 60 _ T7.out.tw.bg)
        have KP8 := Aside0.mk (show Kp W W8 p g from hW8 ▸ KP7.out.trans (Or.inl rfl) (Kp.row W7 p g _))
        have fz2 := blk_frozen P8.out 2
        have hp2 : W8.cell? ⟨p, 2, none⟩ = some (.int .i64 (used : Int)) := (blk_cell P8.out 2).trans rfl
        clear hW8 hp0 hp1
        go_wp2_with fail
        refine bodyPost_ret (results_tmp rfl _ _ _) rfl ?_
        have hpg := T7.out.ne
        have k9 := KP8.out.trans (Or.inl rfl) (Kp.set (W := W8) (p := p) (g := g) ⟨p, 2, none⟩ (.int .i64 0) (Or.inl rfl))
        have o := T7.out.ok
        rw [HM0.out] at o
        refine ⟨k9.below HT.out.tw.hp HT.out.tw.hg HBS.out, Or.inr ⟨DK.out, rfl, g, List.replicate S2.length z60, 0, ⟨?_, ?_, HT.out.tw.hp, HT.out.tw.hg⟩, ?_, by omega⟩⟩
        · rw [List.length_replicate, HM.out, Nat.add_sub_cancel]
          exact blk_put P8.out 2 _ rfl
        · exact blk_far G8.out (p := ⟨p, 2, none⟩) (Ne.symm hpg) _
        · rw [HM.out, Nat.add_sub_cancel, HM0.out]
          exact o.clear
      · have hmb : ((m : Int) == 0) = false := by simp [hm0]
        clear hm0
        go_wp2_with fail
        refine bodyPost_ret (results_tmp rfl _ _ _) rfl ?_
        exact ⟨KP7.out.below HT.out.tw.hp HT.out.tw.hg HBS.out, Or.inr ⟨DK.out, rfl, by rw [HM.out, Nat.add_sub_cancel]; exact ⟨g, _, used, T7.out⟩⟩⟩
    · have Q := Aside0.mk (HT.out.ok.none_of q2)
      clear q1 q2 q3 CA
      go_wp2_with fail
      refine bodyPost_ret (results_tmp rfl _ _ _) rfl ?_
      exact ⟨B3.out.mono HBS.out, Or.inl ⟨Q.out, rfl, g, S, used, T3.out⟩⟩
end Go.Proofs.Ytmndedahkodibaa.G
