/- The table of labels walked: growing, and putting with it. -/
import Derived.Test.YtmndedahkodibaaH4
namespace Go.Proofs.Ytmndedahkodibaa.G
open Go.RowKit Go.Proofs.YtmndedahkodibaaW.PrintWords Go.Proofs.YtmndedahkodibaaW.PrintLast Go.Proofs.YtmndedahkodibaaW.PrintMore
set_option linter.unusedVariables false
set_option linter.unusedSimpArgs false

theorem made60 (m : Nat) : madeCells (Value.agg #[(.int .i64 0), (.string ⟨#[]⟩), (.string ⟨#[]⟩), (.int .i64 0), (.int .i64 0)]).cells (m * 5) = (fs (List.replicate m z60)).toArray := by
  apply Array.ext'
  apply List.ext_getElem?
  intro i
  by_cases hi : i < m * 5
  · have h1 : i / 5 < m := by omega
    have h2 : i = i / 5 * 5 + i % 5 := by omega
    have h3 : i % 5 < 5 := by omega
    have e := fs_at (List.replicate m z60) (i / 5) (by rw [List.length_replicate]; exact h1) (i % 5) h3
    rw [← h2, List.getElem_replicate] at e
    show _ = (fs (List.replicate m z60))[i]?
    rw [e]
    unfold madeCells
    rw [Array.getElem?_toList, Array.getElem?_map, Array.getElem?_range, if_pos hi]
    show some ((#[(.int .i64 0), (.string ⟨#[]⟩), (.string ⟨#[]⟩), (.int .i64 0), (.int .i64 0)] : Array Value)[i % 5]!) = _
    generalize i % 5 = r at h3
    match r, h3 with
    | 0, _ => rfl
    | 1, _ => rfl
    | 2, _ => rfl
    | 3, _ => rfl
    | 4, _ => rfl
  · rw [List.getElem?_eq_none, List.getElem?_eq_none]
    · rw [List.toList_toArray, fs_len, List.length_replicate]; omega
    · rw [Array.length_toList, size_madeCells]; omega
theorem make60 (w : World) (m : Nat) (hm : m ≤ 1099511627776) : (Instr.makeSlice 52 (.int .i64 (m : Int)) (.int .i64 (m : Int))).run Try.prog w = .ok (.slice (some ⟨w.heap.size, 0, none⟩) m m) (w.alloc (.cells (fs (List.replicate m z60)).toArray 60)) := by
  have hi := info60
  cases hq : Try.prog.info? 60 with
  | none => rw [hq] at hi; cases hi
  | some i =>
    rw [hq] at hi
    simp only [Option.map_some, Option.some.injEq, Prod.mk.injEq] at hi
    have h := run_make (P := Try.prog) w 52 60 i _ Try.underlying52 hq hi.1 .i64 .i64 (m : Int) (m : Int) (by omega) (by omega) (by rw [hi.2.2]; omega) (by omega)
    rw [hi.2.1, Int.toNat_natCast, made60] at h
    exact h
/-- Putting where there is room. -/
theorem put_no (W : World) (base p g : Nat) (S : List S60) (n used : Nat) (D : S28 → Option Int) (k : S28) (v : Int) (hk : Fit k) (hnb : n ≤ 1073741824) (h : TB W base p g S n used D) (hn : 4 * (used + 1) ≤ 3 * S.length) :
    Calls Try.prog 23 #[.pointer (some ⟨p, 0, none⟩), .agg #[.string k.f0, .string k.f1, .int .i64 k.f2], .int .i64 v] W fun e w' => (D k ≠ none ∧ e = .returned (.bool false) ∧ Put W w' base p g n D (fun L u => L = S.length ∧ u = used)) ∨ (D k = none ∧ e = .returned (.bool true) ∧ Put W w' base p g (n + 1) (upd D k (some v)) (fun L u => L = S.length ∧ u = used)) := by
  refine put_walk W base p g n D k v hk hnb _ ⟨S, used, h⟩ ?_
  intro W1 hb
  have h1 := h.below hb
  refine (grow_no W1 base p g S n used D h1 hn).mono ?_
  rintro e w' ⟨rfl, hb2⟩
  exact ⟨rfl, Kp.of hb2 p g, g, S, used, Or.inl rfl, h1.below hb2, hn, rfl, rfl⟩

/-- The old places, and the new ones under way. -/
structure GL (W w : World) (base p g m : Nat) (S : List S60) (D : S28 → Option Int) (i g' : Nat) (S' : List S60) (u' : Nat) : Prop where
  kp : Kp W w p g
  old : w.heap[g]? = some (.cells (fs S).toArray 60 (0, 0))
  tb : TB w base p g' S' (cnt S i) u' (part S D i)
  hg : W.heap.size ≤ g'
  hm : S'.length = m
  hu : u' ≤ cnt S i
theorem GL.below {W w w' : World} {base p g m : Nat} {S : List S60} {D : S28 → Option Int} {i g' : Nat} {S' : List S60} {u' : Nat} (h : GL W w base p g m S D i g' S' u') (hb : Below w.heap.size w w') : GL W w' base p g m S D i g' S' u' :=
  ⟨h.kp.trans (Or.inl rfl) (Kp.of hb p g), blk_below h.old hb, h.tb.below hb, h.hg, h.hm, h.hu⟩

set_option maxHeartbeats 4000000 in
set_option maxRecDepth 100000 in
theorem grow (W : World) (base p g : Nat) (S : List S60) (n used : Nat) (D : S28 → Option Int) (h : TB W base p g S n used D) (hnb : n ≤ 1073741824) (hbase : base ≤ W.heap.size) :
    Calls Try.prog 29 #[.pointer (some ⟨p, 0, none⟩)] W fun e w' => e = .returned (.tuple #[]) ∧ Grown W w' base p g n D (fun _ _ => True) := by
  by_cases hn : 4 * (used + 1) ≤ 3 * S.length
  · refine (grow_no W base p g S n used D h hn).mono ?_
    rintro e w' ⟨rfl, hb⟩
    exact ⟨rfl, Kp.of hb p g, g, S, used, Or.inl rfl, h.below hb, hn, trivial⟩
  have HT := Aside0.mk h
  have HN := Aside0.mk hnb
  have HBS := Aside0.mk hbase
  have hp0 : W.cell? ⟨p, 0, none⟩ = some (.slice (some ⟨g, 0, none⟩) S.length S.length) := (blk_cell h.tw.bp 0).trans rfl
  have hp2 : W.cell? ⟨p, 2, none⟩ = some (.int .i64 (used : Int)) := (blk_cell h.tw.bp 2).trans rfl
  have hL := h.ok.len.2
  have hU := h.ok.live_le
  have w1 : wrap64 ((used : Int) + 1) = (used : Int) + 1 := by unfold wrap64; omega
  have w2 : wrap64 (4 * ((used : Int) + 1)) = 4 * ((used : Int) + 1) := by unfold wrap64; omega
  have w3 : wrap64 (3 * (S.length : Int)) = 3 * (S.length : Int) := by unfold wrap64; omega
  have hd : decide (4 * ((used : Int) + 1) ≤ 3 * (S.length : Int)) = false := decide_eq_false (by omega)
  clear h hn hL hU hnb hbase
  go_enter Try.func29, Try.ntmps29
  go_upto_region 0 with (fail)
  refine start_ (n := 13) (S := (fun w' => w'.cell? ⟨p, 0, none⟩ = some (.slice (some ⟨g, 0, none⟩) S.length S.length) ∧ w'.cell? ⟨p, 2, none⟩ = some (.int .i64 (used : Int)))) (ds := []) #[false, false, false, false, false, false, false, false, false, false, false, false, false] (by kernel_rfl) rfl rfl ?_ ?_
  · exact ⟨hp0, hp2⟩
  intro hHeld
  refine pure_ (i := 0) (N := some 6) (v := ?_) (a' := ?_) #[true, false, false, false, false, false, false, false, false, false, false, false, false] rfl rfl (by kernel_rfl) (fun _ _ _ h => h) (Or.inl ⟨by rfl, ?_⟩) ?_ ?_
  rotate_left
  · intro w'
    go_simp
    with_reducible rfl
  rotate_left
  · simp only [Act.put, List.setIfInBounds_toArray, List.set_cons_zero, List.set_cons_succ, i64_w, i32_w]
    rfl
  refine pure_ (i := 1) (N := some 7) (v := ?_) (a' := ?_) #[true, true, false, false, false, false, false, false, false, false, false, false, false] rfl rfl (by kernel_rfl) (fun _ _ _ h => h) (Or.inl ⟨by rfl, ?_⟩) ?_ ?_
  rotate_left
  · intro w'
    go_simp
    with_reducible rfl
  rotate_left
  · simp only [Act.put, List.setIfInBounds_toArray, List.set_cons_zero, List.set_cons_succ, i64_w, i32_w]
    rfl
  refine pure_ (i := 2) (N := some 8) (v := ?_) (a' := ?_) #[true, true, true, false, false, false, false, false, false, false, false, false, false] rfl rfl (by kernel_rfl) (fun _ _ _ h => h) (Or.inl ⟨by rfl, ?_⟩) ?_ ?_
  rotate_left
  · intro w'
    go_simp
    with_reducible rfl
  rotate_left
  · simp only [Act.put, List.setIfInBounds_toArray, List.set_cons_zero, List.set_cons_succ, i64_w, i32_w]
    rfl
  refine pure_ (i := 6) (N := some 12) (v := ?_) (a' := ?_) #[true, true, true, false, false, false, true, false, false, false, false, false, false] rfl rfl (by kernel_rfl) (fun _ _ _ h => h) (Or.inl ⟨by rfl, ?_⟩) ?_ ?_
  rotate_left
  · intro w'
    go_simp
    with_reducible rfl
  rotate_left
  · simp only [Act.put, List.setIfInBounds_toArray, List.set_cons_zero, List.set_cons_succ, i64_w, i32_w]
    rfl
  refine pure_ (i := 7) (N := some 13) (v := ?_) (a' := ?_) #[true, true, true, false, false, false, true, true, false, false, false, false, false] rfl rfl (by kernel_rfl) (fun _ _ _ h => h) (Or.inl ⟨by rfl, ?_⟩) ?_ ?_
  rotate_left
  · intro w'
    go_simp
    with_reducible rfl
  rotate_left
  · simp only [Act.put, List.setIfInBounds_toArray, List.set_cons_zero, List.set_cons_succ, i64_w, i32_w]
    rfl
  refine pure_ (i := 8) (N := some 14) (v := ?_) (a' := ?_) #[true, true, true, false, false, false, true, true, true, false, false, false, false] rfl rfl (by kernel_rfl) (fun _ _ _ h => h) (Or.inl ⟨by rfl, ?_⟩) ?_ ?_
  rotate_left
  · intro w'
    go_simp
    with_reducible rfl
  rotate_left
  · simp only [Act.put, List.setIfInBounds_toArray, List.set_cons_zero, List.set_cons_succ, i64_w, i32_w]
    rfl
  refine take_ (i := 3) (N := some 9) (v := ?_) (a' := ?_) #[true, true, true, true, false, false, true, true, true, false, false, false, false] rfl rfl (by kernel_rfl) (fun _ _ _ h => h) (Or.inl ⟨by rfl, ?_⟩) hHeld ?_ ?_
  rotate_left
  · rintro w' ⟨s0, s1⟩
    go_simp
    with_reducible rfl
  rotate_left
  · simp only [Act.put, List.setIfInBounds_toArray, List.set_cons_zero, List.set_cons_succ, i64_w, i32_w]
    rfl
  refine pure_ (i := 4) (N := some 10) (v := ?_) (a' := ?_) #[true, true, true, true, true, false, true, true, true, false, false, false, false] rfl rfl (by kernel_rfl) (fun _ _ _ h => h) (Or.inl ⟨by rfl, ?_⟩) ?_ ?_
  rotate_left
  · intro w'
    go_simp
    with_reducible rfl
  rotate_left
  · simp only [Act.put, List.setIfInBounds_toArray, List.set_cons_zero, List.set_cons_succ, i64_w, i32_w]
    rfl
  refine pure_ (i := 5) (N := some 11) (v := ?_) (a' := ?_) #[true, true, true, true, true, true, true, true, true, false, false, false, false] rfl rfl (by kernel_rfl) (fun _ _ _ h => h) (Or.inl ⟨by rfl, ?_⟩) ?_ ?_
  rotate_left
  · intro w'
    go_simp
    with_reducible rfl
  rotate_left
  · simp only [Act.put, List.setIfInBounds_toArray, List.set_cons_zero, List.set_cons_succ, i64_w, i32_w]
    rfl
  refine take_ (i := 9) (N := some 15) (v := ?_) (a' := ?_) #[true, true, true, true, true, true, true, true, true, true, false, false, false] rfl rfl (by kernel_rfl) (fun _ _ _ h => h) (Or.inl ⟨by rfl, ?_⟩) hHeld ?_ ?_
  rotate_left
  · rintro w' ⟨s0, s1⟩
    go_simp
    with_reducible rfl
  rotate_left
  · simp only [Act.put, List.setIfInBounds_toArray, List.set_cons_zero, List.set_cons_succ, i64_w, i32_w]
    rfl
  refine pure_ (i := 10) (N := some 16) (v := ?_) (a' := ?_) #[true, true, true, true, true, true, true, true, true, true, true, false, false] rfl rfl (by kernel_rfl) (fun _ _ _ h => h) (Or.inl ⟨by rfl, ?_⟩) ?_ ?_
  rotate_left
  · intro w'
    go_simp
    with_reducible rfl
  rotate_left
  · simp only [Act.put, List.setIfInBounds_toArray, List.set_cons_zero, List.set_cons_succ, i64_w, i32_w]
    rfl
  refine pure_ (i := 11) (N := some 17) (v := ?_) (a' := ?_) #[true, true, true, true, true, true, true, true, true, true, true, true, false] rfl rfl (by kernel_rfl) (fun _ _ _ h => h) (Or.inl ⟨by rfl, ?_⟩) ?_ ?_
  rotate_left
  · intro w'
    go_simp
    with_reducible rfl
  rotate_left
  · simp only [Act.put, List.setIfInBounds_toArray, List.set_cons_zero, List.set_cons_succ, i64_w, i32_w]
    rfl
  refine pure_ (i := 12) (N := some 18) (v := ?_) (a' := ?_) #[true, true, true, true, true, true, true, true, true, true, true, true, true] rfl rfl (by kernel_rfl) (fun _ _ _ h => h) (Or.inl ⟨by rfl, ?_⟩) ?_ ?_
  rotate_left
  · intro w'
    go_simp
    with_reducible rfl
  rotate_left
  · simp only [Act.put, List.setIfInBounds_toArray, List.set_cons_zero, List.set_cons_succ, i64_w, i32_w]
    rfl
  refine done_ (by kernel_rfl) ?_
  obtain ⟨W1, hW1⟩ : ∃ W1, W.drew = W1 := ⟨_, rfl⟩
  rw [hW1]
  have T1 := Aside0.mk (show TB W1 base p g S n used D from hW1 ▸ HT.out.below (Below.refl _ W).drew)
  have K1 := Aside0.mk (show Kp W W1 p g from hW1 ▸ Kp.of (Below.refl _ W).drew p g)
  have Z1 := Aside0.mk (show W1.heap.size = W.heap.size from hW1 ▸ rfl)
  clear hp0 hp2 hW1 w1 w2 w3 hd
  have hp0 : W1.cell? ⟨p, 0, none⟩ = some (.slice (some ⟨g, 0, none⟩) S.length S.length) := (blk_cell T1.out.tw.bp 0).trans rfl
  have hp1 : W1.cell? ⟨p, 1, none⟩ = some (.int .i64 (n : Int)) := (blk_cell T1.out.tw.bp 1).trans rfl
  have wn : wrap64 ((n : Int) + 1) = (n : Int) + 1 := by have := HN.out; unfold wrap64; omega
  have wn4 : wrap64 (4 * ((n : Int) + 1)) = 4 * ((n : Int) + 1) := by have := HN.out; unfold wrap64; omega
  go_wp2_with fail
  go_loopg [2] 37 (fun kq v2 W' => ∃ m : Nat, v2 = .int .i64 (m : Int) ∧ Aside0 (W' = W1) ∧ Aside0 (∃ e, m = 2 ^ e ∧ e + kq = 40))
  case atStart => exact ⟨8, rfl, ⟨rfl⟩, ⟨3, rfl, rfl⟩⟩
  case round =>
  obtain ⟨m, rfl, ⟨rfl⟩, HM⟩ := hrel
  obtain ⟨e, he, hek⟩ := HM.out
  have hm40 : Aside0 (m ≤ 1099511627776) := ⟨by rw [he]; exact Nat.le_trans (Nat.pow_le_pow_right (by decide) (show e ≤ 40 by omega)) (by decide)⟩
  by_cases hlt : (m : Int) < 4 * ((n : Int) + 1)
  · have hltb : decide ((m : Int) < 4 * ((n : Int) + 1)) = true := decide_eq_true hlt
    have hk : Aside0 (∃ k1, gk = k1 + 1) := ⟨by
      cases gk with
      | succ k => exact ⟨k, rfl⟩
      | zero =>
        have : e = 40 := by omega
        rw [this] at he
        have := HN.out
        omega⟩
    have HE := Aside0.mk (And.intro he hek)
    clear hlt he hek HM
    go_wp2_with fail
    obtain ⟨k1, hk1⟩ := hk.out
    go_roundg k1
    case measure => omega
    case rel =>
      have hw : wrap64 ((m : Int) * 2) = ((m * 2 : Nat) : Int) := by have := hm40.out; unfold wrap64; omega
      exact ⟨m * 2, by rw [hw], ⟨rfl⟩, ⟨e + 1, by rw [HE.out.1, Nat.pow_succ], by have := HE.out.2; omega⟩⟩
  have hltb : decide ((m : Int) < 4 * ((n : Int) + 1)) = false := decide_eq_false hlt
  have HM2 := Aside0.mk (show 4 * (n + 1) ≤ m ∧ ∃ e, m = 2 ^ e ∧ e ≤ 40 from ⟨by omega, e, he, by omega⟩)
  clear hlt he hek HM
  go_wp2_with fail
  rw [make60 wr m hm40.out]
  simp only [Result.andThen]
  rw [Oper.upon_value]
  obtain ⟨g2, hg2⟩ : ∃ g2, wr.heap.size = g2 := ⟨_, rfl⟩
  rw [hg2]
  obtain ⟨W2, hW2⟩ : ∃ W2, wr.alloc (.cells (fs (List.replicate m z60)).toArray 60) = W2 := ⟨_, rfl⟩
  rw [hW2]
  have B2 := Aside0.mk (show Below wr.heap.size wr W2 from hW2 ▸ below_alloc (Below.refl _ wr) _)
  have G2 := Aside0.mk (show W2.heap[g2]? = some (.cells (fs (List.replicate m z60)).toArray 60 (0, 0)) from by rw [← hW2, ← hg2]; exact heap_alloc_new wr _)
  have L2 := Aside0.mk (And.intro hg2 (blk_lt T1.out.tw.bp))
  have P2 := Aside0.mk (blk_below T1.out.tw.bp B2.out)
  have Q2 := Aside0.mk (blk_below T1.out.tw.bg B2.out)
  clear hg2 hW2 hp0 hp1 wn wn4 hltb
  have fz := blk_frozen P2.out 0
  have hp0 : W2.cell? ⟨p, 0, none⟩ = some (.slice (some ⟨g, 0, none⟩) S.length S.length) := (blk_cell P2.out 0).trans rfl
  have hp1 : W2.cell? ⟨p, 1, none⟩ = some (.int .i64 (n : Int)) := (blk_cell P2.out 1).trans rfl
  have hp2 : W2.cell? ⟨p, 2, none⟩ = some (.int .i64 (used : Int)) := (blk_cell P2.out 2).trans rfl
  have fz1 := blk_frozen P2.out 1
  have fz2 := blk_frozen P2.out 2
  go_wp2_with fail
  obtain ⟨W3, hW3⟩ : ∃ W3, ((W2.setCell ⟨p, 0, none⟩ (.slice (some ⟨g2, 0, none⟩) m m)).setCell ⟨p, 1, none⟩ (.int .i64 0)).setCell ⟨p, 2, none⟩ (.int .i64 0) = W3 := ⟨_, rfl⟩
  rw [hW3]
  have hpg : p ≠ g2 := by have := L2.out.1; have := L2.out.2; omega
  have GS := Aside0.mk (show GL W W3 base p g m S D 0 g2 (List.replicate m z60) 0 from by
    have k2 := K1.out.trans (Or.inl rfl) (Kp.of B2.out p g)
    refine ⟨?_, ?_, ⟨⟨?_, ?_, T1.out.tw.hp, ?_⟩, ?_, by omega⟩, ?_, List.length_replicate, by rw [cnt_zero]; exact Nat.le_refl _⟩
    · rw [← hW3]
      exact ((k2.trans (Or.inl rfl) (Kp.set _ _ (Or.inl rfl))).trans (Or.inl rfl) (Kp.set _ _ (Or.inl rfl))).trans (Or.inl rfl) (Kp.set _ _ (Or.inl rfl))
    · rw [← hW3]
      exact blk_far (blk_far (blk_far Q2.out (p := ⟨p, 0, none⟩) (Ne.symm T1.out.ne) _) (p := ⟨p, 1, none⟩) (Ne.symm T1.out.ne) _) (p := ⟨p, 2, none⟩) (Ne.symm T1.out.ne) _
    · rw [← hW3, List.length_replicate, cnt_zero]
      exact blk_put (blk_put (blk_put P2.out 0 _ rfl) 1 _ rfl) 2 _ rfl
    · rw [← hW3]
      exact blk_far (blk_far (blk_far G2.out (p := ⟨p, 0, none⟩) (Ne.symm hpg) _) (p := ⟨p, 1, none⟩) (Ne.symm hpg) _) (p := ⟨p, 2, none⟩) (Ne.symm hpg) _
    · have := HBS.out; have := K1.out.size; have := L2.out.1; omega
    · rw [part_zero, cnt_zero]
      exact OK.fresh m HM2.out.2
    · have := K1.out.size; have := L2.out.1; omega)
  have HS := Aside0.mk (And.intro T1.out.ok.hl (And.intro (blk_lt HT.out.tw.bg) T1.out.ne))
  have OKS := Aside0.mk T1.out.ok
  have SL := Aside0.mk T1.out.ok.len.2
  clear fz fz1 fz2 hp0 hp1 hp2 hW3 hpg B2 G2 L2 P2 Q2 T1 K1 Z1
  go_loopg [46] S.length (fun kq v46 w => ∃ i g' S' u', v46 = .int .i64 ((i : Nat) : Int) ∧ Aside0 (i + kq = S.length) ∧ Aside0 (GL W w base p g m S D i g' S' u'))
  case atStart => exact ⟨0, g2, _, 0, rfl, ⟨by omega⟩, GS⟩
  case round =>
  clear GS
  obtain ⟨i, g', S', u', rfl, HI, GLi⟩ := hrel
  cases gk with
  | zero =>
    have hlt : decide ((i : Int) < (S.length : Int)) = false := decide_eq_false (by have := HI.out; omega)
    have hlt2 : ¬ i < S.length := by have := HI.out; omega
    go_wp2_with fail
    refine bodyPost_end (results_none rfl _ _ _) rfl ?_
    have hi : i = S.length := by have := HI.out; omega
    subst hi
    have hc := cnt_all S
    rw [← HS.out.1] at hc
    have ht := GLi.out.tb
    have hu := GLi.out.hu
    rw [part_all OKS.out, hc] at ht
    rw [hc] at hu
    exact ⟨rfl, GLi.out.kp, g', S', u', Or.inr GLi.out.hg, ht, by rw [GLi.out.hm]; have := HM2.out.1; omega, trivial⟩
  | succ k1 =>
    have hlt : i < S.length := by have := HI.out; omega
    have HIL := Aside0.mk hlt
    obtain ⟨x, hx⟩ : ∃ x, at60 S i = x := ⟨_, rfl⟩
    have HX := Aside0.mk hx
    have old : ∀ j, j < 5 → wr.cell? ⟨g, i * 5 + j, none⟩ = [Value.int .i64 x.f0, .string x.f1.f0, .string x.f1.f1, .int .i64 x.f1.f2, .int .i64 x.f2][j]? := by
      intro j hj
      rw [blk_cell GLi.out.old, ← hx, at60_eq S i hlt, ← fs_at S i hlt j hj]
      simp
    have t0 : wr.cell? ⟨g, i * 5, none⟩ = some (.int .i64 x.f0) := old 0 (by omega)
    have t1 : wr.cell? ⟨g, i * 5 + 1, none⟩ = some (.string x.f1.f0) := old 1 (by omega)
    have t2 : wr.cell? ⟨g, i * 5 + 2, none⟩ = some (.string x.f1.f1) := old 2 (by omega)
    have t3 : wr.cell? ⟨g, i * 5 + 3, none⟩ = some (.int .i64 x.f1.f2) := old 3 (by omega)
    have t4 : wr.cell? ⟨g, i * 5 + 4, none⟩ = some (.int .i64 x.f2) := old 4 (by omega)
    clear old hx
    have hwi : Aside0 (wrap64 ((i : Int) + 1) = ((i + 1 : Nat) : Int)) := ⟨by have := SL.out; have := HIL.out; unfold wrap64; omega⟩
    by_cases s1 : x.f0 = 1
    · have s1b : (x.f0 == 1) = true := by simp [s1]
      have H1 := Aside0.mk s1
      clear s1
      have PN := Aside0.mk (part_step OKS.out i HIL.out (by rw [HX.out]; exact H1.out))
      have CN := Aside0.mk (show cnt S (i + 1) = cnt S i + 1 from by rw [cnt_step S i HIL.out, if_pos (by rw [HX.out]; exact H1.out)])
      have RM := Aside0.mk (show 4 * (u' + 1) ≤ 3 * S'.length ∧ cnt S i ≤ 1073741824 from by
        have h1 := cnt_le S (i + 1)
        have h2 := HS.out.1
        have h3 := CN.out
        have h4 := GLi.out.hu
        have h5 := HM2.out.1
        have h6 := HN.out
        rw [GLi.out.hm]
        omega)
      have HP := Aside0.mk (fun (w : World) (hb : Below wr.heap.size wr w) => put_no w base p g' S' (cnt S i) u' (part S D i) x.f1 x.f2 (HX.out ▸ OKS.out.sz i HIL.out (by rw [HX.out]; exact H1.out)) RM.out.2 (GLi.out.tb.below hb) RM.out.1)
      go_wp2_with (go_at_call 23; refine (HP.out _ (below_alloc (Below.refl _ wr) _)).mono ?_; rintro e w' (⟨hno, rfl, hput⟩ | ⟨hyes, rfl, hput⟩); exact absurd (HX.out ▸ PN.out.1) hno; have PT := Aside0.mk hput; clear hput hyes)
      go_roundg k1
      case measure => omega
      case rel =>
        obtain ⟨kp, g'', S'', u'', hgg, tb, u, ⟨hl, hu⟩, hu2⟩ := PT.out
        have hg := GLi.out.below (below_alloc (Below.refl _ wr) (.cells #[.int .i64 x.f0, .string x.f1.f0, .string x.f1.f1, .int .i64 x.f1.f2, .int .i64 x.f2] 60))
        have hgw := HS.out.2
        refine ⟨i + 1, g'', S'', u'', by rw [hwi.out], ⟨by have := HI.out; omega⟩, ⟨⟨hg.kp.trans (Or.inr hg.hg) kp, ?_, ?_, ?_, hl.trans hg.hm, ?_⟩⟩⟩
        · refine (kp.block g (blk_lt hg.old) (Ne.symm hgw.2) ?_).trans hg.old
          have := hg.hg
          have := hgw.1
          omega
        · rw [CN.out, PN.out.2, HX.out]
          exact tb
        · have := hg.hg
          have := hg.kp.size
          rcases hgg with e | e <;> omega
        · have := hg.hu
          have := CN.out
          omega
    · have s1b : (x.f0 == 1) = false := by simp [s1]
      have H1 := Aside0.mk s1
      clear s1
      go_wp2_with fail
      go_roundg k1
      case measure => omega
      case rel =>
        have hc : cnt S (i + 1) = cnt S i := by rw [cnt_step S i HIL.out, if_neg (by rw [HX.out]; exact H1.out)]; rfl
        have hp : part S D (i + 1) = part S D i := part_skip S D i (by rw [HX.out]; exact H1.out)
        have hg := GLi.out.below (below_alloc (Below.refl _ wr) (.cells #[.int .i64 x.f0, .string x.f1.f0, .string x.f1.f1, .int .i64 x.f1.f2, .int .i64 x.f2] 60))
        exact ⟨i + 1, g', S', u', by rw [hwi.out], ⟨by have := HI.out; omega⟩, ⟨⟨hg.kp, hg.old, by rw [hc, hp]; exact hg.tb, hg.hg, hg.hm, by rw [hc]; exact hg.hu⟩⟩⟩

/-- An index in memory: a map from labels to numbers, of n labels. -/
def IX (W : World) (base p n : Nat) (D : S28 → Option Int) : Prop := ∃ g S used, TB W base p g S n used D
theorem IX.below {W W' : World} {base p n : Nat} {D : S28 → Option Int} (h : IX W base p n D) (hb : Below W.heap.size W W') : IX W' base p n D := by
  obtain ⟨g, S, used, h⟩ := h
  exact ⟨g, S, used, h.below hb⟩
theorem put (W : World) (base p n : Nat) (D : S28 → Option Int) (k : S28) (v : Int) (hk : Fit k) (hnb : n ≤ 1073741824) (hbase : base ≤ W.heap.size) (h : IX W base p n D) :
    Calls Try.prog 23 #[.pointer (some ⟨p, 0, none⟩), .agg #[.string k.f0, .string k.f1, .int .i64 k.f2], .int .i64 v] W fun e w' => Below base W w' ∧ ((D k ≠ none ∧ e = .returned (.bool false) ∧ IX w' base p n D) ∨ (D k = none ∧ e = .returned (.bool true) ∧ IX w' base p (n + 1) (upd D k (some v)))) := by
  obtain ⟨g, S, used, ht⟩ := h
  refine (put_walk W base p g n D k v hk hnb (fun _ _ => True) ⟨S, used, ht⟩ ?_).mono ?_
  · intro W1 hb
    exact grow W1 base p g S n used D (ht.below hb) hnb (Nat.le_trans hbase hb.size)
  · rintro e w' (⟨h1, rfl, kp, g', S', used', hgg, tb, _⟩ | ⟨h1, rfl, kp, g', S', used', hgg, tb, _⟩)
    · exact ⟨kp.below ht.tw.hp ht.tw.hg hbase, Or.inl ⟨h1, rfl, g', S', used', tb⟩⟩
    · exact ⟨kp.below ht.tw.hp ht.tw.hg hbase, Or.inr ⟨h1, rfl, g', S', used', tb⟩⟩
end Go.Proofs.Ytmndedahkodibaa.G
