/- Items made; a pool of them (links.Make, New), walked. -/
import Derived.Test.YtgamhkhninogeaaH3
namespace Go.Proofs.Ytgamhkhninogeaa.G
open Go.RowKit Go.Proofs.YtgamhkhninogeaaW.PrintWords Go.Proofs.YtgamhkhninogeaaW.PrintLast Go.Proofs.YtgamhkhninogeaaW.PrintMore
set_option linter.unusedVariables false
set_option linter.unusedSimpArgs false

theorem val_ {P : Program} {ops : Array Oper} {Q : Exit → Act → World → Prop} {oi : Oper} {N : Option Tmp} {v : Value} {a : Act} {w w1 : World} {K : Act → World → Prop} (hw : Region.wanted oi (yielded ops a.tmps) = true) (hN : oi.dst = N) (hrun : (execOp a.eval oi).run P w = .ok (.value v) w1)
    (h : K (a.put N v) w1) : if Region.wanted oi (yielded ops a.tmps) = true then Oper.wp P oi a w K Q else K (a.put N undef) w := by
  rw [if_pos hw]
  unfold Oper.wp
  rw [hrun]
  show K (a.put oi.dst v) w1
  rw [hN]
  exact h
abbrev ptr (g : Nat) : Value := .pointer (some ⟨g, 0, none⟩)
theorem info47 : (Try.prog.info? 47).map (fun i => (i.zero, i.size, i.bytes)) = some (some (.pointer none), 1, 8) := by kernel_rfl
set_option maxHeartbeats 4000000 in
set_option maxRecDepth 100000 in
theorem Make (W : World) (m : Int) : Calls Try.prog 18 #[.int .i64 m] W fun e w' => ∃ g, e = .returned (ptr g) ∧ W.heap.size ≤ g ∧ Below W.heap.size W w' ∧ w'.heap[g]? = some (.cells #[.int .i64 m, .pointer none, .pointer none, .pointer none, .pointer none, .pointer none] 63 (0, 0)) := by
  go_enter Try.func18, Try.ntmps18
  go_wp2_with fail
  refine bodyPost_ret (results_tmp rfl _ _ _) rfl ?_
  exact ⟨W.heap.size, rfl, Nat.le_refl _, below_alloc (Below.refl _ _) _, heap_alloc_new W _⟩
/-- No links. -/
def F0 : FF := fun _ _ => -1
theorem cells_F0 (bs : List Nat) (i : Int) : cellsF bs F0 i = #[.int .i64 i, .pointer none, .pointer none, .pointer none, .pointer none, .pointer none] := by
  unfold cellsF F0
  rw [pv_neg bs (by decide)]
theorem blq_snoc_old (bs : List Nat) (g : Nat) (i : Int) (h0 : 0 ≤ i) (h1 : i < bs.length) : blq (bs ++ [g]) i = blq bs i := by
  unfold blq
  have : i.toNat < bs.length := by omega
  simp [List.getElem?_append_left this]
theorem blq_snoc_new (bs : List Nat) (g : Nat) : blq (bs ++ [g]) (bs.length : Int) = g := by
  unfold blq
  simp
theorem GW.snoc {W : World} {base g : Nat} {bs : List Nat} (h : GW W base bs F0) (hb : base ≤ g) (hn : g ∉ bs) (hg : W.heap[g]? = some (.cells #[.int .i64 bs.length, .pointer none, .pointer none, .pointer none, .pointer none, .pointer none] 63 (0, 0))) : GW W base (bs ++ [g]) F0 := by
  have hl : ((bs ++ [g]).length : Int) = bs.length + 1 := by simp
  refine ⟨fun i h0 h1 => ?_, fun i h0 h1 => ?_, fun i j i0 i1 j0 j1 e => ?_, fun i k h0 h1 => ?_⟩
  · rw [cells_F0]
    by_cases c : i = bs.length
    · subst c; rw [blq_snoc_new]; exact hg
    · have := h.blk i h0 (by omega)
      rw [cells_F0] at this
      rw [blq_snoc_old bs g i h0 (by omega)]
      exact this
  · by_cases c : i = bs.length
    · subst c; rw [blq_snoc_new]; exact hb
    · rw [blq_snoc_old bs g i h0 (by omega)]
      exact h.ge i h0 (by omega)
  · by_cases c : i = bs.length
    · by_cases d : j = bs.length
      · omega
      · subst c
        rw [blq_snoc_new, blq_snoc_old bs g j j0 (by omega)] at e
        exact absurd (e ▸ blq_mem bs j j0 (by omega)) hn
    · by_cases d : j = bs.length
      · subst d
        rw [blq_snoc_new, blq_snoc_old bs g i i0 (by omega)] at e
        exact absurd (e ▸ blq_mem bs i i0 (by omega)) hn
      · rw [blq_snoc_old bs g i i0 (by omega), blq_snoc_old bs g j j0 (by omega)] at e
        exact h.inj i j i0 (by omega) j0 (by omega) e
  · show (-1 : Int) < _
    omega
theorem mem_blq {bs : List Nat} {b : Nat} (h : b ∈ bs) : ∃ i : Int, 0 ≤ i ∧ i < bs.length ∧ blq bs i = b := by
  obtain ⟨j, hj, rfl⟩ := List.getElem_of_mem h
  refine ⟨(j : Int), by omega, by omega, ?_⟩
  unfold blq
  simp [hj]
/-- Blocks of another type are no items. -/
theorem GW.not_mem {W : World} {base : Nat} {bs : List Nat} {F : FF} (h : GW W base bs F) {b : Nat} {cs : Array Value} {t : TypeId} (hb : W.heap[b]? = some (.cells cs t (0, 0))) (ht : t ≠ 63) : b ∉ bs := by
  intro hm
  obtain ⟨i, h0, h1, rfl⟩ := mem_blq hm
  rw [h.blk i h0 h1] at hb
  injection hb with hb
  injection hb with _ hb
  exact ht hb.symm
theorem GW.kept {W w : World} {base : Nat} {bs : List Nat} {F : FF} (h : GW W base bs F) (hk : ∀ b ∈ bs, w.heap[b]? = W.heap[b]?) : GW w base bs F :=
  ⟨fun i h0 h1 => (hk _ (blq_mem bs i h0 h1)).trans (h.blk i h0 h1), h.ge, h.inj, h.rng⟩
theorem GW.nil (W : World) (base : Nat) : GW W base [] F0 := ⟨fun i h0 h1 => by simp at h1; omega, fun i h0 h1 => by simp at h1; omega, fun i j h0 h1 => by simp at h1; omega, fun i k h0 h1 => by simp at h1; omega⟩
/-- A pool in memory: its block p, its row of pointers, its items. -/
structure PW (W : World) (base p : Nat) (bs : List Nat) (F : FF) : Prop where
  row : ∃ v, W.heap[p]? = some (.cells #[v] 59 (0, 0)) ∧ W.ownsRow base 47 1 v bs.length (bs.map ptr)
  gw : GW W base bs F
  hp : base ≤ p
theorem PW.below {W W' : World} {base p : Nat} {bs : List Nat} {F : FF} (h : PW W base p bs F) (hb : Below W.heap.size W W') : PW W' base p bs F := by
  obtain ⟨⟨v, h1, h2⟩, h3, h4⟩ := h
  exact ⟨⟨v, blk_below h1 hb, own_move h2 (fun k hk => by
    rcases h2.2 with ⟨rfl, _⟩ | ⟨g, cap, cur, rfl, _, hc, _⟩
    · simp [Value.ownBlock] at hk
    · obtain rfl : g = k := by simpa [Value.ownBlock] using hk
      exact hb.block g (blk_lt hc))⟩, h3.below hb, h4⟩
theorem PW.kq {W w : World} {base p : Nat} {bs : List Nat} {F F' : FF} (h : PW W base p bs F) (hk : Kq W w bs) (hg : GW w base bs F') : PW w base p bs F' := by
  obtain ⟨⟨v, h1, h2⟩, h3, h4⟩ := h
  refine ⟨⟨v, (hk.block p (blk_lt h1) (h3.not_mem h1 (by decide))).trans h1, own_move h2 (fun k hkk => ?_)⟩, hg, h4⟩
  rcases h2.2 with ⟨rfl, _⟩ | ⟨g, cap, cur, rfl, _, hc, _⟩
  · simp [Value.ownBlock] at hkk
  · obtain rfl : g = k := by simpa [Value.ownBlock] using hkk
    exact hk.block g (blk_lt hc) (h3.not_mem hc (by decide))

set_option maxHeartbeats 4000000 in
set_option maxRecDepth 100000 in
theorem New (W : World) (n : Nat) (hn : n ≤ 4096) : Calls Try.prog 7 #[.int .i64 (n : Int)] W fun e w' => ∃ p bs, e = .returned (ptr p) ∧ bs.length = n ∧ Below W.heap.size W w' ∧ PW w' W.heap.size p bs F0 := by
  have HN := Aside0.mk hn
  have n0 : decide ((n : Int) < 0) = false := decide_eq_false (by omega)
  have n1 : decide ((4096 : Int) < (n : Int)) = false := decide_eq_false (by omega)
  clear hn
  go_enter Try.func7, Try.ntmps7
  go_wp2_with fail
  have X1 := Aside0.mk (heap_alloc_new W (.cells #[.slice none 0 0] 59))
  have B1 := Aside0.mk (below_alloc (Below.refl W.heap.size W) (.cells #[.slice none 0 0] 59))
  go_loopg [4, 14] n (fun kq v4 v14 w => ∃ (bs : List Nat) (A : Option Addr) (c : Nat), v14 = .int .i64 (bs.length : Int) ∧ Aside0 (bs.length + kq = n) ∧ Aside0 (Below W.heap.size W w) ∧ Aside0 (w.heap[W.heap.size]? = some (.cells #[.slice A bs.length c] 59 (0, 0)) ∧ w.ownsRow W.heap.size 47 1 (.slice A bs.length c) bs.length (bs.map ptr)) ∧ Aside0 (GW w W.heap.size bs F0))
  case atStart => exact ⟨[], none, 0, rfl, ⟨by simp⟩, B1, ⟨X1.out, own_nil _ _ _ _⟩, ⟨GW.nil _ _⟩⟩
  case round =>
  clear X1 B1 n0 n1
  obtain ⟨bs, A, c, rfl, HI, HB, HR, HG⟩ := hrel
  cases gk with
  | zero =>
    have hlt : ¬ bs.length < n := by have := HI.out; omega
    go_wp2_with fail
    refine bodyPost_ret (results_tmp rfl _ _ _) rfl ?_
    exact ⟨W.heap.size, bs, rfl, by have := HI.out; omega, HB.out, ⟨_, HR.out.1, HR.out.2⟩, HG.out, Nat.le_refl _⟩
  | succ k1 =>
    have hlt : bs.length < n := by have := HI.out; omega
    have hc0 : wr.cell? ⟨W.heap.size, 0, none⟩ = some (.slice A bs.length c) := (blk_cell HR.out.1 0).trans rfl
    have hwi : Aside0 (wrap64 ((bs.length : Int) + 1) = ((bs.length + 1 : Nat) : Int)) := ⟨by have := HN.out; have := HI.out; unfold wrap64; omega⟩
    go_upto_region 7 with fail
    clear hlt
    refine start_ (n := 12) (S := (fun w' => w'.cell? ⟨W.heap.size, 0, none⟩ = some (.slice A bs.length c))) (ds := [11]) #[false, false, false, false, false, false, false, false, false, false, false, false] (by kernel_rfl) rfl rfl ?_ ?_
    · exact hc0
    intro hHeld
    refine pure_ (i := 0) (N := some 17) (v := ?_) (a' := ?_) #[true, false, false, false, false, false, false, false, false, false, false, false] rfl rfl (by kernel_rfl) (fun _ _ _ h => h) (Or.inl ⟨by rfl, ?_⟩) ?_ ?_
    rotate_left
    · intro w'
      go_simp
      with_reducible rfl
    rotate_left
    · simp only [Act.put, List.setIfInBounds_toArray, List.set_cons_zero, List.set_cons_succ, i64_w, i32_w]
      rfl
    refine pure_ (i := 1) (N := some 18) (v := ?_) (a' := ?_) #[true, true, false, false, false, false, false, false, false, false, false, false] rfl rfl (by kernel_rfl) (fun _ _ _ h => h) (Or.inl ⟨by rfl, ?_⟩) ?_ ?_
    rotate_left
    · intro w'
      go_simp
      with_reducible rfl
    rotate_left
    · simp only [Act.put, List.setIfInBounds_toArray, List.set_cons_zero, List.set_cons_succ, i64_w, i32_w]
      rfl
    refine pure_ (i := 2) (N := some 19) (v := ?_) (a' := ?_) #[true, true, true, false, false, false, false, false, false, false, false, false] rfl rfl (by kernel_rfl) (fun _ _ _ h => h) (Or.inl ⟨by rfl, ?_⟩) ?_ ?_
    rotate_left
    · intro w'
      go_simp
      with_reducible rfl
    rotate_left
    · simp only [Act.put, List.setIfInBounds_toArray, List.set_cons_zero, List.set_cons_succ, i64_w, i32_w]
      rfl
    refine pure_ (i := 3) (N := some 20) (v := ?_) (a' := ?_) #[true, true, true, true, false, false, false, false, false, false, false, false] rfl rfl (by kernel_rfl) (fun _ _ _ h => h) (Or.inl ⟨by rfl, ?_⟩) ?_ ?_
    rotate_left
    · intro w'
      go_simp
      with_reducible rfl
    rotate_left
    · simp only [Act.put, List.setIfInBounds_toArray, List.set_cons_zero, List.set_cons_succ, i64_w, i32_w]
      rfl
    refine pure_ (i := 5) (N := some 22) (v := ?_) (a' := ?_) #[true, true, true, true, false, true, false, false, false, false, false, false] rfl rfl (by kernel_rfl) (fun _ _ _ h => h) (Or.inl ⟨by rfl, ?_⟩) ?_ ?_
    rotate_left
    · intro w'
      go_simp
      with_reducible rfl
    rotate_left
    · simp only [Act.put, List.setIfInBounds_toArray, List.set_cons_zero, List.set_cons_succ, i64_w, i32_w]
      rfl
    refine take_ (i := 4) (N := some 21) (v := ?_) (a' := ?_) #[true, true, true, true, true, true, false, false, false, false, false, false] rfl rfl (by kernel_rfl) (fun _ _ _ h => h) (Or.inl ⟨by rfl, ?_⟩) hHeld ?_ ?_
    rotate_left
    · intro w' s0
      go_simp
      with_reducible rfl
    rotate_left
    · simp only [Act.put, List.setIfInBounds_toArray, List.set_cons_zero, List.set_cons_succ, i64_w, i32_w]
      rfl
    refine one_ (i := 6) (N := some 23) #[true, true, true, true, true, true, true, false, false, false, false, false] rfl rfl (by kernel_rfl) (by decide) (fun K hK => ?_)
    refine goes_ Try.func18 (by kernel_rfl) rfl #[.int .i64 (bs.length : Int)] (by rfl) rfl rfl (by (try simp only [List.map_toArray, List.map_cons, List.map_nil]); first | done | rfl) ?_
    refine (Make wr.drew bs.length).mono ?_
    rintro e w1 ⟨g, rfl, hge, hb, hg⟩
    refine ⟨_, rfl, ?_⟩
    have hb1 : Below wr.heap.size wr w1 := (Below.refl _ wr).drew.trans hb
    have B1 := Aside0.mk (HB.out.trans (hb1.mono HB.out.size))
    have P1 := Aside0.mk (blk_below HR.out.1 hb1)
    have O1 := Aside0.mk (show w1.ownsRow W.heap.size 47 1 (.slice A bs.length c) bs.length (bs.map ptr) from own_move HR.out.2 (fun k hk => by
      rcases HR.out.2.2 with ⟨e, _⟩ | ⟨g2, cap, cur, e, _, hc, _⟩
      · rw [e] at hk; simp [Value.ownBlock] at hk
      · rw [e] at hk
        obtain rfl : g2 = k := by simpa [Value.ownBlock] using hk
        exact hb1.block g2 (blk_lt hc)))
    have G1 := Aside0.mk ((HG.out.below hb1).snoc (g := g) (Nat.le_trans HB.out.size hge) (fun hm => by
      obtain ⟨i, h0, h1, e⟩ := mem_blq hm
      have := blk_lt (HG.out.blk i h0 h1)
      rw [e] at this
      have : wr.heap.size ≤ g := hge
      omega) hg)
    clear hb hg hge hb1 hc0
    refine hK.out _ _ ((blk_cell P1.out 0).trans rfl) (fun hHeld => ?_)
    clear hK K
    refine norm_ (a' := ?_) ?_ ?_
    rotate_left
    · show Act.put _ (some 23) _ = _
      simp only [Act.put, List.setIfInBounds_toArray, List.set_cons_zero, List.set_cons_succ, i64_w, i32_w]
      rfl
    refine one_ (i := 7) (N := some 24) #[true, true, true, true, true, true, true, true, false, false, false, false] rfl rfl (by kernel_rfl) (by decide) (fun K hK => ?_)
    refine val_ (v := .slice (some ⟨w1.heap.size, 0, none⟩) 1 1) (w1 := w1.alloc (.cells #[ptr g] 47)) (by rfl) rfl ?_ ?_
    · first | (go_simp; done) | (go_simp; rfl)
    refine hK.out _ _ ((blk_cell (blk_below P1.out (below_alloc (Below.refl _ w1) _)) 0).trans rfl) (fun hHeld => ?_)
    clear hK K
    refine norm_ (a' := ?_) ?_ ?_
    rotate_left
    · show Act.put _ (some 24) _ = _
      simp only [Act.put, List.setIfInBounds_toArray, List.set_cons_zero, List.set_cons_succ, i64_w, i32_w]
      rfl
    refine one_ (i := 8) (N := some 25) #[true, true, true, true, true, true, true, true, true, false, false, false] rfl rfl (by kernel_rfl) (by decide) (fun K hK => ?_)
    refine step_append_cells (w0 := W) W.heap.size (by rfl) (.tmp 21) (.tmp 24) 46 47 (.pointer none) 1 8 rfl Try.underlying46 info47 rfl (by decide) (by decide) (.slice A bs.length c) bs.length (bs.map ptr) [ptr g] rfl rfl rfl (by intro u hu; simp at hu; subst hu; rfl) O1.out B1.out B1.out.size (by have := HI.out; have := HN.out; omega) ?_
    intro v2 w2 ho hb hg hat
    obtain ⟨A2, c2, rfl⟩ : ∃ A2 c2, v2 = .slice A2 (bs.length + 1) c2 := by
      rcases ho.2 with ⟨_, h⟩ | ⟨g2, cap, cur, h, _⟩
      · omega
      · exact ⟨_, _, h⟩
    have B2 := Aside0.mk hb
    have P2 := Aside0.mk (show w2.heap[W.heap.size]? = some (.cells #[.slice A bs.length c] 59 (0, 0)) from by
      rw [hg.block W.heap.size (blk_lt P1.out) ?_]
      · exact P1.out
      · intro e
        rcases O1.out.2 with ⟨q, _⟩ | ⟨g2, cap, cur, q, _, hc, _⟩
        · rw [q] at e; simp [Value.ownBlock] at e
        · rw [q] at e
          obtain rfl : W.heap.size = g2 := by simpa [Value.ownBlock] using e
          rw [P1.out] at hc
          injection hc with hc
          injection hc with _ hc
          exact absurd hc (by decide))
    have G2 := Aside0.mk (show GW w2 W.heap.size (bs ++ [g]) F0 from G1.out.kept (fun b hbm => by
      refine hg.block b ?_ ?_
      · obtain ⟨i, h0, h1, e⟩ := mem_blq hbm
        rw [← e]
        exact blk_lt (G1.out.blk i h0 h1)
      · intro e
        rcases O1.out.2 with ⟨q, _⟩ | ⟨g2, cap, cur, q, _, hc, _⟩
        · rw [q] at e; simp [Value.ownBlock] at e
        · rw [q] at e
          obtain rfl : b = g2 := by simpa [Value.ownBlock] using e
          exact G1.out.not_mem hc (by decide) hbm))
    have O2 := Aside0.mk ho
    clear ho hb hg hat
    refine hK.out _ _ ((blk_cell P2.out 0).trans rfl) (fun hHeld => ?_)
    clear hK K
    refine norm_ (a' := ?_) ?_ ?_
    rotate_left
    · show Act.put _ (some 25) _ = _
      simp only [Act.put, List.setIfInBounds_toArray, List.set_cons_zero, List.set_cons_succ, i64_w, i32_w]
      rfl
    refine pure_ (i := 9) (N := some 26) (v := ?_) (a' := ?_) #[true, true, true, true, true, true, true, true, true, true, false, false] rfl rfl (by kernel_rfl) (fun _ _ _ h => h) (Or.inl ⟨by rfl, ?_⟩) ?_ ?_
    rotate_left
    · intro w'
      go_simp
      with_reducible rfl
    rotate_left
    · simp only [Act.put, List.setIfInBounds_toArray, List.set_cons_zero, List.set_cons_succ, i64_w, i32_w]
      rfl
    refine pure_ (i := 10) (N := some 27) (v := ?_) (a' := ?_) #[true, true, true, true, true, true, true, true, true, true, true, false] rfl rfl (by kernel_rfl) (fun _ _ _ h => h) (Or.inl ⟨by rfl, ?_⟩) ?_ ?_
    rotate_left
    · intro w'
      go_simp
      with_reducible rfl
    rotate_left
    · simp only [Act.put, List.setIfInBounds_toArray, List.set_cons_zero, List.set_cons_succ, i64_w, i32_w]
      rfl
    refine last_ (i := 11) (N := none) #[true, true, true, true, true, true, true, true, true, true, true, true] rfl rfl (by kernel_rfl) (by decide) (fun K hK => ?_)
    have hc0 : w2.cell? ⟨W.heap.size, 0, none⟩ = some (.slice A bs.length c) := (blk_cell P2.out 0).trans rfl
    have hz0 := blk_frozen P2.out 0
    refine skip_ (w1 := w2.setCell ⟨W.heap.size, 0, none⟩ (.slice A2 (bs.length + 1) c2)) (by rfl) rfl ?_ ?_
    · first | (go_simp; done) | (go_simp; rfl)
    refine hK.out _ _ ?_
    clear hK K
    refine done_ (by kernel_rfl) ?_
    obtain ⟨w3, hw3⟩ : ∃ w3, w2.setCell ⟨W.heap.size, 0, none⟩ (.slice A2 (bs.length + 1) c2) = w3 := ⟨_, rfl⟩
    rw [hw3]
    have P3 := Aside0.mk (show w3.heap[W.heap.size]? = some (.cells #[.slice A2 (bs.length + 1) c2] 59 (0, 0)) from hw3 ▸ blk_put P2.out 0 _ rfl)
    have B3 := Aside0.mk (show Below W.heap.size W w3 from hw3 ▸ B2.out.setCell (p := ⟨W.heap.size, 0, none⟩) (Nat.le_refl _) _)
    have G3 := Aside0.mk (show GW w3 W.heap.size (bs ++ [g]) F0 from hw3 ▸ G2.out.kept (fun b hbm => Below.heap_setCell w2 _ _ b (fun e => G2.out.not_mem P2.out (by decide) (show W.heap.size ∈ bs ++ [g] from (show b = W.heap.size from e) ▸ hbm))))
    have O3 := Aside0.mk (show w3.ownsRow W.heap.size 47 1 (.slice A2 (bs.length + 1) c2) (bs.length + 1) (bs.map ptr ++ [ptr g]) from hw3 ▸ own_move O2.out (fun k hk => Below.heap_setCell w2 _ _ k (fun e => by
      rcases O2.out.2 with ⟨q, _⟩ | ⟨g2, cap, cur, q, _, hc, _⟩
      · rw [q] at hk; simp [Value.ownBlock] at hk
      · rw [q] at hk
        obtain rfl : g2 = k := by simpa [Value.ownBlock] using hk
        have e2 : g2 = W.heap.size := e
        rw [e2, P2.out] at hc
        injection hc with hc
        injection hc with _ hc
        exact absurd hc (by decide))))
    clear hw3
    go_wp2_with fail
    go_roundg k1
    case measure => omega
    case rel =>
      refine ⟨bs ++ [g], A2, c2, ?_, ⟨?_⟩, B3, ⟨?_, ?_⟩, G3⟩
      · rw [hwi.out, List.length_append, List.length_singleton]
      · rw [List.length_append, List.length_singleton]
        have := HI.out
        omega
      · rw [List.length_append, List.length_singleton]
        exact P3.out
      · rw [List.length_append, List.length_singleton, List.map_append]
        exact O3.out
end Go.Proofs.Ytgamhkhninogeaa.G
