/- Single items: what the law's small functions answer, walked. -/
import Derived.Test.YtgamhkhninogeaaH15
namespace Go.Proofs.Ytgamhkhninogeaa.G
open Go.RowKit Go.Proofs.YtgamhkhninogeaaW.PrintWords Go.Proofs.YtgamhkhninogeaaW.PrintLast Go.Proofs.YtgamhkhninogeaaW.PrintMore
open Go.Proofs.Ytgamhkhninogeaa.Pure (LR Ur Kr ChT SibT place_ref drop_ref new_ref PCase DCase Placed Dropped freeR und_way)
set_option linter.unusedVariables false
set_option linter.unusedSimpArgs false

/-- Five numbers, stored over five numbers. -/
theorem store5 {ops : Array Oper} {rest : List Oper} {o : Oper} {a : Act} {Q : Exit → Act → World → Prop} {W : World} {x : Operand} {p : Tmp} {g : Nat} {c0 c1 c2 c3 c4 : Value} {m1 m2 m3 m4 m5 : Int} (hgd : o.guard = none) (ho : o.op = .store 27 (.tmp p) x) (hN : o.dst = none)
    (hh : W.heap[g]? = some (.cells #[c0, c1, c2, c3, c4] 27 (0, 0))) (hp : a.eval (.tmp p) = .pointer (some ⟨g, 0, none⟩)) (hx : a.eval x = .agg #[.int .i64 m1, .int .i64 m2, .int .i64 m3, .int .i64 m4, .int .i64 m5])
    (h : ∀ w', w'.heap[g]? = some (.cells #[.int .i64 m1, .int .i64 m2, .int .i64 m3, .int .i64 m4, .int .i64 m5] 27 (0, 0)) → (∀ base, base ≤ g → Below base W w') → wpList Try.prog ops Q rest a w') : wpList Try.prog ops Q (o :: rest) a W := by
  refine store_event hgd ho hN (w1 := W.setCells g 0 [.int .i64 m1, .int .i64 m2, .int .i64 m3, .int .i64 m4, .int .i64 m5]) ?_ ?_
  · have hrun := run_store_run (P := Try.prog) 27 (.agg #[.int .i64 m1, .int .i64 m2, .int .i64 m3, .int .i64 m4, .int .i64 m5]) [.int .i64 m1, .int .i64 m2, .int .i64 m3, .int .i64 m4, .int .i64 m5] (o := 0) hh rfl (by kernel_rfl) (by simp) (by intro q hq; simp at hq; rcases hq with rfl | rfl | rfl | rfl | rfl <;> rfl)
    unfold execOp
    simp only [ho, hp, hx, Sem.run_bind, Sem.run_pure, Result.andThen_ok, hrun]
  · rintro w' rfl
    refine h _ (blk_put (blk_put (blk_put (blk_put (blk_put hh 0 _ rfl) 1 _ rfl) 2 _ rfl) 3 _ rfl) 4 _ rfl) (fun base hb => ?_)
    exact (((((Below.refl base W).setCell (p := ⟨g, 0, none⟩) hb _).setCell (p := ⟨g, 1, none⟩) hb _).setCell (p := ⟨g, 2, none⟩) hb _).setCell (p := ⟨g, 3, none⟩) hb _).setCell (p := ⟨g, 4, none⟩) hb _
/-- A row of pointers to items in memory. -/
structure IW (W : World) (base g : Nat) (bs : List Nat) (F : FF) : Prop where
  row : ∃ cs, W.heap[g]? = some (.cells cs 47 (0, 0)) ∧ ∀ x : Int, inP bs.length x → cs[x.toNat]? = some (ptr (blq bs x))
  gw : GW W base bs F
  hg : base ≤ g
theorem IW.at_ {W : World} {base g : Nat} {bs : List Nat} {F : FF} (h : IW W base g bs F) (x : Int) (hx : inP bs.length x) : W.cell? ⟨g, x.toNat, none⟩ = some (ptr (blq bs x)) := by
  obtain ⟨cs, h1, h2⟩ := h.row
  rw [blk_cell h1]
  exact h2 x hx
theorem IW.below {W W' : World} {base g : Nat} {bs : List Nat} {F : FF} (h : IW W base g bs F) (hb : Below W.heap.size W W') : IW W' base g bs F := by
  obtain ⟨⟨cs, h1, h2⟩, h3, h4⟩ := h
  exact ⟨⟨cs, blk_below h1 hb, h2⟩, h3.below hb, h4⟩
theorem IW.kq {W w : World} {base g : Nat} {bs : List Nat} {F F' : FF} (h : IW W base g bs F) (hk : Kq W w bs) (hg : GW w base bs F') : IW w base g bs F' := by
  obtain ⟨⟨cs, h1, h2⟩, h3, h4⟩ := h
  exact ⟨⟨cs, (hk.block g (blk_lt h1) (h3.not_mem h1 (by decide))).trans h1, h2⟩, hg, h4⟩
theorem IW.of_own {W : World} {base : Nat} {bs : List Nat} {F : FF} {v : Value} (hn : 0 < bs.length) (ho : W.ownsRow base 47 1 v bs.length (bs.map ptr)) (hg : GW W base bs F) : ∃ g c, v = .slice (some ⟨g, 0, none⟩) bs.length c ∧ IW W base g bs F := by
  rcases ho.2 with ⟨rfl, h0⟩ | ⟨g, cap, cur, rfl, hge, hcell, hnc, _, hsz, htk⟩
  · omega
  · refine ⟨g, cap, rfl, ⟨cur, hcell, fun x hx => ?_⟩, hg, hge⟩
    have hx1 : x.toNat < bs.length := by have := hx.1; have := hx.2; omega
    have e : (cur.toList.take (bs.length * 1))[x.toNat]? = (bs.map ptr)[x.toNat]? := by rw [htk]
    rw [List.getElem?_take_of_lt (by omega)] at e
    have e2 : cur[x.toNat]? = cur.toList[x.toNat]? := by simp
    rw [e2, e]
    unfold blq
    simp [hx1]
/-- An item's number, or -1 where there is none. -/
def nrm (n : Nat) (x : Int) : Int := if 0 ≤ x ∧ x < n then x else -1
theorem nrm_in {n : Nat} {x : Int} (h : inP n x) : nrm n x = x := by unfold nrm; rw [if_pos ⟨h.1, h.2⟩]
theorem nrm_no {n : Nat} {x : Int} (h : ¬ inP n x) : nrm n x = -1 := by unfold nrm; rw [if_neg (fun q => h ⟨q.1, q.2⟩)]
theorem nrm_lt (n : Nat) (x : Int) (h : 0 < n) : nrm n x < n := by unfold nrm; split <;> omega
set_option maxHeartbeats 4000000 in
set_option maxRecDepth 100000 in
theorem at19 (W : World) (base g c : Nat) (bs : List Nat) (F : FF) (h : IW W base g bs F) (x j : Int) (hj : nrm bs.length x = j) : Calls Try.prog 19 #[.slice (some ⟨g, 0, none⟩) bs.length c, .int .i64 x] W fun e w' => e = .returned (pv bs j) ∧ w' = W := by
  subst hj
  by_cases h0 : x < 0
  · have c0 : decide (x < 0) = true := decide_eq_true h0
    rw [nrm_no (fun q => by have := q.1; omega), pv_neg bs (show (-1 : Int) < 0 by omega)]
    clear h h0
    go_enter Try.func19, Try.ntmps19
    go_wp2_with fail
    refine bodyPost_ret (results_tmp rfl _ _ _) rfl ?_
    exact ⟨rfl, rfl⟩
  have c0 : decide (x < 0) = false := decide_eq_false h0
  by_cases h1 : x < bs.length
  · have c1 : decide ((bs.length : Int) ≤ x) = false := decide_eq_false (by omega)
    have hi := h.at_ x ⟨by omega, h1⟩
    have r0 : 0 ≤ x := by omega
    rw [nrm_in ⟨by omega, h1⟩, pv_pos bs h0]
    clear h h0
    go_enter Try.func19, Try.ntmps19
    go_wp2_with fail
    refine bodyPost_ret (results_tmp rfl _ _ _) rfl ?_
    exact ⟨rfl, rfl⟩
  · have c1 : decide ((bs.length : Int) ≤ x) = true := decide_eq_true (by omega)
    rw [nrm_no (fun q => by have := q.2; omega), pv_neg bs (show (-1 : Int) < 0 by omega)]
    clear h h0 h1
    go_enter Try.func19, Try.ntmps19
    go_wp2_with fail
    refine bodyPost_ret (results_tmp rfl _ _ _) rfl ?_
    exact ⟨rfl, rfl⟩
/-- A link of an item; -1 of none. -/
def lnk (F : FF) (i : Int) (k : Nat) : Int := if i < 0 then -1 else F i k
theorem lnk_lt {W : World} {base : Nat} {bs : List Nat} {F : FF} (h : GW W base bs F) (i : Int) (hi : i < bs.length) (k : Nat) : lnk F i k < bs.length := by
  unfold lnk
  split
  · omega
  · exact h.rng i k (by omega) hi
theorem acc1 (W : World) (base : Nat) (bs : List Nat) (F : FF) (h : GW W base bs F) (i : Int) (hi : i < bs.length) : Calls Try.prog 35 #[pv bs i] W fun e w' => e = .returned (pv bs (lnk F i 1)) ∧ w' = W := by
  unfold lnk
  by_cases h0 : i < 0
  · rw [pv_neg bs h0, if_pos h0, pv_neg bs (show (-1 : Int) < 0 by omega)]
    clear h h0 hi
    go_enter Try.func35, Try.ntmps35
    go_wp2_with fail
    refine bodyPost_ret (results_tmp rfl _ _ _) rfl ?_
    exact ⟨rfl, rfl⟩
  · rw [pv_pos bs h0, if_neg h0]
    have c0 := h.cell i (by omega) hi 1 (by decide)
    obtain ⟨v, hv⟩ : ∃ o, pv bs (F i 1) = .pointer o := ⟨_, rfl⟩
    rw [hv] at c0 ⊢
    clear h h0 hi hv
    go_enter Try.func35, Try.ntmps35
    go_wp2_with fail
    refine bodyPost_ret (results_tmp rfl _ _ _) rfl ?_
    exact ⟨rfl, rfl⟩
theorem acc2 (W : World) (base : Nat) (bs : List Nat) (F : FF) (h : GW W base bs F) (i : Int) (hi : i < bs.length) : Calls Try.prog 36 #[pv bs i] W fun e w' => e = .returned (pv bs (lnk F i 2)) ∧ w' = W := by
  unfold lnk
  by_cases h0 : i < 0
  · rw [pv_neg bs h0, if_pos h0, pv_neg bs (show (-1 : Int) < 0 by omega)]
    clear h h0 hi
    go_enter Try.func36, Try.ntmps36
    go_wp2_with fail
    refine bodyPost_ret (results_tmp rfl _ _ _) rfl ?_
    exact ⟨rfl, rfl⟩
  · rw [pv_pos bs h0, if_neg h0]
    have c0 := h.cell i (by omega) hi 2 (by decide)
    obtain ⟨v, hv⟩ : ∃ o, pv bs (F i 2) = .pointer o := ⟨_, rfl⟩
    rw [hv] at c0 ⊢
    clear h h0 hi hv
    go_enter Try.func36, Try.ntmps36
    go_wp2_with fail
    refine bodyPost_ret (results_tmp rfl _ _ _) rfl ?_
    exact ⟨rfl, rfl⟩
theorem acc3 (W : World) (base : Nat) (bs : List Nat) (F : FF) (h : GW W base bs F) (i : Int) (hi : i < bs.length) : Calls Try.prog 37 #[pv bs i] W fun e w' => e = .returned (pv bs (lnk F i 3)) ∧ w' = W := by
  unfold lnk
  by_cases h0 : i < 0
  · rw [pv_neg bs h0, if_pos h0, pv_neg bs (show (-1 : Int) < 0 by omega)]
    clear h h0 hi
    go_enter Try.func37, Try.ntmps37
    go_wp2_with fail
    refine bodyPost_ret (results_tmp rfl _ _ _) rfl ?_
    exact ⟨rfl, rfl⟩
  · rw [pv_pos bs h0, if_neg h0]
    have c0 := h.cell i (by omega) hi 3 (by decide)
    obtain ⟨v, hv⟩ : ∃ o, pv bs (F i 3) = .pointer o := ⟨_, rfl⟩
    rw [hv] at c0 ⊢
    clear h h0 hi hv
    go_enter Try.func37, Try.ntmps37
    go_wp2_with fail
    refine bodyPost_ret (results_tmp rfl _ _ _) rfl ?_
    exact ⟨rfl, rfl⟩
theorem acc4 (W : World) (base : Nat) (bs : List Nat) (F : FF) (h : GW W base bs F) (i : Int) (hi : i < bs.length) : Calls Try.prog 38 #[pv bs i] W fun e w' => e = .returned (pv bs (lnk F i 4)) ∧ w' = W := by
  unfold lnk
  by_cases h0 : i < 0
  · rw [pv_neg bs h0, if_pos h0, pv_neg bs (show (-1 : Int) < 0 by omega)]
    clear h h0 hi
    go_enter Try.func38, Try.ntmps38
    go_wp2_with fail
    refine bodyPost_ret (results_tmp rfl _ _ _) rfl ?_
    exact ⟨rfl, rfl⟩
  · rw [pv_pos bs h0, if_neg h0]
    have c0 := h.cell i (by omega) hi 4 (by decide)
    obtain ⟨v, hv⟩ : ∃ o, pv bs (F i 4) = .pointer o := ⟨_, rfl⟩
    rw [hv] at c0 ⊢
    clear h h0 hi hv
    go_enter Try.func38, Try.ntmps38
    go_wp2_with fail
    refine bodyPost_ret (results_tmp rfl _ _ _) rfl ?_
    exact ⟨rfl, rfl⟩
theorem acc5 (W : World) (base : Nat) (bs : List Nat) (F : FF) (h : GW W base bs F) (i : Int) (hi : i < bs.length) : Calls Try.prog 39 #[pv bs i] W fun e w' => e = .returned (pv bs (lnk F i 5)) ∧ w' = W := by
  unfold lnk
  by_cases h0 : i < 0
  · rw [pv_neg bs h0, if_pos h0, pv_neg bs (show (-1 : Int) < 0 by omega)]
    clear h h0 hi
    go_enter Try.func39, Try.ntmps39
    go_wp2_with fail
    refine bodyPost_ret (results_tmp rfl _ _ _) rfl ?_
    exact ⟨rfl, rfl⟩
  · rw [pv_pos bs h0, if_neg h0]
    have c0 := h.cell i (by omega) hi 5 (by decide)
    obtain ⟨v, hv⟩ : ∃ o, pv bs (F i 5) = .pointer o := ⟨_, rfl⟩
    rw [hv] at c0 ⊢
    clear h h0 hi hv
    go_enter Try.func39, Try.ntmps39
    go_wp2_with fail
    refine bodyPost_ret (results_tmp rfl _ _ _) rfl ?_
    exact ⟨rfl, rfl⟩
theorem Mark24 (W : World) (base : Nat) (bs : List Nat) (F : FF) (h : GW W base bs F) (v : Int) (hv : v < bs.length) : Calls Try.prog 24 #[pv bs v] W fun e w' => e = .returned (.int .i64 (if v < 0 then 0 else v)) ∧ w' = W := by
  by_cases h0 : v < 0
  · rw [pv_neg bs h0, if_pos h0]
    clear h h0 hv
    go_enter Try.func24, Try.ntmps24
    go_wp2_with fail
    refine bodyPost_ret (results_tmp rfl _ _ _) rfl ?_
    exact ⟨rfl, rfl⟩
  · rw [pv_pos bs h0, if_neg h0]
    have c0 := h.mark v (by omega) hv
    clear h h0 hv
    go_enter Try.func24, Try.ntmps24
    go_wp2_with fail
    refine bodyPost_ret (results_tmp rfl _ _ _) rfl ?_
    exact ⟨rfl, rfl⟩
theorem mark34 (W : World) (base : Nat) (bs : List Nat) (F : FF) (h : GW W base bs F) (v : Int) (hv : v < bs.length) : Calls Try.prog 34 #[pv bs v] W fun e w' => e = .returned (.int .i64 (num v)) ∧ w' = W := by
  unfold num
  by_cases h0 : v < 0
  · rw [pv_neg bs h0, if_pos h0]
    clear h h0 hv
    go_enter Try.func34, Try.ntmps34
    go_wp2_with fail
    refine bodyPost_ret (results_tmp rfl _ _ _) rfl ?_
    exact ⟨rfl, rfl⟩
  · have HM := Aside0.mk (Mark24 W base bs F h v hv)
    rw [if_neg h0] at HM ⊢
    rw [pv_pos bs h0] at HM ⊢
    clear h h0 hv
    go_enter Try.func34, Try.ntmps34
    go_wp2_with (go_at_call 24; refine HM.out.mono ?_; rintro e w9 ⟨rfl, hw⟩; rw [hw]; clear hw w9)
    refine bodyPost_ret (results_tmp rfl _ _ _) rfl ?_
    exact ⟨rfl, rfl⟩
set_option maxHeartbeats 4000000 in
set_option maxRecDepth 100000 in
theorem five22 (W : World) (base : Nat) (bs : List Nat) (F : FF) (h : GW W base bs F) (i : Int) (hi : i < bs.length) :
    Calls Try.prog 22 #[pv bs i] W fun e w' => e = .returned (.agg #[.int .i64 (num (lnk F i 1)), .int .i64 (num (lnk F i 2)), .int .i64 (num (lnk F i 3)), .int .i64 (num (lnk F i 4)), .int .i64 (num (lnk F i 5))]) ∧ Below W.heap.size W w' := by
  obtain ⟨w1, hw1⟩ : ∃ w1, W.alloc (.cells #[.int .i64 0, .int .i64 0, .int .i64 0, .int .i64 0, .int .i64 0] 27) = w1 := ⟨_, rfl⟩
  have X1 := Aside0.mk (show w1.heap[W.heap.size]? = some (.cells #[.int .i64 0, .int .i64 0, .int .i64 0, .int .i64 0, .int .i64 0] 27 (0, 0)) from hw1 ▸ heap_alloc_new W _)
  have B1 := Aside0.mk (show Below W.heap.size W w1 from hw1 ▸ below_alloc (Below.refl _ W) _)
  have HG := Aside0.mk (h.below (hw1 ▸ below_alloc (Below.refl _ W) _ : Below W.heap.size W w1))
  have HI := Aside0.mk hi
  have HA1 := Aside0.mk (acc1 w1 base bs F HG.out i hi)
  have HM1 := Aside0.mk (mark34 w1 base bs F HG.out (lnk F i 1) (lnk_lt HG.out i hi 1))
  obtain ⟨m1, hm1⟩ : ∃ m, num (lnk F i 1) = m := ⟨_, rfl⟩
  obtain ⟨v1, hv1⟩ : ∃ v, pv bs (lnk F i 1) = v := ⟨_, rfl⟩
  rw [hm1] at HM1 ⊢
  rw [hv1] at HM1 HA1
  clear hm1 hv1
  have HA2 := Aside0.mk (acc2 w1 base bs F HG.out i hi)
  have HM2 := Aside0.mk (mark34 w1 base bs F HG.out (lnk F i 2) (lnk_lt HG.out i hi 2))
  obtain ⟨m2, hm2⟩ : ∃ m, num (lnk F i 2) = m := ⟨_, rfl⟩
  obtain ⟨v2, hv2⟩ : ∃ v, pv bs (lnk F i 2) = v := ⟨_, rfl⟩
  rw [hm2] at HM2 ⊢
  rw [hv2] at HM2 HA2
  clear hm2 hv2
  have HA3 := Aside0.mk (acc3 w1 base bs F HG.out i hi)
  have HM3 := Aside0.mk (mark34 w1 base bs F HG.out (lnk F i 3) (lnk_lt HG.out i hi 3))
  obtain ⟨m3, hm3⟩ : ∃ m, num (lnk F i 3) = m := ⟨_, rfl⟩
  obtain ⟨v3, hv3⟩ : ∃ v, pv bs (lnk F i 3) = v := ⟨_, rfl⟩
  rw [hm3] at HM3 ⊢
  rw [hv3] at HM3 HA3
  clear hm3 hv3
  have HA4 := Aside0.mk (acc4 w1 base bs F HG.out i hi)
  have HM4 := Aside0.mk (mark34 w1 base bs F HG.out (lnk F i 4) (lnk_lt HG.out i hi 4))
  obtain ⟨m4, hm4⟩ : ∃ m, num (lnk F i 4) = m := ⟨_, rfl⟩
  obtain ⟨v4, hv4⟩ : ∃ v, pv bs (lnk F i 4) = v := ⟨_, rfl⟩
  rw [hm4] at HM4 ⊢
  rw [hv4] at HM4 HA4
  clear hm4 hv4
  have HA5 := Aside0.mk (acc5 w1 base bs F HG.out i hi)
  have HM5 := Aside0.mk (mark34 w1 base bs F HG.out (lnk F i 5) (lnk_lt HG.out i hi 5))
  obtain ⟨m5, hm5⟩ : ∃ m, num (lnk F i 5) = m := ⟨_, rfl⟩
  obtain ⟨v5, hv5⟩ : ∃ v, pv bs (lnk F i 5) = v := ⟨_, rfl⟩
  rw [hm5] at HM5 ⊢
  rw [hv5] at HM5 HA5
  clear hm5 hv5
  obtain ⟨v, hv⟩ : ∃ v, pv bs i = v := ⟨_, rfl⟩
  rw [hv] at HA1 HA2 HA3 HA4 HA5 ⊢
  clear h hi hv
  have hz : w1.frozen? ⟨W.heap.size, 0, none⟩ = false := blk_frozen X1.out 0
  go_enter Try.func22, Try.ntmps22
  go_upto_region 1 with fail
  clear hw1
  go_wp2_with (first | (go_at_call 35; refine HA1.out.mono ?_; rintro e w9 ⟨rfl, hw⟩; rw [hw]; clear hw w9 HA1) | (go_at_call 36; refine HA2.out.mono ?_; rintro e w9 ⟨rfl, hw⟩; rw [hw]; clear hw w9 HA2) | (go_at_call 37; refine HA3.out.mono ?_; rintro e w9 ⟨rfl, hw⟩; rw [hw]; clear hw w9 HA3) | (go_at_call 38; refine HA4.out.mono ?_; rintro e w9 ⟨rfl, hw⟩; rw [hw]; clear hw w9 HA4) | (go_at_call 39; refine HA5.out.mono ?_; rintro e w9 ⟨rfl, hw⟩; rw [hw]; clear hw w9 HA5) | (go_at_call 34; refine HM1.out.mono ?_; rintro e w9 ⟨rfl, hw⟩; rw [hw]; clear hw w9 HM1) | (go_at_call 34; refine HM2.out.mono ?_; rintro e w9 ⟨rfl, hw⟩; rw [hw]; clear hw w9 HM2) | (go_at_call 34; refine HM3.out.mono ?_; rintro e w9 ⟨rfl, hw⟩; rw [hw]; clear hw w9 HM3) | (go_at_call 34; refine HM4.out.mono ?_; rintro e w9 ⟨rfl, hw⟩; rw [hw]; clear hw w9 HM4) | (go_at_call 34; refine HM5.out.mono ?_; rintro e w9 ⟨rfl, hw⟩; rw [hw]; clear hw w9 HM5) | ((with_reducible refine gate_store (t := 27) (p := 2) rfl ?_); refine store5 (by rfl) (by rfl) (by rfl) X1.out (by rfl) (by rfl) ?_; intro w2 hx hb; have X2 := Aside0.mk hx; have B2 := Aside0.mk hb; clear hx hb hz))
  refine bodyPost_ret (results_cell_row rfl _ _ W.heap.size 27 #[.int .i64 m1, .int .i64 m2, .int .i64 m3, .int .i64 m4, .int .i64 m5] (0, 0) _ rfl X2.out Try.underlying27 rfl (by kernel_rfl)) rfl ?_
  exact ⟨rfl, B1.out.trans (B2.out _ (Nat.le_refl _))⟩
end Go.Proofs.Ytgamhkhninogeaa.G
