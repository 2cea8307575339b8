/- The law LinksItems walked: it returns true. -/
import Derived.Test.YtgamhkhninogeaaH17
namespace Go.Proofs.Ytgamhkhninogeaa.G
open Go.RowKit Go.Proofs.YtgamhkhninogeaaW.PrintWords Go.Proofs.YtgamhkhninogeaaW.PrintLast Go.Proofs.YtgamhkhninogeaaW.PrintMore
open Go.Proofs.Ytgamhkhninogeaa.Pure (LR Ur Kr Way ChT SibT place_ref drop_ref new_ref under_ev PCase DCase Placed Dropped freeR und_way)
set_option linter.unusedVariables false
set_option linter.unusedSimpArgs false
attribute [local go_sem high] eqA27

theorem GW.make {W w1 : World} {base g : Nat} {bs : List Nat} (h : GW W base bs F0) (hb : Below W.heap.size W w1) (hge : W.heap.size ≤ g) (hbase : base ≤ W.heap.size) (hg : w1.heap[g]? = some (.cells #[.int .i64 bs.length, .pointer none, .pointer none, .pointer none, .pointer none, .pointer none] 63 (0, 0))) : GW w1 base (bs ++ [g]) F0 := by
  refine (h.below hb).snoc (Nat.le_trans hbase hge) (fun hm => ?_) hg
  obtain ⟨i, h0, h1, e⟩ := mem_blq hm
  have := blk_lt (h.blk i h0 h1)
  rw [e] at this
  omega
theorem GW.app {W w : World} {base n : Nat} {bs : List Nat} {F : FF} {v : Value} {xs : List Value} (h : GW W base bs F) (ho : W.ownsRow base 47 1 v n xs) (hg : W.grownBy w v.ownBlock) : GW w base bs F :=
  h.kept (fun b hbm => by
    refine hg.block b ?_ ?_
    · obtain ⟨i, h0, h1, e⟩ := mem_blq hbm
      rw [← e]
      exact blk_lt (h.blk i h0 h1)
    · intro e
      rcases ho.2 with ⟨q, _⟩ | ⟨g2, cap, cur, q, _, hc, _⟩
      · rw [q] at e; simp [Value.ownBlock] at e
      · rw [q] at e
        obtain rfl : b = g2 := by simpa [Value.ownBlock] using e
        exact h.not_mem hc (by decide) hbm)
theorem ISx.at_in {W w : World} {g c : Nat} {bs : List Nat} {v : Value} {r rp : List S65} (h : ISx W w g bs v r rp) (x : Int) (hx : inP bs.length x) : Calls Try.prog 19 #[.slice (some ⟨g, 0, none⟩) bs.length c, .int .i64 x] w fun e w' => e = .returned (.pointer (some ⟨blq bs x, 0, none⟩)) ∧ w' = w := by
  have q := h.at_ (c := c) x x (nrm_in hx)
  rw [pv_pos bs (show ¬ x < 0 by have := hx.1; omega)] at q
  exact q
theorem ISx.at_no {W w : World} {g c : Nat} {bs : List Nat} {v : Value} {r rp : List S65} (h : ISx W w g bs v r rp) (x : Int) (hx : ¬ inP bs.length x) : Calls Try.prog 19 #[.slice (some ⟨g, 0, none⟩) bs.length c, .int .i64 x] w fun e w' => e = .returned (.pointer none) ∧ w' = w := by
  have q := h.at_ (c := c) x (-1) (nrm_no hx)
  rw [pv_neg bs (show (-1 : Int) < 0 by omega)] at q
  exact q
theorem ISx.place_any {W w : World} {g : Nat} {bs : List Nat} {v : Value} {r : List S65} (h : ISx W w g bs v r r) (x up b : Int) : ∃ r' c, ((¬ inP bs.length up ∨ ¬ inP bs.length x) ∧ r' = r ∧ c = 1 ∨ inP bs.length up ∧ inP bs.length x ∧ ∃ k, tendrilref19_Place.f k r x up (nrm bs.length b) = some (r', c)) ∧
    ∀ w2, ISx W w2 g bs v r r → ∀ q o, w2.heap[q]? = some o → q ∉ bs → Calls Try.prog 21 #[pv bs (nrm bs.length up), pv bs (nrm bs.length x), pv bs (nrm bs.length b)] w2 fun e w' => e = .returned (.int .i64 c) ∧ ISx W w' g bs v r r' ∧ w'.heap[q]? = some o := by
  by_cases hu : inP bs.length up
  · by_cases hx : inP bs.length x
    · obtain ⟨r', c, k, hk, hc, hl⟩ := h.next_place x up (nrm bs.length b)
      refine ⟨r', c, .inr ⟨hu, hx, k, hk⟩, fun w2 h2 q o hq hn => ?_⟩
      rw [nrm_in hu, nrm_in hx]
      refine h2.place x up _ hx hu ?_ r' c hc hq hn
      by_cases hb : inP bs.length b
      · rw [nrm_in hb]; exact .inr hb
      · rw [nrm_no hb]; exact .inl rfl
    · refine ⟨r, 1, .inl ⟨.inr hx, rfl, rfl⟩, fun w2 h2 q o hq hn => ?_⟩
      rw [nrm_in hu, nrm_no hx, pv_pos bs (show ¬ up < 0 by have := hu.1; omega), pv_neg bs (show (-1 : Int) < 0 by omega)]
      refine (Place_nil2 w2 _ _).mono ?_
      rintro e w' ⟨he, rfl⟩
      exact ⟨he, h2, hq⟩
  · refine ⟨r, 1, .inl ⟨.inl hu, rfl, rfl⟩, fun w2 h2 q o hq hn => ?_⟩
    rw [nrm_no hu, pv_neg bs (show (-1 : Int) < 0 by omega)]
    refine (Place_nil1 w2 _ _).mono ?_
    rintro e w' ⟨he, rfl⟩
    exact ⟨he, h2, hq⟩
theorem ISx.drop_in {W w : World} {g : Nat} {bs : List Nat} {v : Value} {r rp : List S65} (h : ISx W w g bs v r rp) (x : Int) (hx : inP bs.length x) (r' : List S65) (c : Int) (hc : DCase rp x r' c) (hl : r'.length = bs.length) {q : Nat} {o : Obj} (hq : w.heap[q]? = some o) (hn : q ∉ bs) :
    Calls Try.prog 20 #[.pointer (some ⟨blq bs x, 0, none⟩)] w fun e w' => e = .returned (.int .i64 c) ∧ ISx W w' g bs v r r' ∧ w'.heap[q]? = some o := by
  have q := h.drop x hx r' c hc hl hq hn
  rw [pv_pos bs (show ¬ x < 0 by have := hx.1; omega)] at q
  exact q
theorem ISx.cell {W w : World} {g : Nat} {bs : List Nat} {v : Value} {r rp : List S65} (h : ISx W w g bs v r rp) (i : Nat) (hi : i < bs.length) : w.cell? ⟨g, i, none⟩ = some (.pointer (some ⟨blq bs (i : Int), 0, none⟩)) := by
  obtain ⟨F, h2, h3⟩ := h.iw
  have q := h2.at_ (i : Int) ⟨by omega, by omega⟩
  rw [Int.toNat_natCast] at q
  exact q
theorem ISx.mark {W w : World} {g : Nat} {bs : List Nat} {v : Value} {r rp : List S65} (h : ISx W w g bs v r rp) (i : Int) (hi : inP bs.length i) : Calls Try.prog 24 #[.pointer (some ⟨blq bs i, 0, none⟩)] w fun e w' => e = .returned (.int .i64 i) ∧ w' = w := by
  obtain ⟨F, h2, h3⟩ := h.iw
  have q := Mark24 w W.heap.size bs F h2.gw i hi.2
  rw [pv_pos bs (show ¬ i < 0 by have := hi.1; omega), if_neg (show ¬ i < 0 by have := hi.1; omega)] at q
  exact q
theorem ISx.nil_five {W w : World} {g : Nat} {bs : List Nat} {v : Value} {r rp : List S65} (h : ISx W w g bs v r rp) : Calls Try.prog 22 #[.pointer none] w fun e w' => e = .returned (A5 (-1) (-1) (-1) (-1) (-1)) ∧ Below w.heap.size w w' := by
  obtain ⟨F, h2, h3⟩ := h.iw
  have q := five22 w W.heap.size bs F h2.gw (-1) (by omega)
  rw [pv_neg bs (show (-1 : Int) < 0 by omega)] at q
  exact q
theorem ISx.nil_mark {W w : World} {g : Nat} {bs : List Nat} {v : Value} {r rp : List S65} (h : ISx W w g bs v r rp) : Calls Try.prog 24 #[.pointer none] w fun e w' => e = .returned (.int .i64 0) ∧ w' = w := by
  obtain ⟨F, h2, h3⟩ := h.iw
  have q := Mark24 w W.heap.size bs F h2.gw (-1) (by omega)
  rw [pv_neg bs (show (-1 : Int) < 0 by omega)] at q
  exact q
theorem ISx.nil_under {W w : World} {g : Nat} {bs : List Nat} {v : Value} {r rp : List S65} (h : ISx W w g bs v r rp) (y : Int) (hy : inP bs.length y) : Calls Try.prog 25 #[.pointer none, .pointer (some ⟨blq bs y, 0, none⟩)] w fun e w' => e = .returned (.bool false) ∧ w' = w := by
  obtain ⟨F, h2, h3⟩ := h.iw
  have q := Under w W.heap.size bs F h2.gw 0 (-1) y (by omega) hy.1 hy.2 (show (-1 : Int) < 0 by omega) false rfl
  rw [pv_neg bs (show (-1 : Int) < 0 by omega), pv_pos bs (show ¬ y < 0 by have := hy.1; omega)] at q
  exact q
theorem ISx.under_in {W w : World} {g : Nat} {bs : List Nat} {v : Value} {r : List S65} (h : ISx W w g bs v r r) (x y : Int) (hx : inP bs.length x) (hy : inP bs.length y) : ∃ b, ∀ w', Below w.heap.size w w' → (Calls Try.prog 25 #[.pointer (some ⟨blq bs x, 0, none⟩), .pointer (some ⟨blq bs y, 0, none⟩)] w' fun e w'' => e = .returned (.bool b) ∧ w'' = w') ∧
    Calls Try.prog 26 #[v, .int .i64 x, .int .i64 y] w' fun e w'' => e = .returned (.bool b) ∧ Below w'.heap.size w' w'' := by
  obtain ⟨F, hP, hL⟩ := h.iw
  obtain ⟨l, q1, q2, q3⟩ := hL.st.way1 x hx.1 (by rw [h.len]; exact hx.2)
  have f1 : ∀ a ∈ x :: l, F a 1 = Ur r a := fun a ha => (hL.lk a (q2 a ha).1 (q2 a ha).2).1
  have uw := und_way F (Ur r) y (x :: l) x q1 f1
  obtain ⟨k, hk⟩ := (under_ev r y (x :: l) x q1 q2).ex
  refine ⟨decide (y ∈ x :: l), fun w' hb => ⟨?_, ?_⟩⟩
  · have q := Under w' W.heap.size bs F (hP.below hb).gw _ x y hx.2 hy.1 hy.2 uw.1 _ uw.2
    rw [pv_pos bs (show ¬ x < 0 by have := hx.1; omega), pv_pos bs (show ¬ y < 0 by have := hy.1; omega)] at q
    exact q
  · obtain ⟨A, c0, rfl⟩ := Kd.V_slice h.rv
    have q := Kd.V_reads' h.rv
    refine (tendrilref19_Under.calls k A c0 r x y _ w' (Kd.C_below q.2.2 hb) q.2.1 hk).mono ?_
    rintro e w'' ⟨he, ⟨nd, rfl⟩⟩
    exact ⟨he, pw_below_drewN (Below.refl _ _) nd⟩
theorem ISx.five_in {W w : World} {g : Nat} {bs : List Nat} {v : Value} {r : List S65} (h : ISx W w g bs v r r) (i : Int) (hi : inP bs.length i) : ∃ v1 v2 v3 v4 v5, (∀ w', Below w.heap.size w w' → Calls Try.prog 22 #[.pointer (some ⟨blq bs i, 0, none⟩)] w' fun e w'' => e = .returned (A5 v1 v2 v3 v4 v5) ∧ Below w'.heap.size w' w'') ∧
    (∀ w', Below w.heap.size w w' → Calls Try.prog 23 #[v, .int .i64 i] w' fun e w'' => e = .returned (A5 v1 v2 v3 v4 v5) ∧ Below w'.heap.size w' w'') := by
  obtain ⟨v1, v2, v3, v4, v5, q1, q2⟩ := h.five i hi
  rw [pv_pos bs (show ¬ i < 0 by have := hi.1; omega)] at q1
  exact ⟨v1, v2, v3, v4, v5, q1, q2⟩

set_option maxHeartbeats 16000000 in
set_option maxRecDepth 100000 in
/-- An item is dropped, or placed: one round. -/
theorem items_in (W0 : World) (n : Nat) (A : Option Addr) (c : Nat) (l : List S39) (hn : n ≤ 30) (hn1 : 1 ≤ n) (hC : Kd.C k39 W0 A l.length l) (hl : l.length ≤ 60) :
    Calls Try.prog 5 #[.int .i64 (n : Int), .slice A l.length c] W0 fun e w' => e = .returned (.bool true) ∧ Below W0.heap.size W0 w' := by
  have HC := Aside0.mk hC
  have HN := Aside0.mk (And.intro hn hn1)
  have HL := Aside0.mk hl
  have n0 : decide ((n : Int) < 1) = false := decide_eq_false (by omega)
  have n1 : decide ((30 : Int) < (n : Int)) = false := decide_eq_false (by omega)
  have n3 : decide ((60 : Int) < (l.length : Int)) = false := decide_eq_false (by omega)
  clear hC hn hl hn1
  go_enter Try.func5, Try.ntmps5
  go_wp2_with fail
  clear n0 n1 n3
  go_loopg [5, 30] n (fun kq v5 v30 w => ∃ (bs : List Nat) (A : Option Addr) (c : Nat), v5 = .slice A bs.length c ∧ v30 = .int .i64 (bs.length : Int) ∧ Aside0 (bs.length + kq = n) ∧ Aside0 (Below W0.heap.size W0 w) ∧ Aside0 (w.ownsRow W0.heap.size 47 1 (.slice A bs.length c) bs.length (bs.map ptr)) ∧ Aside0 (GW w W0.heap.size bs F0))
  case atStart => exact ⟨[], none, 0, rfl, rfl, ⟨by simp⟩, ⟨Below.refl _ _⟩, ⟨own_nil _ _ _ _⟩, ⟨GW.nil _ _⟩⟩
  case round =>
  obtain ⟨bs, A1, c1, rfl, rfl, HI, HB, HR, HG⟩ := hrel
  cases gk with
  | succ k1 =>
    have hlt : bs.length < n := by have := HI.out; omega
    have hwi : Aside0 (wrap64 ((bs.length : Int) + 1) = ((bs.length + 1 : Nat) : Int)) := ⟨by have := HN.out; have := HI.out; unfold wrap64; omega⟩
    go_wp2_with (first | (go_at_call 18; refine (Make wr bs.length).mono ?_; rintro e w1 ⟨g, rfl, hge, hb, hg⟩; have B1 := Aside0.mk (HB.out.trans (hb.mono HB.out.size)); have O1 := Aside0.mk (show w1.ownsRow W0.heap.size 47 1 (.slice A1 bs.length c1) bs.length (bs.map ptr) from pw_own_below HR.out hb); have G1 := Aside0.mk (HG.out.make hb hge HB.out.size hg); clear hb hg hge) | ((with_reducible refine gate_dst (N := 37) rfl ?_); refine print_append_cells (w0 := W0) (W := w1) W0.heap.size (by rfl) (.tmp 33) (.tmp 36) 46 47 (.pointer none) 1 8 rfl Try.underlying46 info47 rfl (by decide) (by decide) (.slice A1 bs.length c1) bs.length (bs.map ptr) [ptr g] rfl rfl rfl (by intro u hu; simp at hu; subst hu; rfl) O1.out B1.out B1.out.size (by have := HI.out; have := HN.out; omega) ?_; intro v2 w2 ho hb hg hat; have B2 := Aside0.mk hb; have O2 := Aside0.mk ho; have G2 := Aside0.mk (G1.out.app O1.out hg); clear ho hb hg hat))
    go_roundg k1
    case measure => omega
    case rel =>
      obtain ⟨A2, c2, rfl⟩ : ∃ A2 c2, v2 = .slice A2 (bs.length + 1) c2 := by
        rcases O2.out.2 with ⟨_, h⟩ | ⟨g2, cap, cur, h, _⟩
        · omega
        · exact ⟨_, _, h⟩
      refine ⟨bs ++ [g], A2, c2, ?_, ?_, ⟨?_⟩, B2, ⟨?_⟩, G2⟩
      · rw [List.length_append, List.length_singleton]
      · rw [hwi.out, List.length_append, List.length_singleton]
      · rw [List.length_append, List.length_singleton]
        have := HI.out
        omega
      · rw [List.length_append, List.length_singleton, List.map_append]
        exact O2.out
  | zero =>
    have hlt : ¬ bs.length < n := by have := HI.out; omega
    have HLn := Aside0.mk (show bs.length = n by have := HI.out; omega)
    obtain ⟨g, cg, hv, hIW⟩ := IW.of_own (by have := HN.out; have := HLn.out; omega) HR.out HG.out
    rw [hv]
    have HIW := Aside0.mk hIW
    clear HR HG hv hIW
    go_upto_region 10 with (go_at_call 14; refine (refNew wr n (by have := HN.out; omega)).mono ?_; rintro e w2 ⟨v8, rfl, hS, hb⟩; have S2 := Aside0.mk (ISx.start HN.out.1 HLn.out HB.out HIW.out hS hb); clear hS hb)
    clear HIW HB hlt A1 c1
    go_wp2_with fail
    go_loopg [7, 43] l.length (fun kq v7 v43 w => ∃ (i : Nat) (r : List S65), v43 = .int .i64 (i : Int) ∧ Aside0 (i + kq = l.length) ∧ Aside0 (ISx W0 w g bs v7 r r))
    case atStart => exact ⟨0, _, rfl, ⟨by omega⟩, S2⟩
    case round =>
    clear S2
    obtain ⟨v, hv⟩ : ∃ v, u7 = v := ⟨_, rfl⟩
    subst hv
    obtain ⟨i, r, rfl, HI2, HS⟩ := hrel
    cases gk with
    | succ k1 =>
      have hlt : i < l.length := by have := HI2.out; omega
      have HIL := Aside0.mk hlt
      obtain ⟨x, hx⟩ : ∃ x, rd_T39 l (i : Int) = x := ⟨_, rfl⟩
      obtain ⟨ad, rfl, t0, t1, t2, t3⟩ := act39 (Kd.C_below HC.out HS.out.b) i hlt
      rw [hx] at t0 t1 t2 t3
      have hwi : Aside0 (wrap64 ((i : Int) + 1) = ((i + 1 : Nat) : Int)) := ⟨by have := HL.out; have := HI2.out; unfold wrap64; omega⟩
      clear hx
      go_upto_region 14 with fail
      obtain ⟨b9, hb9⟩ : ∃ g, wr.heap.size = g := ⟨_, rfl⟩
      obtain ⟨w1', hw1⟩ : ∃ w1', wr.alloc (.cells #[.bool x.f0, .int .i64 x.f1, .int .i64 x.f2, .int .i64 x.f3] 39) = w1' := ⟨_, rfl⟩
      rw [hw1, hb9]
      have X1 := Aside0.mk (show w1'.heap[b9]? = some (.cells #[.bool x.f0, .int .i64 x.f1, .int .i64 x.f2, .int .i64 x.f3] 39 (0, 0)) from by rw [← hw1, ← hb9]; exact heap_alloc_new wr _)
      have S1 := Aside0.mk (show ISx W0 w1' g bs u7 r r from hw1 ▸ HS.out.below (below_alloc (Below.refl _ wr) _))
      have y0 : w1'.cell? ⟨b9, 0, none⟩ = some (.bool x.f0) := (blk_cell X1.out 0).trans rfl
      have HBk := Aside0.mk (show b9 ∉ bs from by
        obtain ⟨F, hP, _⟩ := S1.out.iw
        exact hP.gw.not_mem X1.out (by decide))
      clear t0 t1 t2 t3 hw1 hb9
      cases hf : x.f0 with
      | true =>
        rw [hf] at y0
        have y1 : w1'.cell? ⟨b9, 1, none⟩ = some (.int .i64 x.f1) := (blk_cell X1.out 1).trans rfl
        by_cases hX : inP bs.length x.f1
        · have HX := Aside0.mk hX
          clear hX
          obtain ⟨r', cc, kk, hk, hc, hl⟩ := S1.out.next_drop x.f1
          have HCs := Aside0.mk (And.intro hc hl)
          have HK := Aside0.mk hk
          have zc : (cc != cc) = false := bne_self_eq_false cc
          clear hk hc hl
          go_upto_region 19 with (first | (go_at_call 19; (with_reducible refine (S1.out.at_in x.f1 HX.out).mono ?_); rintro e w9 ⟨rfl, hw⟩; rw [hw]; clear hw w9) | (go_at_call 20; (with_reducible refine (S1.out.drop_in x.f1 HX.out r' cc HCs.out.1 HCs.out.2 X1.out HBk.out).mono ?_); rintro e w3 ⟨rfl, hS, hX⟩; have S3 := Aside0.mk hS; have X3 := Aside0.mk hX; clear hS hX y0 y1))
          have y1 : w3.cell? ⟨b9, 1, none⟩ = some (.int .i64 x.f1) := (blk_cell X3.out 1).trans rfl
          go_wp2_with (first | (go_at_call 19; (with_reducible refine (S3.out.at_in x.f1 HX.out).mono ?_); rintro e w9 ⟨rfl, hw⟩; rw [hw]; clear hw w9) | (go_at_call 15; (with_reducible refine (S3.out.rdrop x.f1 cc kk HK.out).mono ?_); rintro e w4 ⟨v', rfl, hS⟩; have S4 := Aside0.mk hS; clear hS y1))
          go_roundg k1
          case measure => omega
          case rel => exact ⟨i + 1, r', by rw [hwi.out], ⟨by have := HI2.out; omega⟩, S4⟩
        · have HX := Aside0.mk hX
          clear hX
          go_wp2_with (first | (go_at_call 19; (with_reducible refine (S1.out.at_no x.f1 HX.out).mono ?_); rintro e w9 ⟨rfl, hw⟩; rw [hw]; clear hw w9) | (go_at_call 20; refine (Drop_nil _).mono ?_; rintro e w9 ⟨rfl, hw⟩; rw [hw]; clear hw w9))
          go_roundg k1
          case measure => omega
          case rel => exact ⟨i + 1, r, by rw [hwi.out], ⟨by have := HI2.out; omega⟩, S1⟩
      | false =>
        rw [hf] at y0
        have y1 : w1'.cell? ⟨b9, 1, none⟩ = some (.int .i64 x.f1) := (blk_cell X1.out 1).trans rfl
        have y2 : w1'.cell? ⟨b9, 2, none⟩ = some (.int .i64 x.f2) := (blk_cell X1.out 2).trans rfl
        have y3 : w1'.cell? ⟨b9, 3, none⟩ = some (.int .i64 x.f3) := (blk_cell X1.out 3).trans rfl
        obtain ⟨r', cc, hcase, hpl⟩ := S1.out.place_any x.f1 x.f2 x.f3
        have HCA := Aside0.mk hcase
        obtain ⟨p1, hp1⟩ : ∃ p, pv bs (nrm bs.length x.f1) = p := ⟨_, rfl⟩
        have HA1 := Aside0.mk (fun (w2 : World) (h2 : ISx W0 w2 g bs u7 r r) => h2.at_ (c := cg) x.f1 _ rfl)
        rw [hp1] at HA1 hpl
        obtain ⟨p2, hp2⟩ : ∃ p, pv bs (nrm bs.length x.f2) = p := ⟨_, rfl⟩
        have HA2 := Aside0.mk (fun (w2 : World) (h2 : ISx W0 w2 g bs u7 r r) => h2.at_ (c := cg) x.f2 _ rfl)
        rw [hp2] at HA2 hpl
        obtain ⟨p3, hp3⟩ : ∃ p, pv bs (nrm bs.length x.f3) = p := ⟨_, rfl⟩
        have HA3 := Aside0.mk (fun (w2 : World) (h2 : ISx W0 w2 g bs u7 r r) => h2.at_ (c := cg) x.f3 _ rfl)
        rw [hp3] at HA3 hpl
        have HPL := Aside0.mk hpl
        clear hcase hpl hp1 hp2 hp3
        go_upto_region 21 with fail
        clear y0
        refine start_ (n := 14) (S := (fun w' => w'.cell? ⟨b9, 1, none⟩ = some (.int .i64 x.f1) ∧ w'.cell? ⟨b9, 2, none⟩ = some (.int .i64 x.f2) ∧ w'.cell? ⟨b9, 3, none⟩ = some (.int .i64 x.f3))) (ds := [12]) #[false, false, false, false, false, false, false, false, false, false, false, false, false, false] (by kernel_rfl) rfl rfl ?_ ?_
        · exact ⟨y1, y2, y3⟩
        intro hHeld
        clear y1 y2 y3; have X1 := Aside0.mk (show w1'.drew.heap[b9]? = some (.cells #[.bool x.f0, .int .i64 x.f1, .int .i64 x.f2, .int .i64 x.f3] 39 (0, 0)) from X1.out); have S1 := Aside0.mk (show ISx W0 w1'.drew g bs u7 r r from S1.out.below (Below.refl _ w1').drew); generalize w1'.drew = w3 at X1 S1 hHeld ⊢; have hH := hHeld; obtain ⟨y1, y2, y3⟩ := hH
        refine pure_ (i := 0) (N := some 70) (v := ?_) (a' := ?_) #[true, false, false, false, false, false, false, false, false, false, false, false, false, false] rfl rfl (by kernel_rfl) (fun _ _ _ h => h) (Or.inl ⟨by rfl, ?_⟩) ?_ ?_
        rotate_left
        · intro w'
          go_simp
          with_reducible rfl
        rotate_left
        · simp only [Act.put, List.setIfInBounds_toArray, List.set_cons_zero, List.set_cons_succ, i64_w, i32_w]
          rfl
        refine pure_ (i := 1) (N := some 71) (v := ?_) (a' := ?_) #[true, true, false, false, false, false, false, false, false, false, false, false, false, false] rfl rfl (by kernel_rfl) (fun _ _ _ h => h) (Or.inl ⟨by rfl, ?_⟩) ?_ ?_
        rotate_left
        · intro w'
          go_simp
          with_reducible rfl
        rotate_left
        · simp only [Act.put, List.setIfInBounds_toArray, List.set_cons_zero, List.set_cons_succ, i64_w, i32_w]
          rfl
        refine pure_ (i := 4) (N := some 74) (v := ?_) (a' := ?_) #[true, true, false, false, true, false, false, false, false, false, false, false, false, false] rfl rfl (by kernel_rfl) (fun _ _ _ h => h) (Or.inl ⟨by rfl, ?_⟩) ?_ ?_
        rotate_left
        · intro w'
          go_simp
          with_reducible rfl
        rotate_left
        · simp only [Act.put, List.setIfInBounds_toArray, List.set_cons_zero, List.set_cons_succ, i64_w, i32_w]
          rfl
        refine pure_ (i := 5) (N := some 75) (v := ?_) (a' := ?_) #[true, true, false, false, true, true, false, false, false, false, false, false, false, false] rfl rfl (by kernel_rfl) (fun _ _ _ h => h) (Or.inl ⟨by rfl, ?_⟩) ?_ ?_
        rotate_left
        · intro w'
          go_simp
          with_reducible rfl
        rotate_left
        · simp only [Act.put, List.setIfInBounds_toArray, List.set_cons_zero, List.set_cons_succ, i64_w, i32_w]
          rfl
        refine pure_ (i := 8) (N := some 78) (v := ?_) (a' := ?_) #[true, true, false, false, true, true, false, false, true, false, false, false, false, false] rfl rfl (by kernel_rfl) (fun _ _ _ h => h) (Or.inl ⟨by rfl, ?_⟩) ?_ ?_
        rotate_left
        · intro w'
          go_simp
          with_reducible rfl
        rotate_left
        · simp only [Act.put, List.setIfInBounds_toArray, List.set_cons_zero, List.set_cons_succ, i64_w, i32_w]
          rfl
        refine pure_ (i := 9) (N := some 79) (v := ?_) (a' := ?_) #[true, true, false, false, true, true, false, false, true, true, false, false, false, false] rfl rfl (by kernel_rfl) (fun _ _ _ h => h) (Or.inl ⟨by rfl, ?_⟩) ?_ ?_
        rotate_left
        · intro w'
          go_simp
          with_reducible rfl
        rotate_left
        · simp only [Act.put, List.setIfInBounds_toArray, List.set_cons_zero, List.set_cons_succ, i64_w, i32_w]
          rfl
        refine take_ (i := 2) (N := some 72) (v := ?_) (a' := ?_) #[true, true, true, false, true, true, false, false, true, true, false, false, false, false] rfl rfl (by kernel_rfl) (fun _ _ _ h => h) (Or.inl ⟨by rfl, ?_⟩) hHeld ?_ ?_
        rotate_left
        · rintro w' ⟨s0, s1, s2⟩
          go_simp
          with_reducible rfl
        rotate_left
        · simp only [Act.put, List.setIfInBounds_toArray, List.set_cons_zero, List.set_cons_succ, i64_w, i32_w]
          rfl
        refine take_ (i := 6) (N := some 76) (v := ?_) (a' := ?_) #[true, true, true, false, true, true, true, false, true, true, false, false, false, false] rfl rfl (by kernel_rfl) (fun _ _ _ h => h) (Or.inl ⟨by rfl, ?_⟩) hHeld ?_ ?_
        rotate_left
        · rintro w' ⟨s0, s1, s2⟩
          go_simp
          with_reducible rfl
        rotate_left
        · simp only [Act.put, List.setIfInBounds_toArray, List.set_cons_zero, List.set_cons_succ, i64_w, i32_w]
          rfl
        refine take_ (i := 10) (N := some 80) (v := ?_) (a' := ?_) #[true, true, true, false, true, true, true, false, true, true, true, false, false, false] rfl rfl (by kernel_rfl) (fun _ _ _ h => h) (Or.inl ⟨by rfl, ?_⟩) hHeld ?_ ?_
        rotate_left
        · rintro w' ⟨s0, s1, s2⟩
          go_simp
          with_reducible rfl
        rotate_left
        · simp only [Act.put, List.setIfInBounds_toArray, List.set_cons_zero, List.set_cons_succ, i64_w, i32_w]
          rfl
        refine one_ (i := 3) (N := some 73) #[true, true, true, true, true, true, true, false, true, true, true, false, false, false] rfl rfl (by kernel_rfl) (by decide) (fun K hK => ?_)
        refine goes_ Try.func19 (by kernel_rfl) rfl #[.slice (some ⟨g, 0, none⟩) bs.length cg, .int .i64 x.f2] (by rfl) rfl rfl (by (try simp only [List.map_toArray, List.map_cons, List.map_nil]); first | done | rfl) ?_
        refine (HA2.out _ S1.out).mono ?_
        rintro e w9 ⟨rfl, hw⟩
        refine ⟨_, rfl, ?_⟩
        rw [hw]
        clear hw w9
        refine hK.out _ _ ⟨y1, y2, y3⟩ (fun hHeld => ?_)
        clear hK K
        refine norm_ (a' := ?_) ?_ ?_
        rotate_left
        · show Act.put _ (some 73) _ = _
          simp only [Act.put, List.setIfInBounds_toArray, List.set_cons_zero, List.set_cons_succ, i64_w, i32_w]
          rfl
        refine one_ (i := 7) (N := some 77) #[true, true, true, true, true, true, true, true, true, true, true, false, false, false] rfl rfl (by kernel_rfl) (by decide) (fun K hK => ?_)
        refine goes_ Try.func19 (by kernel_rfl) rfl #[.slice (some ⟨g, 0, none⟩) bs.length cg, .int .i64 x.f1] (by rfl) rfl rfl (by (try simp only [List.map_toArray, List.map_cons, List.map_nil]); first | done | rfl) ?_
        refine (HA1.out _ S1.out).mono ?_
        rintro e w9 ⟨rfl, hw⟩
        refine ⟨_, rfl, ?_⟩
        rw [hw]
        clear hw w9
        refine hK.out _ _ ⟨y1, y2, y3⟩ (fun hHeld => ?_)
        clear hK K
        refine norm_ (a' := ?_) ?_ ?_
        rotate_left
        · show Act.put _ (some 77) _ = _
          simp only [Act.put, List.setIfInBounds_toArray, List.set_cons_zero, List.set_cons_succ, i64_w, i32_w]
          rfl
        refine one_ (i := 11) (N := some 81) #[true, true, true, true, true, true, true, true, true, true, true, true, false, false] rfl rfl (by kernel_rfl) (by decide) (fun K hK => ?_)
        refine goes_ Try.func19 (by kernel_rfl) rfl #[.slice (some ⟨g, 0, none⟩) bs.length cg, .int .i64 x.f3] (by rfl) rfl rfl (by (try simp only [List.map_toArray, List.map_cons, List.map_nil]); first | done | rfl) ?_
        refine (HA3.out _ S1.out).mono ?_
        rintro e w9 ⟨rfl, hw⟩
        refine ⟨_, rfl, ?_⟩
        rw [hw]
        clear hw w9
        refine hK.out _ _ ⟨y1, y2, y3⟩ (fun hHeld => ?_)
        clear hK K
        refine norm_ (a' := ?_) ?_ ?_
        rotate_left
        · show Act.put _ (some 81) _ = _
          simp only [Act.put, List.setIfInBounds_toArray, List.set_cons_zero, List.set_cons_succ, i64_w, i32_w]
          rfl
        refine last_ (i := 12) (N := some 82) #[true, true, true, true, true, true, true, true, true, true, true, true, true, false] rfl rfl (by kernel_rfl) (by decide) (fun K hK => ?_)
        refine goes_ Try.func21 (by kernel_rfl) rfl #[p2, p1, p3] (by rfl) rfl rfl (by (try simp only [List.map_toArray, List.map_cons, List.map_nil]); first | done | rfl) ?_
        refine (HPL.out w3 S1.out b9 _ X1.out HBk.out).mono ?_
        rintro e w4 ⟨rfl, hS, hX⟩
        refine ⟨_, rfl, ?_⟩
        have S4 := Aside0.mk hS
        have X4 := Aside0.mk hX
        clear hS hX y1 y2 y3
        refine hK.out _ _ ?_
        clear hK K
        refine norm_ (a' := ?_) ?_ ?_
        rotate_left
        · show Act.put _ (some 82) _ = _
          simp only [Act.put, List.setIfInBounds_toArray, List.set_cons_zero, List.set_cons_succ, i64_w, i32_w]
          rfl
        refine pure_ (i := 13) (N := some 12) (v := ?_) (a' := ?_) #[true, true, true, true, true, true, true, true, true, true, true, true, true, true] rfl rfl (by kernel_rfl) (fun _ _ _ h => h) (Or.inl ⟨by rfl, ?_⟩) ?_ ?_
        rotate_left
        · intro w'
          go_simp
          with_reducible rfl
        rotate_left
        · simp only [Act.put, List.setIfInBounds_toArray, List.set_cons_zero, List.set_cons_succ, i64_w, i32_w]
          rfl
        refine done_ (by kernel_rfl) ?_
        clear HPL hHeld X1 S1 HA1 HA2 HA3
        have y1 : w4.cell? ⟨b9, 1, none⟩ = some (.int .i64 x.f1) := (blk_cell X4.out 1).trans rfl
        have y2 : w4.cell? ⟨b9, 2, none⟩ = some (.int .i64 x.f2) := (blk_cell X4.out 2).trans rfl
        have y3 : w4.cell? ⟨b9, 3, none⟩ = some (.int .i64 x.f3) := (blk_cell X4.out 3).trans rfl
        by_cases hB3 : inP bs.length x.f3
        · have HB3 := Aside0.mk hB3
          clear hB3
          by_cases hU2 : inP bs.length x.f2
          · have HU2 := Aside0.mk hU2
            clear hU2
            by_cases hX1 : inP bs.length x.f1
            · have HX1 := Aside0.mk hX1
              clear hX1
              obtain ⟨kk, hk⟩ : ∃ k, tendrilref19_Place.f k r x.f1 x.f2 x.f3 = some (r', cc) := by
                rcases HCA.out with ⟨q, _⟩ | ⟨_, _, k, hk⟩
                · exact absurd q (fun q => q.elim (fun q => q HU2.out) (fun q => q HX1.out))
                · rw [nrm_in HB3.out] at hk; exact ⟨k, hk⟩
              have HK := Aside0.mk hk
              have zc : (cc != cc) = false := bne_self_eq_false cc
              clear hk
              go_wp2_with (first | (go_at_call 19; (with_reducible refine (S4.out.at_in x.f3 HB3.out).mono ?_); rintro e w9 ⟨rfl, hw⟩; rw [hw]; clear hw w9) | (go_at_call 19; (with_reducible refine (S4.out.at_in x.f2 HU2.out).mono ?_); rintro e w9 ⟨rfl, hw⟩; rw [hw]; clear hw w9) | (go_at_call 19; (with_reducible refine (S4.out.at_in x.f1 HX1.out).mono ?_); rintro e w9 ⟨rfl, hw⟩; rw [hw]; clear hw w9) | (go_at_call 16; (with_reducible refine (S4.out.rplace x.f1 x.f2 x.f3 cc kk HK.out).mono ?_); rintro e w5 ⟨v', rfl, hS⟩; have S5 := Aside0.mk hS; clear hS y1 y2 y3))
              go_roundg k1
              case measure => omega
              case rel => exact ⟨i + 1, r', by rw [hwi.out], ⟨by have := HI2.out; omega⟩, S5⟩
            · have HX1 := Aside0.mk hX1
              clear hX1
              obtain ⟨hr, hcc⟩ : r' = r ∧ cc = 1 := by
                rcases HCA.out with ⟨_, q⟩ | ⟨q1, q2, _⟩
                · exact q
                · exact absurd q2 HX1.out
              subst hr
              subst hcc
              clear HCA
              go_wp2_with (first | (go_at_call 19; (with_reducible refine (S4.out.at_in x.f3 HB3.out).mono ?_); rintro e w9 ⟨rfl, hw⟩; rw [hw]; clear hw w9) | (go_at_call 19; (with_reducible refine (S4.out.at_in x.f2 HU2.out).mono ?_); rintro e w9 ⟨rfl, hw⟩; rw [hw]; clear hw w9) | (go_at_call 19; (with_reducible refine (S4.out.at_no x.f1 HX1.out).mono ?_); rintro e w9 ⟨rfl, hw⟩; rw [hw]; clear hw w9))
              go_roundg k1
              case measure => omega
              case rel => exact ⟨i + 1, _, by rw [hwi.out], ⟨by have := HI2.out; omega⟩, S4⟩
          · have HU2 := Aside0.mk hU2
            clear hU2
            obtain ⟨hr, hcc⟩ : r' = r ∧ cc = 1 := by
              rcases HCA.out with ⟨_, q⟩ | ⟨q1, q2, _⟩
              · exact q
              · exact absurd q1 HU2.out
            subst hr
            subst hcc
            clear HCA
            go_wp2_with (first | (go_at_call 19; (with_reducible refine (S4.out.at_in x.f3 HB3.out).mono ?_); rintro e w9 ⟨rfl, hw⟩; rw [hw]; clear hw w9) | (go_at_call 19; (with_reducible refine (S4.out.at_no x.f2 HU2.out).mono ?_); rintro e w9 ⟨rfl, hw⟩; rw [hw]; clear hw w9))
            go_roundg k1
            case measure => omega
            case rel => exact ⟨i + 1, _, by rw [hwi.out], ⟨by have := HI2.out; omega⟩, S4⟩
        · have HB3 := Aside0.mk hB3
          clear hB3
          by_cases hU2 : inP bs.length x.f2
          · have HU2 := Aside0.mk hU2
            clear hU2
            by_cases hX1 : inP bs.length x.f1
            · have HX1 := Aside0.mk hX1
              clear hX1
              obtain ⟨kk, hk⟩ : ∃ k, tendrilref19_Place.f k r x.f1 x.f2 (-1) = some (r', cc) := by
                rcases HCA.out with ⟨q, _⟩ | ⟨_, _, k, hk⟩
                · exact absurd q (fun q => q.elim (fun q => q HU2.out) (fun q => q HX1.out))
                · rw [nrm_no HB3.out] at hk; exact ⟨k, hk⟩
              have HK := Aside0.mk hk
              have zc : (cc != cc) = false := bne_self_eq_false cc
              clear hk
              go_wp2_with (first | (go_at_call 19; (with_reducible refine (S4.out.at_no x.f3 HB3.out).mono ?_); rintro e w9 ⟨rfl, hw⟩; rw [hw]; clear hw w9) | (go_at_call 19; (with_reducible refine (S4.out.at_in x.f2 HU2.out).mono ?_); rintro e w9 ⟨rfl, hw⟩; rw [hw]; clear hw w9) | (go_at_call 19; (with_reducible refine (S4.out.at_in x.f1 HX1.out).mono ?_); rintro e w9 ⟨rfl, hw⟩; rw [hw]; clear hw w9) | (go_at_call 16; (with_reducible refine (S4.out.rplace x.f1 x.f2 (-1) cc kk HK.out).mono ?_); rintro e w5 ⟨v', rfl, hS⟩; have S5 := Aside0.mk hS; clear hS y1 y2 y3))
              go_roundg k1
              case measure => omega
              case rel => exact ⟨i + 1, r', by rw [hwi.out], ⟨by have := HI2.out; omega⟩, S5⟩
            · have HX1 := Aside0.mk hX1
              clear hX1
              obtain ⟨hr, hcc⟩ : r' = r ∧ cc = 1 := by
                rcases HCA.out with ⟨_, q⟩ | ⟨q1, q2, _⟩
                · exact q
                · exact absurd q2 HX1.out
              subst hr
              subst hcc
              clear HCA
              go_wp2_with (first | (go_at_call 19; (with_reducible refine (S4.out.at_no x.f3 HB3.out).mono ?_); rintro e w9 ⟨rfl, hw⟩; rw [hw]; clear hw w9) | (go_at_call 19; (with_reducible refine (S4.out.at_in x.f2 HU2.out).mono ?_); rintro e w9 ⟨rfl, hw⟩; rw [hw]; clear hw w9) | (go_at_call 19; (with_reducible refine (S4.out.at_no x.f1 HX1.out).mono ?_); rintro e w9 ⟨rfl, hw⟩; rw [hw]; clear hw w9))
              go_roundg k1
              case measure => omega
              case rel => exact ⟨i + 1, _, by rw [hwi.out], ⟨by have := HI2.out; omega⟩, S4⟩
          · have HU2 := Aside0.mk hU2
            clear hU2
            obtain ⟨hr, hcc⟩ : r' = r ∧ cc = 1 := by
              rcases HCA.out with ⟨_, q⟩ | ⟨q1, q2, _⟩
              · exact q
              · exact absurd q1 HU2.out
            subst hr
            subst hcc
            clear HCA
            go_wp2_with (first | (go_at_call 19; (with_reducible refine (S4.out.at_no x.f3 HB3.out).mono ?_); rintro e w9 ⟨rfl, hw⟩; rw [hw]; clear hw w9) | (go_at_call 19; (with_reducible refine (S4.out.at_no x.f2 HU2.out).mono ?_); rintro e w9 ⟨rfl, hw⟩; rw [hw]; clear hw w9))
            go_roundg k1
            case measure => omega
            case rel => exact ⟨i + 1, _, by rw [hwi.out], ⟨by have := HI2.out; omega⟩, S4⟩
    | zero =>
      have hlt : ¬ i < l.length := by have := HI2.out; omega
      have HZ := Aside0.mk (show inP bs.length 0 from ⟨by omega, by have := HLn.out; have := HN.out; omega⟩)
      have HNN := Aside0.mk (show ¬ inP bs.length (n : Int) from fun q => by have := q.2; have := HLn.out; omega)
      go_wp2_with fail
      clear hlt
      go_loopg [117] n (fun kq v117 w => ∃ (i : Nat), v117 = .int .i64 (i : Int) ∧ Aside0 (i + kq = n) ∧ Aside0 (Below wr.heap.size wr w))
      case atStart => exact ⟨0, rfl, ⟨by omega⟩, ⟨Below.refl _ _⟩⟩
      case round =>
      obtain ⟨j, rfl, HJ, HBJ⟩ := hrel
      cases gk with
      | zero =>
        have hlt : ¬ j < n := by have := HJ.out; omega
        have S5 := Aside0.mk (HS.out.below HBJ.out)
        go_upto_region 44 with (go_at_call 19; (with_reducible refine (S5.out.at_no _ HNN.out).mono ?_); rintro e w9 ⟨rfl, hw⟩; rw [hw]; clear hw w9)
        have hz0 : 0 < bs.length := by have := HZ.out.2; omega
        go_wp2_with (first | (go_at_call 22; (with_reducible refine (S5.out.nil_five).mono ?_); rintro e w6 ⟨rfl, hb⟩; have S6 := Aside0.mk (S5.out.below hb); clear hb; have c0 := S6.out.cell 0 (by have := HZ.out.2; omega)) | (go_at_call 24; (with_reducible refine (S6.out.nil_mark).mono ?_); rintro e w9 ⟨rfl, hw⟩; rw [hw]; clear hw w9) | (go_at_call 25; (with_reducible refine (S6.out.nil_under 0 HZ.out).mono ?_); rintro e w9 ⟨rfl, hw⟩; rw [hw]; clear hw w9) | (go_at_call 25; refine (Under_nil _ _).mono ?_; rintro e w9 ⟨rfl, hw⟩; rw [hw]; clear hw w9) | (go_at_call 6; refine (same _).mono ?_; rintro e w7 ⟨rfl, hb⟩; have B7 := Aside0.mk hb; clear hb))
        refine bodyPost_ret (results_tmp rfl _ _ _) rfl ?_
        exact ⟨rfl, S6.out.b.trans (B7.out.mono S6.out.b.size)⟩
      | succ k1 =>
        have hlt : j < n := by have := HJ.out; omega
        have HJP := Aside0.mk (show inP bs.length (j : Int) from ⟨by omega, by have := HLn.out; omega⟩)
        have S5 := Aside0.mk (HS.out.below HBJ.out)
        have hlb : j < bs.length := by have := HLn.out; omega
        have cj := S5.out.cell j hlb
        have hwj : Aside0 (wrap64 ((j : Int) + 1) = ((j + 1 : Nat) : Int)) := ⟨by have := HN.out; have := HJ.out; unfold wrap64; omega⟩
        obtain ⟨f1, f2, f3, f4, f5, q1, q2⟩ := S5.out.five_in (j : Int) HJP.out
        have HQ1 := Aside0.mk q1
        have HQ2 := Aside0.mk q2
        clear q1 q2
        go_upto_region 36 with (first | (go_at_call 22; (with_reducible refine (HQ1.out _ (Below.refl _ _)).mono ?_); rintro e w6 ⟨rfl, hb⟩; have B6 := Aside0.mk hb; clear hb) | (go_at_call 23; (with_reducible refine (HQ2.out _ B6.out).mono ?_); rintro e w7 ⟨rfl, hb⟩; have B7 := Aside0.mk (B6.out.trans (hb.mono B6.out.size)); clear hb; have S7 := Aside0.mk (S5.out.below B7.out); have cj7 := S7.out.cell j hlb) | (go_at_call 24; (with_reducible refine (S7.out.mark (j : Int) HJP.out).mono ?_); rintro e w9 ⟨rfl, hw⟩; rw [hw]; clear hw w9))
        clear cj cj7 HQ1 HQ2 S7 hlt
        go_wp2_with fail
        go_loopg [139] n (fun kq v139 w => ∃ (i : Nat), v139 = .int .i64 (i : Int) ∧ Aside0 (i + kq = n) ∧ Aside0 (Below wr.heap.size wr w))
        case atStart => exact ⟨0, rfl, ⟨by omega⟩, B7⟩
        case round =>
        clear B6 B7
        obtain ⟨q, rfl, HQ, HBQ⟩ := hrel
        cases gk with
        | zero =>
          have hlt : ¬ q < n := by have := HQ.out; omega
          go_wp2_with fail
          go_roundg k1
          case measure => omega
          case rel => exact ⟨j + 1, by rw [hwj.out], ⟨by have := HJ.out; omega⟩, ⟨HBJ.out.trans (HBQ.out.mono HBJ.out.size)⟩⟩
        | succ k2 =>
          have hlt : q < n := by have := HQ.out; omega
          have HQP := Aside0.mk (show inP bs.length (q : Int) from ⟨by omega, by have := HLn.out; omega⟩)
          have hlq : q < bs.length := by have := HLn.out; omega
          have hwq : Aside0 (wrap64 ((q : Int) + 1) = ((q + 1 : Nat) : Int)) := ⟨by have := HN.out; have := HQ.out; unfold wrap64; omega⟩
          have cj := (S5.out.below HBQ.out).cell j hlb
          have cq := (S5.out.below HBQ.out).cell q hlq
          obtain ⟨bb, hbb⟩ := S5.out.under_in (j : Int) (q : Int) HJP.out HQP.out
          have HU := Aside0.mk hbb
          have zb : (bb != bb) = false := bne_self_eq_false bb
          clear hbb
          go_upto_region 39 with fail
          refine start_ (n := 14) (S := (fun w' => w'.cell? ⟨g, j, none⟩ = some (.pointer (some ⟨blq bs (j : Int), 0, none⟩)) ∧ w'.cell? ⟨g, q, none⟩ = some (.pointer (some ⟨blq bs (q : Int), 0, none⟩)))) (ds := [12]) #[false, false, false, false, false, false, false, false, false, false, false, false, false, false] (by kernel_rfl) rfl rfl ?_ ?_
          · exact ⟨cj, cq⟩
          intro hHeld
          clear cj cq; have HBQ := Aside0.mk (HBQ.out.drew); generalize wr.drew = w3 at HBQ hHeld ⊢; have hH := hHeld; obtain ⟨cj, cq⟩ := hH
          refine pure_ (i := 0) (N := some 142) (v := ?_) (a' := ?_) #[true, false, false, false, false, false, false, false, false, false, false, false, false, false] rfl rfl (by kernel_rfl) (fun _ _ _ h => h) (Or.inl ⟨by rfl, ?_⟩) ?_ ?_
          rotate_left
          · intro w'
            go_simp
            with_reducible rfl
          rotate_left
          · simp only [Act.put, List.setIfInBounds_toArray, List.set_cons_zero, List.set_cons_succ, i64_w, i32_w]
            rfl
          refine pure_ (i := 1) (N := some 143) (v := ?_) (a' := ?_) #[true, true, false, false, false, false, false, false, false, false, false, false, false, false] rfl rfl (by kernel_rfl) (fun _ _ _ h => h) (Or.inl ⟨by rfl, ?_⟩) ?_ ?_
          rotate_left
          · intro w'
            go_simp
            with_reducible rfl
          rotate_left
          · simp only [Act.put, List.setIfInBounds_toArray, List.set_cons_zero, List.set_cons_succ, i64_w, i32_w]
            rfl
          refine pure_ (i := 2) (N := some 144) (v := ?_) (a' := ?_) #[true, true, true, false, false, false, false, false, false, false, false, false, false, false] rfl rfl (by kernel_rfl) (fun _ _ _ h => h) (Or.inl ⟨by rfl, ?_⟩) ?_ ?_
          rotate_left
          · intro w'
            go_simp
            with_reducible rfl
          rotate_left
          · simp only [Act.put, List.setIfInBounds_toArray, List.set_cons_zero, List.set_cons_succ, i64_w, i32_w]
            rfl
          refine pure_ (i := 4) (N := some 146) (v := ?_) (a' := ?_) #[true, true, true, false, true, false, false, false, false, false, false, false, false, false] rfl rfl (by kernel_rfl) (fun _ _ _ h => h) (Or.inl ⟨by rfl, ?_⟩) ?_ ?_
          rotate_left
          · intro w'
            go_simp
            with_reducible rfl
          rotate_left
          · simp only [Act.put, List.setIfInBounds_toArray, List.set_cons_zero, List.set_cons_succ, i64_w, i32_w]
            rfl
          refine pure_ (i := 5) (N := some 147) (v := ?_) (a' := ?_) #[true, true, true, false, true, true, false, false, false, false, false, false, false, false] rfl rfl (by kernel_rfl) (fun _ _ _ h => h) (Or.inl ⟨by rfl, ?_⟩) ?_ ?_
          rotate_left
          · intro w'
            go_simp
            with_reducible rfl
          rotate_left
          · simp only [Act.put, List.setIfInBounds_toArray, List.set_cons_zero, List.set_cons_succ, i64_w, i32_w]
            rfl
          refine pure_ (i := 6) (N := some 148) (v := ?_) (a' := ?_) #[true, true, true, false, true, true, true, false, false, false, false, false, false, false] rfl rfl (by kernel_rfl) (fun _ _ _ h => h) (Or.inl ⟨by rfl, ?_⟩) ?_ ?_
          rotate_left
          · intro w'
            go_simp
            with_reducible rfl
          rotate_left
          · simp only [Act.put, List.setIfInBounds_toArray, List.set_cons_zero, List.set_cons_succ, i64_w, i32_w]
            rfl
          refine pure_ (i := 9) (N := some 151) (v := ?_) (a' := ?_) #[true, true, true, false, true, true, true, false, false, true, false, false, false, false] rfl rfl (by kernel_rfl) (fun _ _ _ h => h) (Or.inl ⟨by rfl, ?_⟩) ?_ ?_
          rotate_left
          · intro w'
            go_simp
            with_reducible rfl
          rotate_left
          · simp only [Act.put, List.setIfInBounds_toArray, List.set_cons_zero, List.set_cons_succ, i64_w, i32_w]
            rfl
          refine pure_ (i := 10) (N := some 152) (v := ?_) (a' := ?_) #[true, true, true, false, true, true, true, false, false, true, true, false, false, false] rfl rfl (by kernel_rfl) (fun _ _ _ h => h) (Or.inl ⟨by rfl, ?_⟩) ?_ ?_
          rotate_left
          · intro w'
            go_simp
            with_reducible rfl
          rotate_left
          · simp only [Act.put, List.setIfInBounds_toArray, List.set_cons_zero, List.set_cons_succ, i64_w, i32_w]
            rfl
          refine pure_ (i := 11) (N := some 153) (v := ?_) (a' := ?_) #[true, true, true, false, true, true, true, false, false, true, true, true, false, false] rfl rfl (by kernel_rfl) (fun _ _ _ h => h) (Or.inl ⟨by rfl, ?_⟩) ?_ ?_
          rotate_left
          · intro w'
            go_simp
            with_reducible rfl
          rotate_left
          · simp only [Act.put, List.setIfInBounds_toArray, List.set_cons_zero, List.set_cons_succ, i64_w, i32_w]
            rfl
          refine take_ (i := 3) (N := some 145) (v := ?_) (a' := ?_) #[true, true, true, true, true, true, true, false, false, true, true, true, false, false] rfl rfl (by kernel_rfl) (fun _ _ _ h => h) (Or.inl ⟨by rfl, ?_⟩) hHeld ?_ ?_
          rotate_left
          · rintro w' ⟨s0, s1⟩
            go_simp
            with_reducible rfl
          rotate_left
          · simp only [Act.put, List.setIfInBounds_toArray, List.set_cons_zero, List.set_cons_succ, i64_w, i32_w]
            rfl
          refine take_ (i := 7) (N := some 149) (v := ?_) (a' := ?_) #[true, true, true, true, true, true, true, true, false, true, true, true, false, false] rfl rfl (by kernel_rfl) (fun _ _ _ h => h) (Or.inl ⟨by rfl, ?_⟩) hHeld ?_ ?_
          rotate_left
          · rintro w' ⟨s0, s1⟩
            go_simp
            with_reducible rfl
          rotate_left
          · simp only [Act.put, List.setIfInBounds_toArray, List.set_cons_zero, List.set_cons_succ, i64_w, i32_w]
            rfl
          refine one_ (i := 8) (N := some 150) #[true, true, true, true, true, true, true, true, true, true, true, true, false, false] rfl rfl (by kernel_rfl) (by decide) (fun K hK => ?_)
          refine goes_ Try.func25 (by kernel_rfl) rfl #[.pointer (some ⟨blq bs (j : Int), 0, none⟩), .pointer (some ⟨blq bs (q : Int), 0, none⟩)] (by rfl) rfl rfl (by (try simp only [List.map_toArray, List.map_cons, List.map_nil]); first | done | rfl) ?_
          refine ((HU.out w3 HBQ.out).1).mono ?_
          rintro e w9 ⟨rfl, hw⟩
          refine ⟨_, rfl, ?_⟩
          rw [hw]
          clear hw w9
          refine hK.out _ _ ⟨cj, cq⟩ (fun hHeld => ?_)
          clear hK K
          refine norm_ (a' := ?_) ?_ ?_
          rotate_left
          · show Act.put _ (some 150) _ = _
            simp only [Act.put, List.setIfInBounds_toArray, List.set_cons_zero, List.set_cons_succ, i64_w, i32_w]
            rfl
          refine last_ (i := 12) (N := some 154) #[true, true, true, true, true, true, true, true, true, true, true, true, true, false] rfl rfl (by kernel_rfl) (by decide) (fun K hK => ?_)
          refine goes_ Try.func26 (by kernel_rfl) rfl #[u7, .int .i64 (j : Int), .int .i64 (q : Int)] (by rfl) rfl rfl (by (try simp only [List.map_toArray, List.map_cons, List.map_nil]); first | done | rfl) ?_
          refine ((HU.out w3 HBQ.out).2).mono ?_
          rintro e w4 ⟨rfl, hb⟩
          refine ⟨_, rfl, ?_⟩
          have BQ4 := Aside0.mk (HBQ.out.trans (hb.mono HBQ.out.size))
          clear hb cj cq
          refine hK.out _ _ ?_
          clear hK K
          refine norm_ (a' := ?_) ?_ ?_
          rotate_left
          · show Act.put _ (some 154) _ = _
            simp only [Act.put, List.setIfInBounds_toArray, List.set_cons_zero, List.set_cons_succ, i64_w, i32_w]
            rfl
          refine pure_ (i := 13) (N := some 155) (v := ?_) (a' := ?_) #[true, true, true, true, true, true, true, true, true, true, true, true, true, true] rfl rfl (by kernel_rfl) (fun _ _ _ h => h) (Or.inl ⟨by rfl, ?_⟩) ?_ ?_
          rotate_left
          · intro w'
            go_simp
            with_reducible rfl
          rotate_left
          · simp only [Act.put, List.setIfInBounds_toArray, List.set_cons_zero, List.set_cons_succ, i64_w, i32_w]
            rfl
          refine done_ (by kernel_rfl) ?_
          go_wp2_with fail
          go_roundg k2
          case measure => omega
          case rel => exact ⟨q + 1, by rw [hwq.out], ⟨by have := HQ.out; omega⟩, BQ4⟩
set_option maxHeartbeats 4000000 in
set_option maxRecDepth 100000 in
theorem items_out (W0 : World) (n : Int) (A : Option Addr) (c : Nat) (l : List S39) (h : n < 1 ∨ 30 < n ∨ 60 < l.length) :
    Calls Try.prog 5 #[.int .i64 n, .slice A l.length c] W0 fun e w' => e = .returned (.bool true) ∧ Below W0.heap.size W0 w' := by
  by_cases h0 : n < 1
  · have c0 : decide (n < 1) = true := decide_eq_true h0
    clear h h0
    go_enter Try.func5, Try.ntmps5
    go_wp2_with (go_at_call 6; refine (same _).mono ?_; rintro e w6 ⟨rfl, hb⟩; have B6 := Aside0.mk hb; clear hb)
    refine bodyPost_ret (results_tmp rfl _ _ _) rfl ?_
    exact ⟨rfl, B6.out⟩
  have c0 : decide (n < 1) = false := decide_eq_false h0
  by_cases h1 : 30 < n
  · have c1 : decide (30 < n) = true := decide_eq_true h1
    clear h h0 h1
    go_enter Try.func5, Try.ntmps5
    go_wp2_with (go_at_call 6; refine (same _).mono ?_; rintro e w6 ⟨rfl, hb⟩; have B6 := Aside0.mk hb; clear hb)
    refine bodyPost_ret (results_tmp rfl _ _ _) rfl ?_
    exact ⟨rfl, B6.out⟩
  have c1 : decide (30 < n) = false := decide_eq_false h1
  have c2 : decide ((60 : Int) < (l.length : Int)) = true := decide_eq_true (by omega)
  clear h h0 h1
  go_enter Try.func5, Try.ntmps5
  go_wp2_with (go_at_call 6; refine (same _).mono ?_; rintro e w6 ⟨rfl, hb⟩; have B6 := Aside0.mk hb; clear hb)
  refine bodyPost_ret (results_tmp rfl _ _ _) rfl ?_
  exact ⟨rfl, B6.out⟩
/-- The law LinksItems. -/
def tendrillaw19_LinksItems.f (a0 : Int) (l1 : List S39) : Option Bool := some true
theorem tendrillaw19_LinksItems.calls (a0 : Int) (A1 : Option Addr) (c1 : Nat) (l1 : List (S39)) (r : Bool) (w : World) (hr1 : Kd.C k39 w A1 l1.length l1) (hc1 : l1.length ≤ c1) (h : tendrillaw19_LinksItems.f a0 l1 = some r) :
    Calls Try.prog 5 #[.int .i64 a0, .slice A1 l1.length c1] w fun e w' => e = .returned (.bool r) ∧ Below w.heap.size w w' := by
  obtain rfl := Option.some.inj h
  by_cases hq : a0 < 1 ∨ 30 < a0 ∨ 60 < l1.length
  · exact items_out w a0 A1 c1 l1 hq
  · obtain ⟨n, rfl⟩ : ∃ n : Nat, a0 = (n : Int) := ⟨a0.toNat, by omega⟩
    exact items_in w n A1 c1 l1 (by omega) (by omega) hr1 (by omega)
end Go.Proofs.Ytgamhkhninogeaa.G
