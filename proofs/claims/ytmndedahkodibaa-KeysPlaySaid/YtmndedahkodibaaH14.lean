/- The law KeysLess walked: it returns true. -/
import Derived.Test.YtmndedahkodibaaH13
import Derived.Test.YtmndedahkodibaaPLess
namespace Go.Proofs.Ytmndedahkodibaa.G
open Go.RowKit Go.Proofs.YtmndedahkodibaaW.PrintWords Go.Proofs.YtmndedahkodibaaW.PrintLast Go.Proofs.YtmndedahkodibaaW.PrintMore
open Go.Proofs.Ytmndedahkodibaa.Pure (lt Lt Lt_tri Lt_irrefl Lt_trans less_prog less_ref)
set_option linter.unusedVariables false
set_option linter.unusedSimpArgs false

abbrev KV (a : S28) : Value := .agg #[.string a.f0, .string a.f1, .int .i64 a.f2]
abbrev K3 (w : World) (g : Nat) (a : S28) : Prop := w.cell? ⟨g, 0, none⟩ = some (.string a.f0) ∧ w.cell? ⟨g, 1, none⟩ = some (.string a.f1) ∧ w.cell? ⟨g, 2, none⟩ = some (.int .i64 a.f2)
structure K9 (w : World) (base ga gb gc : Nat) (a b c : S28) : Prop where
  ha : w.heap[ga]? = some (.cells #[.string a.f0, .string a.f1, .int .i64 a.f2] 28 (0, 0))
  hb : w.heap[gb]? = some (.cells #[.string b.f0, .string b.f1, .int .i64 b.f2] 28 (0, 0))
  hc : w.heap[gc]? = some (.cells #[.string c.f0, .string c.f1, .int .i64 c.f2] 28 (0, 0))
theorem K9.below {w w' : World} {base ga gb gc : Nat} {a b c : S28} (h : K9 w base ga gb gc a b c) (hb : Below w.heap.size w w') : K9 w' base ga gb gc a b c := ⟨blk_below h.ha hb, blk_below h.hb hb, blk_below h.hc hb⟩
theorem K9.cells {w : World} {base ga gb gc : Nat} {a b c : S28} (h : K9 w base ga gb gc a b c) :
    (w.cell? ⟨ga, 0, none⟩ = some (.string a.f0) ∧ w.cell? ⟨ga, 1, none⟩ = some (.string a.f1) ∧ w.cell? ⟨ga, 2, none⟩ = some (.int .i64 a.f2)) ∧ (w.cell? ⟨gb, 0, none⟩ = some (.string b.f0) ∧ w.cell? ⟨gb, 1, none⟩ = some (.string b.f1) ∧ w.cell? ⟨gb, 2, none⟩ = some (.int .i64 b.f2)) ∧ w.cell? ⟨gc, 0, none⟩ = some (.string c.f0) ∧ w.cell? ⟨gc, 1, none⟩ = some (.string c.f1) ∧ w.cell? ⟨gc, 2, none⟩ = some (.int .i64 c.f2) :=
  ⟨⟨(blk_cell h.ha 0).trans rfl, (blk_cell h.ha 1).trans rfl, (blk_cell h.ha 2).trans rfl⟩, ⟨(blk_cell h.hb 0).trans rfl, (blk_cell h.hb 1).trans rfl, (blk_cell h.hb 2).trans rfl⟩, (blk_cell h.hc 0).trans rfl, (blk_cell h.hc 1).trans rfl, (blk_cell h.hc 2).trans rfl⟩
def eqL (a b : S28) : Bool := a.f0.toList == b.f0.toList && (a.f1.toList == b.f1.toList && (a.f2 == b.f2))
theorem eqL_iff (a b : S28) : eqL a b = true ↔ a = b := by
  rw [← key_iff]
  unfold eqL
  simp
theorem eqL_run (d : Nat) (w : World) (a b : S28) :
    (Op.equalIn (d + 2) 28 (.agg #[.string a.f0, .string a.f1, .int .i64 a.f2]) (.agg #[.string b.f0, .string b.f1, .int .i64 b.f2])).run Try.prog w = .ok (eqL a b) w := eqA28 d w _ _ _ _ _ _
attribute [local go_sem high] eqL_run
theorem call_less (w : World) (a b : S28) (x : Bool) (hx : lt a b = x) : Calls Try.prog 20 #[.agg #[.string a.f0, .string a.f1, .int .i64 a.f2], .agg #[.string b.f0, .string b.f1, .int .i64 b.f2]] w fun e w' => e = .returned (.bool x) ∧ Below w.heap.size w w' :=
  keys_Less.calls 5 _ _ _ _ _ _ x w (hx ▸ less_prog a b)
theorem call_ref (w : World) (a b : S28) (x : Bool) (hx : lt a b = x) (h0 : a.f0.size ≤ 140737488351232) (h1 : a.f1.size ≤ 140737488351232) : Calls Try.prog 22 #[.agg #[.string a.f0, .string a.f1, .int .i64 a.f2], .agg #[.string b.f0, .string b.f1, .int .i64 b.f2]] w fun e w' => e = .returned (.bool x) ∧ Below w.heap.size w w' := by
  obtain ⟨k, h⟩ := less_ref a b h0 h1
  exact tendrilref07_Less.calls k _ _ _ _ _ _ x w (hx ▸ h)
theorem lt_facts {a b c : S28} {x y e z u : Bool} (hx : lt a b = x) (hy : lt b a = y) (he : eqL a b = e) (hz : lt b c = z) (hu : lt a c = u) : (x = true ∧ y = false ∧ e = false ∧ (z = false ∨ z = true ∧ u = true)) ∨ (x = false ∧ y = true ∧ e = false) ∨ (x = false ∧ y = false ∧ e = true) := by
  have d (p q : S28) : lt p q = true ↔ Lt p q := by unfold lt; simp
  rcases Lt_tri a b with h | h | h
  · refine .inl ⟨hx ▸ (d _ _).2 h, ?_, ?_, ?_⟩
    · cases y with
      | false => rfl
      | true => exact absurd (Lt_trans h ((d _ _).1 hy)) (Lt_irrefl _)
    · cases e with
      | false => rfl
      | true => have := (eqL_iff a b).1 he; subst this; exact absurd h (Lt_irrefl _)
    · cases z with
      | false => exact .inl rfl
      | true => exact .inr ⟨rfl, hu ▸ (d _ _).2 (Lt_trans h ((d _ _).1 hz))⟩
  · subst h
    have n : lt a a = false := by
      cases q : lt a a with
      | false => rfl
      | true => exact absurd ((d _ _).1 q) (Lt_irrefl _)
    exact .inr (.inr ⟨hx ▸ n, hy ▸ n, he ▸ (eqL_iff a a).2 rfl⟩)
  · refine .inr (.inl ⟨?_, hy ▸ (d _ _).2 h, ?_⟩)
    · cases x with
      | false => rfl
      | true => exact absurd (Lt_trans h ((d _ _).1 hx)) (Lt_irrefl _)
    · cases e with
      | false => rfl
      | true => have := (eqL_iff a b).1 he; subst this; exact absurd h (Lt_irrefl _)
set_option maxHeartbeats 4000000 in
set_option maxRecDepth 100000 in
theorem less_in (W : World) (a b c : S28) (hs : (a.f0.size : Int) + a.f1.size + b.f0.size + b.f1.size + c.f0.size + c.f1.size ≤ 2000) : Calls Try.prog 6 #[KV a, KV b, KV c] W fun e w' => e = .returned (.bool true) ∧ Below W.heap.size W w' := by
  go_enter Try.func6, Try.ntmps6
  go_upto_region 1 with (first | ((with_reducible refine gate_dst (N := 3) rfl ?_); refine box_event ?hg (N := 3) ?hd (cs := #[.string a.f0, .string a.f1, .int .i64 a.f2]) (t := 28) ?hr ?_; (case hd => rfl); (case hg => rfl); (case hr => first | (go_simp; done) | (go_simp; rfl)); intro ga hg w1 hbox hb; have G1 := Aside0.mk hg; have B1 := Aside0.mk hb; have X1 := Aside0.mk hbox; clear hbox hb hg) | ((with_reducible refine gate_dst (N := 4) rfl ?_); refine box_event ?hg (N := 4) ?hd (cs := #[.string b.f0, .string b.f1, .int .i64 b.f2]) (t := 28) ?hr ?_; (case hd => rfl); (case hg => rfl); (case hr => first | (go_simp; done) | (go_simp; rfl)); intro gb hg w2 hbox hb; have G2 := Aside0.mk hg; have B2 := Aside0.mk hb; have X2 := Aside0.mk hbox; clear hbox hb hg) | ((with_reducible refine gate_dst (N := 5) rfl ?_); refine box_event ?hg (N := 5) ?hd (cs := #[.string c.f0, .string c.f1, .int .i64 c.f2]) (t := 28) ?hr ?_; (case hd => rfl); (case hg => rfl); (case hr => first | (go_simp; done) | (go_simp; rfl)); intro gc hg w3 hbox hb; have G3 := Aside0.mk hg; have B3 := Aside0.mk hb; have X3 := Aside0.mk hbox; clear hbox hb hg))
  have K := Aside0.mk (show K9 w3 W.heap.size ga gb gc a b c from ⟨blk_below (blk_below X1.out B2.out) B3.out, blk_below X2.out B3.out, X3.out⟩)
  have B := Aside0.mk (B1.out.trans ((B2.out.mono B1.out.size).trans (B3.out.mono (Nat.le_trans B1.out.size B2.out.size))))
  clear X1 X2 X3 B1 B2 B3 G1 G2 G3
  obtain ⟨x, hx⟩ : ∃ x, lt a b = x := ⟨_, rfl⟩
  obtain ⟨y, hy⟩ : ∃ y, lt b a = y := ⟨_, rfl⟩
  obtain ⟨e, he⟩ : ∃ e, eqL a b = e := ⟨_, rfl⟩
  obtain ⟨z, hz⟩ : ∃ z, lt b c = z := ⟨_, rfl⟩
  obtain ⟨u, hu⟩ : ∃ u, lt a c = u := ⟨_, rfl⟩
  have HF := lt_facts hx hy he hz hu
  have HX := Aside0.mk hx
  have HY := Aside0.mk hy
  have HZ := Aside0.mk hz
  have HU := Aside0.mk hu
  clear hx hy hz hu
  obtain ⟨⟨a0, a1, a2⟩, ⟨b0, b1, b2⟩, c0, c1, c2⟩ := K.out.cells
  go_upto_region 4 with (go_at_call 20; refine (call_less _ a b x HX.out).mono ?_; rintro e w4 ⟨rfl, hb⟩; have B4 := Aside0.mk hb; have K4 := Aside0.mk (K.out.below hb); clear hb a0 a1 a2 b0 b1 b2 c0 c1 c2 K)
  have B := Aside0.mk (B.out.trans (B4.out.mono B.out.size))
  clear B4
  obtain ⟨⟨a0, a1, a2⟩, ⟨b0, b1, b2⟩, c0, c1, c2⟩ := K4.out.cells
  go_upto_region 5 with (go_at_call 20; refine (call_less _ b a y HY.out).mono ?_; rintro e w5 ⟨rfl, hb⟩; have B5 := Aside0.mk hb; have K5 := Aside0.mk (K4.out.below hb); clear hb a0 a1 a2 b0 b1 b2 c0 c1 c2 K4)
  have B := Aside0.mk (B.out.trans (B5.out.mono B.out.size))
  clear B5
  obtain ⟨⟨a0, a1, a2⟩, ⟨b0, b1, b2⟩, c0, c1, c2⟩ := K5.out.cells
  go_upto_region 7 with (go_at_call 12; refine (nil_Get _ a).mono ?_; rintro e w6 ⟨rfl, hb⟩; have B6 := Aside0.mk hb; have K6 := Aside0.mk (K5.out.below hb); clear hb a0 a1 a2 b0 b1 b2 c0 c1 c2 K5)
  have B := Aside0.mk (B.out.trans (B6.out.mono B.out.size))
  clear B6
  obtain ⟨⟨a0, a1, a2⟩, ⟨b0, b1, b2⟩, c0, c1, c2⟩ := K6.out.cells
  go_upto_region 9 with (first | (go_at_call 9; refine (nil_Put _ a 1).mono ?_; rintro e w7 ⟨rfl, hb⟩; have B7 := Aside0.mk hb; have K7 := Aside0.mk (K6.out.below hb); clear hb a0 a1 a2 b0 b1 b2 c0 c1 c2 K6; obtain ⟨⟨a0, a1, a2⟩, ⟨b0, b1, b2⟩, c0, c1, c2⟩ := K7.out.cells) | (go_at_call 11; refine (nil_Drop _ a).mono ?_; rintro e w8 ⟨rfl, hb⟩; have B8 := Aside0.mk hb; have K8 := Aside0.mk (K7.out.below hb); clear hb a0 a1 a2 b0 b1 b2 c0 c1 c2 K7) | (go_at_call 13; refine (nil_Len _).mono ?_; rintro e w9 ⟨rfl, rfl⟩) | (go_at_call 21; refine (nil_All _).mono ?_; rintro e w9 ⟨rfl, rfl⟩))
  have B := Aside0.mk (B.out.trans ((B7.out.mono B.out.size).trans (B8.out.mono (Nat.le_trans B.out.size B7.out.size))))
  have H1 := Aside0.mk (show a.f0.size ≤ 140737488351232 by omega)
  have H2 := Aside0.mk (show a.f1.size ≤ 140737488351232 by omega)
  clear B7 B8
  obtain ⟨⟨a0, a1, a2⟩, ⟨b0, b1, b2⟩, c0, c1, c2⟩ := K8.out.cells
  have hz := HZ.out
  have hu := HU.out
  clear hs
  rcases HF with ⟨rfl, rfl, rfl, rfl | ⟨rfl, rfl⟩⟩ | ⟨rfl, rfl, rfl⟩ | ⟨rfl, rfl, rfl⟩
  all_goals
    go_wp2_with (first | (go_at_call 22; refine (call_ref _ a b _ HX.out H1.out H2.out).mono ?_; rintro e w10 ⟨rfl, hb⟩; have B := Aside0.mk (B.out.trans (hb.mono B.out.size)); have K8 := Aside0.mk (K8.out.below hb); clear hb a0 a1 a2 b0 b1 b2 c0 c1 c2; obtain ⟨⟨a0, a1, a2⟩, ⟨b0, b1, b2⟩, c0, c1, c2⟩ := K8.out.cells) | (go_at_call 20; refine (call_less _ _ _ _ rfl).mono ?_; rintro e w11 ⟨rfl, hb⟩; have B := Aside0.mk (B.out.trans (hb.mono B.out.size)); have K8 := Aside0.mk (K8.out.below hb); clear hb a0 a1 a2 b0 b1 b2 c0 c1 c2; obtain ⟨⟨a0, a1, a2⟩, ⟨b0, b1, b2⟩, c0, c1, c2⟩ := K8.out.cells) | (go_at_call 7; refine (same _).mono ?_; rintro e w12 ⟨rfl, hb⟩; have B := Aside0.mk (B.out.trans (hb.mono B.out.size)); clear hb a0 a1 a2 b0 b1 b2 c0 c1 c2))
    refine bodyPost_ret (results_tmp rfl _ _ _) rfl ?_
    exact ⟨rfl, B.out⟩

set_option maxHeartbeats 4000000 in
set_option maxRecDepth 100000 in
theorem less_out (W : World) (a b c : S28) (h0 : a.f0.size ≤ 140737488351232) (h1 : a.f1.size ≤ 140737488351232) (h2 : b.f0.size ≤ 140737488351232) (h3 : b.f1.size ≤ 140737488351232) (h4 : c.f0.size ≤ 140737488351232) (h5 : c.f1.size ≤ 140737488351232) (hs : ¬ (a.f0.size : Int) + a.f1.size + b.f0.size + b.f1.size + c.f0.size + c.f1.size ≤ 2000) : Calls Try.prog 6 #[KV a, KV b, KV c] W fun e w' => e = .returned (.bool true) ∧ Below W.heap.size W w' := by
  go_enter Try.func6, Try.ntmps6
  go_upto_region 1 with (first | ((with_reducible refine gate_dst (N := 3) rfl ?_); refine box_event ?hg (N := 3) ?hd (cs := #[.string a.f0, .string a.f1, .int .i64 a.f2]) (t := 28) ?hr ?_; (case hd => rfl); (case hg => rfl); (case hr => first | (go_simp; done) | (go_simp; rfl)); intro ga hg w1 hbox hb; have G1 := Aside0.mk hg; have B1 := Aside0.mk hb; have X1 := Aside0.mk hbox; clear hbox hb hg) | ((with_reducible refine gate_dst (N := 4) rfl ?_); refine box_event ?hg (N := 4) ?hd (cs := #[.string b.f0, .string b.f1, .int .i64 b.f2]) (t := 28) ?hr ?_; (case hd => rfl); (case hg => rfl); (case hr => first | (go_simp; done) | (go_simp; rfl)); intro gb hg w2 hbox hb; have G2 := Aside0.mk hg; have B2 := Aside0.mk hb; have X2 := Aside0.mk hbox; clear hbox hb hg) | ((with_reducible refine gate_dst (N := 5) rfl ?_); refine box_event ?hg (N := 5) ?hd (cs := #[.string c.f0, .string c.f1, .int .i64 c.f2]) (t := 28) ?hr ?_; (case hd => rfl); (case hg => rfl); (case hr => first | (go_simp; done) | (go_simp; rfl)); intro gc hg w3 hbox hb; have G3 := Aside0.mk hg; have B3 := Aside0.mk hb; have X3 := Aside0.mk hbox; clear hbox hb hg))
  have K := Aside0.mk (show K9 w3 W.heap.size ga gb gc a b c from ⟨blk_below (blk_below X1.out B2.out) B3.out, blk_below X2.out B3.out, X3.out⟩)
  have B := Aside0.mk (B1.out.trans ((B2.out.mono B1.out.size).trans (B3.out.mono (Nat.le_trans B1.out.size B2.out.size))))
  clear X1 X2 X3 B1 B2 B3 G1 G2 G3
  obtain ⟨⟨a0, a1, a2⟩, ⟨b0, b1, b2⟩, c0, c1, c2⟩ := K.out.cells
  go_wp2_with (go_at_call 7; refine (same _).mono ?_; rintro e w12 ⟨rfl, hb⟩; have B := Aside0.mk (B.out.trans (hb.mono B.out.size)); clear hb a0 a1 a2 b0 b1 b2 c0 c1 c2)
  refine bodyPost_ret (results_tmp rfl _ _ _) rfl ?_
  exact ⟨rfl, B.out⟩

/-- The law KeysLess. -/
def tendrillaw07_KeysLess.f (a0_0 : ByteArray) (a0_1 : ByteArray) (a0_2 : Int) (a1_0 : ByteArray) (a1_1 : ByteArray) (a1_2 : Int) (a2_0 : ByteArray) (a2_1 : ByteArray) (a2_2 : Int) : Option Bool :=
  if (a0_0.size ≤ 140737488351232 ∧ a0_1.size ≤ 140737488351232) ∧ (a1_0.size ≤ 140737488351232 ∧ a1_1.size ≤ 140737488351232) ∧ a2_0.size ≤ 140737488351232 ∧ a2_1.size ≤ 140737488351232 then some true else none
theorem tendrillaw07_KeysLess.calls (a0_0 : ByteArray) (a0_1 : ByteArray) (a0_2 : Int) (a1_0 : ByteArray) (a1_1 : ByteArray) (a1_2 : Int) (a2_0 : ByteArray) (a2_1 : ByteArray) (a2_2 : Int) (r : Bool) (w : World) (h : tendrillaw07_KeysLess.f a0_0 a0_1 a0_2 a1_0 a1_1 a1_2 a2_0 a2_1 a2_2 = some r) :
    Calls Try.prog 6 #[.agg #[.string a0_0, .string a0_1, .int .i64 a0_2], .agg #[.string a1_0, .string a1_1, .int .i64 a1_2], .agg #[.string a2_0, .string a2_1, .int .i64 a2_2]] w fun e w' => e = .returned (.bool r) ∧ Below w.heap.size w w' := by
  unfold tendrillaw07_KeysLess.f at h
  split at h
  · rename_i q
    obtain rfl := Option.some.inj h
    by_cases hs : (a0_0.size : Int) + a0_1.size + a1_0.size + a1_1.size + a2_0.size + a2_1.size ≤ 2000
    · exact less_in w ⟨a0_0, a0_1, a0_2⟩ ⟨a1_0, a1_1, a1_2⟩ ⟨a2_0, a2_1, a2_2⟩ hs
    · exact less_out w ⟨a0_0, a0_1, a0_2⟩ ⟨a1_0, a1_1, a1_2⟩ ⟨a2_0, a2_1, a2_2⟩ q.1.1 q.1.2 q.2.1.1 q.2.1.2 q.2.2.1 q.2.2.2 hs
  · exact absurd h (by simp)
end Go.Proofs.Ytmndedahkodibaa.G
