-- Written by gp.py (wip/gen) for this claim: pure functions and contracts, out of the translation; not trusted: Lean checks it.
import Derived.Test.YtcebfldagnjddaaGx0
import Derived.Test.YtcebfldagnjddaaH2
import Derived.Test.YtcebfldagnjddaaGx11
namespace Go.Proofs.Ytcebfldagnjddaa.G
open Go.RowKit Go.Proofs.YtcebfldagnjddaaW.PrintWords Go.Proofs.YtcebfldagnjddaaW.PrintLast Go.Proofs.YtcebfldagnjddaaW.PrintMore
attribute [local go_sem] max2_int min2_int max_two min_two max_three min_three max_four min_four   -- for this text's walks alone
set_option linter.unusedVariables false
set_option linter.unusedSimpArgs false
open Go.Proofs.YtcebfldagnjddaaW.PrintWords renaming below_alloc → zA, pw_below_drewN → zN, below_drew1 → zD, below_set → zS, blk_drewN → zM, blk_drew → zE, blk_alloc → zF, blk_far → zG, blk_put → zP, blk_cell → zC, blk_frozen → zR
/-! ### tendrilref11_Check: function 30 -/
mutual
def tendrilref11_Check.l0 : Nat → List (S63) → Int → Int → Option (Int × Int)
 | 0, _, _, _ => none
 | k + 1, x4, x11, x12 => if x12 < x11 then (if x12 = 4096 then (some (x12, 12)) else (if 0 ≤ x12 then (if x12 < (x4.length : Int) then (if ((rd_T63 x4 x12).f1) > 64 then (some (x12, 11)) else ((tendrilref11_Alone.f k ((rd_T63 x4 x12).f0.f0) ((rd_T63 x4 x12).f0.f1) ((rd_T63 x4 x12).f0.f2) ((rd_T63 x4 x12).f0.f3) ((rd_T63 x4 x12).f0.f4)).bind fun t283 => (if t283 = 0 then (tendrilref11_Check.l1 k x4 x12 x11 x12 x12 0) else (some (x12, t283))))) else (none)) else (none))) else (some (0, 0))
def tendrilref11_Check.l1 : Nat → List (S63) → Int → Int → Int → Int → Int → Option (Int × Int)
 | 0, _, _, _, _, _, _ => none
 | k + 1, x4, x5, x11, x12, x35, x36 => if x36 < x35 then (if 0 ≤ x5 then (if x5 < (x4.length : Int) then (if ((rd_T63 x4 x5).f2) ≥ 0 then (if 0 ≤ x36 then (if x36 < (x4.length : Int) then (if ((rd_T63 x4 x36).f2) = ((rd_T63 x4 x5).f2) then (if ((rd_T63 x4 x5).f0.f1).toList = ([] : List UInt8) then (tendrilref11_Check.l1 k x4 x5 x11 x12 x35 (wrap64 (x36 + 1))) else (if ((rd_T63 x4 x36).f0.f1).toList = ((rd_T63 x4 x5).f0.f1).toList then (some (x5, 10)) else (tendrilref11_Check.l1 k x4 x5 x11 x12 x35 (wrap64 (x36 + 1))))) else (tendrilref11_Check.l1 k x4 x5 x11 x12 x35 (wrap64 (x36 + 1)))) else (none)) else (none)) else (tendrilref11_Check.l1 k x4 x5 x11 x12 x35 (wrap64 (x36 + 1)))) else (none)) else (none)) else (tendrilref11_Check.l0 k x4 x11 (wrap64 (x12 + 1)))
end
def tendrilref11_Check.f (k : Nat) (a0_0 : ByteArray) (a0_1 : ByteArray) (a0_2 : ByteArray) (l0_3 : List (S69)) (l0_4 : List (S25)) : Option (Int × Int) := (tendrilref11_Items.f k a0_0 a0_1 a0_2 l0_3 l0_4).bind fun t278 => (tendrilref11_Check.l0 k t278 (t278.length : Int) 0)
set_option maxHeartbeats 8000000 in
set_option maxRecDepth 100000 in
theorem tendrilref11_Check.calls (k : Nat) (a0_0 : ByteArray) (a0_1 : ByteArray) (a0_2 : ByteArray) (A0_3 : Option Addr) (c0_3 : Nat) (l0_3 : List (S69)) (A0_4 : Option Addr) (c0_4 : Nat) (l0_4 : List (S25)) (r1 : Int) (r2 : Int) (w : World) (hr0_3 : Kd.C k69 w A0_3 l0_3.length l0_3) (hc0_3 : l0_3.length ≤ c0_3) (hr0_4 : Kd.C k25 w A0_4 l0_4.length l0_4) (hc0_4 : l0_4.length ≤ c0_4) (h : tendrilref11_Check.f k a0_0 a0_1 a0_2 l0_3 l0_4 = some (r1, r2)) :
  Calls Try.prog 30 #[.agg #[.string a0_0, .string a0_1, .string a0_2, .slice A0_3 l0_3.length c0_3, .slice A0_4 l0_4.length c0_4]] w fun e w' => e = .returned (.tuple #[.int .i64 r1, .int .i64 r2]) ∧ Below w.heap.size w w' := by
 have hu25 := Try.underlying25
 have HR0_3 := Aside0.mk hr0_3
 have HC0_3 := Aside0.mk hc0_3
 clear hr0_3 hc0_3
 have HR0_4 := Aside0.mk hr0_4
 have HC0_4 := Aside0.mk hc0_4
 clear hr0_4 hc0_4
 have HB := Aside0.mk (Below.refl w.heap.size w)
 have H : ((tendrilref11_Items.f k a0_0 a0_1 a0_2 l0_3 l0_4).bind fun t278 => (tendrilref11_Check.l0 k t278 (t278.length : Int) 0)) = some (r1, r2) := h
 clear h
 replace H := Option.bind_eq_some_iff.mp H
 obtain ⟨t278, A20, H⟩ := H
 replace H : (tendrilref11_Check.l0 k t278 (t278.length : Int) 0) = some (r1, r2) := H
 have A2 := Aside0.mk A20
 clear A20
 have H' := Aside0.mk H
 clear H
 go_enter Try.func30, Try.ntmps30
 go_wp2_with (first | ((with_reducible refine gate_dst (N := 1) rfl ?_); refine box_event ?hg (N := 1) ?hd (cs := #[.string a0_0, .string a0_1, .string a0_2, .slice A0_3 l0_3.length c0_3, .slice A0_4 l0_4.length c0_4]) (t := 25) ?hr ?_; (case hd => rfl); (case hg => rfl); (case hr => first | (go_simp; done) | (go_simp; rfl)); intro gb277 hg w3 hbox hb; have n0_ := Aside0.mk (below_step (by with_reducible repeat first | exact HB.out | apply zA | apply zN | apply zD) hb); have n1_ := Aside0.mk (hbox); have n2_ := Aside0.mk ((by rw [hg]; exact (below_size (by with_reducible repeat first | exact HB.out | apply zA | apply zN | apply zD)) : w.heap.size ≤ gb277)); have n3_ := n2_; clear HB; have HB := n0_; have BK277 := n1_; have GW277 := n2_; have GE277 := n3_; clear n0_ n1_ n2_ n3_; clear hb hbox hg; have hcz4_0 : w3.cell? ⟨gb277, 0, none⟩ = some (.string a0_0) := (zC BK277.out 0).trans rfl; have hcz4_1 : w3.cell? ⟨gb277, 1, none⟩ = some (.string a0_1) := (zC BK277.out 1).trans rfl; have hcz4_2 : w3.cell? ⟨gb277, 2, none⟩ = some (.string a0_2) := (zC BK277.out 2).trans rfl; have hcz4_3 : w3.cell? ⟨gb277, 3, none⟩ = some (.slice A0_3 l0_3.length c0_3) := (zC BK277.out 3).trans rfl; have hcz4_4 : w3.cell? ⟨gb277, 4, none⟩ = some (.slice A0_4 l0_4.length c0_4) := (zC BK277.out 4).trans rfl; have hfz4_0 := zR BK277.out 0; have hfz4_1 := zR BK277.out 1; have hfz4_2 := zR BK277.out 2; have hfz4_3 := zR BK277.out 3; have hfz4_4 := zR BK277.out 4) | (go_at_call 31; (with_reducible refine (tendrilref11_Items.calls k a0_0 a0_1 a0_2 (fun k_ => k_ < w.heap.size) _ _ l0_3 (fun k_ => k_ < w.heap.size) _ _ l0_4 t278 _ ?side1 ?side2 A2.out).mono ?_); (case side1 => exact Kd.V_mk HC0_3.out (Kd.F_below (Kd.C_F k69_heap HR0_3.out) (by with_reducible repeat first | exact HB.out | apply zA | apply zN | apply zD | refine zS ?_ GE277.out))); (case side2 => exact Kd.V_mk HC0_4.out (Kd.F_below (Kd.C_F k25_heap HR0_4.out) (by with_reducible repeat first | exact HB.out | apply zA | apply zN | apply zD | refine zS ?_ GE277.out))); rintro e w5 ⟨v279, rfl, ho0, hb⟩; have n0_ := Aside0.mk (Kd.N_lower (Kd.N_mono (ok' := fun k_ => k_ ≠ gb277) ho0 (fun k_ hk_ => Or.elim hk_ (fun hs_ => Or.elim hs_ (fun hs_ => fun e_ => Nat.not_le.2 hs_ (by rw [e_]; exact GW277.out)) (fun hs_ => fun e_ => Nat.not_le.2 hs_ (by rw [e_]; exact GW277.out))) (fun hn_ => (Kd.freshB (g := gb277) (o := .cells #[.string a0_0, .string a0_1, .string a0_2, .slice A0_3 l0_3.length c0_3, .slice A0_4 l0_4.length c0_4] 25 (0, 0)) (by (with_reducible repeat first | apply zM | apply zE | apply zF); exact BK277.out) k_ hn_)))) (below_size (by with_reducible repeat first | exact HB.out | apply zA | apply zN | apply zD | refine zS ?_ GE277.out))); have n1_ := Aside0.mk (blk_below (g := gb277) (o := .cells #[.string a0_0, .string a0_1, .string a0_2, .slice A0_3 l0_3.length c0_3, .slice A0_4 l0_4.length c0_4] 25 (0, 0)) (by (with_reducible repeat first | apply zM | apply zE | apply zF); exact BK277.out) hb); have n2_ := Aside0.mk (below_step (by with_reducible repeat first | exact HB.out | apply zA | apply zN | apply zD | refine zS ?_ GE277.out) hb); clear BK277; clear HB; have HO280 := n0_; have BK277 := n1_; have HB := n2_; clear n0_ n1_ n2_; (try clear hb); (try clear hb2); (try clear hk); (try clear hi); (try clear ho0); obtain ⟨Ao6, co6, eo6⟩ := Kd.N_slice HO280.out; subst eo6))
 repeat (go_quiet (first | ((with_reducible refine gate_dst (N := 1) rfl ?_); refine box_event ?hg (N := 1) ?hd (cs := #[.string a0_0, .string a0_1, .string a0_2, .slice A0_3 l0_3.length c0_3, .slice A0_4 l0_4.length c0_4]) (t := 25) ?hr ?_; (case hd => rfl); (case hg => rfl); (case hr => first | (go_simp; done) | (go_simp; rfl)); intro gb277 hg w3 hbox hb; have n0_ := Aside0.mk (below_step (by with_reducible repeat first | exact HB.out | apply zA | apply zN | apply zD) hb); have n1_ := Aside0.mk (hbox); have n2_ := Aside0.mk ((by rw [hg]; exact (below_size (by with_reducible repeat first | exact HB.out | apply zA | apply zN | apply zD)) : w.heap.size ≤ gb277)); have n3_ := n2_; clear HB; have HB := n0_; have BK277 := n1_; have GW277 := n2_; have GE277 := n3_; clear n0_ n1_ n2_ n3_; clear hb hbox hg; have hcz4_0 : w3.cell? ⟨gb277, 0, none⟩ = some (.string a0_0) := (zC BK277.out 0).trans rfl; have hcz4_1 : w3.cell? ⟨gb277, 1, none⟩ = some (.string a0_1) := (zC BK277.out 1).trans rfl; have hcz4_2 : w3.cell? ⟨gb277, 2, none⟩ = some (.string a0_2) := (zC BK277.out 2).trans rfl; have hcz4_3 : w3.cell? ⟨gb277, 3, none⟩ = some (.slice A0_3 l0_3.length c0_3) := (zC BK277.out 3).trans rfl; have hcz4_4 : w3.cell? ⟨gb277, 4, none⟩ = some (.slice A0_4 l0_4.length c0_4) := (zC BK277.out 4).trans rfl; have hfz4_0 := zR BK277.out 0; have hfz4_1 := zR BK277.out 1; have hfz4_2 := zR BK277.out 2; have hfz4_3 := zR BK277.out 3; have hfz4_4 := zR BK277.out 4) | (go_at_call 31; (with_reducible refine (tendrilref11_Items.calls k a0_0 a0_1 a0_2 (fun k_ => k_ < w.heap.size) _ _ l0_3 (fun k_ => k_ < w.heap.size) _ _ l0_4 t278 _ ?side1 ?side2 A2.out).mono ?_); (case side1 => exact Kd.V_mk HC0_3.out (Kd.F_below (Kd.C_F k69_heap HR0_3.out) (by with_reducible repeat first | exact HB.out | apply zA | apply zN | apply zD | refine zS ?_ GE277.out))); (case side2 => exact Kd.V_mk HC0_4.out (Kd.F_below (Kd.C_F k25_heap HR0_4.out) (by with_reducible repeat first | exact HB.out | apply zA | apply zN | apply zD | refine zS ?_ GE277.out))); rintro e w5 ⟨v279, rfl, ho0, hb⟩; have n0_ := Aside0.mk (Kd.N_lower (Kd.N_mono (ok' := fun k_ => k_ ≠ gb277) ho0 (fun k_ hk_ => Or.elim hk_ (fun hs_ => Or.elim hs_ (fun hs_ => fun e_ => Nat.not_le.2 hs_ (by rw [e_]; exact GW277.out)) (fun hs_ => fun e_ => Nat.not_le.2 hs_ (by rw [e_]; exact GW277.out))) (fun hn_ => (Kd.freshB (g := gb277) (o := .cells #[.string a0_0, .string a0_1, .string a0_2, .slice A0_3 l0_3.length c0_3, .slice A0_4 l0_4.length c0_4] 25 (0, 0)) (by (with_reducible repeat first | apply zM | apply zE | apply zF); exact BK277.out) k_ hn_)))) (below_size (by with_reducible repeat first | exact HB.out | apply zA | apply zN | apply zD | refine zS ?_ GE277.out))); have n1_ := Aside0.mk (blk_below (g := gb277) (o := .cells #[.string a0_0, .string a0_1, .string a0_2, .slice A0_3 l0_3.length c0_3, .slice A0_4 l0_4.length c0_4] 25 (0, 0)) (by (with_reducible repeat first | apply zM | apply zE | apply zF); exact BK277.out) hb); have n2_ := Aside0.mk (below_step (by with_reducible repeat first | exact HB.out | apply zA | apply zN | apply zD | refine zS ?_ GE277.out) hb); clear BK277; clear HB; have HO280 := n0_; have BK277 := n1_; have HB := n2_; clear n0_ n1_ n2_; (try clear hb); (try clear hb2); (try clear hk); (try clear hi); (try clear ho0); obtain ⟨Ao6, co6, eo6⟩ := Kd.N_slice HO280.out; subst eo6)); try go_wp2_with (first | ((with_reducible refine gate_dst (N := 1) rfl ?_); refine box_event ?hg (N := 1) ?hd (cs := #[.string a0_0, .string a0_1, .string a0_2, .slice A0_3 l0_3.length c0_3, .slice A0_4 l0_4.length c0_4]) (t := 25) ?hr ?_; (case hd => rfl); (case hg => rfl); (case hr => first | (go_simp; done) | (go_simp; rfl)); intro gb277 hg w3 hbox hb; have n0_ := Aside0.mk (below_step (by with_reducible repeat first | exact HB.out | apply zA | apply zN | apply zD) hb); have n1_ := Aside0.mk (hbox); have n2_ := Aside0.mk ((by rw [hg]; exact (below_size (by with_reducible repeat first | exact HB.out | apply zA | apply zN | apply zD)) : w.heap.size ≤ gb277)); have n3_ := n2_; clear HB; have HB := n0_; have BK277 := n1_; have GW277 := n2_; have GE277 := n3_; clear n0_ n1_ n2_ n3_; clear hb hbox hg; have hcz4_0 : w3.cell? ⟨gb277, 0, none⟩ = some (.string a0_0) := (zC BK277.out 0).trans rfl; have hcz4_1 : w3.cell? ⟨gb277, 1, none⟩ = some (.string a0_1) := (zC BK277.out 1).trans rfl; have hcz4_2 : w3.cell? ⟨gb277, 2, none⟩ = some (.string a0_2) := (zC BK277.out 2).trans rfl; have hcz4_3 : w3.cell? ⟨gb277, 3, none⟩ = some (.slice A0_3 l0_3.length c0_3) := (zC BK277.out 3).trans rfl; have hcz4_4 : w3.cell? ⟨gb277, 4, none⟩ = some (.slice A0_4 l0_4.length c0_4) := (zC BK277.out 4).trans rfl; have hfz4_0 := zR BK277.out 0; have hfz4_1 := zR BK277.out 1; have hfz4_2 := zR BK277.out 2; have hfz4_3 := zR BK277.out 3; have hfz4_4 := zR BK277.out 4) | (go_at_call 31; (with_reducible refine (tendrilref11_Items.calls k a0_0 a0_1 a0_2 (fun k_ => k_ < w.heap.size) _ _ l0_3 (fun k_ => k_ < w.heap.size) _ _ l0_4 t278 _ ?side1 ?side2 A2.out).mono ?_); (case side1 => exact Kd.V_mk HC0_3.out (Kd.F_below (Kd.C_F k69_heap HR0_3.out) (by with_reducible repeat first | exact HB.out | apply zA | apply zN | apply zD | refine zS ?_ GE277.out))); (case side2 => exact Kd.V_mk HC0_4.out (Kd.F_below (Kd.C_F k25_heap HR0_4.out) (by with_reducible repeat first | exact HB.out | apply zA | apply zN | apply zD | refine zS ?_ GE277.out))); rintro e w5 ⟨v279, rfl, ho0, hb⟩; have n0_ := Aside0.mk (Kd.N_lower (Kd.N_mono (ok' := fun k_ => k_ ≠ gb277) ho0 (fun k_ hk_ => Or.elim hk_ (fun hs_ => Or.elim hs_ (fun hs_ => fun e_ => Nat.not_le.2 hs_ (by rw [e_]; exact GW277.out)) (fun hs_ => fun e_ => Nat.not_le.2 hs_ (by rw [e_]; exact GW277.out))) (fun hn_ => (Kd.freshB (g := gb277) (o := .cells #[.string a0_0, .string a0_1, .string a0_2, .slice A0_3 l0_3.length c0_3, .slice A0_4 l0_4.length c0_4] 25 (0, 0)) (by (with_reducible repeat first | apply zM | apply zE | apply zF); exact BK277.out) k_ hn_)))) (below_size (by with_reducible repeat first | exact HB.out | apply zA | apply zN | apply zD | refine zS ?_ GE277.out))); have n1_ := Aside0.mk (blk_below (g := gb277) (o := .cells #[.string a0_0, .string a0_1, .string a0_2, .slice A0_3 l0_3.length c0_3, .slice A0_4 l0_4.length c0_4] 25 (0, 0)) (by (with_reducible repeat first | apply zM | apply zE | apply zF); exact BK277.out) hb); have n2_ := Aside0.mk (below_step (by with_reducible repeat first | exact HB.out | apply zA | apply zN | apply zD | refine zS ?_ GE277.out) hb); clear BK277; clear HB; have HO280 := n0_; have BK277 := n1_; have HB := n2_; clear n0_ n1_ n2_; (try clear hb); (try clear hb2); (try clear hk); (try clear hi); (try clear ho0); obtain ⟨Ao6, co6, eo6⟩ := Kd.N_slice HO280.out; subst eo6)))
 go_loopg [12] k (fun kq v12 w' => ∃ (x12_1 : Int), v12 = .int .i64 x12_1 ∧ Aside0 (tendrilref11_Check.l0 kq t278 (t278.length : Int) x12_1 = some (r1, r2)) ∧ Aside0 (kq ≤ k) ∧ Aside0 (Kd.N k63 63 w' w.heap.size (fun k_ => k_ ≠ gb277) (.slice Ao6 t278.length co6) t278) ∧ Aside0 (w'.heap[gb277]? = some (.cells #[.string a0_0, .string a0_1, .string a0_2, (.slice A0_3 l0_3.length c0_3), (.slice A0_4 l0_4.length c0_4)] 25 (0, 0))) ∧ Aside0 (Below w.heap.size w w'))
 case atStart => exact ⟨(0), (by first | rfl | (simp; done) | (simp [*]; done)), H', ⟨Nat.le_refl _⟩, ⟨by (with_reducible repeat (first | apply Kd.N_alloc | apply Kd.N_drewN | apply Kd.N_drew)); exact HO280.out⟩, ⟨by (with_reducible repeat first | apply zM | apply zE | apply zF); exact BK277.out⟩, ⟨by with_reducible repeat first | exact HB.out | apply zA | apply zN | apply zD | refine zS ?_ GE277.out⟩⟩
 case round =>
  clear H'
  try clear p2
  try clear c3
  (try clear BK277)
  obtain ⟨x12_1, rfl, HA, HK1, HO_4, BK277, HB⟩ := hrel
  cases gk with
  | zero => exact absurd HA.out (by simp [tendrilref11_Check.l0])
  | succ k1 =>
   have H := HA.out; clear HA
   simp only [tendrilref11_Check.l0] at H
   by_cases c7 : x12_1 < (t278.length : Int)
   ·
    rw [if_pos c7] at H
    have c7b0 : decide (x12_1 < (t278.length : Int)) = true := decide_eq_true c7; clear c7
    by_cases c8 : x12_1 = 4096
    ·
     rw [if_pos c8] at H
     have c8b0 : (x12_1 == 4096) = true := beq_iff_eq.mpr c8; have c8b1 : (x12_1 != 4096) = false := bne_eq_false_iff_eq.mpr c8; clear c8
     simp only [Option.some.injEq, Prod.mk.injEq] at H
     obtain ⟨rfl, rfl⟩ := H
     go_wp2
     repeat (go_quiet (fail); try go_wp2)
     go_ret2
     exact ⟨by first | rfl | (simp [errW_none, errW_some] <;> rfl) | (simp [*, errW_none, errW_some] <;> rfl), by with_reducible repeat first | exact HB.out | apply zA | apply zN | apply zD | refine zS ?_ GE277.out⟩
    ·
     rw [if_neg c8] at H
     have c8b0 : (x12_1 == 4096) = false := beq_eq_false_iff_ne.mpr c8; have c8b1 : (x12_1 != 4096) = true := bne_iff_ne.mpr c8
     by_cases c9 : 0 ≤ x12_1
     ·
      rw [if_pos c9] at H
      have c9b0 : decide (0 ≤ x12_1) = true := decide_eq_true c9; clear c9
      by_cases c10 : x12_1 < (t278.length : Int)
      ·
       rw [if_pos c10] at H
       have c10b0 : decide (x12_1 < (t278.length : Int)) = true := decide_eq_true c10; clear c10
       by_cases c11 : ((rd_T63 t278 x12_1).f1) > 64
       ·
        rw [if_pos c11] at H
        have c11b0 : decide (64 < ((rd_T63 t278 x12_1).f1)) = true := decide_eq_true c11; clear c11
        simp only [Option.some.injEq, Prod.mk.injEq] at H
        obtain ⟨rfl, rfl⟩ := H; have p281 : 0 ≤ (x12_1 : Int) := of_decide_eq_true (by assumption); have q281 : x12_1 < (t278.length : Int) := of_decide_eq_true (by assumption); obtain ⟨ad281, A281_3, c281_3, A281_4, c281_4, e281, hx281_0, hx281_1, hx281_2, hx281_3, hx281_4, hx281_5, hx281_6, hl281_3, hi281_3, hl281_4, hi281_4⟩ := at_T63 (Kd.N_reads' HO_4.out).2.2 x12_1 p281 q281; cases e281; obtain ⟨ce281, hce281, hMe281, hcc281⟩ := Kd.N_get HO_4.out z63 x12_1 p281 (by first | exact q281 | exact of_decide_eq_true (by assumption) | (have e_ := (Kd.N_reads' HO_4.out).1; omega)); obtain ⟨ua281_3, uc281_3, ua281_4, uc281_4, rfl, ul281_3, ge281_3, ul281_4, ge281_4⟩ := k63_openF hMe281; have hv281_3 := hcc281 3 _ rfl; rw [add_field _ _ 3 (by omega)] at hv281_3
        replace hv281_3 := Option.some.inj (hv281_3.symm.trans hx281_3)
        injection hv281_3 with hva_ hvn_ hvc_
        rw [hva_] at ge281_3
        rw [hvc_] at ul281_3
        have HL281_3 := Aside0.mk (show Kd.V k69 69 _ w.heap.size _ _ ((rd_T63 t278 x12_1).f0.f3) from Kd.V_mk ul281_3 ge281_3); clear hva_ hvn_ hvc_ ge281_3 ul281_3; have hv281_4 := hcc281 4 _ rfl; rw [add_field _ _ 4 (by omega)] at hv281_4
        replace hv281_4 := Option.some.inj (hv281_4.symm.trans hx281_4)
        injection hv281_4 with hva_ hvn_ hvc_
        rw [hva_] at ge281_4
        rw [hvc_] at ul281_4
        have HL281_4 := Aside0.mk (show Kd.V k25 25 _ w.heap.size _ _ ((rd_T63 t278 x12_1).f0.f4) from Kd.V_mk ul281_4 ge281_4); clear hva_ hvn_ hvc_ ge281_4 ul281_4; clear hcc281 hce281; have HR281_3 := Aside0.mk hi281_3; have HC281_3 := Aside0.mk hl281_3; clear hi281_3 hl281_3; have HR281_4 := Aside0.mk hi281_4; have HC281_4 := Aside0.mk hl281_4; clear hi281_4 hl281_4; replace p281 := eq_true p281; replace q281 := eq_true q281
        go_wp2
        repeat (go_quiet (fail); try go_wp2)
        go_ret2
        exact ⟨by first | rfl | (simp [errW_none, errW_some] <;> rfl) | (simp [*, errW_none, errW_some] <;> rfl), by with_reducible repeat first | exact HB.out | apply zA | apply zN | apply zD | refine zS ?_ GE277.out⟩
       ·
        rw [if_neg c11] at H
        have c11b0 : decide (64 < ((rd_T63 t278 x12_1).f1)) = false := decide_eq_false c11; clear c11; replace H := Option.bind_eq_some_iff.mp H; obtain ⟨t283, A120, H⟩ := H; replace H : (if t283 = 0 then (tendrilref11_Check.l1 k1 t278 x12_1 (t278.length : Int) x12_1 x12_1 0) else (some (x12_1, t283))) = some (r1, r2) := H; have A12 := Aside0.mk A120; clear A120
        by_cases c13 : t283 = 0
        ·
         rw [if_pos c13] at H
         have c13b0 : (t283 == 0) = true := beq_iff_eq.mpr c13; have c13b1 : (t283 != 0) = false := bne_eq_false_iff_eq.mpr c13; clear c13; have H' := Aside0.mk H; clear H; have p281 : 0 ≤ (x12_1 : Int) := of_decide_eq_true (by assumption); have q281 : x12_1 < (t278.length : Int) := of_decide_eq_true (by assumption); obtain ⟨ad281, A281_3, c281_3, A281_4, c281_4, e281, hx281_0, hx281_1, hx281_2, hx281_3, hx281_4, hx281_5, hx281_6, hl281_3, hi281_3, hl281_4, hi281_4⟩ := at_T63 (Kd.N_reads' HO_4.out).2.2 x12_1 p281 q281; cases e281; obtain ⟨ce281, hce281, hMe281, hcc281⟩ := Kd.N_get HO_4.out z63 x12_1 p281 (by first | exact q281 | exact of_decide_eq_true (by assumption) | (have e_ := (Kd.N_reads' HO_4.out).1; omega)); obtain ⟨ua281_3, uc281_3, ua281_4, uc281_4, rfl, ul281_3, ge281_3, ul281_4, ge281_4⟩ := k63_openF hMe281; have hv281_3 := hcc281 3 _ rfl; rw [add_field _ _ 3 (by omega)] at hv281_3
         replace hv281_3 := Option.some.inj (hv281_3.symm.trans hx281_3)
         injection hv281_3 with hva_ hvn_ hvc_
         rw [hva_] at ge281_3
         rw [hvc_] at ul281_3
         have HL281_3 := Aside0.mk (show Kd.V k69 69 _ w.heap.size _ _ ((rd_T63 t278 x12_1).f0.f3) from Kd.V_mk ul281_3 ge281_3); clear hva_ hvn_ hvc_ ge281_3 ul281_3; have hv281_4 := hcc281 4 _ rfl; rw [add_field _ _ 4 (by omega)] at hv281_4
         replace hv281_4 := Option.some.inj (hv281_4.symm.trans hx281_4)
         injection hv281_4 with hva_ hvn_ hvc_
         rw [hva_] at ge281_4
         rw [hvc_] at ul281_4
         have HL281_4 := Aside0.mk (show Kd.V k25 25 _ w.heap.size _ _ ((rd_T63 t278 x12_1).f0.f4) from Kd.V_mk ul281_4 ge281_4); clear hva_ hvn_ hvc_ ge281_4 ul281_4; clear hcc281 hce281; have HR281_3 := Aside0.mk hi281_3; have HC281_3 := Aside0.mk hl281_3; clear hi281_3 hl281_3; have HR281_4 := Aside0.mk hi281_4; have HC281_4 := Aside0.mk hl281_4; clear hi281_4 hl281_4; replace p281 := eq_true p281; replace q281 := eq_true q281; have p282 : 0 ≤ (x12_1 : Int) := of_decide_eq_true (by assumption); have q282 : x12_1 < (t278.length : Int) := of_decide_eq_true (by assumption); obtain ⟨ad282, A282_3, c282_3, A282_4, c282_4, e282, hx282_0, hx282_1, hx282_2, hx282_3, hx282_4, hx282_5, hx282_6, hl282_3, hi282_3, hl282_4, hi282_4⟩ := at_T63 (Kd.N_reads' HO_4.out).2.2 x12_1 p282 q282; obtain rfl : ad281 = ad282 := (by injection e282); obtain ⟨ce282, hce282, hMe282, hcc282⟩ := Kd.N_get HO_4.out z63 x12_1 p282 (by first | exact q282 | exact of_decide_eq_true (by assumption) | (have e_ := (Kd.N_reads' HO_4.out).1; omega)); obtain ⟨ua282_3, uc282_3, ua282_4, uc282_4, rfl, ul282_3, ge282_3, ul282_4, ge282_4⟩ := k63_openF hMe282; have hv282_3 := hcc282 3 _ rfl; rw [add_field _ _ 3 (by omega)] at hv282_3
         replace hv282_3 := Option.some.inj (hv282_3.symm.trans hx282_3)
         injection hv282_3 with hva_ hvn_ hvc_
         rw [hva_] at ge282_3
         rw [hvc_] at ul282_3
         have HL282_3 := Aside0.mk (show Kd.V k69 69 _ w.heap.size _ _ ((rd_T63 t278 x12_1).f0.f3) from Kd.V_mk ul282_3 ge282_3); clear hva_ hvn_ hvc_ ge282_3 ul282_3; have hv282_4 := hcc282 4 _ rfl; rw [add_field _ _ 4 (by omega)] at hv282_4
         replace hv282_4 := Option.some.inj (hv282_4.symm.trans hx282_4)
         injection hv282_4 with hva_ hvn_ hvc_
         rw [hva_] at ge282_4
         rw [hvc_] at ul282_4
         have HL282_4 := Aside0.mk (show Kd.V k25 25 _ w.heap.size _ _ ((rd_T63 t278 x12_1).f0.f4) from Kd.V_mk ul282_4 ge282_4); clear hva_ hvn_ hvc_ ge282_4 ul282_4; clear hcc282 hce282; have HR282_3 := Aside0.mk hi282_3; have HC282_3 := Aside0.mk hl282_3; clear hi282_3 hl282_3; have HR282_4 := Aside0.mk hi282_4; have HC282_4 := Aside0.mk hl282_4; clear hi282_4 hl282_4; replace p282 := eq_true p282; replace q282 := eq_true q282; have ea_ := Option.some.inj (hx281_3.symm.trans hx282_3)
         injection ea_ with ea_ en_ ec_
         subst ea_; subst ec_; clear en_; have ea_ := Option.some.inj (hx281_4.symm.trans hx282_4)
         injection ea_ with ea_ en_ ec_
         subst ea_; subst ec_; clear en_
         go_wp2_with (first | (go_at_call 41; (with_reducible refine (tendrilref11_Alone.calls k1 ((rd_T63 t278 x12_1).f0.f0) ((rd_T63 t278 x12_1).f0.f1) ((rd_T63 t278 x12_1).f0.f2) _ _ ((rd_T63 t278 x12_1).f0.f3) _ _ ((rd_T63 t278 x12_1).f0.f4) t283 _ ?side1 ?side2 ?side3 ?side4 A12.out).mono ?_); (case side1 => repeat (first | exact (by repeat (first | (with_reducible exact HR282_3.out) | (with_reducible refine Kd.C_alloc ?_ _) | (with_reducible refine Kd.C_drewN ?_ _) | (with_reducible refine Kd.C_drew ?_) | exact HR282_3.out)) | (with_reducible refine Kd.C_alloc ?_ _) | (with_reducible refine Kd.C_drewN ?_ _) | (with_reducible refine Kd.C_drew ?_))); (case side2 => exact HC282_3.out); (case side3 => repeat (first | exact (by repeat (first | (with_reducible exact HR282_4.out) | (with_reducible refine Kd.C_alloc ?_ _) | (with_reducible refine Kd.C_drewN ?_ _) | (with_reducible refine Kd.C_drew ?_) | exact HR282_4.out)) | (with_reducible refine Kd.C_alloc ?_ _) | (with_reducible refine Kd.C_drewN ?_ _) | (with_reducible refine Kd.C_drew ?_))); (case side4 => exact HC282_4.out); rintro e w14 ⟨rfl, hb⟩; have n0_ := Aside0.mk (Kd.N_below (by (with_reducible repeat (first | apply Kd.N_alloc | apply Kd.N_drewN | apply Kd.N_drew)); exact HO_4.out) hb); have n1_ := Aside0.mk (Kd.V_below (by (with_reducible repeat (first | apply Kd.V_alloc | apply Kd.V_drewN | apply Kd.V_drew)); exact HL281_3.out) hb); have n2_ := Aside0.mk (Kd.V_below (by (with_reducible repeat (first | apply Kd.V_alloc | apply Kd.V_drewN | apply Kd.V_drew)); exact HL281_4.out) hb); have n3_ := Aside0.mk (Kd.V_below (by (with_reducible repeat (first | apply Kd.V_alloc | apply Kd.V_drewN | apply Kd.V_drew)); exact HL282_3.out) hb); have n4_ := Aside0.mk (Kd.V_below (by (with_reducible repeat (first | apply Kd.V_alloc | apply Kd.V_drewN | apply Kd.V_drew)); exact HL282_4.out) hb); have n5_ := Aside0.mk (blk_below (g := gb277) (o := .cells #[.string a0_0, .string a0_1, .string a0_2, .slice A0_3 l0_3.length c0_3, .slice A0_4 l0_4.length c0_4] 25 (0, 0)) (by (with_reducible repeat first | apply zM | apply zE | apply zF); exact BK277.out) hb); have n6_ := Aside0.mk (Kd.C_below (by repeat (first | (with_reducible exact HR281_3.out) | (with_reducible refine Kd.C_alloc ?_ _) | (with_reducible refine Kd.C_drewN ?_ _) | (with_reducible refine Kd.C_drew ?_) | exact HR281_3.out)) hb); have n7_ := Aside0.mk (Kd.C_below (by repeat (first | (with_reducible exact HR281_4.out) | (with_reducible refine Kd.C_alloc ?_ _) | (with_reducible refine Kd.C_drewN ?_ _) | (with_reducible refine Kd.C_drew ?_) | exact HR281_4.out)) hb); have n8_ := Aside0.mk (Kd.C_below (by repeat (first | (with_reducible exact HR282_3.out) | (with_reducible refine Kd.C_alloc ?_ _) | (with_reducible refine Kd.C_drewN ?_ _) | (with_reducible refine Kd.C_drew ?_) | exact HR282_3.out)) hb); have n9_ := Aside0.mk (Kd.C_below (by repeat (first | (with_reducible exact HR282_4.out) | (with_reducible refine Kd.C_alloc ?_ _) | (with_reducible refine Kd.C_drewN ?_ _) | (with_reducible refine Kd.C_drew ?_) | exact HR282_4.out)) hb); have n10_ := Aside0.mk (below_step (by with_reducible repeat first | exact HB.out | apply zA | apply zN | apply zD | refine zS ?_ GE277.out) hb); clear HO_4; clear HL281_3; clear HL281_4; clear HL282_3; clear HL282_4; clear BK277; clear HR281_3; clear HR281_4; clear HR282_3; clear HR282_4; clear HB; have HO_4 := n0_; have HL281_3 := n1_; have HL281_4 := n2_; have HL282_3 := n3_; have HL282_4 := n4_; have BK277 := n5_; have HR281_3 := n6_; have HR281_4 := n7_; have HR282_3 := n8_; have HR282_4 := n9_; have HB := n10_; clear n0_ n1_ n2_ n3_ n4_ n5_ n6_ n7_ n8_ n9_ n10_; (try clear hb); (try clear hb2); (try clear hk); (try clear hi)))
         repeat (go_quiet (first | (go_at_call 41; (with_reducible refine (tendrilref11_Alone.calls k1 ((rd_T63 t278 x12_1).f0.f0) ((rd_T63 t278 x12_1).f0.f1) ((rd_T63 t278 x12_1).f0.f2) _ _ ((rd_T63 t278 x12_1).f0.f3) _ _ ((rd_T63 t278 x12_1).f0.f4) t283 _ ?side1 ?side2 ?side3 ?side4 A12.out).mono ?_); (case side1 => repeat (first | exact (by repeat (first | (with_reducible exact HR282_3.out) | (with_reducible refine Kd.C_alloc ?_ _) | (with_reducible refine Kd.C_drewN ?_ _) | (with_reducible refine Kd.C_drew ?_) | exact HR282_3.out)) | (with_reducible refine Kd.C_alloc ?_ _) | (with_reducible refine Kd.C_drewN ?_ _) | (with_reducible refine Kd.C_drew ?_))); (case side2 => exact HC282_3.out); (case side3 => repeat (first | exact (by repeat (first | (with_reducible exact HR282_4.out) | (with_reducible refine Kd.C_alloc ?_ _) | (with_reducible refine Kd.C_drewN ?_ _) | (with_reducible refine Kd.C_drew ?_) | exact HR282_4.out)) | (with_reducible refine Kd.C_alloc ?_ _) | (with_reducible refine Kd.C_drewN ?_ _) | (with_reducible refine Kd.C_drew ?_))); (case side4 => exact HC282_4.out); rintro e w14 ⟨rfl, hb⟩; have n0_ := Aside0.mk (Kd.N_below (by (with_reducible repeat (first | apply Kd.N_alloc | apply Kd.N_drewN | apply Kd.N_drew)); exact HO_4.out) hb); have n1_ := Aside0.mk (Kd.V_below (by (with_reducible repeat (first | apply Kd.V_alloc | apply Kd.V_drewN | apply Kd.V_drew)); exact HL281_3.out) hb); have n2_ := Aside0.mk (Kd.V_below (by (with_reducible repeat (first | apply Kd.V_alloc | apply Kd.V_drewN | apply Kd.V_drew)); exact HL281_4.out) hb); have n3_ := Aside0.mk (Kd.V_below (by (with_reducible repeat (first | apply Kd.V_alloc | apply Kd.V_drewN | apply Kd.V_drew)); exact HL282_3.out) hb); have n4_ := Aside0.mk (Kd.V_below (by (with_reducible repeat (first | apply Kd.V_alloc | apply Kd.V_drewN | apply Kd.V_drew)); exact HL282_4.out) hb); have n5_ := Aside0.mk (blk_below (g := gb277) (o := .cells #[.string a0_0, .string a0_1, .string a0_2, .slice A0_3 l0_3.length c0_3, .slice A0_4 l0_4.length c0_4] 25 (0, 0)) (by (with_reducible repeat first | apply zM | apply zE | apply zF); exact BK277.out) hb); have n6_ := Aside0.mk (Kd.C_below (by repeat (first | (with_reducible exact HR281_3.out) | (with_reducible refine Kd.C_alloc ?_ _) | (with_reducible refine Kd.C_drewN ?_ _) | (with_reducible refine Kd.C_drew ?_) | exact HR281_3.out)) hb); have n7_ := Aside0.mk (Kd.C_below (by repeat (first | (with_reducible exact HR281_4.out) | (with_reducible refine Kd.C_alloc ?_ _) | (with_reducible refine Kd.C_drewN ?_ _) | (with_reducible refine Kd.C_drew ?_) | exact HR281_4.out)) hb); have n8_ := Aside0.mk (Kd.C_below (by repeat (first | (with_reducible exact HR282_3.out) | (with_reducible refine Kd.C_alloc ?_ _) | (with_reducible refine Kd.C_drewN ?_ _) | (with_reducible refine Kd.C_drew ?_) | exact HR282_3.out)) hb); have n9_ := Aside0.mk (Kd.C_below (by repeat (first | (with_reducible exact HR282_4.out) | (with_reducible refine Kd.C_alloc ?_ _) | (with_reducible refine Kd.C_drewN ?_ _) | (with_reducible refine Kd.C_drew ?_) | exact HR282_4.out)) hb); have n10_ := Aside0.mk (below_step (by with_reducible repeat first | exact HB.out | apply zA | apply zN | apply zD | refine zS ?_ GE277.out) hb); clear HO_4; clear HL281_3; clear HL281_4; clear HL282_3; clear HL282_4; clear BK277; clear HR281_3; clear HR281_4; clear HR282_3; clear HR282_4; clear HB; have HO_4 := n0_; have HL281_3 := n1_; have HL281_4 := n2_; have HL282_3 := n3_; have HL282_4 := n4_; have BK277 := n5_; have HR281_3 := n6_; have HR281_4 := n7_; have HR282_3 := n8_; have HR282_4 := n9_; have HB := n10_; clear n0_ n1_ n2_ n3_ n4_ n5_ n6_ n7_ n8_ n9_ n10_; (try clear hb); (try clear hb2); (try clear hk); (try clear hi))); try go_wp2_with (first | (go_at_call 41; (with_reducible refine (tendrilref11_Alone.calls k1 ((rd_T63 t278 x12_1).f0.f0) ((rd_T63 t278 x12_1).f0.f1) ((rd_T63 t278 x12_1).f0.f2) _ _ ((rd_T63 t278 x12_1).f0.f3) _ _ ((rd_T63 t278 x12_1).f0.f4) t283 _ ?side1 ?side2 ?side3 ?side4 A12.out).mono ?_); (case side1 => repeat (first | exact (by repeat (first | (with_reducible exact HR282_3.out) | (with_reducible refine Kd.C_alloc ?_ _) | (with_reducible refine Kd.C_drewN ?_ _) | (with_reducible refine Kd.C_drew ?_) | exact HR282_3.out)) | (with_reducible refine Kd.C_alloc ?_ _) | (with_reducible refine Kd.C_drewN ?_ _) | (with_reducible refine Kd.C_drew ?_))); (case side2 => exact HC282_3.out); (case side3 => repeat (first | exact (by repeat (first | (with_reducible exact HR282_4.out) | (with_reducible refine Kd.C_alloc ?_ _) | (with_reducible refine Kd.C_drewN ?_ _) | (with_reducible refine Kd.C_drew ?_) | exact HR282_4.out)) | (with_reducible refine Kd.C_alloc ?_ _) | (with_reducible refine Kd.C_drewN ?_ _) | (with_reducible refine Kd.C_drew ?_))); (case side4 => exact HC282_4.out); rintro e w14 ⟨rfl, hb⟩; have n0_ := Aside0.mk (Kd.N_below (by (with_reducible repeat (first | apply Kd.N_alloc | apply Kd.N_drewN | apply Kd.N_drew)); exact HO_4.out) hb); have n1_ := Aside0.mk (Kd.V_below (by (with_reducible repeat (first | apply Kd.V_alloc | apply Kd.V_drewN | apply Kd.V_drew)); exact HL281_3.out) hb); have n2_ := Aside0.mk (Kd.V_below (by (with_reducible repeat (first | apply Kd.V_alloc | apply Kd.V_drewN | apply Kd.V_drew)); exact HL281_4.out) hb); have n3_ := Aside0.mk (Kd.V_below (by (with_reducible repeat (first | apply Kd.V_alloc | apply Kd.V_drewN | apply Kd.V_drew)); exact HL282_3.out) hb); have n4_ := Aside0.mk (Kd.V_below (by (with_reducible repeat (first | apply Kd.V_alloc | apply Kd.V_drewN | apply Kd.V_drew)); exact HL282_4.out) hb); have n5_ := Aside0.mk (blk_below (g := gb277) (o := .cells #[.string a0_0, .string a0_1, .string a0_2, .slice A0_3 l0_3.length c0_3, .slice A0_4 l0_4.length c0_4] 25 (0, 0)) (by (with_reducible repeat first | apply zM | apply zE | apply zF); exact BK277.out) hb); have n6_ := Aside0.mk (Kd.C_below (by repeat (first | (with_reducible exact HR281_3.out) | (with_reducible refine Kd.C_alloc ?_ _) | (with_reducible refine Kd.C_drewN ?_ _) | (with_reducible refine Kd.C_drew ?_) | exact HR281_3.out)) hb); have n7_ := Aside0.mk (Kd.C_below (by repeat (first | (with_reducible exact HR281_4.out) | (with_reducible refine Kd.C_alloc ?_ _) | (with_reducible refine Kd.C_drewN ?_ _) | (with_reducible refine Kd.C_drew ?_) | exact HR281_4.out)) hb); have n8_ := Aside0.mk (Kd.C_below (by repeat (first | (with_reducible exact HR282_3.out) | (with_reducible refine Kd.C_alloc ?_ _) | (with_reducible refine Kd.C_drewN ?_ _) | (with_reducible refine Kd.C_drew ?_) | exact HR282_3.out)) hb); have n9_ := Aside0.mk (Kd.C_below (by repeat (first | (with_reducible exact HR282_4.out) | (with_reducible refine Kd.C_alloc ?_ _) | (with_reducible refine Kd.C_drewN ?_ _) | (with_reducible refine Kd.C_drew ?_) | exact HR282_4.out)) hb); have n10_ := Aside0.mk (below_step (by with_reducible repeat first | exact HB.out | apply zA | apply zN | apply zD | refine zS ?_ GE277.out) hb); clear HO_4; clear HL281_3; clear HL281_4; clear HL282_3; clear HL282_4; clear BK277; clear HR281_3; clear HR281_4; clear HR282_3; clear HR282_4; clear HB; have HO_4 := n0_; have HL281_3 := n1_; have HL281_4 := n2_; have HL282_3 := n3_; have HL282_4 := n4_; have BK277 := n5_; have HR281_3 := n6_; have HR281_4 := n7_; have HR282_3 := n8_; have HR282_4 := n9_; have HB := n10_; clear n0_ n1_ n2_ n3_ n4_ n5_ n6_ n7_ n8_ n9_ n10_; (try clear hb); (try clear hb2); (try clear hk); (try clear hi))))
         go_loopg [36] k1 (fun kq v36 w' => ∃ (x36_2 : Int), v36 = .int .i64 x36_2 ∧ Aside0 (tendrilref11_Check.l1 kq t278 x12_1 (t278.length : Int) x12_1 x12_1 x36_2 = some (r1, r2)) ∧ Aside0 (kq ≤ k1) ∧ Aside0 (Kd.N k63 63 w' w.heap.size (fun k_ => k_ ≠ gb277) (.slice (some ad281) t278.length co6) t278) ∧ Aside0 (w'.heap[gb277]? = some (.cells #[.string a0_0, .string a0_1, .string a0_2, (.slice A0_3 l0_3.length c0_3), (.slice A0_4 l0_4.length c0_4)] 25 (0, 0))) ∧ Aside0 (Kd.C k69 w' A281_3 ((rd_T63 t278 x12_1).f0.f3).length ((rd_T63 t278 x12_1).f0.f3)) ∧ Aside0 (Kd.C k25 w' A281_4 ((rd_T63 t278 x12_1).f0.f4).length ((rd_T63 t278 x12_1).f0.f4)) ∧ Aside0 (Kd.C k69 w' A281_3 ((rd_T63 t278 x12_1).f0.f3).length ((rd_T63 t278 x12_1).f0.f3)) ∧ Aside0 (Kd.C k25 w' A281_4 ((rd_T63 t278 x12_1).f0.f4).length ((rd_T63 t278 x12_1).f0.f4)) ∧ Aside0 (Below w.heap.size w w'))
         case atStart => exact ⟨(0), (by first | rfl | (simp; done) | (simp [*]; done)), H', ⟨Nat.le_refl _⟩, ⟨by (with_reducible repeat (first | apply Kd.N_alloc | apply Kd.N_drewN | apply Kd.N_drew)); exact HO_4.out⟩, ⟨by (with_reducible repeat first | apply zM | apply zE | apply zF); exact BK277.out⟩, ⟨by repeat (first | (with_reducible exact HR281_3.out) | (with_reducible refine Kd.C_alloc ?_ _) | (with_reducible refine Kd.C_drewN ?_ _) | (with_reducible refine Kd.C_drew ?_) | exact HR281_3.out)⟩, ⟨by repeat (first | (with_reducible exact HR281_4.out) | (with_reducible refine Kd.C_alloc ?_ _) | (with_reducible refine Kd.C_drewN ?_ _) | (with_reducible refine Kd.C_drew ?_) | exact HR281_4.out)⟩, ⟨by repeat (first | (with_reducible exact HR282_3.out) | (with_reducible refine Kd.C_alloc ?_ _) | (with_reducible refine Kd.C_drewN ?_ _) | (with_reducible refine Kd.C_drew ?_) | exact HR282_3.out)⟩, ⟨by repeat (first | (with_reducible exact HR282_4.out) | (with_reducible refine Kd.C_alloc ?_ _) | (with_reducible refine Kd.C_drewN ?_ _) | (with_reducible refine Kd.C_drew ?_) | exact HR282_4.out)⟩, ⟨by with_reducible repeat first | exact HB.out | apply zA | apply zN | apply zD | refine zS ?_ GE277.out⟩⟩
         case round =>
          clear H'
          try clear c1
          try clear c2
          try clear p2
          try clear q2
          try clear hx2
          try clear c3
          try clear c7
          try clear c7b0
          try clear c8
          try clear c8b0
          try clear c8b1
          try clear c9
          try clear c9b0
          try clear c10
          try clear c10b0
          try clear c11
          try clear c11b0
          try clear c13
          try clear c13b0
          try clear c13b1
          try clear hx281_0
          try clear hx281_1
          try clear hx281_2
          try clear hx281_3
          try clear hx281_4
          try clear hx281_5
          try clear hx281_6
          try clear hx282_0
          try clear hx282_1
          try clear hx282_2
          try clear hx282_3
          try clear hx282_4
          try clear hx282_5
          try clear hx282_6
          try clear p2
          try clear p281
          try clear p282
          try clear q281
          try clear q282
          (try clear BK277)
          obtain ⟨x36_2, rfl, HA, HK2, HO_4, BK277, HR281_3, HR281_4, HR282_3, HR282_4, HB⟩ := hrel; cases gk with
          | zero => exact absurd HA.out (by simp [tendrilref11_Check.l1])
          | succ k2 =>
           have H := HA.out; clear HA
           simp only [tendrilref11_Check.l1] at H
           by_cases c15 : x36_2 < x12_1
           ·
            rw [if_pos c15] at H
            have c15b0 : decide (x36_2 < x12_1) = true := decide_eq_true c15; clear c15
            by_cases c16 : 0 ≤ x12_1
            ·
             rw [if_pos c16] at H
             have c16b0 : decide (0 ≤ x12_1) = true := decide_eq_true c16; clear c16
             by_cases c17 : x12_1 < (t278.length : Int)
             ·
              rw [if_pos c17] at H
              have c17b0 : decide (x12_1 < (t278.length : Int)) = true := decide_eq_true c17; clear c17
              by_cases c18 : ((rd_T63 t278 x12_1).f2) ≥ 0
              ·
               rw [if_pos c18] at H
               have c18b0 : decide (0 ≤ ((rd_T63 t278 x12_1).f2)) = true := decide_eq_true c18; clear c18
               by_cases c19 : 0 ≤ x36_2
               ·
                rw [if_pos c19] at H
                have c19b0 : decide (0 ≤ x36_2) = true := decide_eq_true c19; clear c19
                by_cases c20 : x36_2 < (t278.length : Int)
                ·
                 rw [if_pos c20] at H
                 have c20b0 : decide (x36_2 < (t278.length : Int)) = true := decide_eq_true c20; clear c20
                 by_cases c21 : ((rd_T63 t278 x36_2).f2) = ((rd_T63 t278 x12_1).f2)
                 ·
                  rw [if_pos c21] at H
                  have c21b0 : (((rd_T63 t278 x36_2).f2) == ((rd_T63 t278 x12_1).f2)) = true := beq_iff_eq.mpr c21; have c21b1 : (((rd_T63 t278 x36_2).f2) != ((rd_T63 t278 x12_1).f2)) = false := bne_eq_false_iff_eq.mpr c21; clear c21
                  by_cases c22 : ((rd_T63 t278 x12_1).f0.f1).toList = ([] : List UInt8)
                  ·
                   rw [if_pos c22] at H
                   have c22b0 : (((rd_T63 t278 x12_1).f0.f1).toList == ([] : List UInt8)) = true := beq_iff_eq.mpr c22; have c22b1 : (((rd_T63 t278 x12_1).f0.f1).toList != ([] : List UInt8)) = false := bne_eq_false_iff_eq.mpr c22; clear c22; have H' := Aside0.mk H; clear H; have p284 : 0 ≤ (x12_1 : Int) := of_decide_eq_true (by assumption); have q284 : x12_1 < (t278.length : Int) := of_decide_eq_true (by assumption); obtain ⟨ad284, A284_3, c284_3, A284_4, c284_4, e284, hx284_0, hx284_1, hx284_2, hx284_3, hx284_4, hx284_5, hx284_6, hl284_3, hi284_3, hl284_4, hi284_4⟩ := at_T63 (Kd.N_reads' HO_4.out).2.2 x12_1 p284 q284; obtain rfl : ad281 = ad284 := (by injection e284); obtain ⟨ce284, hce284, hMe284, hcc284⟩ := Kd.N_get HO_4.out z63 x12_1 p284 (by first | exact q284 | exact of_decide_eq_true (by assumption) | (have e_ := (Kd.N_reads' HO_4.out).1; omega)); obtain ⟨ua284_3, uc284_3, ua284_4, uc284_4, rfl, ul284_3, ge284_3, ul284_4, ge284_4⟩ := k63_openF hMe284; have hv284_3 := hcc284 3 _ rfl; rw [add_field _ _ 3 (by omega)] at hv284_3
                   replace hv284_3 := Option.some.inj (hv284_3.symm.trans hx284_3)
                   injection hv284_3 with hva_ hvn_ hvc_
                   rw [hva_] at ge284_3
                   rw [hvc_] at ul284_3
                   have HL284_3 := Aside0.mk (show Kd.V k69 69 _ w.heap.size _ _ ((rd_T63 t278 x12_1).f0.f3) from Kd.V_mk ul284_3 ge284_3); clear hva_ hvn_ hvc_ ge284_3 ul284_3; have hv284_4 := hcc284 4 _ rfl; rw [add_field _ _ 4 (by omega)] at hv284_4
                   replace hv284_4 := Option.some.inj (hv284_4.symm.trans hx284_4)
                   injection hv284_4 with hva_ hvn_ hvc_
                   rw [hva_] at ge284_4
                   rw [hvc_] at ul284_4
                   have HL284_4 := Aside0.mk (show Kd.V k25 25 _ w.heap.size _ _ ((rd_T63 t278 x12_1).f0.f4) from Kd.V_mk ul284_4 ge284_4); clear hva_ hvn_ hvc_ ge284_4 ul284_4; clear hcc284 hce284; have HR284_3 := Aside0.mk hi284_3; have HC284_3 := Aside0.mk hl284_3; clear hi284_3 hl284_3; have HR284_4 := Aside0.mk hi284_4; have HC284_4 := Aside0.mk hl284_4; clear hi284_4 hl284_4; replace p284 := eq_true p284; replace q284 := eq_true q284; have p285 : 0 ≤ (x36_2 : Int) := of_decide_eq_true (by assumption); have q285 : x36_2 < (t278.length : Int) := of_decide_eq_true (by assumption); obtain ⟨ad285, A285_3, c285_3, A285_4, c285_4, e285, hx285_0, hx285_1, hx285_2, hx285_3, hx285_4, hx285_5, hx285_6, hl285_3, hi285_3, hl285_4, hi285_4⟩ := at_T63 (Kd.N_reads' HO_4.out).2.2 x36_2 p285 q285; obtain rfl : ad281 = ad285 := (by injection e285); obtain ⟨ce285, hce285, hMe285, hcc285⟩ := Kd.N_get HO_4.out z63 x36_2 p285 (by first | exact q285 | exact of_decide_eq_true (by assumption) | (have e_ := (Kd.N_reads' HO_4.out).1; omega)); obtain ⟨ua285_3, uc285_3, ua285_4, uc285_4, rfl, ul285_3, ge285_3, ul285_4, ge285_4⟩ := k63_openF hMe285; have hv285_3 := hcc285 3 _ rfl; rw [add_field _ _ 3 (by omega)] at hv285_3
                   replace hv285_3 := Option.some.inj (hv285_3.symm.trans hx285_3)
                   injection hv285_3 with hva_ hvn_ hvc_
                   rw [hva_] at ge285_3
                   rw [hvc_] at ul285_3
                   have HL285_3 := Aside0.mk (show Kd.V k69 69 _ w.heap.size _ _ ((rd_T63 t278 x36_2).f0.f3) from Kd.V_mk ul285_3 ge285_3); clear hva_ hvn_ hvc_ ge285_3 ul285_3; have hv285_4 := hcc285 4 _ rfl; rw [add_field _ _ 4 (by omega)] at hv285_4
                   replace hv285_4 := Option.some.inj (hv285_4.symm.trans hx285_4)
                   injection hv285_4 with hva_ hvn_ hvc_
                   rw [hva_] at ge285_4
                   rw [hvc_] at ul285_4
                   have HL285_4 := Aside0.mk (show Kd.V k25 25 _ w.heap.size _ _ ((rd_T63 t278 x36_2).f0.f4) from Kd.V_mk ul285_4 ge285_4); clear hva_ hvn_ hvc_ ge285_4 ul285_4; clear hcc285 hce285; have HR285_3 := Aside0.mk hi285_3; have HC285_3 := Aside0.mk hl285_3; clear hi285_3 hl285_3; have HR285_4 := Aside0.mk hi285_4; have HC285_4 := Aside0.mk hl285_4; clear hi285_4 hl285_4; replace p285 := eq_true p285; replace q285 := eq_true q285; have p286 : 0 ≤ (x12_1 : Int) := of_decide_eq_true (by assumption); have q286 : x12_1 < (t278.length : Int) := of_decide_eq_true (by assumption); obtain ⟨ad286, A286_3, c286_3, A286_4, c286_4, e286, hx286_0, hx286_1, hx286_2, hx286_3, hx286_4, hx286_5, hx286_6, hl286_3, hi286_3, hl286_4, hi286_4⟩ := at_T63 (Kd.N_reads' HO_4.out).2.2 x12_1 p286 q286; obtain rfl : ad281 = ad286 := (by injection e286); obtain ⟨ce286, hce286, hMe286, hcc286⟩ := Kd.N_get HO_4.out z63 x12_1 p286 (by first | exact q286 | exact of_decide_eq_true (by assumption) | (have e_ := (Kd.N_reads' HO_4.out).1; omega)); obtain ⟨ua286_3, uc286_3, ua286_4, uc286_4, rfl, ul286_3, ge286_3, ul286_4, ge286_4⟩ := k63_openF hMe286; have hv286_3 := hcc286 3 _ rfl; rw [add_field _ _ 3 (by omega)] at hv286_3
                   replace hv286_3 := Option.some.inj (hv286_3.symm.trans hx286_3)
                   injection hv286_3 with hva_ hvn_ hvc_
                   rw [hva_] at ge286_3
                   rw [hvc_] at ul286_3
                   have HL286_3 := Aside0.mk (show Kd.V k69 69 _ w.heap.size _ _ ((rd_T63 t278 x12_1).f0.f3) from Kd.V_mk ul286_3 ge286_3); clear hva_ hvn_ hvc_ ge286_3 ul286_3; have hv286_4 := hcc286 4 _ rfl; rw [add_field _ _ 4 (by omega)] at hv286_4
                   replace hv286_4 := Option.some.inj (hv286_4.symm.trans hx286_4)
                   injection hv286_4 with hva_ hvn_ hvc_
                   rw [hva_] at ge286_4
                   rw [hvc_] at ul286_4
                   have HL286_4 := Aside0.mk (show Kd.V k25 25 _ w.heap.size _ _ ((rd_T63 t278 x12_1).f0.f4) from Kd.V_mk ul286_4 ge286_4); clear hva_ hvn_ hvc_ ge286_4 ul286_4; clear hcc286 hce286; have HR286_3 := Aside0.mk hi286_3; have HC286_3 := Aside0.mk hl286_3; clear hi286_3 hl286_3; have HR286_4 := Aside0.mk hi286_4; have HC286_4 := Aside0.mk hl286_4; clear hi286_4 hl286_4; replace p286 := eq_true p286; replace q286 := eq_true q286; have ea_ := Option.some.inj (hx284_3.symm.trans hx286_3)
                   injection ea_ with ea_ en_ ec_
                   subst ea_; subst ec_; clear en_; have ea_ := Option.some.inj (hx284_4.symm.trans hx286_4)
                   injection ea_ with ea_ en_ ec_
                   subst ea_; subst ec_; clear en_; have p287 : 0 ≤ (x12_1 : Int) := of_decide_eq_true (by assumption); have q287 : x12_1 < (t278.length : Int) := of_decide_eq_true (by assumption); obtain ⟨ad287, A287_3, c287_3, A287_4, c287_4, e287, hx287_0, hx287_1, hx287_2, hx287_3, hx287_4, hx287_5, hx287_6, hl287_3, hi287_3, hl287_4, hi287_4⟩ := at_T63 (Kd.N_reads' HO_4.out).2.2 x12_1 p287 q287; obtain rfl : ad281 = ad287 := (by injection e287); obtain ⟨ce287, hce287, hMe287, hcc287⟩ := Kd.N_get HO_4.out z63 x12_1 p287 (by first | exact q287 | exact of_decide_eq_true (by assumption) | (have e_ := (Kd.N_reads' HO_4.out).1; omega)); obtain ⟨ua287_3, uc287_3, ua287_4, uc287_4, rfl, ul287_3, ge287_3, ul287_4, ge287_4⟩ := k63_openF hMe287; have hv287_3 := hcc287 3 _ rfl; rw [add_field _ _ 3 (by omega)] at hv287_3
                   replace hv287_3 := Option.some.inj (hv287_3.symm.trans hx287_3)
                   injection hv287_3 with hva_ hvn_ hvc_
                   rw [hva_] at ge287_3
                   rw [hvc_] at ul287_3
                   have HL287_3 := Aside0.mk (show Kd.V k69 69 _ w.heap.size _ _ ((rd_T63 t278 x12_1).f0.f3) from Kd.V_mk ul287_3 ge287_3); clear hva_ hvn_ hvc_ ge287_3 ul287_3; have hv287_4 := hcc287 4 _ rfl; rw [add_field _ _ 4 (by omega)] at hv287_4
                   replace hv287_4 := Option.some.inj (hv287_4.symm.trans hx287_4)
                   injection hv287_4 with hva_ hvn_ hvc_
                   rw [hva_] at ge287_4
                   rw [hvc_] at ul287_4
                   have HL287_4 := Aside0.mk (show Kd.V k25 25 _ w.heap.size _ _ ((rd_T63 t278 x12_1).f0.f4) from Kd.V_mk ul287_4 ge287_4); clear hva_ hvn_ hvc_ ge287_4 ul287_4; clear hcc287 hce287; have HR287_3 := Aside0.mk hi287_3; have HC287_3 := Aside0.mk hl287_3; clear hi287_3 hl287_3; have HR287_4 := Aside0.mk hi287_4; have HC287_4 := Aside0.mk hl287_4; clear hi287_4 hl287_4; replace p287 := eq_true p287; replace q287 := eq_true q287; have ea_ := Option.some.inj (hx284_3.symm.trans hx287_3)
                   injection ea_ with ea_ en_ ec_
                   subst ea_; subst ec_; clear en_; have ea_ := Option.some.inj (hx284_4.symm.trans hx287_4)
                   injection ea_ with ea_ en_ ec_
                   subst ea_; subst ec_; clear en_
                   go_wp2
                   repeat (go_quiet (fail); try go_wp2)
                   go_roundg k2
                   case measure => have := HK1.out; have := HK2.out; omega
                   case rel => exact ⟨(wrap64 (x36_2 + 1)), (by first | rfl | (simp; done) | (simp [*]; done)), H', ⟨by have := HK1.out; have := HK2.out; omega⟩, ⟨by (with_reducible repeat (first | apply Kd.N_alloc | apply Kd.N_drewN | apply Kd.N_drew)); exact HO_4.out⟩, ⟨by (with_reducible repeat first | apply zM | apply zE | apply zF); exact BK277.out⟩, ⟨by repeat (first | (with_reducible exact HR281_3.out) | (with_reducible refine Kd.C_alloc ?_ _) | (with_reducible refine Kd.C_drewN ?_ _) | (with_reducible refine Kd.C_drew ?_) | exact HR281_3.out)⟩, ⟨by repeat (first | (with_reducible exact HR281_4.out) | (with_reducible refine Kd.C_alloc ?_ _) | (with_reducible refine Kd.C_drewN ?_ _) | (with_reducible refine Kd.C_drew ?_) | exact HR281_4.out)⟩, ⟨by repeat (first | (with_reducible exact HR282_3.out) | (with_reducible refine Kd.C_alloc ?_ _) | (with_reducible refine Kd.C_drewN ?_ _) | (with_reducible refine Kd.C_drew ?_) | exact HR282_3.out)⟩, ⟨by repeat (first | (with_reducible exact HR282_4.out) | (with_reducible refine Kd.C_alloc ?_ _) | (with_reducible refine Kd.C_drewN ?_ _) | (with_reducible refine Kd.C_drew ?_) | exact HR282_4.out)⟩, ⟨by with_reducible repeat first | exact HB.out | apply zA | apply zN | apply zD | refine zS ?_ GE277.out⟩⟩
                  ·
                   rw [if_neg c22] at H
                   have c22b0 : (((rd_T63 t278 x12_1).f0.f1).toList == ([] : List UInt8)) = false := beq_eq_false_iff_ne.mpr c22; have c22b1 : (((rd_T63 t278 x12_1).f0.f1).toList != ([] : List UInt8)) = true := bne_iff_ne.mpr c22
                   by_cases c23 : ((rd_T63 t278 x36_2).f0.f1).toList = ((rd_T63 t278 x12_1).f0.f1).toList
                   ·
                    rw [if_pos c23] at H
                    have c23b0 : (((rd_T63 t278 x36_2).f0.f1).toList == ((rd_T63 t278 x12_1).f0.f1).toList) = true := beq_iff_eq.mpr c23; have c23b1 : (((rd_T63 t278 x36_2).f0.f1).toList != ((rd_T63 t278 x12_1).f0.f1).toList) = false := bne_eq_false_iff_eq.mpr c23; clear c23
                    simp only [Option.some.injEq, Prod.mk.injEq] at H
                    obtain ⟨rfl, rfl⟩ := H; have p284 : 0 ≤ (x12_1 : Int) := of_decide_eq_true (by assumption); have q284 : x12_1 < (t278.length : Int) := of_decide_eq_true (by assumption); obtain ⟨ad284, A284_3, c284_3, A284_4, c284_4, e284, hx284_0, hx284_1, hx284_2, hx284_3, hx284_4, hx284_5, hx284_6, hl284_3, hi284_3, hl284_4, hi284_4⟩ := at_T63 (Kd.N_reads' HO_4.out).2.2 x12_1 p284 q284; obtain rfl : ad281 = ad284 := (by injection e284); obtain ⟨ce284, hce284, hMe284, hcc284⟩ := Kd.N_get HO_4.out z63 x12_1 p284 (by first | exact q284 | exact of_decide_eq_true (by assumption) | (have e_ := (Kd.N_reads' HO_4.out).1; omega)); obtain ⟨ua284_3, uc284_3, ua284_4, uc284_4, rfl, ul284_3, ge284_3, ul284_4, ge284_4⟩ := k63_openF hMe284; have hv284_3 := hcc284 3 _ rfl; rw [add_field _ _ 3 (by omega)] at hv284_3
                    replace hv284_3 := Option.some.inj (hv284_3.symm.trans hx284_3)
                    injection hv284_3 with hva_ hvn_ hvc_
                    rw [hva_] at ge284_3
                    rw [hvc_] at ul284_3
                    have HL284_3 := Aside0.mk (show Kd.V k69 69 _ w.heap.size _ _ ((rd_T63 t278 x12_1).f0.f3) from Kd.V_mk ul284_3 ge284_3); clear hva_ hvn_ hvc_ ge284_3 ul284_3; have hv284_4 := hcc284 4 _ rfl; rw [add_field _ _ 4 (by omega)] at hv284_4
                    replace hv284_4 := Option.some.inj (hv284_4.symm.trans hx284_4)
                    injection hv284_4 with hva_ hvn_ hvc_
                    rw [hva_] at ge284_4
                    rw [hvc_] at ul284_4
                    have HL284_4 := Aside0.mk (show Kd.V k25 25 _ w.heap.size _ _ ((rd_T63 t278 x12_1).f0.f4) from Kd.V_mk ul284_4 ge284_4); clear hva_ hvn_ hvc_ ge284_4 ul284_4; clear hcc284 hce284; have HR284_3 := Aside0.mk hi284_3; have HC284_3 := Aside0.mk hl284_3; clear hi284_3 hl284_3; have HR284_4 := Aside0.mk hi284_4; have HC284_4 := Aside0.mk hl284_4; clear hi284_4 hl284_4; replace p284 := eq_true p284; replace q284 := eq_true q284; have p285 : 0 ≤ (x36_2 : Int) := of_decide_eq_true (by assumption); have q285 : x36_2 < (t278.length : Int) := of_decide_eq_true (by assumption); obtain ⟨ad285, A285_3, c285_3, A285_4, c285_4, e285, hx285_0, hx285_1, hx285_2, hx285_3, hx285_4, hx285_5, hx285_6, hl285_3, hi285_3, hl285_4, hi285_4⟩ := at_T63 (Kd.N_reads' HO_4.out).2.2 x36_2 p285 q285; obtain rfl : ad281 = ad285 := (by injection e285); obtain ⟨ce285, hce285, hMe285, hcc285⟩ := Kd.N_get HO_4.out z63 x36_2 p285 (by first | exact q285 | exact of_decide_eq_true (by assumption) | (have e_ := (Kd.N_reads' HO_4.out).1; omega)); obtain ⟨ua285_3, uc285_3, ua285_4, uc285_4, rfl, ul285_3, ge285_3, ul285_4, ge285_4⟩ := k63_openF hMe285; have hv285_3 := hcc285 3 _ rfl; rw [add_field _ _ 3 (by omega)] at hv285_3
                    replace hv285_3 := Option.some.inj (hv285_3.symm.trans hx285_3)
                    injection hv285_3 with hva_ hvn_ hvc_
                    rw [hva_] at ge285_3
                    rw [hvc_] at ul285_3
                    have HL285_3 := Aside0.mk (show Kd.V k69 69 _ w.heap.size _ _ ((rd_T63 t278 x36_2).f0.f3) from Kd.V_mk ul285_3 ge285_3); clear hva_ hvn_ hvc_ ge285_3 ul285_3; have hv285_4 := hcc285 4 _ rfl; rw [add_field _ _ 4 (by omega)] at hv285_4
                    replace hv285_4 := Option.some.inj (hv285_4.symm.trans hx285_4)
                    injection hv285_4 with hva_ hvn_ hvc_
                    rw [hva_] at ge285_4
                    rw [hvc_] at ul285_4
                    have HL285_4 := Aside0.mk (show Kd.V k25 25 _ w.heap.size _ _ ((rd_T63 t278 x36_2).f0.f4) from Kd.V_mk ul285_4 ge285_4); clear hva_ hvn_ hvc_ ge285_4 ul285_4; clear hcc285 hce285; have HR285_3 := Aside0.mk hi285_3; have HC285_3 := Aside0.mk hl285_3; clear hi285_3 hl285_3; have HR285_4 := Aside0.mk hi285_4; have HC285_4 := Aside0.mk hl285_4; clear hi285_4 hl285_4; replace p285 := eq_true p285; replace q285 := eq_true q285; have p286 : 0 ≤ (x12_1 : Int) := of_decide_eq_true (by assumption); have q286 : x12_1 < (t278.length : Int) := of_decide_eq_true (by assumption); obtain ⟨ad286, A286_3, c286_3, A286_4, c286_4, e286, hx286_0, hx286_1, hx286_2, hx286_3, hx286_4, hx286_5, hx286_6, hl286_3, hi286_3, hl286_4, hi286_4⟩ := at_T63 (Kd.N_reads' HO_4.out).2.2 x12_1 p286 q286; obtain rfl : ad281 = ad286 := (by injection e286); obtain ⟨ce286, hce286, hMe286, hcc286⟩ := Kd.N_get HO_4.out z63 x12_1 p286 (by first | exact q286 | exact of_decide_eq_true (by assumption) | (have e_ := (Kd.N_reads' HO_4.out).1; omega)); obtain ⟨ua286_3, uc286_3, ua286_4, uc286_4, rfl, ul286_3, ge286_3, ul286_4, ge286_4⟩ := k63_openF hMe286; have hv286_3 := hcc286 3 _ rfl; rw [add_field _ _ 3 (by omega)] at hv286_3
                    replace hv286_3 := Option.some.inj (hv286_3.symm.trans hx286_3)
                    injection hv286_3 with hva_ hvn_ hvc_
                    rw [hva_] at ge286_3
                    rw [hvc_] at ul286_3
                    have HL286_3 := Aside0.mk (show Kd.V k69 69 _ w.heap.size _ _ ((rd_T63 t278 x12_1).f0.f3) from Kd.V_mk ul286_3 ge286_3); clear hva_ hvn_ hvc_ ge286_3 ul286_3; have hv286_4 := hcc286 4 _ rfl; rw [add_field _ _ 4 (by omega)] at hv286_4
                    replace hv286_4 := Option.some.inj (hv286_4.symm.trans hx286_4)
                    injection hv286_4 with hva_ hvn_ hvc_
                    rw [hva_] at ge286_4
                    rw [hvc_] at ul286_4
                    have HL286_4 := Aside0.mk (show Kd.V k25 25 _ w.heap.size _ _ ((rd_T63 t278 x12_1).f0.f4) from Kd.V_mk ul286_4 ge286_4); clear hva_ hvn_ hvc_ ge286_4 ul286_4; clear hcc286 hce286; have HR286_3 := Aside0.mk hi286_3; have HC286_3 := Aside0.mk hl286_3; clear hi286_3 hl286_3; have HR286_4 := Aside0.mk hi286_4; have HC286_4 := Aside0.mk hl286_4; clear hi286_4 hl286_4; replace p286 := eq_true p286; replace q286 := eq_true q286; have ea_ := Option.some.inj (hx284_3.symm.trans hx286_3)
                    injection ea_ with ea_ en_ ec_
                    subst ea_; subst ec_; clear en_; have ea_ := Option.some.inj (hx284_4.symm.trans hx286_4)
                    injection ea_ with ea_ en_ ec_
                    subst ea_; subst ec_; clear en_; have p287 : 0 ≤ (x12_1 : Int) := of_decide_eq_true (by assumption); have q287 : x12_1 < (t278.length : Int) := of_decide_eq_true (by assumption); obtain ⟨ad287, A287_3, c287_3, A287_4, c287_4, e287, hx287_0, hx287_1, hx287_2, hx287_3, hx287_4, hx287_5, hx287_6, hl287_3, hi287_3, hl287_4, hi287_4⟩ := at_T63 (Kd.N_reads' HO_4.out).2.2 x12_1 p287 q287; obtain rfl : ad281 = ad287 := (by injection e287); obtain ⟨ce287, hce287, hMe287, hcc287⟩ := Kd.N_get HO_4.out z63 x12_1 p287 (by first | exact q287 | exact of_decide_eq_true (by assumption) | (have e_ := (Kd.N_reads' HO_4.out).1; omega)); obtain ⟨ua287_3, uc287_3, ua287_4, uc287_4, rfl, ul287_3, ge287_3, ul287_4, ge287_4⟩ := k63_openF hMe287; have hv287_3 := hcc287 3 _ rfl; rw [add_field _ _ 3 (by omega)] at hv287_3
                    replace hv287_3 := Option.some.inj (hv287_3.symm.trans hx287_3)
                    injection hv287_3 with hva_ hvn_ hvc_
                    rw [hva_] at ge287_3
                    rw [hvc_] at ul287_3
                    have HL287_3 := Aside0.mk (show Kd.V k69 69 _ w.heap.size _ _ ((rd_T63 t278 x12_1).f0.f3) from Kd.V_mk ul287_3 ge287_3); clear hva_ hvn_ hvc_ ge287_3 ul287_3; have hv287_4 := hcc287 4 _ rfl; rw [add_field _ _ 4 (by omega)] at hv287_4
                    replace hv287_4 := Option.some.inj (hv287_4.symm.trans hx287_4)
                    injection hv287_4 with hva_ hvn_ hvc_
                    rw [hva_] at ge287_4
                    rw [hvc_] at ul287_4
                    have HL287_4 := Aside0.mk (show Kd.V k25 25 _ w.heap.size _ _ ((rd_T63 t278 x12_1).f0.f4) from Kd.V_mk ul287_4 ge287_4); clear hva_ hvn_ hvc_ ge287_4 ul287_4; clear hcc287 hce287; have HR287_3 := Aside0.mk hi287_3; have HC287_3 := Aside0.mk hl287_3; clear hi287_3 hl287_3; have HR287_4 := Aside0.mk hi287_4; have HC287_4 := Aside0.mk hl287_4; clear hi287_4 hl287_4; replace p287 := eq_true p287; replace q287 := eq_true q287; have ea_ := Option.some.inj (hx284_3.symm.trans hx287_3)
                    injection ea_ with ea_ en_ ec_
                    subst ea_; subst ec_; clear en_; have ea_ := Option.some.inj (hx284_4.symm.trans hx287_4)
                    injection ea_ with ea_ en_ ec_
                    subst ea_; subst ec_; clear en_; have p288 : 0 ≤ (x36_2 : Int) := of_decide_eq_true (by assumption); have q288 : x36_2 < (t278.length : Int) := of_decide_eq_true (by assumption); obtain ⟨ad288, A288_3, c288_3, A288_4, c288_4, e288, hx288_0, hx288_1, hx288_2, hx288_3, hx288_4, hx288_5, hx288_6, hl288_3, hi288_3, hl288_4, hi288_4⟩ := at_T63 (Kd.N_reads' HO_4.out).2.2 x36_2 p288 q288; obtain rfl : ad281 = ad288 := (by injection e288); obtain ⟨ce288, hce288, hMe288, hcc288⟩ := Kd.N_get HO_4.out z63 x36_2 p288 (by first | exact q288 | exact of_decide_eq_true (by assumption) | (have e_ := (Kd.N_reads' HO_4.out).1; omega)); obtain ⟨ua288_3, uc288_3, ua288_4, uc288_4, rfl, ul288_3, ge288_3, ul288_4, ge288_4⟩ := k63_openF hMe288; have hv288_3 := hcc288 3 _ rfl; rw [add_field _ _ 3 (by omega)] at hv288_3
                    replace hv288_3 := Option.some.inj (hv288_3.symm.trans hx288_3)
                    injection hv288_3 with hva_ hvn_ hvc_
                    rw [hva_] at ge288_3
                    rw [hvc_] at ul288_3
                    have HL288_3 := Aside0.mk (show Kd.V k69 69 _ w.heap.size _ _ ((rd_T63 t278 x36_2).f0.f3) from Kd.V_mk ul288_3 ge288_3); clear hva_ hvn_ hvc_ ge288_3 ul288_3; have hv288_4 := hcc288 4 _ rfl; rw [add_field _ _ 4 (by omega)] at hv288_4
                    replace hv288_4 := Option.some.inj (hv288_4.symm.trans hx288_4)
                    injection hv288_4 with hva_ hvn_ hvc_
                    rw [hva_] at ge288_4
                    rw [hvc_] at ul288_4
                    have HL288_4 := Aside0.mk (show Kd.V k25 25 _ w.heap.size _ _ ((rd_T63 t278 x36_2).f0.f4) from Kd.V_mk ul288_4 ge288_4); clear hva_ hvn_ hvc_ ge288_4 ul288_4; clear hcc288 hce288; have HR288_3 := Aside0.mk hi288_3; have HC288_3 := Aside0.mk hl288_3; clear hi288_3 hl288_3; have HR288_4 := Aside0.mk hi288_4; have HC288_4 := Aside0.mk hl288_4; clear hi288_4 hl288_4; replace p288 := eq_true p288; replace q288 := eq_true q288; have ea_ := Option.some.inj (hx285_3.symm.trans hx288_3)
                    injection ea_ with ea_ en_ ec_
                    subst ea_; subst ec_; clear en_; have ea_ := Option.some.inj (hx285_4.symm.trans hx288_4)
                    injection ea_ with ea_ en_ ec_
                    subst ea_; subst ec_; clear en_; have p289 : 0 ≤ (x12_1 : Int) := of_decide_eq_true (by assumption); have q289 : x12_1 < (t278.length : Int) := of_decide_eq_true (by assumption); obtain ⟨ad289, A289_3, c289_3, A289_4, c289_4, e289, hx289_0, hx289_1, hx289_2, hx289_3, hx289_4, hx289_5, hx289_6, hl289_3, hi289_3, hl289_4, hi289_4⟩ := at_T63 (Kd.N_reads' HO_4.out).2.2 x12_1 p289 q289; obtain rfl : ad281 = ad289 := (by injection e289); obtain ⟨ce289, hce289, hMe289, hcc289⟩ := Kd.N_get HO_4.out z63 x12_1 p289 (by first | exact q289 | exact of_decide_eq_true (by assumption) | (have e_ := (Kd.N_reads' HO_4.out).1; omega)); obtain ⟨ua289_3, uc289_3, ua289_4, uc289_4, rfl, ul289_3, ge289_3, ul289_4, ge289_4⟩ := k63_openF hMe289; have hv289_3 := hcc289 3 _ rfl; rw [add_field _ _ 3 (by omega)] at hv289_3
                    replace hv289_3 := Option.some.inj (hv289_3.symm.trans hx289_3)
                    injection hv289_3 with hva_ hvn_ hvc_
                    rw [hva_] at ge289_3
                    rw [hvc_] at ul289_3
                    have HL289_3 := Aside0.mk (show Kd.V k69 69 _ w.heap.size _ _ ((rd_T63 t278 x12_1).f0.f3) from Kd.V_mk ul289_3 ge289_3); clear hva_ hvn_ hvc_ ge289_3 ul289_3; have hv289_4 := hcc289 4 _ rfl; rw [add_field _ _ 4 (by omega)] at hv289_4
                    replace hv289_4 := Option.some.inj (hv289_4.symm.trans hx289_4)
                    injection hv289_4 with hva_ hvn_ hvc_
                    rw [hva_] at ge289_4
                    rw [hvc_] at ul289_4
                    have HL289_4 := Aside0.mk (show Kd.V k25 25 _ w.heap.size _ _ ((rd_T63 t278 x12_1).f0.f4) from Kd.V_mk ul289_4 ge289_4); clear hva_ hvn_ hvc_ ge289_4 ul289_4; clear hcc289 hce289; have HR289_3 := Aside0.mk hi289_3; have HC289_3 := Aside0.mk hl289_3; clear hi289_3 hl289_3; have HR289_4 := Aside0.mk hi289_4; have HC289_4 := Aside0.mk hl289_4; clear hi289_4 hl289_4; replace p289 := eq_true p289; replace q289 := eq_true q289; have ea_ := Option.some.inj (hx284_3.symm.trans hx289_3)
                    injection ea_ with ea_ en_ ec_
                    subst ea_; subst ec_; clear en_; have ea_ := Option.some.inj (hx284_4.symm.trans hx289_4)
                    injection ea_ with ea_ en_ ec_
                    subst ea_; subst ec_; clear en_
                    go_wp2
                    repeat (go_quiet (fail); try go_wp2)
                    go_ret2
                    exact ⟨by first | rfl | (simp [errW_none, errW_some] <;> rfl) | (simp [*, errW_none, errW_some] <;> rfl), by with_reducible repeat first | exact HB.out | apply zA | apply zN | apply zD | refine zS ?_ GE277.out⟩
                   ·
                    rw [if_neg c23] at H
                    have c23b0 : (((rd_T63 t278 x36_2).f0.f1).toList == ((rd_T63 t278 x12_1).f0.f1).toList) = false := beq_eq_false_iff_ne.mpr c23; have c23b1 : (((rd_T63 t278 x36_2).f0.f1).toList != ((rd_T63 t278 x12_1).f0.f1).toList) = true := bne_iff_ne.mpr c23; have H' := Aside0.mk H; clear H; have p284 : 0 ≤ (x12_1 : Int) := of_decide_eq_true (by assumption); have q284 : x12_1 < (t278.length : Int) := of_decide_eq_true (by assumption); obtain ⟨ad284, A284_3, c284_3, A284_4, c284_4, e284, hx284_0, hx284_1, hx284_2, hx284_3, hx284_4, hx284_5, hx284_6, hl284_3, hi284_3, hl284_4, hi284_4⟩ := at_T63 (Kd.N_reads' HO_4.out).2.2 x12_1 p284 q284; obtain rfl : ad281 = ad284 := (by injection e284); obtain ⟨ce284, hce284, hMe284, hcc284⟩ := Kd.N_get HO_4.out z63 x12_1 p284 (by first | exact q284 | exact of_decide_eq_true (by assumption) | (have e_ := (Kd.N_reads' HO_4.out).1; omega)); obtain ⟨ua284_3, uc284_3, ua284_4, uc284_4, rfl, ul284_3, ge284_3, ul284_4, ge284_4⟩ := k63_openF hMe284; have hv284_3 := hcc284 3 _ rfl; rw [add_field _ _ 3 (by omega)] at hv284_3
                    replace hv284_3 := Option.some.inj (hv284_3.symm.trans hx284_3)
                    injection hv284_3 with hva_ hvn_ hvc_
                    rw [hva_] at ge284_3
                    rw [hvc_] at ul284_3
                    have HL284_3 := Aside0.mk (show Kd.V k69 69 _ w.heap.size _ _ ((rd_T63 t278 x12_1).f0.f3) from Kd.V_mk ul284_3 ge284_3); clear hva_ hvn_ hvc_ ge284_3 ul284_3; have hv284_4 := hcc284 4 _ rfl; rw [add_field _ _ 4 (by omega)] at hv284_4
                    replace hv284_4 := Option.some.inj (hv284_4.symm.trans hx284_4)
                    injection hv284_4 with hva_ hvn_ hvc_
                    rw [hva_] at ge284_4
                    rw [hvc_] at ul284_4
                    have HL284_4 := Aside0.mk (show Kd.V k25 25 _ w.heap.size _ _ ((rd_T63 t278 x12_1).f0.f4) from Kd.V_mk ul284_4 ge284_4); clear hva_ hvn_ hvc_ ge284_4 ul284_4; clear hcc284 hce284; have HR284_3 := Aside0.mk hi284_3; have HC284_3 := Aside0.mk hl284_3; clear hi284_3 hl284_3; have HR284_4 := Aside0.mk hi284_4; have HC284_4 := Aside0.mk hl284_4; clear hi284_4 hl284_4; replace p284 := eq_true p284; replace q284 := eq_true q284; have p285 : 0 ≤ (x36_2 : Int) := of_decide_eq_true (by assumption); have q285 : x36_2 < (t278.length : Int) := of_decide_eq_true (by assumption); obtain ⟨ad285, A285_3, c285_3, A285_4, c285_4, e285, hx285_0, hx285_1, hx285_2, hx285_3, hx285_4, hx285_5, hx285_6, hl285_3, hi285_3, hl285_4, hi285_4⟩ := at_T63 (Kd.N_reads' HO_4.out).2.2 x36_2 p285 q285; obtain rfl : ad281 = ad285 := (by injection e285); obtain ⟨ce285, hce285, hMe285, hcc285⟩ := Kd.N_get HO_4.out z63 x36_2 p285 (by first | exact q285 | exact of_decide_eq_true (by assumption) | (have e_ := (Kd.N_reads' HO_4.out).1; omega)); obtain ⟨ua285_3, uc285_3, ua285_4, uc285_4, rfl, ul285_3, ge285_3, ul285_4, ge285_4⟩ := k63_openF hMe285; have hv285_3 := hcc285 3 _ rfl; rw [add_field _ _ 3 (by omega)] at hv285_3
                    replace hv285_3 := Option.some.inj (hv285_3.symm.trans hx285_3)
                    injection hv285_3 with hva_ hvn_ hvc_
                    rw [hva_] at ge285_3
                    rw [hvc_] at ul285_3
                    have HL285_3 := Aside0.mk (show Kd.V k69 69 _ w.heap.size _ _ ((rd_T63 t278 x36_2).f0.f3) from Kd.V_mk ul285_3 ge285_3); clear hva_ hvn_ hvc_ ge285_3 ul285_3; have hv285_4 := hcc285 4 _ rfl; rw [add_field _ _ 4 (by omega)] at hv285_4
                    replace hv285_4 := Option.some.inj (hv285_4.symm.trans hx285_4)
                    injection hv285_4 with hva_ hvn_ hvc_
                    rw [hva_] at ge285_4
                    rw [hvc_] at ul285_4
                    have HL285_4 := Aside0.mk (show Kd.V k25 25 _ w.heap.size _ _ ((rd_T63 t278 x36_2).f0.f4) from Kd.V_mk ul285_4 ge285_4); clear hva_ hvn_ hvc_ ge285_4 ul285_4; clear hcc285 hce285; have HR285_3 := Aside0.mk hi285_3; have HC285_3 := Aside0.mk hl285_3; clear hi285_3 hl285_3; have HR285_4 := Aside0.mk hi285_4; have HC285_4 := Aside0.mk hl285_4; clear hi285_4 hl285_4; replace p285 := eq_true p285; replace q285 := eq_true q285; have p286 : 0 ≤ (x12_1 : Int) := of_decide_eq_true (by assumption); have q286 : x12_1 < (t278.length : Int) := of_decide_eq_true (by assumption); obtain ⟨ad286, A286_3, c286_3, A286_4, c286_4, e286, hx286_0, hx286_1, hx286_2, hx286_3, hx286_4, hx286_5, hx286_6, hl286_3, hi286_3, hl286_4, hi286_4⟩ := at_T63 (Kd.N_reads' HO_4.out).2.2 x12_1 p286 q286; obtain rfl : ad281 = ad286 := (by injection e286); obtain ⟨ce286, hce286, hMe286, hcc286⟩ := Kd.N_get HO_4.out z63 x12_1 p286 (by first | exact q286 | exact of_decide_eq_true (by assumption) | (have e_ := (Kd.N_reads' HO_4.out).1; omega)); obtain ⟨ua286_3, uc286_3, ua286_4, uc286_4, rfl, ul286_3, ge286_3, ul286_4, ge286_4⟩ := k63_openF hMe286; have hv286_3 := hcc286 3 _ rfl; rw [add_field _ _ 3 (by omega)] at hv286_3
                    replace hv286_3 := Option.some.inj (hv286_3.symm.trans hx286_3)
                    injection hv286_3 with hva_ hvn_ hvc_
                    rw [hva_] at ge286_3
                    rw [hvc_] at ul286_3
                    have HL286_3 := Aside0.mk (show Kd.V k69 69 _ w.heap.size _ _ ((rd_T63 t278 x12_1).f0.f3) from Kd.V_mk ul286_3 ge286_3); clear hva_ hvn_ hvc_ ge286_3 ul286_3; have hv286_4 := hcc286 4 _ rfl; rw [add_field _ _ 4 (by omega)] at hv286_4
                    replace hv286_4 := Option.some.inj (hv286_4.symm.trans hx286_4)
                    injection hv286_4 with hva_ hvn_ hvc_
                    rw [hva_] at ge286_4
                    rw [hvc_] at ul286_4
                    have HL286_4 := Aside0.mk (show Kd.V k25 25 _ w.heap.size _ _ ((rd_T63 t278 x12_1).f0.f4) from Kd.V_mk ul286_4 ge286_4); clear hva_ hvn_ hvc_ ge286_4 ul286_4; clear hcc286 hce286; have HR286_3 := Aside0.mk hi286_3; have HC286_3 := Aside0.mk hl286_3; clear hi286_3 hl286_3; have HR286_4 := Aside0.mk hi286_4; have HC286_4 := Aside0.mk hl286_4; clear hi286_4 hl286_4; replace p286 := eq_true p286; replace q286 := eq_true q286; have ea_ := Option.some.inj (hx284_3.symm.trans hx286_3)
                    injection ea_ with ea_ en_ ec_
                    subst ea_; subst ec_; clear en_; have ea_ := Option.some.inj (hx284_4.symm.trans hx286_4)
                    injection ea_ with ea_ en_ ec_
                    subst ea_; subst ec_; clear en_; have p287 : 0 ≤ (x12_1 : Int) := of_decide_eq_true (by assumption); have q287 : x12_1 < (t278.length : Int) := of_decide_eq_true (by assumption); obtain ⟨ad287, A287_3, c287_3, A287_4, c287_4, e287, hx287_0, hx287_1, hx287_2, hx287_3, hx287_4, hx287_5, hx287_6, hl287_3, hi287_3, hl287_4, hi287_4⟩ := at_T63 (Kd.N_reads' HO_4.out).2.2 x12_1 p287 q287; obtain rfl : ad281 = ad287 := (by injection e287); obtain ⟨ce287, hce287, hMe287, hcc287⟩ := Kd.N_get HO_4.out z63 x12_1 p287 (by first | exact q287 | exact of_decide_eq_true (by assumption) | (have e_ := (Kd.N_reads' HO_4.out).1; omega)); obtain ⟨ua287_3, uc287_3, ua287_4, uc287_4, rfl, ul287_3, ge287_3, ul287_4, ge287_4⟩ := k63_openF hMe287; have hv287_3 := hcc287 3 _ rfl; rw [add_field _ _ 3 (by omega)] at hv287_3
                    replace hv287_3 := Option.some.inj (hv287_3.symm.trans hx287_3)
                    injection hv287_3 with hva_ hvn_ hvc_
                    rw [hva_] at ge287_3
                    rw [hvc_] at ul287_3
                    have HL287_3 := Aside0.mk (show Kd.V k69 69 _ w.heap.size _ _ ((rd_T63 t278 x12_1).f0.f3) from Kd.V_mk ul287_3 ge287_3); clear hva_ hvn_ hvc_ ge287_3 ul287_3; have hv287_4 := hcc287 4 _ rfl; rw [add_field _ _ 4 (by omega)] at hv287_4
                    replace hv287_4 := Option.some.inj (hv287_4.symm.trans hx287_4)
                    injection hv287_4 with hva_ hvn_ hvc_
                    rw [hva_] at ge287_4
                    rw [hvc_] at ul287_4
                    have HL287_4 := Aside0.mk (show Kd.V k25 25 _ w.heap.size _ _ ((rd_T63 t278 x12_1).f0.f4) from Kd.V_mk ul287_4 ge287_4); clear hva_ hvn_ hvc_ ge287_4 ul287_4; clear hcc287 hce287; have HR287_3 := Aside0.mk hi287_3; have HC287_3 := Aside0.mk hl287_3; clear hi287_3 hl287_3; have HR287_4 := Aside0.mk hi287_4; have HC287_4 := Aside0.mk hl287_4; clear hi287_4 hl287_4; replace p287 := eq_true p287; replace q287 := eq_true q287; have ea_ := Option.some.inj (hx284_3.symm.trans hx287_3)
                    injection ea_ with ea_ en_ ec_
                    subst ea_; subst ec_; clear en_; have ea_ := Option.some.inj (hx284_4.symm.trans hx287_4)
                    injection ea_ with ea_ en_ ec_
                    subst ea_; subst ec_; clear en_; have p288 : 0 ≤ (x36_2 : Int) := of_decide_eq_true (by assumption); have q288 : x36_2 < (t278.length : Int) := of_decide_eq_true (by assumption); obtain ⟨ad288, A288_3, c288_3, A288_4, c288_4, e288, hx288_0, hx288_1, hx288_2, hx288_3, hx288_4, hx288_5, hx288_6, hl288_3, hi288_3, hl288_4, hi288_4⟩ := at_T63 (Kd.N_reads' HO_4.out).2.2 x36_2 p288 q288; obtain rfl : ad281 = ad288 := (by injection e288); obtain ⟨ce288, hce288, hMe288, hcc288⟩ := Kd.N_get HO_4.out z63 x36_2 p288 (by first | exact q288 | exact of_decide_eq_true (by assumption) | (have e_ := (Kd.N_reads' HO_4.out).1; omega)); obtain ⟨ua288_3, uc288_3, ua288_4, uc288_4, rfl, ul288_3, ge288_3, ul288_4, ge288_4⟩ := k63_openF hMe288; have hv288_3 := hcc288 3 _ rfl; rw [add_field _ _ 3 (by omega)] at hv288_3
                    replace hv288_3 := Option.some.inj (hv288_3.symm.trans hx288_3)
                    injection hv288_3 with hva_ hvn_ hvc_
                    rw [hva_] at ge288_3
                    rw [hvc_] at ul288_3
                    have HL288_3 := Aside0.mk (show Kd.V k69 69 _ w.heap.size _ _ ((rd_T63 t278 x36_2).f0.f3) from Kd.V_mk ul288_3 ge288_3); clear hva_ hvn_ hvc_ ge288_3 ul288_3; have hv288_4 := hcc288 4 _ rfl; rw [add_field _ _ 4 (by omega)] at hv288_4
                    replace hv288_4 := Option.some.inj (hv288_4.symm.trans hx288_4)
                    injection hv288_4 with hva_ hvn_ hvc_
                    rw [hva_] at ge288_4
                    rw [hvc_] at ul288_4
                    have HL288_4 := Aside0.mk (show Kd.V k25 25 _ w.heap.size _ _ ((rd_T63 t278 x36_2).f0.f4) from Kd.V_mk ul288_4 ge288_4); clear hva_ hvn_ hvc_ ge288_4 ul288_4; clear hcc288 hce288; have HR288_3 := Aside0.mk hi288_3; have HC288_3 := Aside0.mk hl288_3; clear hi288_3 hl288_3; have HR288_4 := Aside0.mk hi288_4; have HC288_4 := Aside0.mk hl288_4; clear hi288_4 hl288_4; replace p288 := eq_true p288; replace q288 := eq_true q288; have ea_ := Option.some.inj (hx285_3.symm.trans hx288_3)
                    injection ea_ with ea_ en_ ec_
                    subst ea_; subst ec_; clear en_; have ea_ := Option.some.inj (hx285_4.symm.trans hx288_4)
                    injection ea_ with ea_ en_ ec_
                    subst ea_; subst ec_; clear en_; have p289 : 0 ≤ (x12_1 : Int) := of_decide_eq_true (by assumption); have q289 : x12_1 < (t278.length : Int) := of_decide_eq_true (by assumption); obtain ⟨ad289, A289_3, c289_3, A289_4, c289_4, e289, hx289_0, hx289_1, hx289_2, hx289_3, hx289_4, hx289_5, hx289_6, hl289_3, hi289_3, hl289_4, hi289_4⟩ := at_T63 (Kd.N_reads' HO_4.out).2.2 x12_1 p289 q289; obtain rfl : ad281 = ad289 := (by injection e289); obtain ⟨ce289, hce289, hMe289, hcc289⟩ := Kd.N_get HO_4.out z63 x12_1 p289 (by first | exact q289 | exact of_decide_eq_true (by assumption) | (have e_ := (Kd.N_reads' HO_4.out).1; omega)); obtain ⟨ua289_3, uc289_3, ua289_4, uc289_4, rfl, ul289_3, ge289_3, ul289_4, ge289_4⟩ := k63_openF hMe289; have hv289_3 := hcc289 3 _ rfl; rw [add_field _ _ 3 (by omega)] at hv289_3
                    replace hv289_3 := Option.some.inj (hv289_3.symm.trans hx289_3)
                    injection hv289_3 with hva_ hvn_ hvc_
                    rw [hva_] at ge289_3
                    rw [hvc_] at ul289_3
                    have HL289_3 := Aside0.mk (show Kd.V k69 69 _ w.heap.size _ _ ((rd_T63 t278 x12_1).f0.f3) from Kd.V_mk ul289_3 ge289_3); clear hva_ hvn_ hvc_ ge289_3 ul289_3; have hv289_4 := hcc289 4 _ rfl; rw [add_field _ _ 4 (by omega)] at hv289_4
                    replace hv289_4 := Option.some.inj (hv289_4.symm.trans hx289_4)
                    injection hv289_4 with hva_ hvn_ hvc_
                    rw [hva_] at ge289_4
                    rw [hvc_] at ul289_4
                    have HL289_4 := Aside0.mk (show Kd.V k25 25 _ w.heap.size _ _ ((rd_T63 t278 x12_1).f0.f4) from Kd.V_mk ul289_4 ge289_4); clear hva_ hvn_ hvc_ ge289_4 ul289_4; clear hcc289 hce289; have HR289_3 := Aside0.mk hi289_3; have HC289_3 := Aside0.mk hl289_3; clear hi289_3 hl289_3; have HR289_4 := Aside0.mk hi289_4; have HC289_4 := Aside0.mk hl289_4; clear hi289_4 hl289_4; replace p289 := eq_true p289; replace q289 := eq_true q289; have ea_ := Option.some.inj (hx284_3.symm.trans hx289_3)
                    injection ea_ with ea_ en_ ec_
                    subst ea_; subst ec_; clear en_; have ea_ := Option.some.inj (hx284_4.symm.trans hx289_4)
                    injection ea_ with ea_ en_ ec_
                    subst ea_; subst ec_; clear en_
                    go_wp2
                    repeat (go_quiet (fail); try go_wp2)
                    go_roundg k2
                    case measure => have := HK1.out; have := HK2.out; omega
                    case rel => exact ⟨(wrap64 (x36_2 + 1)), (by first | rfl | (simp; done) | (simp [*]; done)), H', ⟨by have := HK1.out; have := HK2.out; omega⟩, ⟨by (with_reducible repeat (first | apply Kd.N_alloc | apply Kd.N_drewN | apply Kd.N_drew)); exact HO_4.out⟩, ⟨by (with_reducible repeat first | apply zM | apply zE | apply zF); exact BK277.out⟩, ⟨by repeat (first | (with_reducible exact HR281_3.out) | (with_reducible refine Kd.C_alloc ?_ _) | (with_reducible refine Kd.C_drewN ?_ _) | (with_reducible refine Kd.C_drew ?_) | exact HR281_3.out)⟩, ⟨by repeat (first | (with_reducible exact HR281_4.out) | (with_reducible refine Kd.C_alloc ?_ _) | (with_reducible refine Kd.C_drewN ?_ _) | (with_reducible refine Kd.C_drew ?_) | exact HR281_4.out)⟩, ⟨by repeat (first | (with_reducible exact HR282_3.out) | (with_reducible refine Kd.C_alloc ?_ _) | (with_reducible refine Kd.C_drewN ?_ _) | (with_reducible refine Kd.C_drew ?_) | exact HR282_3.out)⟩, ⟨by repeat (first | (with_reducible exact HR282_4.out) | (with_reducible refine Kd.C_alloc ?_ _) | (with_reducible refine Kd.C_drewN ?_ _) | (with_reducible refine Kd.C_drew ?_) | exact HR282_4.out)⟩, ⟨by with_reducible repeat first | exact HB.out | apply zA | apply zN | apply zD | refine zS ?_ GE277.out⟩⟩
                 ·
                  rw [if_neg c21] at H
                  have c21b0 : (((rd_T63 t278 x36_2).f2) == ((rd_T63 t278 x12_1).f2)) = false := beq_eq_false_iff_ne.mpr c21; have c21b1 : (((rd_T63 t278 x36_2).f2) != ((rd_T63 t278 x12_1).f2)) = true := bne_iff_ne.mpr c21; have H' := Aside0.mk H; clear H; have p284 : 0 ≤ (x12_1 : Int) := of_decide_eq_true (by assumption); have q284 : x12_1 < (t278.length : Int) := of_decide_eq_true (by assumption); obtain ⟨ad284, A284_3, c284_3, A284_4, c284_4, e284, hx284_0, hx284_1, hx284_2, hx284_3, hx284_4, hx284_5, hx284_6, hl284_3, hi284_3, hl284_4, hi284_4⟩ := at_T63 (Kd.N_reads' HO_4.out).2.2 x12_1 p284 q284; obtain rfl : ad281 = ad284 := (by injection e284); obtain ⟨ce284, hce284, hMe284, hcc284⟩ := Kd.N_get HO_4.out z63 x12_1 p284 (by first | exact q284 | exact of_decide_eq_true (by assumption) | (have e_ := (Kd.N_reads' HO_4.out).1; omega)); obtain ⟨ua284_3, uc284_3, ua284_4, uc284_4, rfl, ul284_3, ge284_3, ul284_4, ge284_4⟩ := k63_openF hMe284; have hv284_3 := hcc284 3 _ rfl; rw [add_field _ _ 3 (by omega)] at hv284_3
                  replace hv284_3 := Option.some.inj (hv284_3.symm.trans hx284_3)
                  injection hv284_3 with hva_ hvn_ hvc_
                  rw [hva_] at ge284_3
                  rw [hvc_] at ul284_3
                  have HL284_3 := Aside0.mk (show Kd.V k69 69 _ w.heap.size _ _ ((rd_T63 t278 x12_1).f0.f3) from Kd.V_mk ul284_3 ge284_3); clear hva_ hvn_ hvc_ ge284_3 ul284_3; have hv284_4 := hcc284 4 _ rfl; rw [add_field _ _ 4 (by omega)] at hv284_4
                  replace hv284_4 := Option.some.inj (hv284_4.symm.trans hx284_4)
                  injection hv284_4 with hva_ hvn_ hvc_
                  rw [hva_] at ge284_4
                  rw [hvc_] at ul284_4
                  have HL284_4 := Aside0.mk (show Kd.V k25 25 _ w.heap.size _ _ ((rd_T63 t278 x12_1).f0.f4) from Kd.V_mk ul284_4 ge284_4); clear hva_ hvn_ hvc_ ge284_4 ul284_4; clear hcc284 hce284; have HR284_3 := Aside0.mk hi284_3; have HC284_3 := Aside0.mk hl284_3; clear hi284_3 hl284_3; have HR284_4 := Aside0.mk hi284_4; have HC284_4 := Aside0.mk hl284_4; clear hi284_4 hl284_4; replace p284 := eq_true p284; replace q284 := eq_true q284; have p285 : 0 ≤ (x36_2 : Int) := of_decide_eq_true (by assumption); have q285 : x36_2 < (t278.length : Int) := of_decide_eq_true (by assumption); obtain ⟨ad285, A285_3, c285_3, A285_4, c285_4, e285, hx285_0, hx285_1, hx285_2, hx285_3, hx285_4, hx285_5, hx285_6, hl285_3, hi285_3, hl285_4, hi285_4⟩ := at_T63 (Kd.N_reads' HO_4.out).2.2 x36_2 p285 q285; obtain rfl : ad281 = ad285 := (by injection e285); obtain ⟨ce285, hce285, hMe285, hcc285⟩ := Kd.N_get HO_4.out z63 x36_2 p285 (by first | exact q285 | exact of_decide_eq_true (by assumption) | (have e_ := (Kd.N_reads' HO_4.out).1; omega)); obtain ⟨ua285_3, uc285_3, ua285_4, uc285_4, rfl, ul285_3, ge285_3, ul285_4, ge285_4⟩ := k63_openF hMe285; have hv285_3 := hcc285 3 _ rfl; rw [add_field _ _ 3 (by omega)] at hv285_3
                  replace hv285_3 := Option.some.inj (hv285_3.symm.trans hx285_3)
                  injection hv285_3 with hva_ hvn_ hvc_
                  rw [hva_] at ge285_3
                  rw [hvc_] at ul285_3
                  have HL285_3 := Aside0.mk (show Kd.V k69 69 _ w.heap.size _ _ ((rd_T63 t278 x36_2).f0.f3) from Kd.V_mk ul285_3 ge285_3); clear hva_ hvn_ hvc_ ge285_3 ul285_3; have hv285_4 := hcc285 4 _ rfl; rw [add_field _ _ 4 (by omega)] at hv285_4
                  replace hv285_4 := Option.some.inj (hv285_4.symm.trans hx285_4)
                  injection hv285_4 with hva_ hvn_ hvc_
                  rw [hva_] at ge285_4
                  rw [hvc_] at ul285_4
                  have HL285_4 := Aside0.mk (show Kd.V k25 25 _ w.heap.size _ _ ((rd_T63 t278 x36_2).f0.f4) from Kd.V_mk ul285_4 ge285_4); clear hva_ hvn_ hvc_ ge285_4 ul285_4; clear hcc285 hce285; have HR285_3 := Aside0.mk hi285_3; have HC285_3 := Aside0.mk hl285_3; clear hi285_3 hl285_3; have HR285_4 := Aside0.mk hi285_4; have HC285_4 := Aside0.mk hl285_4; clear hi285_4 hl285_4; replace p285 := eq_true p285; replace q285 := eq_true q285; have p286 : 0 ≤ (x12_1 : Int) := of_decide_eq_true (by assumption); have q286 : x12_1 < (t278.length : Int) := of_decide_eq_true (by assumption); obtain ⟨ad286, A286_3, c286_3, A286_4, c286_4, e286, hx286_0, hx286_1, hx286_2, hx286_3, hx286_4, hx286_5, hx286_6, hl286_3, hi286_3, hl286_4, hi286_4⟩ := at_T63 (Kd.N_reads' HO_4.out).2.2 x12_1 p286 q286; obtain rfl : ad281 = ad286 := (by injection e286); obtain ⟨ce286, hce286, hMe286, hcc286⟩ := Kd.N_get HO_4.out z63 x12_1 p286 (by first | exact q286 | exact of_decide_eq_true (by assumption) | (have e_ := (Kd.N_reads' HO_4.out).1; omega)); obtain ⟨ua286_3, uc286_3, ua286_4, uc286_4, rfl, ul286_3, ge286_3, ul286_4, ge286_4⟩ := k63_openF hMe286; have hv286_3 := hcc286 3 _ rfl; rw [add_field _ _ 3 (by omega)] at hv286_3
                  replace hv286_3 := Option.some.inj (hv286_3.symm.trans hx286_3)
                  injection hv286_3 with hva_ hvn_ hvc_
                  rw [hva_] at ge286_3
                  rw [hvc_] at ul286_3
                  have HL286_3 := Aside0.mk (show Kd.V k69 69 _ w.heap.size _ _ ((rd_T63 t278 x12_1).f0.f3) from Kd.V_mk ul286_3 ge286_3); clear hva_ hvn_ hvc_ ge286_3 ul286_3; have hv286_4 := hcc286 4 _ rfl; rw [add_field _ _ 4 (by omega)] at hv286_4
                  replace hv286_4 := Option.some.inj (hv286_4.symm.trans hx286_4)
                  injection hv286_4 with hva_ hvn_ hvc_
                  rw [hva_] at ge286_4
                  rw [hvc_] at ul286_4
                  have HL286_4 := Aside0.mk (show Kd.V k25 25 _ w.heap.size _ _ ((rd_T63 t278 x12_1).f0.f4) from Kd.V_mk ul286_4 ge286_4); clear hva_ hvn_ hvc_ ge286_4 ul286_4; clear hcc286 hce286; have HR286_3 := Aside0.mk hi286_3; have HC286_3 := Aside0.mk hl286_3; clear hi286_3 hl286_3; have HR286_4 := Aside0.mk hi286_4; have HC286_4 := Aside0.mk hl286_4; clear hi286_4 hl286_4; replace p286 := eq_true p286; replace q286 := eq_true q286; have ea_ := Option.some.inj (hx284_3.symm.trans hx286_3)
                  injection ea_ with ea_ en_ ec_
                  subst ea_; subst ec_; clear en_; have ea_ := Option.some.inj (hx284_4.symm.trans hx286_4)
                  injection ea_ with ea_ en_ ec_
                  subst ea_; subst ec_; clear en_
                  go_wp2
                  repeat (go_quiet (fail); try go_wp2)
                  go_roundg k2
                  case measure => have := HK1.out; have := HK2.out; omega
                  case rel => exact ⟨(wrap64 (x36_2 + 1)), (by first | rfl | (simp; done) | (simp [*]; done)), H', ⟨by have := HK1.out; have := HK2.out; omega⟩, ⟨by (with_reducible repeat (first | apply Kd.N_alloc | apply Kd.N_drewN | apply Kd.N_drew)); exact HO_4.out⟩, ⟨by (with_reducible repeat first | apply zM | apply zE | apply zF); exact BK277.out⟩, ⟨by repeat (first | (with_reducible exact HR281_3.out) | (with_reducible refine Kd.C_alloc ?_ _) | (with_reducible refine Kd.C_drewN ?_ _) | (with_reducible refine Kd.C_drew ?_) | exact HR281_3.out)⟩, ⟨by repeat (first | (with_reducible exact HR281_4.out) | (with_reducible refine Kd.C_alloc ?_ _) | (with_reducible refine Kd.C_drewN ?_ _) | (with_reducible refine Kd.C_drew ?_) | exact HR281_4.out)⟩, ⟨by repeat (first | (with_reducible exact HR282_3.out) | (with_reducible refine Kd.C_alloc ?_ _) | (with_reducible refine Kd.C_drewN ?_ _) | (with_reducible refine Kd.C_drew ?_) | exact HR282_3.out)⟩, ⟨by repeat (first | (with_reducible exact HR282_4.out) | (with_reducible refine Kd.C_alloc ?_ _) | (with_reducible refine Kd.C_drewN ?_ _) | (with_reducible refine Kd.C_drew ?_) | exact HR282_4.out)⟩, ⟨by with_reducible repeat first | exact HB.out | apply zA | apply zN | apply zD | refine zS ?_ GE277.out⟩⟩
                ·
                 rw [if_neg c20] at H
                 exact absurd H (by simp)
               ·
                rw [if_neg c19] at H
                exact absurd H (by simp)
              ·
               rw [if_neg c18] at H
               have c18b0 : decide (0 ≤ ((rd_T63 t278 x12_1).f2)) = false := decide_eq_false c18; clear c18; have H' := Aside0.mk H; clear H; have p284 : 0 ≤ (x12_1 : Int) := of_decide_eq_true (by assumption); have q284 : x12_1 < (t278.length : Int) := of_decide_eq_true (by assumption); obtain ⟨ad284, A284_3, c284_3, A284_4, c284_4, e284, hx284_0, hx284_1, hx284_2, hx284_3, hx284_4, hx284_5, hx284_6, hl284_3, hi284_3, hl284_4, hi284_4⟩ := at_T63 (Kd.N_reads' HO_4.out).2.2 x12_1 p284 q284; obtain rfl : ad281 = ad284 := (by injection e284); obtain ⟨ce284, hce284, hMe284, hcc284⟩ := Kd.N_get HO_4.out z63 x12_1 p284 (by first | exact q284 | exact of_decide_eq_true (by assumption) | (have e_ := (Kd.N_reads' HO_4.out).1; omega)); obtain ⟨ua284_3, uc284_3, ua284_4, uc284_4, rfl, ul284_3, ge284_3, ul284_4, ge284_4⟩ := k63_openF hMe284; have hv284_3 := hcc284 3 _ rfl; rw [add_field _ _ 3 (by omega)] at hv284_3
               replace hv284_3 := Option.some.inj (hv284_3.symm.trans hx284_3)
               injection hv284_3 with hva_ hvn_ hvc_
               rw [hva_] at ge284_3
               rw [hvc_] at ul284_3
               have HL284_3 := Aside0.mk (show Kd.V k69 69 _ w.heap.size _ _ ((rd_T63 t278 x12_1).f0.f3) from Kd.V_mk ul284_3 ge284_3); clear hva_ hvn_ hvc_ ge284_3 ul284_3; have hv284_4 := hcc284 4 _ rfl; rw [add_field _ _ 4 (by omega)] at hv284_4
               replace hv284_4 := Option.some.inj (hv284_4.symm.trans hx284_4)
               injection hv284_4 with hva_ hvn_ hvc_
               rw [hva_] at ge284_4
               rw [hvc_] at ul284_4
               have HL284_4 := Aside0.mk (show Kd.V k25 25 _ w.heap.size _ _ ((rd_T63 t278 x12_1).f0.f4) from Kd.V_mk ul284_4 ge284_4); clear hva_ hvn_ hvc_ ge284_4 ul284_4; clear hcc284 hce284; have HR284_3 := Aside0.mk hi284_3; have HC284_3 := Aside0.mk hl284_3; clear hi284_3 hl284_3; have HR284_4 := Aside0.mk hi284_4; have HC284_4 := Aside0.mk hl284_4; clear hi284_4 hl284_4; replace p284 := eq_true p284; replace q284 := eq_true q284
               go_wp2
               repeat (go_quiet (fail); try go_wp2)
               go_roundg k2
               case measure => have := HK1.out; have := HK2.out; omega
               case rel => exact ⟨(wrap64 (x36_2 + 1)), (by first | rfl | (simp; done) | (simp [*]; done)), H', ⟨by have := HK1.out; have := HK2.out; omega⟩, ⟨by (with_reducible repeat (first | apply Kd.N_alloc | apply Kd.N_drewN | apply Kd.N_drew)); exact HO_4.out⟩, ⟨by (with_reducible repeat first | apply zM | apply zE | apply zF); exact BK277.out⟩, ⟨by repeat (first | (with_reducible exact HR281_3.out) | (with_reducible refine Kd.C_alloc ?_ _) | (with_reducible refine Kd.C_drewN ?_ _) | (with_reducible refine Kd.C_drew ?_) | exact HR281_3.out)⟩, ⟨by repeat (first | (with_reducible exact HR281_4.out) | (with_reducible refine Kd.C_alloc ?_ _) | (with_reducible refine Kd.C_drewN ?_ _) | (with_reducible refine Kd.C_drew ?_) | exact HR281_4.out)⟩, ⟨by repeat (first | (with_reducible exact HR282_3.out) | (with_reducible refine Kd.C_alloc ?_ _) | (with_reducible refine Kd.C_drewN ?_ _) | (with_reducible refine Kd.C_drew ?_) | exact HR282_3.out)⟩, ⟨by repeat (first | (with_reducible exact HR282_4.out) | (with_reducible refine Kd.C_alloc ?_ _) | (with_reducible refine Kd.C_drewN ?_ _) | (with_reducible refine Kd.C_drew ?_) | exact HR282_4.out)⟩, ⟨by with_reducible repeat first | exact HB.out | apply zA | apply zN | apply zD | refine zS ?_ GE277.out⟩⟩
             ·
              rw [if_neg c17] at H
              exact absurd H (by simp)
            ·
             rw [if_neg c16] at H
             exact absurd H (by simp)
           ·
            rw [if_neg c15] at H
            have c15b0 : decide (x36_2 < x12_1) = false := decide_eq_false c15; clear c15; have H' := Aside0.mk H; clear H
            go_wp2
            repeat (go_quiet (fail); try go_wp2)
            go_roundg k2
            case measure => have := HK1.out; have := HK2.out; omega
            case rel => exact ⟨(wrap64 (x12_1 + 1)), (by first | rfl | (simp; done) | (simp [*]; done)), H', ⟨by have := HK1.out; have := HK2.out; omega⟩, ⟨by (with_reducible repeat (first | apply Kd.N_alloc | apply Kd.N_drewN | apply Kd.N_drew)); exact HO_4.out⟩, ⟨by (with_reducible repeat first | apply zM | apply zE | apply zF); exact BK277.out⟩, ⟨by with_reducible repeat first | exact HB.out | apply zA | apply zN | apply zD | refine zS ?_ GE277.out⟩⟩
        ·
         rw [if_neg c13] at H
         have c13b0 : (t283 == 0) = false := beq_eq_false_iff_ne.mpr c13; have c13b1 : (t283 != 0) = true := bne_iff_ne.mpr c13
         simp only [Option.some.injEq, Prod.mk.injEq] at H
         obtain ⟨rfl, rfl⟩ := H; have p281 : 0 ≤ (x12_1 : Int) := of_decide_eq_true (by assumption); have q281 : x12_1 < (t278.length : Int) := of_decide_eq_true (by assumption); obtain ⟨ad281, A281_3, c281_3, A281_4, c281_4, e281, hx281_0, hx281_1, hx281_2, hx281_3, hx281_4, hx281_5, hx281_6, hl281_3, hi281_3, hl281_4, hi281_4⟩ := at_T63 (Kd.N_reads' HO_4.out).2.2 x12_1 p281 q281; cases e281; obtain ⟨ce281, hce281, hMe281, hcc281⟩ := Kd.N_get HO_4.out z63 x12_1 p281 (by first | exact q281 | exact of_decide_eq_true (by assumption) | (have e_ := (Kd.N_reads' HO_4.out).1; omega)); obtain ⟨ua281_3, uc281_3, ua281_4, uc281_4, rfl, ul281_3, ge281_3, ul281_4, ge281_4⟩ := k63_openF hMe281; have hv281_3 := hcc281 3 _ rfl; rw [add_field _ _ 3 (by omega)] at hv281_3
         replace hv281_3 := Option.some.inj (hv281_3.symm.trans hx281_3)
         injection hv281_3 with hva_ hvn_ hvc_
         rw [hva_] at ge281_3
         rw [hvc_] at ul281_3
         have HL281_3 := Aside0.mk (show Kd.V k69 69 _ w.heap.size _ _ ((rd_T63 t278 x12_1).f0.f3) from Kd.V_mk ul281_3 ge281_3); clear hva_ hvn_ hvc_ ge281_3 ul281_3; have hv281_4 := hcc281 4 _ rfl; rw [add_field _ _ 4 (by omega)] at hv281_4
         replace hv281_4 := Option.some.inj (hv281_4.symm.trans hx281_4)
         injection hv281_4 with hva_ hvn_ hvc_
         rw [hva_] at ge281_4
         rw [hvc_] at ul281_4
         have HL281_4 := Aside0.mk (show Kd.V k25 25 _ w.heap.size _ _ ((rd_T63 t278 x12_1).f0.f4) from Kd.V_mk ul281_4 ge281_4); clear hva_ hvn_ hvc_ ge281_4 ul281_4; clear hcc281 hce281; have HR281_3 := Aside0.mk hi281_3; have HC281_3 := Aside0.mk hl281_3; clear hi281_3 hl281_3; have HR281_4 := Aside0.mk hi281_4; have HC281_4 := Aside0.mk hl281_4; clear hi281_4 hl281_4; replace p281 := eq_true p281; replace q281 := eq_true q281; have p282 : 0 ≤ (x12_1 : Int) := of_decide_eq_true (by assumption); have q282 : x12_1 < (t278.length : Int) := of_decide_eq_true (by assumption); obtain ⟨ad282, A282_3, c282_3, A282_4, c282_4, e282, hx282_0, hx282_1, hx282_2, hx282_3, hx282_4, hx282_5, hx282_6, hl282_3, hi282_3, hl282_4, hi282_4⟩ := at_T63 (Kd.N_reads' HO_4.out).2.2 x12_1 p282 q282; obtain rfl : ad281 = ad282 := (by injection e282); obtain ⟨ce282, hce282, hMe282, hcc282⟩ := Kd.N_get HO_4.out z63 x12_1 p282 (by first | exact q282 | exact of_decide_eq_true (by assumption) | (have e_ := (Kd.N_reads' HO_4.out).1; omega)); obtain ⟨ua282_3, uc282_3, ua282_4, uc282_4, rfl, ul282_3, ge282_3, ul282_4, ge282_4⟩ := k63_openF hMe282; have hv282_3 := hcc282 3 _ rfl; rw [add_field _ _ 3 (by omega)] at hv282_3
         replace hv282_3 := Option.some.inj (hv282_3.symm.trans hx282_3)
         injection hv282_3 with hva_ hvn_ hvc_
         rw [hva_] at ge282_3
         rw [hvc_] at ul282_3
         have HL282_3 := Aside0.mk (show Kd.V k69 69 _ w.heap.size _ _ ((rd_T63 t278 x12_1).f0.f3) from Kd.V_mk ul282_3 ge282_3); clear hva_ hvn_ hvc_ ge282_3 ul282_3; have hv282_4 := hcc282 4 _ rfl; rw [add_field _ _ 4 (by omega)] at hv282_4
         replace hv282_4 := Option.some.inj (hv282_4.symm.trans hx282_4)
         injection hv282_4 with hva_ hvn_ hvc_
         rw [hva_] at ge282_4
         rw [hvc_] at ul282_4
         have HL282_4 := Aside0.mk (show Kd.V k25 25 _ w.heap.size _ _ ((rd_T63 t278 x12_1).f0.f4) from Kd.V_mk ul282_4 ge282_4); clear hva_ hvn_ hvc_ ge282_4 ul282_4; clear hcc282 hce282; have HR282_3 := Aside0.mk hi282_3; have HC282_3 := Aside0.mk hl282_3; clear hi282_3 hl282_3; have HR282_4 := Aside0.mk hi282_4; have HC282_4 := Aside0.mk hl282_4; clear hi282_4 hl282_4; replace p282 := eq_true p282; replace q282 := eq_true q282; have ea_ := Option.some.inj (hx281_3.symm.trans hx282_3)
         injection ea_ with ea_ en_ ec_
         subst ea_; subst ec_; clear en_; have ea_ := Option.some.inj (hx281_4.symm.trans hx282_4)
         injection ea_ with ea_ en_ ec_
         subst ea_; subst ec_; clear en_
         go_wp2_with (first | (go_at_call 41; (with_reducible refine (tendrilref11_Alone.calls k1 ((rd_T63 t278 x12_1).f0.f0) ((rd_T63 t278 x12_1).f0.f1) ((rd_T63 t278 x12_1).f0.f2) _ _ ((rd_T63 t278 x12_1).f0.f3) _ _ ((rd_T63 t278 x12_1).f0.f4) t283 _ ?side1 ?side2 ?side3 ?side4 A12.out).mono ?_); (case side1 => repeat (first | exact (by repeat (first | (with_reducible exact HR282_3.out) | (with_reducible refine Kd.C_alloc ?_ _) | (with_reducible refine Kd.C_drewN ?_ _) | (with_reducible refine Kd.C_drew ?_) | exact HR282_3.out)) | (with_reducible refine Kd.C_alloc ?_ _) | (with_reducible refine Kd.C_drewN ?_ _) | (with_reducible refine Kd.C_drew ?_))); (case side2 => exact HC282_3.out); (case side3 => repeat (first | exact (by repeat (first | (with_reducible exact HR282_4.out) | (with_reducible refine Kd.C_alloc ?_ _) | (with_reducible refine Kd.C_drewN ?_ _) | (with_reducible refine Kd.C_drew ?_) | exact HR282_4.out)) | (with_reducible refine Kd.C_alloc ?_ _) | (with_reducible refine Kd.C_drewN ?_ _) | (with_reducible refine Kd.C_drew ?_))); (case side4 => exact HC282_4.out); rintro e w24 ⟨rfl, hb⟩; have n0_ := Aside0.mk (Kd.N_below (by (with_reducible repeat (first | apply Kd.N_alloc | apply Kd.N_drewN | apply Kd.N_drew)); exact HO_4.out) hb); have n1_ := Aside0.mk (Kd.V_below (by (with_reducible repeat (first | apply Kd.V_alloc | apply Kd.V_drewN | apply Kd.V_drew)); exact HL281_3.out) hb); have n2_ := Aside0.mk (Kd.V_below (by (with_reducible repeat (first | apply Kd.V_alloc | apply Kd.V_drewN | apply Kd.V_drew)); exact HL281_4.out) hb); have n3_ := Aside0.mk (Kd.V_below (by (with_reducible repeat (first | apply Kd.V_alloc | apply Kd.V_drewN | apply Kd.V_drew)); exact HL282_3.out) hb); have n4_ := Aside0.mk (Kd.V_below (by (with_reducible repeat (first | apply Kd.V_alloc | apply Kd.V_drewN | apply Kd.V_drew)); exact HL282_4.out) hb); have n5_ := Aside0.mk (blk_below (g := gb277) (o := .cells #[.string a0_0, .string a0_1, .string a0_2, .slice A0_3 l0_3.length c0_3, .slice A0_4 l0_4.length c0_4] 25 (0, 0)) (by (with_reducible repeat first | apply zM | apply zE | apply zF); exact BK277.out) hb); have n6_ := Aside0.mk (Kd.C_below (by repeat (first | (with_reducible exact HR281_3.out) | (with_reducible refine Kd.C_alloc ?_ _) | (with_reducible refine Kd.C_drewN ?_ _) | (with_reducible refine Kd.C_drew ?_) | exact HR281_3.out)) hb); have n7_ := Aside0.mk (Kd.C_below (by repeat (first | (with_reducible exact HR281_4.out) | (with_reducible refine Kd.C_alloc ?_ _) | (with_reducible refine Kd.C_drewN ?_ _) | (with_reducible refine Kd.C_drew ?_) | exact HR281_4.out)) hb); have n8_ := Aside0.mk (Kd.C_below (by repeat (first | (with_reducible exact HR282_3.out) | (with_reducible refine Kd.C_alloc ?_ _) | (with_reducible refine Kd.C_drewN ?_ _) | (with_reducible refine Kd.C_drew ?_) | exact HR282_3.out)) hb); have n9_ := Aside0.mk (Kd.C_below (by repeat (first | (with_reducible exact HR282_4.out) | (with_reducible refine Kd.C_alloc ?_ _) | (with_reducible refine Kd.C_drewN ?_ _) | (with_reducible refine Kd.C_drew ?_) | exact HR282_4.out)) hb); have n10_ := Aside0.mk (below_step (by with_reducible repeat first | exact HB.out | apply zA | apply zN | apply zD | refine zS ?_ GE277.out) hb); clear HO_4; clear HL281_3; clear HL281_4; clear HL282_3; clear HL282_4; clear BK277; clear HR281_3; clear HR281_4; clear HR282_3; clear HR282_4; clear HB; have HO_4 := n0_; have HL281_3 := n1_; have HL281_4 := n2_; have HL282_3 := n3_; have HL282_4 := n4_; have BK277 := n5_; have HR281_3 := n6_; have HR281_4 := n7_; have HR282_3 := n8_; have HR282_4 := n9_; have HB := n10_; clear n0_ n1_ n2_ n3_ n4_ n5_ n6_ n7_ n8_ n9_ n10_; (try clear hb); (try clear hb2); (try clear hk); (try clear hi)))
         repeat (go_quiet (first | (go_at_call 41; (with_reducible refine (tendrilref11_Alone.calls k1 ((rd_T63 t278 x12_1).f0.f0) ((rd_T63 t278 x12_1).f0.f1) ((rd_T63 t278 x12_1).f0.f2) _ _ ((rd_T63 t278 x12_1).f0.f3) _ _ ((rd_T63 t278 x12_1).f0.f4) t283 _ ?side1 ?side2 ?side3 ?side4 A12.out).mono ?_); (case side1 => repeat (first | exact (by repeat (first | (with_reducible exact HR282_3.out) | (with_reducible refine Kd.C_alloc ?_ _) | (with_reducible refine Kd.C_drewN ?_ _) | (with_reducible refine Kd.C_drew ?_) | exact HR282_3.out)) | (with_reducible refine Kd.C_alloc ?_ _) | (with_reducible refine Kd.C_drewN ?_ _) | (with_reducible refine Kd.C_drew ?_))); (case side2 => exact HC282_3.out); (case side3 => repeat (first | exact (by repeat (first | (with_reducible exact HR282_4.out) | (with_reducible refine Kd.C_alloc ?_ _) | (with_reducible refine Kd.C_drewN ?_ _) | (with_reducible refine Kd.C_drew ?_) | exact HR282_4.out)) | (with_reducible refine Kd.C_alloc ?_ _) | (with_reducible refine Kd.C_drewN ?_ _) | (with_reducible refine Kd.C_drew ?_))); (case side4 => exact HC282_4.out); rintro e w24 ⟨rfl, hb⟩; have n0_ := Aside0.mk (Kd.N_below (by (with_reducible repeat (first | apply Kd.N_alloc | apply Kd.N_drewN | apply Kd.N_drew)); exact HO_4.out) hb); have n1_ := Aside0.mk (Kd.V_below (by (with_reducible repeat (first | apply Kd.V_alloc | apply Kd.V_drewN | apply Kd.V_drew)); exact HL281_3.out) hb); have n2_ := Aside0.mk (Kd.V_below (by (with_reducible repeat (first | apply Kd.V_alloc | apply Kd.V_drewN | apply Kd.V_drew)); exact HL281_4.out) hb); have n3_ := Aside0.mk (Kd.V_below (by (with_reducible repeat (first | apply Kd.V_alloc | apply Kd.V_drewN | apply Kd.V_drew)); exact HL282_3.out) hb); have n4_ := Aside0.mk (Kd.V_below (by (with_reducible repeat (first | apply Kd.V_alloc | apply Kd.V_drewN | apply Kd.V_drew)); exact HL282_4.out) hb); have n5_ := Aside0.mk (blk_below (g := gb277) (o := .cells #[.string a0_0, .string a0_1, .string a0_2, .slice A0_3 l0_3.length c0_3, .slice A0_4 l0_4.length c0_4] 25 (0, 0)) (by (with_reducible repeat first | apply zM | apply zE | apply zF); exact BK277.out) hb); have n6_ := Aside0.mk (Kd.C_below (by repeat (first | (with_reducible exact HR281_3.out) | (with_reducible refine Kd.C_alloc ?_ _) | (with_reducible refine Kd.C_drewN ?_ _) | (with_reducible refine Kd.C_drew ?_) | exact HR281_3.out)) hb); have n7_ := Aside0.mk (Kd.C_below (by repeat (first | (with_reducible exact HR281_4.out) | (with_reducible refine Kd.C_alloc ?_ _) | (with_reducible refine Kd.C_drewN ?_ _) | (with_reducible refine Kd.C_drew ?_) | exact HR281_4.out)) hb); have n8_ := Aside0.mk (Kd.C_below (by repeat (first | (with_reducible exact HR282_3.out) | (with_reducible refine Kd.C_alloc ?_ _) | (with_reducible refine Kd.C_drewN ?_ _) | (with_reducible refine Kd.C_drew ?_) | exact HR282_3.out)) hb); have n9_ := Aside0.mk (Kd.C_below (by repeat (first | (with_reducible exact HR282_4.out) | (with_reducible refine Kd.C_alloc ?_ _) | (with_reducible refine Kd.C_drewN ?_ _) | (with_reducible refine Kd.C_drew ?_) | exact HR282_4.out)) hb); have n10_ := Aside0.mk (below_step (by with_reducible repeat first | exact HB.out | apply zA | apply zN | apply zD | refine zS ?_ GE277.out) hb); clear HO_4; clear HL281_3; clear HL281_4; clear HL282_3; clear HL282_4; clear BK277; clear HR281_3; clear HR281_4; clear HR282_3; clear HR282_4; clear HB; have HO_4 := n0_; have HL281_3 := n1_; have HL281_4 := n2_; have HL282_3 := n3_; have HL282_4 := n4_; have BK277 := n5_; have HR281_3 := n6_; have HR281_4 := n7_; have HR282_3 := n8_; have HR282_4 := n9_; have HB := n10_; clear n0_ n1_ n2_ n3_ n4_ n5_ n6_ n7_ n8_ n9_ n10_; (try clear hb); (try clear hb2); (try clear hk); (try clear hi))); try go_wp2_with (first | (go_at_call 41; (with_reducible refine (tendrilref11_Alone.calls k1 ((rd_T63 t278 x12_1).f0.f0) ((rd_T63 t278 x12_1).f0.f1) ((rd_T63 t278 x12_1).f0.f2) _ _ ((rd_T63 t278 x12_1).f0.f3) _ _ ((rd_T63 t278 x12_1).f0.f4) t283 _ ?side1 ?side2 ?side3 ?side4 A12.out).mono ?_); (case side1 => repeat (first | exact (by repeat (first | (with_reducible exact HR282_3.out) | (with_reducible refine Kd.C_alloc ?_ _) | (with_reducible refine Kd.C_drewN ?_ _) | (with_reducible refine Kd.C_drew ?_) | exact HR282_3.out)) | (with_reducible refine Kd.C_alloc ?_ _) | (with_reducible refine Kd.C_drewN ?_ _) | (with_reducible refine Kd.C_drew ?_))); (case side2 => exact HC282_3.out); (case side3 => repeat (first | exact (by repeat (first | (with_reducible exact HR282_4.out) | (with_reducible refine Kd.C_alloc ?_ _) | (with_reducible refine Kd.C_drewN ?_ _) | (with_reducible refine Kd.C_drew ?_) | exact HR282_4.out)) | (with_reducible refine Kd.C_alloc ?_ _) | (with_reducible refine Kd.C_drewN ?_ _) | (with_reducible refine Kd.C_drew ?_))); (case side4 => exact HC282_4.out); rintro e w24 ⟨rfl, hb⟩; have n0_ := Aside0.mk (Kd.N_below (by (with_reducible repeat (first | apply Kd.N_alloc | apply Kd.N_drewN | apply Kd.N_drew)); exact HO_4.out) hb); have n1_ := Aside0.mk (Kd.V_below (by (with_reducible repeat (first | apply Kd.V_alloc | apply Kd.V_drewN | apply Kd.V_drew)); exact HL281_3.out) hb); have n2_ := Aside0.mk (Kd.V_below (by (with_reducible repeat (first | apply Kd.V_alloc | apply Kd.V_drewN | apply Kd.V_drew)); exact HL281_4.out) hb); have n3_ := Aside0.mk (Kd.V_below (by (with_reducible repeat (first | apply Kd.V_alloc | apply Kd.V_drewN | apply Kd.V_drew)); exact HL282_3.out) hb); have n4_ := Aside0.mk (Kd.V_below (by (with_reducible repeat (first | apply Kd.V_alloc | apply Kd.V_drewN | apply Kd.V_drew)); exact HL282_4.out) hb); have n5_ := Aside0.mk (blk_below (g := gb277) (o := .cells #[.string a0_0, .string a0_1, .string a0_2, .slice A0_3 l0_3.length c0_3, .slice A0_4 l0_4.length c0_4] 25 (0, 0)) (by (with_reducible repeat first | apply zM | apply zE | apply zF); exact BK277.out) hb); have n6_ := Aside0.mk (Kd.C_below (by repeat (first | (with_reducible exact HR281_3.out) | (with_reducible refine Kd.C_alloc ?_ _) | (with_reducible refine Kd.C_drewN ?_ _) | (with_reducible refine Kd.C_drew ?_) | exact HR281_3.out)) hb); have n7_ := Aside0.mk (Kd.C_below (by repeat (first | (with_reducible exact HR281_4.out) | (with_reducible refine Kd.C_alloc ?_ _) | (with_reducible refine Kd.C_drewN ?_ _) | (with_reducible refine Kd.C_drew ?_) | exact HR281_4.out)) hb); have n8_ := Aside0.mk (Kd.C_below (by repeat (first | (with_reducible exact HR282_3.out) | (with_reducible refine Kd.C_alloc ?_ _) | (with_reducible refine Kd.C_drewN ?_ _) | (with_reducible refine Kd.C_drew ?_) | exact HR282_3.out)) hb); have n9_ := Aside0.mk (Kd.C_below (by repeat (first | (with_reducible exact HR282_4.out) | (with_reducible refine Kd.C_alloc ?_ _) | (with_reducible refine Kd.C_drewN ?_ _) | (with_reducible refine Kd.C_drew ?_) | exact HR282_4.out)) hb); have n10_ := Aside0.mk (below_step (by with_reducible repeat first | exact HB.out | apply zA | apply zN | apply zD | refine zS ?_ GE277.out) hb); clear HO_4; clear HL281_3; clear HL281_4; clear HL282_3; clear HL282_4; clear BK277; clear HR281_3; clear HR281_4; clear HR282_3; clear HR282_4; clear HB; have HO_4 := n0_; have HL281_3 := n1_; have HL281_4 := n2_; have HL282_3 := n3_; have HL282_4 := n4_; have BK277 := n5_; have HR281_3 := n6_; have HR281_4 := n7_; have HR282_3 := n8_; have HR282_4 := n9_; have HB := n10_; clear n0_ n1_ n2_ n3_ n4_ n5_ n6_ n7_ n8_ n9_ n10_; (try clear hb); (try clear hb2); (try clear hk); (try clear hi))))
         go_ret2
         exact ⟨by first | rfl | (simp [errW_none, errW_some] <;> rfl) | (simp [*, errW_none, errW_some] <;> rfl), by with_reducible repeat first | exact HB.out | apply zA | apply zN | apply zD | refine zS ?_ GE277.out⟩
      ·
       rw [if_neg c10] at H
       exact absurd H (by simp)
     ·
      rw [if_neg c9] at H
      exact absurd H (by simp)
   ·
    rw [if_neg c7] at H
    have c7b0 : decide (x12_1 < (t278.length : Int)) = false := decide_eq_false c7; clear c7
    simp only [Option.some.injEq, Prod.mk.injEq] at H
    obtain ⟨rfl, rfl⟩ := H
    go_wp2
    repeat (go_quiet (fail); try go_wp2)
    go_ret2
    exact ⟨by first | rfl | (simp [errW_none, errW_some] <;> rfl) | (simp [*, errW_none, errW_some] <;> rfl), by with_reducible repeat first | exact HB.out | apply zA | apply zN | apply zD | refine zS ?_ GE277.out⟩
end Go.Proofs.Ytcebfldagnjddaa.G
