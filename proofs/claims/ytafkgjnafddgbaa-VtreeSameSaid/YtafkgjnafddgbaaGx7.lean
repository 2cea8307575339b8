-- Written by gp.py (wip/gen) for this claim: pure functions and contracts, out of the translation; not trusted: Lean checks it.
import Derived.Test.YtafkgjnafddgbaaGx0
import Derived.Test.YtafkgjnafddgbaaH2
import Derived.Test.YtafkgjnafddgbaaGx6
namespace Go.Proofs.Ytafkgjnafddgbaa.G
open Go.RowKit Go.Proofs.YtafkgjnafddgbaaW.PrintWords Go.Proofs.YtafkgjnafddgbaaW.PrintLast Go.Proofs.YtafkgjnafddgbaaW.PrintMore
attribute [local go_sem] max2_int min2_int max_two min_two max_three min_three max_four min_four   -- for this text's walks alone
set_option linter.unusedVariables false
set_option linter.unusedSimpArgs false

open Go.Proofs.YtafkgjnafddgbaaW.PrintWords renaming below_alloc → zA, pw_below_drewN → zN, below_drew1 → zD, below_set → zS, blk_drewN → zM, blk_drew → zE, blk_alloc → zF, blk_far → zG, blk_put → zP, blk_cell → zC, blk_frozen → zR
/-! ### tendrilref11_Check: function 9 -/
mutual
def tendrilref11_Check.l0 : Nat → List (S48) → Int → Int → Option (Int × Int)
 | 0, _, _, _ => none
 | k + 1, x4, x11, x12 => if x12 < x11 then (if x12 = 4096 then (some (x12, 12)) else (if 0 ≤ x12 then (if x12 < (x4.length : Int) then (if ((rd_T48 x4 x12).f1) > 64 then (some (x12, 11)) else ((tendrilref11_Alone.f k ((rd_T48 x4 x12).f0.f0) ((rd_T48 x4 x12).f0.f1) ((rd_T48 x4 x12).f0.f2) ((rd_T48 x4 x12).f0.f3) ((rd_T48 x4 x12).f0.f4)).bind fun t174 => (if t174 = 0 then (tendrilref11_Check.l1 k x4 x12 x11 x12 x12 0) else (some (x12, t174))))) else (none)) else (none))) else (some (0, 0))
def tendrilref11_Check.l1 : Nat → List (S48) → Int → Int → Int → Int → Int → Option (Int × Int)
 | 0, _, _, _, _, _, _ => none
 | k + 1, x4, x5, x11, x12, x35, x36 => if x36 < x35 then (if 0 ≤ x5 then (if x5 < (x4.length : Int) then (if ((rd_T48 x4 x5).f2) ≥ 0 then (if 0 ≤ x36 then (if x36 < (x4.length : Int) then (if ((rd_T48 x4 x36).f2) = ((rd_T48 x4 x5).f2) then (if ((rd_T48 x4 x5).f0.f1).toList = ([] : List UInt8) then (tendrilref11_Check.l1 k x4 x5 x11 x12 x35 (wrap64 (x36 + 1))) else (if ((rd_T48 x4 x36).f0.f1).toList = ((rd_T48 x4 x5).f0.f1).toList then (some (x5, 10)) else (tendrilref11_Check.l1 k x4 x5 x11 x12 x35 (wrap64 (x36 + 1))))) else (tendrilref11_Check.l1 k x4 x5 x11 x12 x35 (wrap64 (x36 + 1)))) else (none)) else (none)) else (tendrilref11_Check.l1 k x4 x5 x11 x12 x35 (wrap64 (x36 + 1)))) else (none)) else (none)) else (tendrilref11_Check.l0 k x4 x11 (wrap64 (x12 + 1)))
end
def tendrilref11_Check.f (k : Nat) (a0_0 : ByteArray) (a0_1 : ByteArray) (a0_2 : ByteArray) (l0_3 : List (S42)) (l0_4 : List (S25)) : Option (Int × Int) := (tendrilref11_Items.f k a0_0 a0_1 a0_2 l0_3 l0_4).bind fun t169 => (tendrilref11_Check.l0 k t169 (t169.length : Int) 0)
set_option maxHeartbeats 8000000 in
set_option maxRecDepth 100000 in
theorem tendrilref11_Check.calls (k : Nat) (a0_0 : ByteArray) (a0_1 : ByteArray) (a0_2 : ByteArray) (A0_3 : Option Addr) (c0_3 : Nat) (l0_3 : List (S42)) (A0_4 : Option Addr) (c0_4 : Nat) (l0_4 : List (S25)) (r1 : Int) (r2 : Int) (w : World) (hr0_3 : Kd.C k42 w A0_3 l0_3.length l0_3) (hc0_3 : l0_3.length ≤ c0_3) (hr0_4 : Kd.C k25 w A0_4 l0_4.length l0_4) (hc0_4 : l0_4.length ≤ c0_4) (h : tendrilref11_Check.f k a0_0 a0_1 a0_2 l0_3 l0_4 = some (r1, r2)) :
  Calls Try.prog 9 #[.agg #[.string a0_0, .string a0_1, .string a0_2, .slice A0_3 l0_3.length c0_3, .slice A0_4 l0_4.length c0_4]] w fun e w' => e = .returned (.tuple #[.int .i64 r1, .int .i64 r2]) ∧ Below w.heap.size w w' := by
 have hu25 := Try.underlying25
 have HR0_3 := Aside0.mk hr0_3
 have HC0_3 := Aside0.mk hc0_3
 clear hr0_3 hc0_3
 have HR0_4 := Aside0.mk hr0_4
 have HC0_4 := Aside0.mk hc0_4
 clear hr0_4 hc0_4
 have HB := Aside0.mk (Below.refl w.heap.size w)
 have H : ((tendrilref11_Items.f k a0_0 a0_1 a0_2 l0_3 l0_4).bind fun t169 => (tendrilref11_Check.l0 k t169 (t169.length : Int) 0)) = some (r1, r2) := h
 clear h
 replace H := Option.bind_eq_some_iff.mp H
 obtain ⟨t169, A20, H⟩ := H
 replace H : (tendrilref11_Check.l0 k t169 (t169.length : Int) 0) = some (r1, r2) := H
 have A2 := Aside0.mk A20
 clear A20
 have H' := Aside0.mk H
 clear H
 go_enter Try.func9, Try.ntmps9
 go_wp2_with (first | ((with_reducible refine gate_dst (N := 1) rfl ?_); refine box_event ?hg (N := 1) ?hd (cs := #[.string a0_0, .string a0_1, .string a0_2, .slice A0_3 l0_3.length c0_3, .slice A0_4 l0_4.length c0_4]) (t := 25) ?hr ?_; (case hd => rfl); (case hg => rfl); (case hr => first | (go_simp; done) | (go_simp; rfl)); intro gb168 hg w3 hbox hb; have n0_ := Aside0.mk (below_step (by repeat (first | (with_reducible first | exact HB.out | apply zA | apply zN | apply zD) | exact HB.out)) hb); have n1_ := Aside0.mk (hbox); have n2_ := Aside0.mk ((by rw [hg]; exact (below_size (by repeat (first | (with_reducible first | exact HB.out | apply zA | apply zN | apply zD) | exact HB.out))) : w.heap.size ≤ gb168)); have n3_ := Aside0.mk ((by rw [hg]; exact (below_size (by repeat (first | (with_reducible first | exact HB.out | apply zA | apply zN | apply zD) | exact HB.out))) : w.heap.size ≤ gb168)); clear HB; have HB := n0_; have BK168 := n1_; have GW168 := n2_; have GE168 := n3_; clear n0_ n1_ n2_ n3_; clear hb hbox hg; have hcz4_0 : w3.cell? ⟨gb168, 0, none⟩ = some (.string a0_0) := (zC BK168.out 0).trans rfl; have hcz4_1 : w3.cell? ⟨gb168, 1, none⟩ = some (.string a0_1) := (zC BK168.out 1).trans rfl; have hcz4_2 : w3.cell? ⟨gb168, 2, none⟩ = some (.string a0_2) := (zC BK168.out 2).trans rfl; have hcz4_3 : w3.cell? ⟨gb168, 3, none⟩ = some (.slice A0_3 l0_3.length c0_3) := (zC BK168.out 3).trans rfl; have hcz4_4 : w3.cell? ⟨gb168, 4, none⟩ = some (.slice A0_4 l0_4.length c0_4) := (zC BK168.out 4).trans rfl; have hfz4_0 := zR BK168.out 0; have hfz4_1 := zR BK168.out 1; have hfz4_2 := zR BK168.out 2; have hfz4_3 := zR BK168.out 3; have hfz4_4 := zR BK168.out 4) | (go_at_call 12; (with_reducible refine (tendrilref11_Items.calls k a0_0 a0_1 a0_2 (fun k_ => k_ < w.heap.size) _ _ l0_3 (fun k_ => k_ < w.heap.size) _ _ l0_4 t169 _ ?side1 ?side2 A2.out).mono ?_); (case side1 => exact Kd.V_mk HC0_3.out (Kd.F_below (Kd.C_F k42_heap HR0_3.out) (by repeat (first | (with_reducible first | exact HB.out | apply zA | apply zN | apply zD | refine zS ?_ GE168.out) | exact HB.out)))); (case side2 => exact Kd.V_mk HC0_4.out (Kd.F_below (Kd.C_F k25_heap HR0_4.out) (by repeat (first | (with_reducible first | exact HB.out | apply zA | apply zN | apply zD | refine zS ?_ GE168.out) | exact HB.out)))); rintro e w5 ⟨v170, rfl, ho0, hb⟩; have n0_ := Aside0.mk (Kd.N_lower (Kd.N_mono (ok' := fun k_ => k_ ≠ gb168) ho0 (fun k_ hk_ => Or.elim hk_ (fun hs_ => Or.elim hs_ (fun hs_ => fun e_ => Nat.not_le.2 hs_ (by rw [e_]; exact GW168.out)) (fun hs_ => fun e_ => Nat.not_le.2 hs_ (by rw [e_]; exact GW168.out))) (fun hn_ => (Kd.freshB (g := gb168) (o := .cells #[.string a0_0, .string a0_1, .string a0_2, .slice A0_3 l0_3.length c0_3, .slice A0_4 l0_4.length c0_4] 25 (0, 0)) (by (with_reducible repeat first | apply zM | apply zE | apply zF); exact BK168.out) k_ hn_)))) (below_size (by repeat (first | (with_reducible first | exact HB.out | apply zA | apply zN | apply zD | refine zS ?_ GE168.out) | exact HB.out)))); have n1_ := Aside0.mk (blk_below (g := gb168) (o := .cells #[.string a0_0, .string a0_1, .string a0_2, .slice A0_3 l0_3.length c0_3, .slice A0_4 l0_4.length c0_4] 25 (0, 0)) (by (with_reducible repeat first | apply zM | apply zE | apply zF); exact BK168.out) hb); have n2_ := Aside0.mk (below_step (by repeat (first | (with_reducible first | exact HB.out | apply zA | apply zN | apply zD | refine zS ?_ GE168.out) | exact HB.out)) hb); clear BK168; clear HB; have HO171 := n0_; have BK168 := n1_; have HB := n2_; clear n0_ n1_ n2_; (try clear hb); (try clear hb2); (try clear hk); (try clear hi); (try clear ho0); obtain ⟨Ao6, co6, eo6⟩ := Kd.N_slice HO171.out; subst eo6))
 repeat (go_quiet (first | ((with_reducible refine gate_dst (N := 1) rfl ?_); refine box_event ?hg (N := 1) ?hd (cs := #[.string a0_0, .string a0_1, .string a0_2, .slice A0_3 l0_3.length c0_3, .slice A0_4 l0_4.length c0_4]) (t := 25) ?hr ?_; (case hd => rfl); (case hg => rfl); (case hr => first | (go_simp; done) | (go_simp; rfl)); intro gb168 hg w3 hbox hb; have n0_ := Aside0.mk (below_step (by repeat (first | (with_reducible first | exact HB.out | apply zA | apply zN | apply zD) | exact HB.out)) hb); have n1_ := Aside0.mk (hbox); have n2_ := Aside0.mk ((by rw [hg]; exact (below_size (by repeat (first | (with_reducible first | exact HB.out | apply zA | apply zN | apply zD) | exact HB.out))) : w.heap.size ≤ gb168)); have n3_ := Aside0.mk ((by rw [hg]; exact (below_size (by repeat (first | (with_reducible first | exact HB.out | apply zA | apply zN | apply zD) | exact HB.out))) : w.heap.size ≤ gb168)); clear HB; have HB := n0_; have BK168 := n1_; have GW168 := n2_; have GE168 := n3_; clear n0_ n1_ n2_ n3_; clear hb hbox hg; have hcz4_0 : w3.cell? ⟨gb168, 0, none⟩ = some (.string a0_0) := (zC BK168.out 0).trans rfl; have hcz4_1 : w3.cell? ⟨gb168, 1, none⟩ = some (.string a0_1) := (zC BK168.out 1).trans rfl; have hcz4_2 : w3.cell? ⟨gb168, 2, none⟩ = some (.string a0_2) := (zC BK168.out 2).trans rfl; have hcz4_3 : w3.cell? ⟨gb168, 3, none⟩ = some (.slice A0_3 l0_3.length c0_3) := (zC BK168.out 3).trans rfl; have hcz4_4 : w3.cell? ⟨gb168, 4, none⟩ = some (.slice A0_4 l0_4.length c0_4) := (zC BK168.out 4).trans rfl; have hfz4_0 := zR BK168.out 0; have hfz4_1 := zR BK168.out 1; have hfz4_2 := zR BK168.out 2; have hfz4_3 := zR BK168.out 3; have hfz4_4 := zR BK168.out 4) | (go_at_call 12; (with_reducible refine (tendrilref11_Items.calls k a0_0 a0_1 a0_2 (fun k_ => k_ < w.heap.size) _ _ l0_3 (fun k_ => k_ < w.heap.size) _ _ l0_4 t169 _ ?side1 ?side2 A2.out).mono ?_); (case side1 => exact Kd.V_mk HC0_3.out (Kd.F_below (Kd.C_F k42_heap HR0_3.out) (by repeat (first | (with_reducible first | exact HB.out | apply zA | apply zN | apply zD | refine zS ?_ GE168.out) | exact HB.out)))); (case side2 => exact Kd.V_mk HC0_4.out (Kd.F_below (Kd.C_F k25_heap HR0_4.out) (by repeat (first | (with_reducible first | exact HB.out | apply zA | apply zN | apply zD | refine zS ?_ GE168.out) | exact HB.out)))); rintro e w5 ⟨v170, rfl, ho0, hb⟩; have n0_ := Aside0.mk (Kd.N_lower (Kd.N_mono (ok' := fun k_ => k_ ≠ gb168) ho0 (fun k_ hk_ => Or.elim hk_ (fun hs_ => Or.elim hs_ (fun hs_ => fun e_ => Nat.not_le.2 hs_ (by rw [e_]; exact GW168.out)) (fun hs_ => fun e_ => Nat.not_le.2 hs_ (by rw [e_]; exact GW168.out))) (fun hn_ => (Kd.freshB (g := gb168) (o := .cells #[.string a0_0, .string a0_1, .string a0_2, .slice A0_3 l0_3.length c0_3, .slice A0_4 l0_4.length c0_4] 25 (0, 0)) (by (with_reducible repeat first | apply zM | apply zE | apply zF); exact BK168.out) k_ hn_)))) (below_size (by repeat (first | (with_reducible first | exact HB.out | apply zA | apply zN | apply zD | refine zS ?_ GE168.out) | exact HB.out)))); have n1_ := Aside0.mk (blk_below (g := gb168) (o := .cells #[.string a0_0, .string a0_1, .string a0_2, .slice A0_3 l0_3.length c0_3, .slice A0_4 l0_4.length c0_4] 25 (0, 0)) (by (with_reducible repeat first | apply zM | apply zE | apply zF); exact BK168.out) hb); have n2_ := Aside0.mk (below_step (by repeat (first | (with_reducible first | exact HB.out | apply zA | apply zN | apply zD | refine zS ?_ GE168.out) | exact HB.out)) hb); clear BK168; clear HB; have HO171 := n0_; have BK168 := n1_; have HB := n2_; clear n0_ n1_ n2_; (try clear hb); (try clear hb2); (try clear hk); (try clear hi); (try clear ho0); obtain ⟨Ao6, co6, eo6⟩ := Kd.N_slice HO171.out; subst eo6)); try go_wp2_with (first | ((with_reducible refine gate_dst (N := 1) rfl ?_); refine box_event ?hg (N := 1) ?hd (cs := #[.string a0_0, .string a0_1, .string a0_2, .slice A0_3 l0_3.length c0_3, .slice A0_4 l0_4.length c0_4]) (t := 25) ?hr ?_; (case hd => rfl); (case hg => rfl); (case hr => first | (go_simp; done) | (go_simp; rfl)); intro gb168 hg w3 hbox hb; have n0_ := Aside0.mk (below_step (by repeat (first | (with_reducible first | exact HB.out | apply zA | apply zN | apply zD) | exact HB.out)) hb); have n1_ := Aside0.mk (hbox); have n2_ := Aside0.mk ((by rw [hg]; exact (below_size (by repeat (first | (with_reducible first | exact HB.out | apply zA | apply zN | apply zD) | exact HB.out))) : w.heap.size ≤ gb168)); have n3_ := Aside0.mk ((by rw [hg]; exact (below_size (by repeat (first | (with_reducible first | exact HB.out | apply zA | apply zN | apply zD) | exact HB.out))) : w.heap.size ≤ gb168)); clear HB; have HB := n0_; have BK168 := n1_; have GW168 := n2_; have GE168 := n3_; clear n0_ n1_ n2_ n3_; clear hb hbox hg; have hcz4_0 : w3.cell? ⟨gb168, 0, none⟩ = some (.string a0_0) := (zC BK168.out 0).trans rfl; have hcz4_1 : w3.cell? ⟨gb168, 1, none⟩ = some (.string a0_1) := (zC BK168.out 1).trans rfl; have hcz4_2 : w3.cell? ⟨gb168, 2, none⟩ = some (.string a0_2) := (zC BK168.out 2).trans rfl; have hcz4_3 : w3.cell? ⟨gb168, 3, none⟩ = some (.slice A0_3 l0_3.length c0_3) := (zC BK168.out 3).trans rfl; have hcz4_4 : w3.cell? ⟨gb168, 4, none⟩ = some (.slice A0_4 l0_4.length c0_4) := (zC BK168.out 4).trans rfl; have hfz4_0 := zR BK168.out 0; have hfz4_1 := zR BK168.out 1; have hfz4_2 := zR BK168.out 2; have hfz4_3 := zR BK168.out 3; have hfz4_4 := zR BK168.out 4) | (go_at_call 12; (with_reducible refine (tendrilref11_Items.calls k a0_0 a0_1 a0_2 (fun k_ => k_ < w.heap.size) _ _ l0_3 (fun k_ => k_ < w.heap.size) _ _ l0_4 t169 _ ?side1 ?side2 A2.out).mono ?_); (case side1 => exact Kd.V_mk HC0_3.out (Kd.F_below (Kd.C_F k42_heap HR0_3.out) (by repeat (first | (with_reducible first | exact HB.out | apply zA | apply zN | apply zD | refine zS ?_ GE168.out) | exact HB.out)))); (case side2 => exact Kd.V_mk HC0_4.out (Kd.F_below (Kd.C_F k25_heap HR0_4.out) (by repeat (first | (with_reducible first | exact HB.out | apply zA | apply zN | apply zD | refine zS ?_ GE168.out) | exact HB.out)))); rintro e w5 ⟨v170, rfl, ho0, hb⟩; have n0_ := Aside0.mk (Kd.N_lower (Kd.N_mono (ok' := fun k_ => k_ ≠ gb168) ho0 (fun k_ hk_ => Or.elim hk_ (fun hs_ => Or.elim hs_ (fun hs_ => fun e_ => Nat.not_le.2 hs_ (by rw [e_]; exact GW168.out)) (fun hs_ => fun e_ => Nat.not_le.2 hs_ (by rw [e_]; exact GW168.out))) (fun hn_ => (Kd.freshB (g := gb168) (o := .cells #[.string a0_0, .string a0_1, .string a0_2, .slice A0_3 l0_3.length c0_3, .slice A0_4 l0_4.length c0_4] 25 (0, 0)) (by (with_reducible repeat first | apply zM | apply zE | apply zF); exact BK168.out) k_ hn_)))) (below_size (by repeat (first | (with_reducible first | exact HB.out | apply zA | apply zN | apply zD | refine zS ?_ GE168.out) | exact HB.out)))); have n1_ := Aside0.mk (blk_below (g := gb168) (o := .cells #[.string a0_0, .string a0_1, .string a0_2, .slice A0_3 l0_3.length c0_3, .slice A0_4 l0_4.length c0_4] 25 (0, 0)) (by (with_reducible repeat first | apply zM | apply zE | apply zF); exact BK168.out) hb); have n2_ := Aside0.mk (below_step (by repeat (first | (with_reducible first | exact HB.out | apply zA | apply zN | apply zD | refine zS ?_ GE168.out) | exact HB.out)) hb); clear BK168; clear HB; have HO171 := n0_; have BK168 := n1_; have HB := n2_; clear n0_ n1_ n2_; (try clear hb); (try clear hb2); (try clear hk); (try clear hi); (try clear ho0); obtain ⟨Ao6, co6, eo6⟩ := Kd.N_slice HO171.out; subst eo6)))
 go_loopg [12] k (fun kq v12 w' => ∃ (x12_1 : Int), v12 = .int .i64 x12_1 ∧ Aside0 (tendrilref11_Check.l0 kq t169 (t169.length : Int) x12_1 = some (r1, r2)) ∧ Aside0 (kq ≤ k) ∧ Aside0 (Kd.N k48 48 w' w.heap.size (fun k_ => k_ ≠ gb168) (.slice Ao6 t169.length co6) t169) ∧ Aside0 (w'.heap[gb168]? = some (.cells #[.string a0_0, .string a0_1, .string a0_2, (.slice A0_3 l0_3.length c0_3), (.slice A0_4 l0_4.length c0_4)] 25 (0, 0))) ∧ Aside0 (Below w.heap.size w w'))
 case atStart => exact ⟨(0), (by first | rfl | (simp; done) | (simp [*]; done)), H', ⟨Nat.le_refl _⟩, ⟨by (with_reducible repeat (first | apply Kd.N_alloc | apply Kd.N_drewN | apply Kd.N_drew)); exact HO171.out⟩, ⟨by (with_reducible repeat first | apply zM | apply zE | apply zF); exact BK168.out⟩, ⟨by repeat (first | (with_reducible first | exact HB.out | apply zA | apply zN | apply zD | refine zS ?_ GE168.out) | exact HB.out)⟩⟩
 case round =>
  clear H'
  try clear p2
  (try clear BK168)
  obtain ⟨x12_1, rfl, HA, HK1, HO_4, BK168, HB⟩ := hrel
  cases gk with
  | zero => exact absurd HA.out (by simp [tendrilref11_Check.l0])
  | succ k1 =>
   have H := HA.out
   clear HA
   simp only [tendrilref11_Check.l0] at H
   by_cases c7 : x12_1 < (t169.length : Int)
   ·
    rw [if_pos c7] at H
    have c7b0 : decide (x12_1 < (t169.length : Int)) = true := decide_eq_true c7
    clear c7
    by_cases c8 : x12_1 = 4096
    ·
     rw [if_pos c8] at H
     have c8b0 : (x12_1 == 4096) = true := beq_iff_eq.mpr c8
     have c8b1 : (x12_1 != 4096) = false := bne_eq_false_iff_eq.mpr c8
     clear c8
     simp only [Option.some.injEq, Prod.mk.injEq] at H
     obtain ⟨rfl, rfl⟩ := H
     go_wp2
     repeat (go_quiet (fail); try go_wp2)
     go_ret2
     exact ⟨by first | rfl | (simp [errW_none, errW_some] <;> rfl) | (simp [*, errW_none, errW_some] <;> rfl), by repeat (first | (with_reducible first | exact HB.out | apply zA | apply zN | apply zD | refine zS ?_ GE168.out) | exact HB.out)⟩
    ·
     rw [if_neg c8] at H
     have c8b0 : (x12_1 == 4096) = false := beq_eq_false_iff_ne.mpr c8
     have c8b1 : (x12_1 != 4096) = true := bne_iff_ne.mpr c8
     by_cases c9 : 0 ≤ x12_1
     ·
      rw [if_pos c9] at H
      have c9b0 : decide (0 ≤ x12_1) = true := decide_eq_true c9
      clear c9
      by_cases c10 : x12_1 < (t169.length : Int)
      ·
       rw [if_pos c10] at H
       have c10b0 : decide (x12_1 < (t169.length : Int)) = true := decide_eq_true c10
       clear c10
       by_cases c11 : ((rd_T48 t169 x12_1).f1) > 64
       ·
        rw [if_pos c11] at H
        have c11b0 : decide (64 < ((rd_T48 t169 x12_1).f1)) = true := decide_eq_true c11
        clear c11
        simp only [Option.some.injEq, Prod.mk.injEq] at H
        obtain ⟨rfl, rfl⟩ := H
        have p172 : 0 ≤ (x12_1 : Int) := of_decide_eq_true (by first | (with_reducible assumption) | assumption)
        have q172 : x12_1 < (t169.length : Int) := of_decide_eq_true (by first | (with_reducible assumption) | assumption)
        obtain ⟨ad172, A172_3, c172_3, A172_4, c172_4, e172, hx172_0, hx172_1, hx172_2, hx172_3, hx172_4, hx172_5, hx172_6, hl172_3, hi172_3, hl172_4, hi172_4⟩ := at_T48 (Kd.N_reads' HO_4.out).2.2 x12_1 p172 q172
        cases e172
        obtain ⟨ce172, hce172, hMe172, hcc172⟩ := Kd.N_get HO_4.out z48 x12_1 p172 (by first | exact q172 | exact of_decide_eq_true (by first | (with_reducible assumption) | assumption) | (have e_ := (Kd.N_reads' HO_4.out).1; omega))
        obtain ⟨ua172_3, uc172_3, ua172_4, uc172_4, rfl, ul172_3, ge172_3, ul172_4, ge172_4⟩ := k48_openF hMe172
        have hv172_3 := hcc172 3 _ rfl
        rw [add_field _ _ 3 (by omega)] at hv172_3
        replace hv172_3 := Option.some.inj (hv172_3.symm.trans hx172_3)
        injection hv172_3 with hva_ hvn_ hvc_
        rw [hva_] at ge172_3
        rw [hvc_] at ul172_3
        have HL172_3 := Aside0.mk (show Kd.V k42 42 _ w.heap.size _ _ ((rd_T48 t169 x12_1).f0.f3) from Kd.V_mk ul172_3 ge172_3)
        clear hva_ hvn_ hvc_ ge172_3 ul172_3
        have hv172_4 := hcc172 4 _ rfl
        rw [add_field _ _ 4 (by omega)] at hv172_4
        replace hv172_4 := Option.some.inj (hv172_4.symm.trans hx172_4)
        injection hv172_4 with hva_ hvn_ hvc_
        rw [hva_] at ge172_4
        rw [hvc_] at ul172_4
        have HL172_4 := Aside0.mk (show Kd.V k25 25 _ w.heap.size _ _ ((rd_T48 t169 x12_1).f0.f4) from Kd.V_mk ul172_4 ge172_4)
        clear hva_ hvn_ hvc_ ge172_4 ul172_4
        clear hcc172 hce172
        have HR172_3 := Aside0.mk hi172_3
        have HC172_3 := Aside0.mk hl172_3
        clear hi172_3 hl172_3
        have HR172_4 := Aside0.mk hi172_4
        have HC172_4 := Aside0.mk hl172_4
        clear hi172_4 hl172_4
        replace p172 := eq_true p172
        replace q172 := eq_true q172
        go_wp2
        repeat (go_quiet (fail); try go_wp2)
        go_ret2
        exact ⟨by first | rfl | (simp [errW_none, errW_some] <;> rfl) | (simp [*, errW_none, errW_some] <;> rfl), by repeat (first | (with_reducible first | exact HB.out | apply zA | apply zN | apply zD | refine zS ?_ GE168.out) | exact HB.out)⟩
       ·
        rw [if_neg c11] at H
        have c11b0 : decide (64 < ((rd_T48 t169 x12_1).f1)) = false := decide_eq_false c11
        clear c11
        replace H := Option.bind_eq_some_iff.mp H
        obtain ⟨t174, A120, H⟩ := H
        replace H : (if t174 = 0 then (tendrilref11_Check.l1 k1 t169 x12_1 (t169.length : Int) x12_1 x12_1 0) else (some (x12_1, t174))) = some (r1, r2) := H
        have A12 := Aside0.mk A120
        clear A120
        by_cases c13 : t174 = 0
        ·
         rw [if_pos c13] at H
         have c13b0 : (t174 == 0) = true := beq_iff_eq.mpr c13
         have c13b1 : (t174 != 0) = false := bne_eq_false_iff_eq.mpr c13
         clear c13
         have H' := Aside0.mk H
         clear H
         have p172 : 0 ≤ (x12_1 : Int) := of_decide_eq_true (by first | (with_reducible assumption) | assumption)
         have q172 : x12_1 < (t169.length : Int) := of_decide_eq_true (by first | (with_reducible assumption) | assumption)
         obtain ⟨ad172, A172_3, c172_3, A172_4, c172_4, e172, hx172_0, hx172_1, hx172_2, hx172_3, hx172_4, hx172_5, hx172_6, hl172_3, hi172_3, hl172_4, hi172_4⟩ := at_T48 (Kd.N_reads' HO_4.out).2.2 x12_1 p172 q172
         cases e172
         obtain ⟨ce172, hce172, hMe172, hcc172⟩ := Kd.N_get HO_4.out z48 x12_1 p172 (by first | exact q172 | exact of_decide_eq_true (by first | (with_reducible assumption) | assumption) | (have e_ := (Kd.N_reads' HO_4.out).1; omega))
         obtain ⟨ua172_3, uc172_3, ua172_4, uc172_4, rfl, ul172_3, ge172_3, ul172_4, ge172_4⟩ := k48_openF hMe172
         have hv172_3 := hcc172 3 _ rfl
         rw [add_field _ _ 3 (by omega)] at hv172_3
         replace hv172_3 := Option.some.inj (hv172_3.symm.trans hx172_3)
         injection hv172_3 with hva_ hvn_ hvc_
         rw [hva_] at ge172_3
         rw [hvc_] at ul172_3
         have HL172_3 := Aside0.mk (show Kd.V k42 42 _ w.heap.size _ _ ((rd_T48 t169 x12_1).f0.f3) from Kd.V_mk ul172_3 ge172_3)
         clear hva_ hvn_ hvc_ ge172_3 ul172_3
         have hv172_4 := hcc172 4 _ rfl
         rw [add_field _ _ 4 (by omega)] at hv172_4
         replace hv172_4 := Option.some.inj (hv172_4.symm.trans hx172_4)
         injection hv172_4 with hva_ hvn_ hvc_
         rw [hva_] at ge172_4
         rw [hvc_] at ul172_4
         have HL172_4 := Aside0.mk (show Kd.V k25 25 _ w.heap.size _ _ ((rd_T48 t169 x12_1).f0.f4) from Kd.V_mk ul172_4 ge172_4)
         clear hva_ hvn_ hvc_ ge172_4 ul172_4
         clear hcc172 hce172
         have HR172_3 := Aside0.mk hi172_3
         have HC172_3 := Aside0.mk hl172_3
         clear hi172_3 hl172_3
         have HR172_4 := Aside0.mk hi172_4
         have HC172_4 := Aside0.mk hl172_4
         clear hi172_4 hl172_4
         replace p172 := eq_true p172
         replace q172 := eq_true q172
         have p173 : 0 ≤ (x12_1 : Int) := of_decide_eq_true (by first | (with_reducible assumption) | assumption)
         have q173 : x12_1 < (t169.length : Int) := of_decide_eq_true (by first | (with_reducible assumption) | assumption)
         obtain ⟨ad173, A173_3, c173_3, A173_4, c173_4, e173, hx173_0, hx173_1, hx173_2, hx173_3, hx173_4, hx173_5, hx173_6, hl173_3, hi173_3, hl173_4, hi173_4⟩ := at_T48 (Kd.N_reads' HO_4.out).2.2 x12_1 p173 q173
         obtain rfl : ad172 = ad173 := (by injection e173)
         obtain ⟨ce173, hce173, hMe173, hcc173⟩ := Kd.N_get HO_4.out z48 x12_1 p173 (by first | exact q173 | exact of_decide_eq_true (by first | (with_reducible assumption) | assumption) | (have e_ := (Kd.N_reads' HO_4.out).1; omega))
         obtain ⟨ua173_3, uc173_3, ua173_4, uc173_4, rfl, ul173_3, ge173_3, ul173_4, ge173_4⟩ := k48_openF hMe173
         have hv173_3 := hcc173 3 _ rfl
         rw [add_field _ _ 3 (by omega)] at hv173_3
         replace hv173_3 := Option.some.inj (hv173_3.symm.trans hx173_3)
         injection hv173_3 with hva_ hvn_ hvc_
         rw [hva_] at ge173_3
         rw [hvc_] at ul173_3
         have HL173_3 := Aside0.mk (show Kd.V k42 42 _ w.heap.size _ _ ((rd_T48 t169 x12_1).f0.f3) from Kd.V_mk ul173_3 ge173_3)
         clear hva_ hvn_ hvc_ ge173_3 ul173_3
         have hv173_4 := hcc173 4 _ rfl
         rw [add_field _ _ 4 (by omega)] at hv173_4
         replace hv173_4 := Option.some.inj (hv173_4.symm.trans hx173_4)
         injection hv173_4 with hva_ hvn_ hvc_
         rw [hva_] at ge173_4
         rw [hvc_] at ul173_4
         have HL173_4 := Aside0.mk (show Kd.V k25 25 _ w.heap.size _ _ ((rd_T48 t169 x12_1).f0.f4) from Kd.V_mk ul173_4 ge173_4)
         clear hva_ hvn_ hvc_ ge173_4 ul173_4
         clear hcc173 hce173
         have HR173_3 := Aside0.mk hi173_3
         have HC173_3 := Aside0.mk hl173_3
         clear hi173_3 hl173_3
         have HR173_4 := Aside0.mk hi173_4
         have HC173_4 := Aside0.mk hl173_4
         clear hi173_4 hl173_4
         replace p173 := eq_true p173
         replace q173 := eq_true q173
         have ea_ := Option.some.inj (hx172_3.symm.trans hx173_3)
         injection ea_ with ea_ en_ ec_
         subst ea_
         subst ec_
         clear en_
         have ea_ := Option.some.inj (hx172_4.symm.trans hx173_4)
         injection ea_ with ea_ en_ ec_
         subst ea_
         subst ec_
         clear en_
         go_wp2_with (first | (go_at_call 14; (with_reducible refine (tendrilref11_Alone.calls k1 ((rd_T48 t169 x12_1).f0.f0) ((rd_T48 t169 x12_1).f0.f1) ((rd_T48 t169 x12_1).f0.f2) _ _ ((rd_T48 t169 x12_1).f0.f3) _ _ ((rd_T48 t169 x12_1).f0.f4) t174 _ ?side1 ?side2 ?side3 ?side4 A12.out).mono ?_); (case side1 => repeat (first | exact (by repeat (first | (with_reducible exact HR173_3.out) | (with_reducible refine Kd.C_alloc ?_ _) | (with_reducible refine Kd.C_drewN ?_ _) | (with_reducible refine Kd.C_drew ?_) | exact HR173_3.out)) | (with_reducible refine Kd.C_alloc ?_ _) | (with_reducible refine Kd.C_drewN ?_ _) | (with_reducible refine Kd.C_drew ?_))); (case side2 => exact HC173_3.out); (case side3 => repeat (first | exact (by repeat (first | (with_reducible exact HR173_4.out) | (with_reducible refine Kd.C_alloc ?_ _) | (with_reducible refine Kd.C_drewN ?_ _) | (with_reducible refine Kd.C_drew ?_) | exact HR173_4.out)) | (with_reducible refine Kd.C_alloc ?_ _) | (with_reducible refine Kd.C_drewN ?_ _) | (with_reducible refine Kd.C_drew ?_))); (case side4 => exact HC173_4.out); rintro e w14 ⟨rfl, hb⟩; have n0_ := Aside0.mk (Kd.N_below (by (with_reducible repeat (first | apply Kd.N_alloc | apply Kd.N_drewN | apply Kd.N_drew)); exact HO_4.out) hb); have n1_ := Aside0.mk (Kd.V_below (by (with_reducible repeat (first | apply Kd.V_alloc | apply Kd.V_drewN | apply Kd.V_drew)); exact HL172_3.out) hb); have n2_ := Aside0.mk (Kd.V_below (by (with_reducible repeat (first | apply Kd.V_alloc | apply Kd.V_drewN | apply Kd.V_drew)); exact HL172_4.out) hb); have n3_ := Aside0.mk (Kd.V_below (by (with_reducible repeat (first | apply Kd.V_alloc | apply Kd.V_drewN | apply Kd.V_drew)); exact HL173_3.out) hb); have n4_ := Aside0.mk (Kd.V_below (by (with_reducible repeat (first | apply Kd.V_alloc | apply Kd.V_drewN | apply Kd.V_drew)); exact HL173_4.out) hb); have n5_ := Aside0.mk (blk_below (g := gb168) (o := .cells #[.string a0_0, .string a0_1, .string a0_2, .slice A0_3 l0_3.length c0_3, .slice A0_4 l0_4.length c0_4] 25 (0, 0)) (by (with_reducible repeat first | apply zM | apply zE | apply zF); exact BK168.out) hb); have n6_ := Aside0.mk (Kd.C_below (by repeat (first | (with_reducible exact HR172_3.out) | (with_reducible refine Kd.C_alloc ?_ _) | (with_reducible refine Kd.C_drewN ?_ _) | (with_reducible refine Kd.C_drew ?_) | exact HR172_3.out)) hb); have n7_ := Aside0.mk (Kd.C_below (by repeat (first | (with_reducible exact HR172_4.out) | (with_reducible refine Kd.C_alloc ?_ _) | (with_reducible refine Kd.C_drewN ?_ _) | (with_reducible refine Kd.C_drew ?_) | exact HR172_4.out)) hb); have n8_ := Aside0.mk (Kd.C_below (by repeat (first | (with_reducible exact HR173_3.out) | (with_reducible refine Kd.C_alloc ?_ _) | (with_reducible refine Kd.C_drewN ?_ _) | (with_reducible refine Kd.C_drew ?_) | exact HR173_3.out)) hb); have n9_ := Aside0.mk (Kd.C_below (by repeat (first | (with_reducible exact HR173_4.out) | (with_reducible refine Kd.C_alloc ?_ _) | (with_reducible refine Kd.C_drewN ?_ _) | (with_reducible refine Kd.C_drew ?_) | exact HR173_4.out)) hb); have n10_ := Aside0.mk (below_step (by repeat (first | (with_reducible first | exact HB.out | apply zA | apply zN | apply zD | refine zS ?_ GE168.out) | exact HB.out)) hb); clear HO_4; clear HL172_3; clear HL172_4; clear HL173_3; clear HL173_4; clear BK168; clear HR172_3; clear HR172_4; clear HR173_3; clear HR173_4; clear HB; have HO_4 := n0_; have HL172_3 := n1_; have HL172_4 := n2_; have HL173_3 := n3_; have HL173_4 := n4_; have BK168 := n5_; have HR172_3 := n6_; have HR172_4 := n7_; have HR173_3 := n8_; have HR173_4 := n9_; have HB := n10_; clear n0_ n1_ n2_ n3_ n4_ n5_ n6_ n7_ n8_ n9_ n10_; (try clear hb); (try clear hb2); (try clear hk); (try clear hi)))
         repeat (go_quiet (first | (go_at_call 14; (with_reducible refine (tendrilref11_Alone.calls k1 ((rd_T48 t169 x12_1).f0.f0) ((rd_T48 t169 x12_1).f0.f1) ((rd_T48 t169 x12_1).f0.f2) _ _ ((rd_T48 t169 x12_1).f0.f3) _ _ ((rd_T48 t169 x12_1).f0.f4) t174 _ ?side1 ?side2 ?side3 ?side4 A12.out).mono ?_); (case side1 => repeat (first | exact (by repeat (first | (with_reducible exact HR173_3.out) | (with_reducible refine Kd.C_alloc ?_ _) | (with_reducible refine Kd.C_drewN ?_ _) | (with_reducible refine Kd.C_drew ?_) | exact HR173_3.out)) | (with_reducible refine Kd.C_alloc ?_ _) | (with_reducible refine Kd.C_drewN ?_ _) | (with_reducible refine Kd.C_drew ?_))); (case side2 => exact HC173_3.out); (case side3 => repeat (first | exact (by repeat (first | (with_reducible exact HR173_4.out) | (with_reducible refine Kd.C_alloc ?_ _) | (with_reducible refine Kd.C_drewN ?_ _) | (with_reducible refine Kd.C_drew ?_) | exact HR173_4.out)) | (with_reducible refine Kd.C_alloc ?_ _) | (with_reducible refine Kd.C_drewN ?_ _) | (with_reducible refine Kd.C_drew ?_))); (case side4 => exact HC173_4.out); rintro e w14 ⟨rfl, hb⟩; have n0_ := Aside0.mk (Kd.N_below (by (with_reducible repeat (first | apply Kd.N_alloc | apply Kd.N_drewN | apply Kd.N_drew)); exact HO_4.out) hb); have n1_ := Aside0.mk (Kd.V_below (by (with_reducible repeat (first | apply Kd.V_alloc | apply Kd.V_drewN | apply Kd.V_drew)); exact HL172_3.out) hb); have n2_ := Aside0.mk (Kd.V_below (by (with_reducible repeat (first | apply Kd.V_alloc | apply Kd.V_drewN | apply Kd.V_drew)); exact HL172_4.out) hb); have n3_ := Aside0.mk (Kd.V_below (by (with_reducible repeat (first | apply Kd.V_alloc | apply Kd.V_drewN | apply Kd.V_drew)); exact HL173_3.out) hb); have n4_ := Aside0.mk (Kd.V_below (by (with_reducible repeat (first | apply Kd.V_alloc | apply Kd.V_drewN | apply Kd.V_drew)); exact HL173_4.out) hb); have n5_ := Aside0.mk (blk_below (g := gb168) (o := .cells #[.string a0_0, .string a0_1, .string a0_2, .slice A0_3 l0_3.length c0_3, .slice A0_4 l0_4.length c0_4] 25 (0, 0)) (by (with_reducible repeat first | apply zM | apply zE | apply zF); exact BK168.out) hb); have n6_ := Aside0.mk (Kd.C_below (by repeat (first | (with_reducible exact HR172_3.out) | (with_reducible refine Kd.C_alloc ?_ _) | (with_reducible refine Kd.C_drewN ?_ _) | (with_reducible refine Kd.C_drew ?_) | exact HR172_3.out)) hb); have n7_ := Aside0.mk (Kd.C_below (by repeat (first | (with_reducible exact HR172_4.out) | (with_reducible refine Kd.C_alloc ?_ _) | (with_reducible refine Kd.C_drewN ?_ _) | (with_reducible refine Kd.C_drew ?_) | exact HR172_4.out)) hb); have n8_ := Aside0.mk (Kd.C_below (by repeat (first | (with_reducible exact HR173_3.out) | (with_reducible refine Kd.C_alloc ?_ _) | (with_reducible refine Kd.C_drewN ?_ _) | (with_reducible refine Kd.C_drew ?_) | exact HR173_3.out)) hb); have n9_ := Aside0.mk (Kd.C_below (by repeat (first | (with_reducible exact HR173_4.out) | (with_reducible refine Kd.C_alloc ?_ _) | (with_reducible refine Kd.C_drewN ?_ _) | (with_reducible refine Kd.C_drew ?_) | exact HR173_4.out)) hb); have n10_ := Aside0.mk (below_step (by repeat (first | (with_reducible first | exact HB.out | apply zA | apply zN | apply zD | refine zS ?_ GE168.out) | exact HB.out)) hb); clear HO_4; clear HL172_3; clear HL172_4; clear HL173_3; clear HL173_4; clear BK168; clear HR172_3; clear HR172_4; clear HR173_3; clear HR173_4; clear HB; have HO_4 := n0_; have HL172_3 := n1_; have HL172_4 := n2_; have HL173_3 := n3_; have HL173_4 := n4_; have BK168 := n5_; have HR172_3 := n6_; have HR172_4 := n7_; have HR173_3 := n8_; have HR173_4 := n9_; have HB := n10_; clear n0_ n1_ n2_ n3_ n4_ n5_ n6_ n7_ n8_ n9_ n10_; (try clear hb); (try clear hb2); (try clear hk); (try clear hi))); try go_wp2_with (first | (go_at_call 14; (with_reducible refine (tendrilref11_Alone.calls k1 ((rd_T48 t169 x12_1).f0.f0) ((rd_T48 t169 x12_1).f0.f1) ((rd_T48 t169 x12_1).f0.f2) _ _ ((rd_T48 t169 x12_1).f0.f3) _ _ ((rd_T48 t169 x12_1).f0.f4) t174 _ ?side1 ?side2 ?side3 ?side4 A12.out).mono ?_); (case side1 => repeat (first | exact (by repeat (first | (with_reducible exact HR173_3.out) | (with_reducible refine Kd.C_alloc ?_ _) | (with_reducible refine Kd.C_drewN ?_ _) | (with_reducible refine Kd.C_drew ?_) | exact HR173_3.out)) | (with_reducible refine Kd.C_alloc ?_ _) | (with_reducible refine Kd.C_drewN ?_ _) | (with_reducible refine Kd.C_drew ?_))); (case side2 => exact HC173_3.out); (case side3 => repeat (first | exact (by repeat (first | (with_reducible exact HR173_4.out) | (with_reducible refine Kd.C_alloc ?_ _) | (with_reducible refine Kd.C_drewN ?_ _) | (with_reducible refine Kd.C_drew ?_) | exact HR173_4.out)) | (with_reducible refine Kd.C_alloc ?_ _) | (with_reducible refine Kd.C_drewN ?_ _) | (with_reducible refine Kd.C_drew ?_))); (case side4 => exact HC173_4.out); rintro e w14 ⟨rfl, hb⟩; have n0_ := Aside0.mk (Kd.N_below (by (with_reducible repeat (first | apply Kd.N_alloc | apply Kd.N_drewN | apply Kd.N_drew)); exact HO_4.out) hb); have n1_ := Aside0.mk (Kd.V_below (by (with_reducible repeat (first | apply Kd.V_alloc | apply Kd.V_drewN | apply Kd.V_drew)); exact HL172_3.out) hb); have n2_ := Aside0.mk (Kd.V_below (by (with_reducible repeat (first | apply Kd.V_alloc | apply Kd.V_drewN | apply Kd.V_drew)); exact HL172_4.out) hb); have n3_ := Aside0.mk (Kd.V_below (by (with_reducible repeat (first | apply Kd.V_alloc | apply Kd.V_drewN | apply Kd.V_drew)); exact HL173_3.out) hb); have n4_ := Aside0.mk (Kd.V_below (by (with_reducible repeat (first | apply Kd.V_alloc | apply Kd.V_drewN | apply Kd.V_drew)); exact HL173_4.out) hb); have n5_ := Aside0.mk (blk_below (g := gb168) (o := .cells #[.string a0_0, .string a0_1, .string a0_2, .slice A0_3 l0_3.length c0_3, .slice A0_4 l0_4.length c0_4] 25 (0, 0)) (by (with_reducible repeat first | apply zM | apply zE | apply zF); exact BK168.out) hb); have n6_ := Aside0.mk (Kd.C_below (by repeat (first | (with_reducible exact HR172_3.out) | (with_reducible refine Kd.C_alloc ?_ _) | (with_reducible refine Kd.C_drewN ?_ _) | (with_reducible refine Kd.C_drew ?_) | exact HR172_3.out)) hb); have n7_ := Aside0.mk (Kd.C_below (by repeat (first | (with_reducible exact HR172_4.out) | (with_reducible refine Kd.C_alloc ?_ _) | (with_reducible refine Kd.C_drewN ?_ _) | (with_reducible refine Kd.C_drew ?_) | exact HR172_4.out)) hb); have n8_ := Aside0.mk (Kd.C_below (by repeat (first | (with_reducible exact HR173_3.out) | (with_reducible refine Kd.C_alloc ?_ _) | (with_reducible refine Kd.C_drewN ?_ _) | (with_reducible refine Kd.C_drew ?_) | exact HR173_3.out)) hb); have n9_ := Aside0.mk (Kd.C_below (by repeat (first | (with_reducible exact HR173_4.out) | (with_reducible refine Kd.C_alloc ?_ _) | (with_reducible refine Kd.C_drewN ?_ _) | (with_reducible refine Kd.C_drew ?_) | exact HR173_4.out)) hb); have n10_ := Aside0.mk (below_step (by repeat (first | (with_reducible first | exact HB.out | apply zA | apply zN | apply zD | refine zS ?_ GE168.out) | exact HB.out)) hb); clear HO_4; clear HL172_3; clear HL172_4; clear HL173_3; clear HL173_4; clear BK168; clear HR172_3; clear HR172_4; clear HR173_3; clear HR173_4; clear HB; have HO_4 := n0_; have HL172_3 := n1_; have HL172_4 := n2_; have HL173_3 := n3_; have HL173_4 := n4_; have BK168 := n5_; have HR172_3 := n6_; have HR172_4 := n7_; have HR173_3 := n8_; have HR173_4 := n9_; have HB := n10_; clear n0_ n1_ n2_ n3_ n4_ n5_ n6_ n7_ n8_ n9_ n10_; (try clear hb); (try clear hb2); (try clear hk); (try clear hi))))
         go_loopg [36] k1 (fun kq v36 w' => ∃ (x36_2 : Int), v36 = .int .i64 x36_2 ∧ Aside0 (tendrilref11_Check.l1 kq t169 x12_1 (t169.length : Int) x12_1 x12_1 x36_2 = some (r1, r2)) ∧ Aside0 (kq ≤ k1) ∧ Aside0 (Kd.N k48 48 w' w.heap.size (fun k_ => k_ ≠ gb168) (.slice (some ad172) t169.length co6) t169) ∧ Aside0 (w'.heap[gb168]? = some (.cells #[.string a0_0, .string a0_1, .string a0_2, (.slice A0_3 l0_3.length c0_3), (.slice A0_4 l0_4.length c0_4)] 25 (0, 0))) ∧ Aside0 (Kd.C k42 w' A172_3 ((rd_T48 t169 x12_1).f0.f3).length ((rd_T48 t169 x12_1).f0.f3)) ∧ Aside0 (Kd.C k25 w' A172_4 ((rd_T48 t169 x12_1).f0.f4).length ((rd_T48 t169 x12_1).f0.f4)) ∧ Aside0 (Kd.C k42 w' A172_3 ((rd_T48 t169 x12_1).f0.f3).length ((rd_T48 t169 x12_1).f0.f3)) ∧ Aside0 (Kd.C k25 w' A172_4 ((rd_T48 t169 x12_1).f0.f4).length ((rd_T48 t169 x12_1).f0.f4)) ∧ Aside0 (Below w.heap.size w w'))
         case atStart => exact ⟨(0), (by first | rfl | (simp; done) | (simp [*]; done)), H', ⟨Nat.le_refl _⟩, ⟨by (with_reducible repeat (first | apply Kd.N_alloc | apply Kd.N_drewN | apply Kd.N_drew)); exact HO_4.out⟩, ⟨by (with_reducible repeat first | apply zM | apply zE | apply zF); exact BK168.out⟩, ⟨by repeat (first | (with_reducible exact HR172_3.out) | (with_reducible refine Kd.C_alloc ?_ _) | (with_reducible refine Kd.C_drewN ?_ _) | (with_reducible refine Kd.C_drew ?_) | exact HR172_3.out)⟩, ⟨by repeat (first | (with_reducible exact HR172_4.out) | (with_reducible refine Kd.C_alloc ?_ _) | (with_reducible refine Kd.C_drewN ?_ _) | (with_reducible refine Kd.C_drew ?_) | exact HR172_4.out)⟩, ⟨by repeat (first | (with_reducible exact HR173_3.out) | (with_reducible refine Kd.C_alloc ?_ _) | (with_reducible refine Kd.C_drewN ?_ _) | (with_reducible refine Kd.C_drew ?_) | exact HR173_3.out)⟩, ⟨by repeat (first | (with_reducible exact HR173_4.out) | (with_reducible refine Kd.C_alloc ?_ _) | (with_reducible refine Kd.C_drewN ?_ _) | (with_reducible refine Kd.C_drew ?_) | exact HR173_4.out)⟩, ⟨by repeat (first | (with_reducible first | exact HB.out | apply zA | apply zN | apply zD | refine zS ?_ GE168.out) | exact HB.out)⟩⟩
         case round =>
          clear H'
          try clear c1
          try clear p1
          try clear q1
          try clear hx1
          try clear p2
          try clear c7
          try clear c7b0
          try clear c8
          try clear c8b0
          try clear c8b1
          try clear c9
          try clear c9b0
          try clear c10
          try clear c10b0
          try clear c11
          try clear c11b0
          try clear c13
          try clear c13b0
          try clear c13b1
          try clear hx172_0
          try clear hx172_1
          try clear hx172_2
          try clear hx172_3
          try clear hx172_4
          try clear hx172_5
          try clear hx172_6
          try clear hx173_0
          try clear hx173_1
          try clear hx173_2
          try clear hx173_3
          try clear hx173_4
          try clear hx173_5
          try clear hx173_6
          try clear p172
          try clear p173
          try clear p2
          try clear q172
          try clear q173
          (try clear BK168)
          obtain ⟨x36_2, rfl, HA, HK2, HO_4, BK168, HR172_3, HR172_4, HR173_3, HR173_4, HB⟩ := hrel
          cases gk with
          | zero => exact absurd HA.out (by simp [tendrilref11_Check.l1])
          | succ k2 =>
           have H := HA.out
           clear HA
           simp only [tendrilref11_Check.l1] at H
           by_cases c15 : x36_2 < x12_1
           ·
            rw [if_pos c15] at H
            have c15b0 : decide (x36_2 < x12_1) = true := decide_eq_true c15
            clear c15
            by_cases c16 : 0 ≤ x12_1
            ·
             rw [if_pos c16] at H
             have c16b0 : decide (0 ≤ x12_1) = true := decide_eq_true c16
             clear c16
             by_cases c17 : x12_1 < (t169.length : Int)
             ·
              rw [if_pos c17] at H
              have c17b0 : decide (x12_1 < (t169.length : Int)) = true := decide_eq_true c17
              clear c17
              by_cases c18 : ((rd_T48 t169 x12_1).f2) ≥ 0
              ·
               rw [if_pos c18] at H
               have c18b0 : decide (0 ≤ ((rd_T48 t169 x12_1).f2)) = true := decide_eq_true c18
               clear c18
               by_cases c19 : 0 ≤ x36_2
               ·
                rw [if_pos c19] at H
                have c19b0 : decide (0 ≤ x36_2) = true := decide_eq_true c19
                clear c19
                by_cases c20 : x36_2 < (t169.length : Int)
                ·
                 rw [if_pos c20] at H
                 have c20b0 : decide (x36_2 < (t169.length : Int)) = true := decide_eq_true c20
                 clear c20
                 by_cases c21 : ((rd_T48 t169 x36_2).f2) = ((rd_T48 t169 x12_1).f2)
                 ·
                  rw [if_pos c21] at H
                  have c21b0 : (((rd_T48 t169 x36_2).f2) == ((rd_T48 t169 x12_1).f2)) = true := beq_iff_eq.mpr c21
                  have c21b1 : (((rd_T48 t169 x36_2).f2) != ((rd_T48 t169 x12_1).f2)) = false := bne_eq_false_iff_eq.mpr c21
                  clear c21
                  by_cases c22 : ((rd_T48 t169 x12_1).f0.f1).toList = ([] : List UInt8)
                  ·
                   rw [if_pos c22] at H
                   have c22b0 : (((rd_T48 t169 x12_1).f0.f1).toList == ([] : List UInt8)) = true := beq_iff_eq.mpr c22
                   have c22b1 : (((rd_T48 t169 x12_1).f0.f1).toList != ([] : List UInt8)) = false := bne_eq_false_iff_eq.mpr c22
                   clear c22
                   have H' := Aside0.mk H
                   clear H
                   have p175 : 0 ≤ (x12_1 : Int) := of_decide_eq_true (by first | (with_reducible assumption) | assumption)
                   have q175 : x12_1 < (t169.length : Int) := of_decide_eq_true (by first | (with_reducible assumption) | assumption)
                   obtain ⟨ad175, A175_3, c175_3, A175_4, c175_4, e175, hx175_0, hx175_1, hx175_2, hx175_3, hx175_4, hx175_5, hx175_6, hl175_3, hi175_3, hl175_4, hi175_4⟩ := at_T48 (Kd.N_reads' HO_4.out).2.2 x12_1 p175 q175
                   obtain rfl : ad172 = ad175 := (by injection e175)
                   obtain ⟨ce175, hce175, hMe175, hcc175⟩ := Kd.N_get HO_4.out z48 x12_1 p175 (by first | exact q175 | exact of_decide_eq_true (by first | (with_reducible assumption) | assumption) | (have e_ := (Kd.N_reads' HO_4.out).1; omega))
                   obtain ⟨ua175_3, uc175_3, ua175_4, uc175_4, rfl, ul175_3, ge175_3, ul175_4, ge175_4⟩ := k48_openF hMe175
                   have hv175_3 := hcc175 3 _ rfl
                   rw [add_field _ _ 3 (by omega)] at hv175_3
                   replace hv175_3 := Option.some.inj (hv175_3.symm.trans hx175_3)
                   injection hv175_3 with hva_ hvn_ hvc_
                   rw [hva_] at ge175_3
                   rw [hvc_] at ul175_3
                   have HL175_3 := Aside0.mk (show Kd.V k42 42 _ w.heap.size _ _ ((rd_T48 t169 x12_1).f0.f3) from Kd.V_mk ul175_3 ge175_3)
                   clear hva_ hvn_ hvc_ ge175_3 ul175_3
                   have hv175_4 := hcc175 4 _ rfl
                   rw [add_field _ _ 4 (by omega)] at hv175_4
                   replace hv175_4 := Option.some.inj (hv175_4.symm.trans hx175_4)
                   injection hv175_4 with hva_ hvn_ hvc_
                   rw [hva_] at ge175_4
                   rw [hvc_] at ul175_4
                   have HL175_4 := Aside0.mk (show Kd.V k25 25 _ w.heap.size _ _ ((rd_T48 t169 x12_1).f0.f4) from Kd.V_mk ul175_4 ge175_4)
                   clear hva_ hvn_ hvc_ ge175_4 ul175_4
                   clear hcc175 hce175
                   have HR175_3 := Aside0.mk hi175_3
                   have HC175_3 := Aside0.mk hl175_3
                   clear hi175_3 hl175_3
                   have HR175_4 := Aside0.mk hi175_4
                   have HC175_4 := Aside0.mk hl175_4
                   clear hi175_4 hl175_4
                   replace p175 := eq_true p175
                   replace q175 := eq_true q175
                   have p176 : 0 ≤ (x36_2 : Int) := of_decide_eq_true (by first | (with_reducible assumption) | assumption)
                   have q176 : x36_2 < (t169.length : Int) := of_decide_eq_true (by first | (with_reducible assumption) | assumption)
                   obtain ⟨ad176, A176_3, c176_3, A176_4, c176_4, e176, hx176_0, hx176_1, hx176_2, hx176_3, hx176_4, hx176_5, hx176_6, hl176_3, hi176_3, hl176_4, hi176_4⟩ := at_T48 (Kd.N_reads' HO_4.out).2.2 x36_2 p176 q176
                   obtain rfl : ad172 = ad176 := (by injection e176)
                   obtain ⟨ce176, hce176, hMe176, hcc176⟩ := Kd.N_get HO_4.out z48 x36_2 p176 (by first | exact q176 | exact of_decide_eq_true (by first | (with_reducible assumption) | assumption) | (have e_ := (Kd.N_reads' HO_4.out).1; omega))
                   obtain ⟨ua176_3, uc176_3, ua176_4, uc176_4, rfl, ul176_3, ge176_3, ul176_4, ge176_4⟩ := k48_openF hMe176
                   have hv176_3 := hcc176 3 _ rfl
                   rw [add_field _ _ 3 (by omega)] at hv176_3
                   replace hv176_3 := Option.some.inj (hv176_3.symm.trans hx176_3)
                   injection hv176_3 with hva_ hvn_ hvc_
                   rw [hva_] at ge176_3
                   rw [hvc_] at ul176_3
                   have HL176_3 := Aside0.mk (show Kd.V k42 42 _ w.heap.size _ _ ((rd_T48 t169 x36_2).f0.f3) from Kd.V_mk ul176_3 ge176_3)
                   clear hva_ hvn_ hvc_ ge176_3 ul176_3
                   have hv176_4 := hcc176 4 _ rfl
                   rw [add_field _ _ 4 (by omega)] at hv176_4
                   replace hv176_4 := Option.some.inj (hv176_4.symm.trans hx176_4)
                   injection hv176_4 with hva_ hvn_ hvc_
                   rw [hva_] at ge176_4
                   rw [hvc_] at ul176_4
                   have HL176_4 := Aside0.mk (show Kd.V k25 25 _ w.heap.size _ _ ((rd_T48 t169 x36_2).f0.f4) from Kd.V_mk ul176_4 ge176_4)
                   clear hva_ hvn_ hvc_ ge176_4 ul176_4
                   clear hcc176 hce176
                   have HR176_3 := Aside0.mk hi176_3
                   have HC176_3 := Aside0.mk hl176_3
                   clear hi176_3 hl176_3
                   have HR176_4 := Aside0.mk hi176_4
                   have HC176_4 := Aside0.mk hl176_4
                   clear hi176_4 hl176_4
                   replace p176 := eq_true p176
                   replace q176 := eq_true q176
                   have p177 : 0 ≤ (x12_1 : Int) := of_decide_eq_true (by first | (with_reducible assumption) | assumption)
                   have q177 : x12_1 < (t169.length : Int) := of_decide_eq_true (by first | (with_reducible assumption) | assumption)
                   obtain ⟨ad177, A177_3, c177_3, A177_4, c177_4, e177, hx177_0, hx177_1, hx177_2, hx177_3, hx177_4, hx177_5, hx177_6, hl177_3, hi177_3, hl177_4, hi177_4⟩ := at_T48 (Kd.N_reads' HO_4.out).2.2 x12_1 p177 q177
                   obtain rfl : ad172 = ad177 := (by injection e177)
                   obtain ⟨ce177, hce177, hMe177, hcc177⟩ := Kd.N_get HO_4.out z48 x12_1 p177 (by first | exact q177 | exact of_decide_eq_true (by first | (with_reducible assumption) | assumption) | (have e_ := (Kd.N_reads' HO_4.out).1; omega))
                   obtain ⟨ua177_3, uc177_3, ua177_4, uc177_4, rfl, ul177_3, ge177_3, ul177_4, ge177_4⟩ := k48_openF hMe177
                   have hv177_3 := hcc177 3 _ rfl
                   rw [add_field _ _ 3 (by omega)] at hv177_3
                   replace hv177_3 := Option.some.inj (hv177_3.symm.trans hx177_3)
                   injection hv177_3 with hva_ hvn_ hvc_
                   rw [hva_] at ge177_3
                   rw [hvc_] at ul177_3
                   have HL177_3 := Aside0.mk (show Kd.V k42 42 _ w.heap.size _ _ ((rd_T48 t169 x12_1).f0.f3) from Kd.V_mk ul177_3 ge177_3)
                   clear hva_ hvn_ hvc_ ge177_3 ul177_3
                   have hv177_4 := hcc177 4 _ rfl
                   rw [add_field _ _ 4 (by omega)] at hv177_4
                   replace hv177_4 := Option.some.inj (hv177_4.symm.trans hx177_4)
                   injection hv177_4 with hva_ hvn_ hvc_
                   rw [hva_] at ge177_4
                   rw [hvc_] at ul177_4
                   have HL177_4 := Aside0.mk (show Kd.V k25 25 _ w.heap.size _ _ ((rd_T48 t169 x12_1).f0.f4) from Kd.V_mk ul177_4 ge177_4)
                   clear hva_ hvn_ hvc_ ge177_4 ul177_4
                   clear hcc177 hce177
                   have HR177_3 := Aside0.mk hi177_3
                   have HC177_3 := Aside0.mk hl177_3
                   clear hi177_3 hl177_3
                   have HR177_4 := Aside0.mk hi177_4
                   have HC177_4 := Aside0.mk hl177_4
                   clear hi177_4 hl177_4
                   replace p177 := eq_true p177
                   replace q177 := eq_true q177
                   have ea_ := Option.some.inj (hx175_3.symm.trans hx177_3)
                   injection ea_ with ea_ en_ ec_
                   subst ea_
                   subst ec_
                   clear en_
                   have ea_ := Option.some.inj (hx175_4.symm.trans hx177_4)
                   injection ea_ with ea_ en_ ec_
                   subst ea_
                   subst ec_
                   clear en_
                   have p178 : 0 ≤ (x12_1 : Int) := of_decide_eq_true (by first | (with_reducible assumption) | assumption)
                   have q178 : x12_1 < (t169.length : Int) := of_decide_eq_true (by first | (with_reducible assumption) | assumption)
                   obtain ⟨ad178, A178_3, c178_3, A178_4, c178_4, e178, hx178_0, hx178_1, hx178_2, hx178_3, hx178_4, hx178_5, hx178_6, hl178_3, hi178_3, hl178_4, hi178_4⟩ := at_T48 (Kd.N_reads' HO_4.out).2.2 x12_1 p178 q178
                   obtain rfl : ad172 = ad178 := (by injection e178)
                   obtain ⟨ce178, hce178, hMe178, hcc178⟩ := Kd.N_get HO_4.out z48 x12_1 p178 (by first | exact q178 | exact of_decide_eq_true (by first | (with_reducible assumption) | assumption) | (have e_ := (Kd.N_reads' HO_4.out).1; omega))
                   obtain ⟨ua178_3, uc178_3, ua178_4, uc178_4, rfl, ul178_3, ge178_3, ul178_4, ge178_4⟩ := k48_openF hMe178
                   have hv178_3 := hcc178 3 _ rfl
                   rw [add_field _ _ 3 (by omega)] at hv178_3
                   replace hv178_3 := Option.some.inj (hv178_3.symm.trans hx178_3)
                   injection hv178_3 with hva_ hvn_ hvc_
                   rw [hva_] at ge178_3
                   rw [hvc_] at ul178_3
                   have HL178_3 := Aside0.mk (show Kd.V k42 42 _ w.heap.size _ _ ((rd_T48 t169 x12_1).f0.f3) from Kd.V_mk ul178_3 ge178_3)
                   clear hva_ hvn_ hvc_ ge178_3 ul178_3
                   have hv178_4 := hcc178 4 _ rfl
                   rw [add_field _ _ 4 (by omega)] at hv178_4
                   replace hv178_4 := Option.some.inj (hv178_4.symm.trans hx178_4)
                   injection hv178_4 with hva_ hvn_ hvc_
                   rw [hva_] at ge178_4
                   rw [hvc_] at ul178_4
                   have HL178_4 := Aside0.mk (show Kd.V k25 25 _ w.heap.size _ _ ((rd_T48 t169 x12_1).f0.f4) from Kd.V_mk ul178_4 ge178_4)
                   clear hva_ hvn_ hvc_ ge178_4 ul178_4
                   clear hcc178 hce178
                   have HR178_3 := Aside0.mk hi178_3
                   have HC178_3 := Aside0.mk hl178_3
                   clear hi178_3 hl178_3
                   have HR178_4 := Aside0.mk hi178_4
                   have HC178_4 := Aside0.mk hl178_4
                   clear hi178_4 hl178_4
                   replace p178 := eq_true p178
                   replace q178 := eq_true q178
                   have ea_ := Option.some.inj (hx175_3.symm.trans hx178_3)
                   injection ea_ with ea_ en_ ec_
                   subst ea_
                   subst ec_
                   clear en_
                   have ea_ := Option.some.inj (hx175_4.symm.trans hx178_4)
                   injection ea_ with ea_ en_ ec_
                   subst ea_
                   subst ec_
                   clear en_
                   go_wp2
                   repeat (go_quiet (fail); try go_wp2)
                   go_roundg k2
                   case measure => have := HK1.out; have := HK2.out; omega
                   case rel => exact ⟨(wrap64 (x36_2 + 1)), (by first | rfl | (simp; done) | (simp [*]; done)), H', ⟨by have := HK1.out; have := HK2.out; omega⟩, ⟨by (with_reducible repeat (first | apply Kd.N_alloc | apply Kd.N_drewN | apply Kd.N_drew)); exact HO_4.out⟩, ⟨by (with_reducible repeat first | apply zM | apply zE | apply zF); exact BK168.out⟩, ⟨by repeat (first | (with_reducible exact HR172_3.out) | (with_reducible refine Kd.C_alloc ?_ _) | (with_reducible refine Kd.C_drewN ?_ _) | (with_reducible refine Kd.C_drew ?_) | exact HR172_3.out)⟩, ⟨by repeat (first | (with_reducible exact HR172_4.out) | (with_reducible refine Kd.C_alloc ?_ _) | (with_reducible refine Kd.C_drewN ?_ _) | (with_reducible refine Kd.C_drew ?_) | exact HR172_4.out)⟩, ⟨by repeat (first | (with_reducible exact HR173_3.out) | (with_reducible refine Kd.C_alloc ?_ _) | (with_reducible refine Kd.C_drewN ?_ _) | (with_reducible refine Kd.C_drew ?_) | exact HR173_3.out)⟩, ⟨by repeat (first | (with_reducible exact HR173_4.out) | (with_reducible refine Kd.C_alloc ?_ _) | (with_reducible refine Kd.C_drewN ?_ _) | (with_reducible refine Kd.C_drew ?_) | exact HR173_4.out)⟩, ⟨by repeat (first | (with_reducible first | exact HB.out | apply zA | apply zN | apply zD | refine zS ?_ GE168.out) | exact HB.out)⟩⟩
                  ·
                   rw [if_neg c22] at H
                   have c22b0 : (((rd_T48 t169 x12_1).f0.f1).toList == ([] : List UInt8)) = false := beq_eq_false_iff_ne.mpr c22
                   have c22b1 : (((rd_T48 t169 x12_1).f0.f1).toList != ([] : List UInt8)) = true := bne_iff_ne.mpr c22
                   by_cases c23 : ((rd_T48 t169 x36_2).f0.f1).toList = ((rd_T48 t169 x12_1).f0.f1).toList
                   ·
                    rw [if_pos c23] at H
                    have c23b0 : (((rd_T48 t169 x36_2).f0.f1).toList == ((rd_T48 t169 x12_1).f0.f1).toList) = true := beq_iff_eq.mpr c23
                    have c23b1 : (((rd_T48 t169 x36_2).f0.f1).toList != ((rd_T48 t169 x12_1).f0.f1).toList) = false := bne_eq_false_iff_eq.mpr c23
                    clear c23
                    simp only [Option.some.injEq, Prod.mk.injEq] at H
                    obtain ⟨rfl, rfl⟩ := H
                    have p175 : 0 ≤ (x12_1 : Int) := of_decide_eq_true (by first | (with_reducible assumption) | assumption)
                    have q175 : x12_1 < (t169.length : Int) := of_decide_eq_true (by first | (with_reducible assumption) | assumption)
                    obtain ⟨ad175, A175_3, c175_3, A175_4, c175_4, e175, hx175_0, hx175_1, hx175_2, hx175_3, hx175_4, hx175_5, hx175_6, hl175_3, hi175_3, hl175_4, hi175_4⟩ := at_T48 (Kd.N_reads' HO_4.out).2.2 x12_1 p175 q175
                    obtain rfl : ad172 = ad175 := (by injection e175)
                    obtain ⟨ce175, hce175, hMe175, hcc175⟩ := Kd.N_get HO_4.out z48 x12_1 p175 (by first | exact q175 | exact of_decide_eq_true (by first | (with_reducible assumption) | assumption) | (have e_ := (Kd.N_reads' HO_4.out).1; omega))
                    obtain ⟨ua175_3, uc175_3, ua175_4, uc175_4, rfl, ul175_3, ge175_3, ul175_4, ge175_4⟩ := k48_openF hMe175
                    have hv175_3 := hcc175 3 _ rfl
                    rw [add_field _ _ 3 (by omega)] at hv175_3
                    replace hv175_3 := Option.some.inj (hv175_3.symm.trans hx175_3)
                    injection hv175_3 with hva_ hvn_ hvc_
                    rw [hva_] at ge175_3
                    rw [hvc_] at ul175_3
                    have HL175_3 := Aside0.mk (show Kd.V k42 42 _ w.heap.size _ _ ((rd_T48 t169 x12_1).f0.f3) from Kd.V_mk ul175_3 ge175_3)
                    clear hva_ hvn_ hvc_ ge175_3 ul175_3
                    have hv175_4 := hcc175 4 _ rfl
                    rw [add_field _ _ 4 (by omega)] at hv175_4
                    replace hv175_4 := Option.some.inj (hv175_4.symm.trans hx175_4)
                    injection hv175_4 with hva_ hvn_ hvc_
                    rw [hva_] at ge175_4
                    rw [hvc_] at ul175_4
                    have HL175_4 := Aside0.mk (show Kd.V k25 25 _ w.heap.size _ _ ((rd_T48 t169 x12_1).f0.f4) from Kd.V_mk ul175_4 ge175_4)
                    clear hva_ hvn_ hvc_ ge175_4 ul175_4
                    clear hcc175 hce175
                    have HR175_3 := Aside0.mk hi175_3
                    have HC175_3 := Aside0.mk hl175_3
                    clear hi175_3 hl175_3
                    have HR175_4 := Aside0.mk hi175_4
                    have HC175_4 := Aside0.mk hl175_4
                    clear hi175_4 hl175_4
                    replace p175 := eq_true p175
                    replace q175 := eq_true q175
                    have p176 : 0 ≤ (x36_2 : Int) := of_decide_eq_true (by first | (with_reducible assumption) | assumption)
                    have q176 : x36_2 < (t169.length : Int) := of_decide_eq_true (by first | (with_reducible assumption) | assumption)
                    obtain ⟨ad176, A176_3, c176_3, A176_4, c176_4, e176, hx176_0, hx176_1, hx176_2, hx176_3, hx176_4, hx176_5, hx176_6, hl176_3, hi176_3, hl176_4, hi176_4⟩ := at_T48 (Kd.N_reads' HO_4.out).2.2 x36_2 p176 q176
                    obtain rfl : ad172 = ad176 := (by injection e176)
                    obtain ⟨ce176, hce176, hMe176, hcc176⟩ := Kd.N_get HO_4.out z48 x36_2 p176 (by first | exact q176 | exact of_decide_eq_true (by first | (with_reducible assumption) | assumption) | (have e_ := (Kd.N_reads' HO_4.out).1; omega))
                    obtain ⟨ua176_3, uc176_3, ua176_4, uc176_4, rfl, ul176_3, ge176_3, ul176_4, ge176_4⟩ := k48_openF hMe176
                    have hv176_3 := hcc176 3 _ rfl
                    rw [add_field _ _ 3 (by omega)] at hv176_3
                    replace hv176_3 := Option.some.inj (hv176_3.symm.trans hx176_3)
                    injection hv176_3 with hva_ hvn_ hvc_
                    rw [hva_] at ge176_3
                    rw [hvc_] at ul176_3
                    have HL176_3 := Aside0.mk (show Kd.V k42 42 _ w.heap.size _ _ ((rd_T48 t169 x36_2).f0.f3) from Kd.V_mk ul176_3 ge176_3)
                    clear hva_ hvn_ hvc_ ge176_3 ul176_3
                    have hv176_4 := hcc176 4 _ rfl
                    rw [add_field _ _ 4 (by omega)] at hv176_4
                    replace hv176_4 := Option.some.inj (hv176_4.symm.trans hx176_4)
                    injection hv176_4 with hva_ hvn_ hvc_
                    rw [hva_] at ge176_4
                    rw [hvc_] at ul176_4
                    have HL176_4 := Aside0.mk (show Kd.V k25 25 _ w.heap.size _ _ ((rd_T48 t169 x36_2).f0.f4) from Kd.V_mk ul176_4 ge176_4)
                    clear hva_ hvn_ hvc_ ge176_4 ul176_4
                    clear hcc176 hce176
                    have HR176_3 := Aside0.mk hi176_3
                    have HC176_3 := Aside0.mk hl176_3
                    clear hi176_3 hl176_3
                    have HR176_4 := Aside0.mk hi176_4
                    have HC176_4 := Aside0.mk hl176_4
                    clear hi176_4 hl176_4
                    replace p176 := eq_true p176
                    replace q176 := eq_true q176
                    have p177 : 0 ≤ (x12_1 : Int) := of_decide_eq_true (by first | (with_reducible assumption) | assumption)
                    have q177 : x12_1 < (t169.length : Int) := of_decide_eq_true (by first | (with_reducible assumption) | assumption)
                    obtain ⟨ad177, A177_3, c177_3, A177_4, c177_4, e177, hx177_0, hx177_1, hx177_2, hx177_3, hx177_4, hx177_5, hx177_6, hl177_3, hi177_3, hl177_4, hi177_4⟩ := at_T48 (Kd.N_reads' HO_4.out).2.2 x12_1 p177 q177
                    obtain rfl : ad172 = ad177 := (by injection e177)
                    obtain ⟨ce177, hce177, hMe177, hcc177⟩ := Kd.N_get HO_4.out z48 x12_1 p177 (by first | exact q177 | exact of_decide_eq_true (by first | (with_reducible assumption) | assumption) | (have e_ := (Kd.N_reads' HO_4.out).1; omega))
                    obtain ⟨ua177_3, uc177_3, ua177_4, uc177_4, rfl, ul177_3, ge177_3, ul177_4, ge177_4⟩ := k48_openF hMe177
                    have hv177_3 := hcc177 3 _ rfl
                    rw [add_field _ _ 3 (by omega)] at hv177_3
                    replace hv177_3 := Option.some.inj (hv177_3.symm.trans hx177_3)
                    injection hv177_3 with hva_ hvn_ hvc_
                    rw [hva_] at ge177_3
                    rw [hvc_] at ul177_3
                    have HL177_3 := Aside0.mk (show Kd.V k42 42 _ w.heap.size _ _ ((rd_T48 t169 x12_1).f0.f3) from Kd.V_mk ul177_3 ge177_3)
                    clear hva_ hvn_ hvc_ ge177_3 ul177_3
                    have hv177_4 := hcc177 4 _ rfl
                    rw [add_field _ _ 4 (by omega)] at hv177_4
                    replace hv177_4 := Option.some.inj (hv177_4.symm.trans hx177_4)
                    injection hv177_4 with hva_ hvn_ hvc_
                    rw [hva_] at ge177_4
                    rw [hvc_] at ul177_4
                    have HL177_4 := Aside0.mk (show Kd.V k25 25 _ w.heap.size _ _ ((rd_T48 t169 x12_1).f0.f4) from Kd.V_mk ul177_4 ge177_4)
                    clear hva_ hvn_ hvc_ ge177_4 ul177_4
                    clear hcc177 hce177
                    have HR177_3 := Aside0.mk hi177_3
                    have HC177_3 := Aside0.mk hl177_3
                    clear hi177_3 hl177_3
                    have HR177_4 := Aside0.mk hi177_4
                    have HC177_4 := Aside0.mk hl177_4
                    clear hi177_4 hl177_4
                    replace p177 := eq_true p177
                    replace q177 := eq_true q177
                    have ea_ := Option.some.inj (hx175_3.symm.trans hx177_3)
                    injection ea_ with ea_ en_ ec_
                    subst ea_
                    subst ec_
                    clear en_
                    have ea_ := Option.some.inj (hx175_4.symm.trans hx177_4)
                    injection ea_ with ea_ en_ ec_
                    subst ea_
                    subst ec_
                    clear en_
                    have p178 : 0 ≤ (x12_1 : Int) := of_decide_eq_true (by first | (with_reducible assumption) | assumption)
                    have q178 : x12_1 < (t169.length : Int) := of_decide_eq_true (by first | (with_reducible assumption) | assumption)
                    obtain ⟨ad178, A178_3, c178_3, A178_4, c178_4, e178, hx178_0, hx178_1, hx178_2, hx178_3, hx178_4, hx178_5, hx178_6, hl178_3, hi178_3, hl178_4, hi178_4⟩ := at_T48 (Kd.N_reads' HO_4.out).2.2 x12_1 p178 q178
                    obtain rfl : ad172 = ad178 := (by injection e178)
                    obtain ⟨ce178, hce178, hMe178, hcc178⟩ := Kd.N_get HO_4.out z48 x12_1 p178 (by first | exact q178 | exact of_decide_eq_true (by first | (with_reducible assumption) | assumption) | (have e_ := (Kd.N_reads' HO_4.out).1; omega))
                    obtain ⟨ua178_3, uc178_3, ua178_4, uc178_4, rfl, ul178_3, ge178_3, ul178_4, ge178_4⟩ := k48_openF hMe178
                    have hv178_3 := hcc178 3 _ rfl
                    rw [add_field _ _ 3 (by omega)] at hv178_3
                    replace hv178_3 := Option.some.inj (hv178_3.symm.trans hx178_3)
                    injection hv178_3 with hva_ hvn_ hvc_
                    rw [hva_] at ge178_3
                    rw [hvc_] at ul178_3
                    have HL178_3 := Aside0.mk (show Kd.V k42 42 _ w.heap.size _ _ ((rd_T48 t169 x12_1).f0.f3) from Kd.V_mk ul178_3 ge178_3)
                    clear hva_ hvn_ hvc_ ge178_3 ul178_3
                    have hv178_4 := hcc178 4 _ rfl
                    rw [add_field _ _ 4 (by omega)] at hv178_4
                    replace hv178_4 := Option.some.inj (hv178_4.symm.trans hx178_4)
                    injection hv178_4 with hva_ hvn_ hvc_
                    rw [hva_] at ge178_4
                    rw [hvc_] at ul178_4
                    have HL178_4 := Aside0.mk (show Kd.V k25 25 _ w.heap.size _ _ ((rd_T48 t169 x12_1).f0.f4) from Kd.V_mk ul178_4 ge178_4)
                    clear hva_ hvn_ hvc_ ge178_4 ul178_4
                    clear hcc178 hce178
                    have HR178_3 := Aside0.mk hi178_3
                    have HC178_3 := Aside0.mk hl178_3
                    clear hi178_3 hl178_3
                    have HR178_4 := Aside0.mk hi178_4
                    have HC178_4 := Aside0.mk hl178_4
                    clear hi178_4 hl178_4
                    replace p178 := eq_true p178
                    replace q178 := eq_true q178
                    have ea_ := Option.some.inj (hx175_3.symm.trans hx178_3)
                    injection ea_ with ea_ en_ ec_
                    subst ea_
                    subst ec_
                    clear en_
                    have ea_ := Option.some.inj (hx175_4.symm.trans hx178_4)
                    injection ea_ with ea_ en_ ec_
                    subst ea_
                    subst ec_
                    clear en_
                    have p179 : 0 ≤ (x36_2 : Int) := of_decide_eq_true (by first | (with_reducible assumption) | assumption)
                    have q179 : x36_2 < (t169.length : Int) := of_decide_eq_true (by first | (with_reducible assumption) | assumption)
                    obtain ⟨ad179, A179_3, c179_3, A179_4, c179_4, e179, hx179_0, hx179_1, hx179_2, hx179_3, hx179_4, hx179_5, hx179_6, hl179_3, hi179_3, hl179_4, hi179_4⟩ := at_T48 (Kd.N_reads' HO_4.out).2.2 x36_2 p179 q179
                    obtain rfl : ad172 = ad179 := (by injection e179)
                    obtain ⟨ce179, hce179, hMe179, hcc179⟩ := Kd.N_get HO_4.out z48 x36_2 p179 (by first | exact q179 | exact of_decide_eq_true (by first | (with_reducible assumption) | assumption) | (have e_ := (Kd.N_reads' HO_4.out).1; omega))
                    obtain ⟨ua179_3, uc179_3, ua179_4, uc179_4, rfl, ul179_3, ge179_3, ul179_4, ge179_4⟩ := k48_openF hMe179
                    have hv179_3 := hcc179 3 _ rfl
                    rw [add_field _ _ 3 (by omega)] at hv179_3
                    replace hv179_3 := Option.some.inj (hv179_3.symm.trans hx179_3)
                    injection hv179_3 with hva_ hvn_ hvc_
                    rw [hva_] at ge179_3
                    rw [hvc_] at ul179_3
                    have HL179_3 := Aside0.mk (show Kd.V k42 42 _ w.heap.size _ _ ((rd_T48 t169 x36_2).f0.f3) from Kd.V_mk ul179_3 ge179_3)
                    clear hva_ hvn_ hvc_ ge179_3 ul179_3
                    have hv179_4 := hcc179 4 _ rfl
                    rw [add_field _ _ 4 (by omega)] at hv179_4
                    replace hv179_4 := Option.some.inj (hv179_4.symm.trans hx179_4)
                    injection hv179_4 with hva_ hvn_ hvc_
                    rw [hva_] at ge179_4
                    rw [hvc_] at ul179_4
                    have HL179_4 := Aside0.mk (show Kd.V k25 25 _ w.heap.size _ _ ((rd_T48 t169 x36_2).f0.f4) from Kd.V_mk ul179_4 ge179_4)
                    clear hva_ hvn_ hvc_ ge179_4 ul179_4
                    clear hcc179 hce179
                    have HR179_3 := Aside0.mk hi179_3
                    have HC179_3 := Aside0.mk hl179_3
                    clear hi179_3 hl179_3
                    have HR179_4 := Aside0.mk hi179_4
                    have HC179_4 := Aside0.mk hl179_4
                    clear hi179_4 hl179_4
                    replace p179 := eq_true p179
                    replace q179 := eq_true q179
                    have ea_ := Option.some.inj (hx176_3.symm.trans hx179_3)
                    injection ea_ with ea_ en_ ec_
                    subst ea_
                    subst ec_
                    clear en_
                    have ea_ := Option.some.inj (hx176_4.symm.trans hx179_4)
                    injection ea_ with ea_ en_ ec_
                    subst ea_
                    subst ec_
                    clear en_
                    have p180 : 0 ≤ (x12_1 : Int) := of_decide_eq_true (by first | (with_reducible assumption) | assumption)
                    have q180 : x12_1 < (t169.length : Int) := of_decide_eq_true (by first | (with_reducible assumption) | assumption)
                    obtain ⟨ad180, A180_3, c180_3, A180_4, c180_4, e180, hx180_0, hx180_1, hx180_2, hx180_3, hx180_4, hx180_5, hx180_6, hl180_3, hi180_3, hl180_4, hi180_4⟩ := at_T48 (Kd.N_reads' HO_4.out).2.2 x12_1 p180 q180
                    obtain rfl : ad172 = ad180 := (by injection e180)
                    obtain ⟨ce180, hce180, hMe180, hcc180⟩ := Kd.N_get HO_4.out z48 x12_1 p180 (by first | exact q180 | exact of_decide_eq_true (by first | (with_reducible assumption) | assumption) | (have e_ := (Kd.N_reads' HO_4.out).1; omega))
                    obtain ⟨ua180_3, uc180_3, ua180_4, uc180_4, rfl, ul180_3, ge180_3, ul180_4, ge180_4⟩ := k48_openF hMe180
                    have hv180_3 := hcc180 3 _ rfl
                    rw [add_field _ _ 3 (by omega)] at hv180_3
                    replace hv180_3 := Option.some.inj (hv180_3.symm.trans hx180_3)
                    injection hv180_3 with hva_ hvn_ hvc_
                    rw [hva_] at ge180_3
                    rw [hvc_] at ul180_3
                    have HL180_3 := Aside0.mk (show Kd.V k42 42 _ w.heap.size _ _ ((rd_T48 t169 x12_1).f0.f3) from Kd.V_mk ul180_3 ge180_3)
                    clear hva_ hvn_ hvc_ ge180_3 ul180_3
                    have hv180_4 := hcc180 4 _ rfl
                    rw [add_field _ _ 4 (by omega)] at hv180_4
                    replace hv180_4 := Option.some.inj (hv180_4.symm.trans hx180_4)
                    injection hv180_4 with hva_ hvn_ hvc_
                    rw [hva_] at ge180_4
                    rw [hvc_] at ul180_4
                    have HL180_4 := Aside0.mk (show Kd.V k25 25 _ w.heap.size _ _ ((rd_T48 t169 x12_1).f0.f4) from Kd.V_mk ul180_4 ge180_4)
                    clear hva_ hvn_ hvc_ ge180_4 ul180_4
                    clear hcc180 hce180
                    have HR180_3 := Aside0.mk hi180_3
                    have HC180_3 := Aside0.mk hl180_3
                    clear hi180_3 hl180_3
                    have HR180_4 := Aside0.mk hi180_4
                    have HC180_4 := Aside0.mk hl180_4
                    clear hi180_4 hl180_4
                    replace p180 := eq_true p180
                    replace q180 := eq_true q180
                    have ea_ := Option.some.inj (hx175_3.symm.trans hx180_3)
                    injection ea_ with ea_ en_ ec_
                    subst ea_
                    subst ec_
                    clear en_
                    have ea_ := Option.some.inj (hx175_4.symm.trans hx180_4)
                    injection ea_ with ea_ en_ ec_
                    subst ea_
                    subst ec_
                    clear en_
                    go_wp2
                    repeat (go_quiet (fail); try go_wp2)
                    go_ret2
                    exact ⟨by first | rfl | (simp [errW_none, errW_some] <;> rfl) | (simp [*, errW_none, errW_some] <;> rfl), by repeat (first | (with_reducible first | exact HB.out | apply zA | apply zN | apply zD | refine zS ?_ GE168.out) | exact HB.out)⟩
                   ·
                    rw [if_neg c23] at H
                    have c23b0 : (((rd_T48 t169 x36_2).f0.f1).toList == ((rd_T48 t169 x12_1).f0.f1).toList) = false := beq_eq_false_iff_ne.mpr c23
                    have c23b1 : (((rd_T48 t169 x36_2).f0.f1).toList != ((rd_T48 t169 x12_1).f0.f1).toList) = true := bne_iff_ne.mpr c23
                    have H' := Aside0.mk H
                    clear H
                    have p175 : 0 ≤ (x12_1 : Int) := of_decide_eq_true (by first | (with_reducible assumption) | assumption)
                    have q175 : x12_1 < (t169.length : Int) := of_decide_eq_true (by first | (with_reducible assumption) | assumption)
                    obtain ⟨ad175, A175_3, c175_3, A175_4, c175_4, e175, hx175_0, hx175_1, hx175_2, hx175_3, hx175_4, hx175_5, hx175_6, hl175_3, hi175_3, hl175_4, hi175_4⟩ := at_T48 (Kd.N_reads' HO_4.out).2.2 x12_1 p175 q175
                    obtain rfl : ad172 = ad175 := (by injection e175)
                    obtain ⟨ce175, hce175, hMe175, hcc175⟩ := Kd.N_get HO_4.out z48 x12_1 p175 (by first | exact q175 | exact of_decide_eq_true (by first | (with_reducible assumption) | assumption) | (have e_ := (Kd.N_reads' HO_4.out).1; omega))
                    obtain ⟨ua175_3, uc175_3, ua175_4, uc175_4, rfl, ul175_3, ge175_3, ul175_4, ge175_4⟩ := k48_openF hMe175
                    have hv175_3 := hcc175 3 _ rfl
                    rw [add_field _ _ 3 (by omega)] at hv175_3
                    replace hv175_3 := Option.some.inj (hv175_3.symm.trans hx175_3)
                    injection hv175_3 with hva_ hvn_ hvc_
                    rw [hva_] at ge175_3
                    rw [hvc_] at ul175_3
                    have HL175_3 := Aside0.mk (show Kd.V k42 42 _ w.heap.size _ _ ((rd_T48 t169 x12_1).f0.f3) from Kd.V_mk ul175_3 ge175_3)
                    clear hva_ hvn_ hvc_ ge175_3 ul175_3
                    have hv175_4 := hcc175 4 _ rfl
                    rw [add_field _ _ 4 (by omega)] at hv175_4
                    replace hv175_4 := Option.some.inj (hv175_4.symm.trans hx175_4)
                    injection hv175_4 with hva_ hvn_ hvc_
                    rw [hva_] at ge175_4
                    rw [hvc_] at ul175_4
                    have HL175_4 := Aside0.mk (show Kd.V k25 25 _ w.heap.size _ _ ((rd_T48 t169 x12_1).f0.f4) from Kd.V_mk ul175_4 ge175_4)
                    clear hva_ hvn_ hvc_ ge175_4 ul175_4
                    clear hcc175 hce175
                    have HR175_3 := Aside0.mk hi175_3
                    have HC175_3 := Aside0.mk hl175_3
                    clear hi175_3 hl175_3
                    have HR175_4 := Aside0.mk hi175_4
                    have HC175_4 := Aside0.mk hl175_4
                    clear hi175_4 hl175_4
                    replace p175 := eq_true p175
                    replace q175 := eq_true q175
                    have p176 : 0 ≤ (x36_2 : Int) := of_decide_eq_true (by first | (with_reducible assumption) | assumption)
                    have q176 : x36_2 < (t169.length : Int) := of_decide_eq_true (by first | (with_reducible assumption) | assumption)
                    obtain ⟨ad176, A176_3, c176_3, A176_4, c176_4, e176, hx176_0, hx176_1, hx176_2, hx176_3, hx176_4, hx176_5, hx176_6, hl176_3, hi176_3, hl176_4, hi176_4⟩ := at_T48 (Kd.N_reads' HO_4.out).2.2 x36_2 p176 q176
                    obtain rfl : ad172 = ad176 := (by injection e176)
                    obtain ⟨ce176, hce176, hMe176, hcc176⟩ := Kd.N_get HO_4.out z48 x36_2 p176 (by first | exact q176 | exact of_decide_eq_true (by first | (with_reducible assumption) | assumption) | (have e_ := (Kd.N_reads' HO_4.out).1; omega))
                    obtain ⟨ua176_3, uc176_3, ua176_4, uc176_4, rfl, ul176_3, ge176_3, ul176_4, ge176_4⟩ := k48_openF hMe176
                    have hv176_3 := hcc176 3 _ rfl
                    rw [add_field _ _ 3 (by omega)] at hv176_3
                    replace hv176_3 := Option.some.inj (hv176_3.symm.trans hx176_3)
                    injection hv176_3 with hva_ hvn_ hvc_
                    rw [hva_] at ge176_3
                    rw [hvc_] at ul176_3
                    have HL176_3 := Aside0.mk (show Kd.V k42 42 _ w.heap.size _ _ ((rd_T48 t169 x36_2).f0.f3) from Kd.V_mk ul176_3 ge176_3)
                    clear hva_ hvn_ hvc_ ge176_3 ul176_3
                    have hv176_4 := hcc176 4 _ rfl
                    rw [add_field _ _ 4 (by omega)] at hv176_4
                    replace hv176_4 := Option.some.inj (hv176_4.symm.trans hx176_4)
                    injection hv176_4 with hva_ hvn_ hvc_
                    rw [hva_] at ge176_4
                    rw [hvc_] at ul176_4
                    have HL176_4 := Aside0.mk (show Kd.V k25 25 _ w.heap.size _ _ ((rd_T48 t169 x36_2).f0.f4) from Kd.V_mk ul176_4 ge176_4)
                    clear hva_ hvn_ hvc_ ge176_4 ul176_4
                    clear hcc176 hce176
                    have HR176_3 := Aside0.mk hi176_3
                    have HC176_3 := Aside0.mk hl176_3
                    clear hi176_3 hl176_3
                    have HR176_4 := Aside0.mk hi176_4
                    have HC176_4 := Aside0.mk hl176_4
                    clear hi176_4 hl176_4
                    replace p176 := eq_true p176
                    replace q176 := eq_true q176
                    have p177 : 0 ≤ (x12_1 : Int) := of_decide_eq_true (by first | (with_reducible assumption) | assumption)
                    have q177 : x12_1 < (t169.length : Int) := of_decide_eq_true (by first | (with_reducible assumption) | assumption)
                    obtain ⟨ad177, A177_3, c177_3, A177_4, c177_4, e177, hx177_0, hx177_1, hx177_2, hx177_3, hx177_4, hx177_5, hx177_6, hl177_3, hi177_3, hl177_4, hi177_4⟩ := at_T48 (Kd.N_reads' HO_4.out).2.2 x12_1 p177 q177
                    obtain rfl : ad172 = ad177 := (by injection e177)
                    obtain ⟨ce177, hce177, hMe177, hcc177⟩ := Kd.N_get HO_4.out z48 x12_1 p177 (by first | exact q177 | exact of_decide_eq_true (by first | (with_reducible assumption) | assumption) | (have e_ := (Kd.N_reads' HO_4.out).1; omega))
                    obtain ⟨ua177_3, uc177_3, ua177_4, uc177_4, rfl, ul177_3, ge177_3, ul177_4, ge177_4⟩ := k48_openF hMe177
                    have hv177_3 := hcc177 3 _ rfl
                    rw [add_field _ _ 3 (by omega)] at hv177_3
                    replace hv177_3 := Option.some.inj (hv177_3.symm.trans hx177_3)
                    injection hv177_3 with hva_ hvn_ hvc_
                    rw [hva_] at ge177_3
                    rw [hvc_] at ul177_3
                    have HL177_3 := Aside0.mk (show Kd.V k42 42 _ w.heap.size _ _ ((rd_T48 t169 x12_1).f0.f3) from Kd.V_mk ul177_3 ge177_3)
                    clear hva_ hvn_ hvc_ ge177_3 ul177_3
                    have hv177_4 := hcc177 4 _ rfl
                    rw [add_field _ _ 4 (by omega)] at hv177_4
                    replace hv177_4 := Option.some.inj (hv177_4.symm.trans hx177_4)
                    injection hv177_4 with hva_ hvn_ hvc_
                    rw [hva_] at ge177_4
                    rw [hvc_] at ul177_4
                    have HL177_4 := Aside0.mk (show Kd.V k25 25 _ w.heap.size _ _ ((rd_T48 t169 x12_1).f0.f4) from Kd.V_mk ul177_4 ge177_4)
                    clear hva_ hvn_ hvc_ ge177_4 ul177_4
                    clear hcc177 hce177
                    have HR177_3 := Aside0.mk hi177_3
                    have HC177_3 := Aside0.mk hl177_3
                    clear hi177_3 hl177_3
                    have HR177_4 := Aside0.mk hi177_4
                    have HC177_4 := Aside0.mk hl177_4
                    clear hi177_4 hl177_4
                    replace p177 := eq_true p177
                    replace q177 := eq_true q177
                    have ea_ := Option.some.inj (hx175_3.symm.trans hx177_3)
                    injection ea_ with ea_ en_ ec_
                    subst ea_
                    subst ec_
                    clear en_
                    have ea_ := Option.some.inj (hx175_4.symm.trans hx177_4)
                    injection ea_ with ea_ en_ ec_
                    subst ea_
                    subst ec_
                    clear en_
                    have p178 : 0 ≤ (x12_1 : Int) := of_decide_eq_true (by first | (with_reducible assumption) | assumption)
                    have q178 : x12_1 < (t169.length : Int) := of_decide_eq_true (by first | (with_reducible assumption) | assumption)
                    obtain ⟨ad178, A178_3, c178_3, A178_4, c178_4, e178, hx178_0, hx178_1, hx178_2, hx178_3, hx178_4, hx178_5, hx178_6, hl178_3, hi178_3, hl178_4, hi178_4⟩ := at_T48 (Kd.N_reads' HO_4.out).2.2 x12_1 p178 q178
                    obtain rfl : ad172 = ad178 := (by injection e178)
                    obtain ⟨ce178, hce178, hMe178, hcc178⟩ := Kd.N_get HO_4.out z48 x12_1 p178 (by first | exact q178 | exact of_decide_eq_true (by first | (with_reducible assumption) | assumption) | (have e_ := (Kd.N_reads' HO_4.out).1; omega))
                    obtain ⟨ua178_3, uc178_3, ua178_4, uc178_4, rfl, ul178_3, ge178_3, ul178_4, ge178_4⟩ := k48_openF hMe178
                    have hv178_3 := hcc178 3 _ rfl
                    rw [add_field _ _ 3 (by omega)] at hv178_3
                    replace hv178_3 := Option.some.inj (hv178_3.symm.trans hx178_3)
                    injection hv178_3 with hva_ hvn_ hvc_
                    rw [hva_] at ge178_3
                    rw [hvc_] at ul178_3
                    have HL178_3 := Aside0.mk (show Kd.V k42 42 _ w.heap.size _ _ ((rd_T48 t169 x12_1).f0.f3) from Kd.V_mk ul178_3 ge178_3)
                    clear hva_ hvn_ hvc_ ge178_3 ul178_3
                    have hv178_4 := hcc178 4 _ rfl
                    rw [add_field _ _ 4 (by omega)] at hv178_4
                    replace hv178_4 := Option.some.inj (hv178_4.symm.trans hx178_4)
                    injection hv178_4 with hva_ hvn_ hvc_
                    rw [hva_] at ge178_4
                    rw [hvc_] at ul178_4
                    have HL178_4 := Aside0.mk (show Kd.V k25 25 _ w.heap.size _ _ ((rd_T48 t169 x12_1).f0.f4) from Kd.V_mk ul178_4 ge178_4)
                    clear hva_ hvn_ hvc_ ge178_4 ul178_4
                    clear hcc178 hce178
                    have HR178_3 := Aside0.mk hi178_3
                    have HC178_3 := Aside0.mk hl178_3
                    clear hi178_3 hl178_3
                    have HR178_4 := Aside0.mk hi178_4
                    have HC178_4 := Aside0.mk hl178_4
                    clear hi178_4 hl178_4
                    replace p178 := eq_true p178
                    replace q178 := eq_true q178
                    have ea_ := Option.some.inj (hx175_3.symm.trans hx178_3)
                    injection ea_ with ea_ en_ ec_
                    subst ea_
                    subst ec_
                    clear en_
                    have ea_ := Option.some.inj (hx175_4.symm.trans hx178_4)
                    injection ea_ with ea_ en_ ec_
                    subst ea_
                    subst ec_
                    clear en_
                    have p179 : 0 ≤ (x36_2 : Int) := of_decide_eq_true (by first | (with_reducible assumption) | assumption)
                    have q179 : x36_2 < (t169.length : Int) := of_decide_eq_true (by first | (with_reducible assumption) | assumption)
                    obtain ⟨ad179, A179_3, c179_3, A179_4, c179_4, e179, hx179_0, hx179_1, hx179_2, hx179_3, hx179_4, hx179_5, hx179_6, hl179_3, hi179_3, hl179_4, hi179_4⟩ := at_T48 (Kd.N_reads' HO_4.out).2.2 x36_2 p179 q179
                    obtain rfl : ad172 = ad179 := (by injection e179)
                    obtain ⟨ce179, hce179, hMe179, hcc179⟩ := Kd.N_get HO_4.out z48 x36_2 p179 (by first | exact q179 | exact of_decide_eq_true (by first | (with_reducible assumption) | assumption) | (have e_ := (Kd.N_reads' HO_4.out).1; omega))
                    obtain ⟨ua179_3, uc179_3, ua179_4, uc179_4, rfl, ul179_3, ge179_3, ul179_4, ge179_4⟩ := k48_openF hMe179
                    have hv179_3 := hcc179 3 _ rfl
                    rw [add_field _ _ 3 (by omega)] at hv179_3
                    replace hv179_3 := Option.some.inj (hv179_3.symm.trans hx179_3)
                    injection hv179_3 with hva_ hvn_ hvc_
                    rw [hva_] at ge179_3
                    rw [hvc_] at ul179_3
                    have HL179_3 := Aside0.mk (show Kd.V k42 42 _ w.heap.size _ _ ((rd_T48 t169 x36_2).f0.f3) from Kd.V_mk ul179_3 ge179_3)
                    clear hva_ hvn_ hvc_ ge179_3 ul179_3
                    have hv179_4 := hcc179 4 _ rfl
                    rw [add_field _ _ 4 (by omega)] at hv179_4
                    replace hv179_4 := Option.some.inj (hv179_4.symm.trans hx179_4)
                    injection hv179_4 with hva_ hvn_ hvc_
                    rw [hva_] at ge179_4
                    rw [hvc_] at ul179_4
                    have HL179_4 := Aside0.mk (show Kd.V k25 25 _ w.heap.size _ _ ((rd_T48 t169 x36_2).f0.f4) from Kd.V_mk ul179_4 ge179_4)
                    clear hva_ hvn_ hvc_ ge179_4 ul179_4
                    clear hcc179 hce179
                    have HR179_3 := Aside0.mk hi179_3
                    have HC179_3 := Aside0.mk hl179_3
                    clear hi179_3 hl179_3
                    have HR179_4 := Aside0.mk hi179_4
                    have HC179_4 := Aside0.mk hl179_4
                    clear hi179_4 hl179_4
                    replace p179 := eq_true p179
                    replace q179 := eq_true q179
                    have ea_ := Option.some.inj (hx176_3.symm.trans hx179_3)
                    injection ea_ with ea_ en_ ec_
                    subst ea_
                    subst ec_
                    clear en_
                    have ea_ := Option.some.inj (hx176_4.symm.trans hx179_4)
                    injection ea_ with ea_ en_ ec_
                    subst ea_
                    subst ec_
                    clear en_
                    have p180 : 0 ≤ (x12_1 : Int) := of_decide_eq_true (by first | (with_reducible assumption) | assumption)
                    have q180 : x12_1 < (t169.length : Int) := of_decide_eq_true (by first | (with_reducible assumption) | assumption)
                    obtain ⟨ad180, A180_3, c180_3, A180_4, c180_4, e180, hx180_0, hx180_1, hx180_2, hx180_3, hx180_4, hx180_5, hx180_6, hl180_3, hi180_3, hl180_4, hi180_4⟩ := at_T48 (Kd.N_reads' HO_4.out).2.2 x12_1 p180 q180
                    obtain rfl : ad172 = ad180 := (by injection e180)
                    obtain ⟨ce180, hce180, hMe180, hcc180⟩ := Kd.N_get HO_4.out z48 x12_1 p180 (by first | exact q180 | exact of_decide_eq_true (by first | (with_reducible assumption) | assumption) | (have e_ := (Kd.N_reads' HO_4.out).1; omega))
                    obtain ⟨ua180_3, uc180_3, ua180_4, uc180_4, rfl, ul180_3, ge180_3, ul180_4, ge180_4⟩ := k48_openF hMe180
                    have hv180_3 := hcc180 3 _ rfl
                    rw [add_field _ _ 3 (by omega)] at hv180_3
                    replace hv180_3 := Option.some.inj (hv180_3.symm.trans hx180_3)
                    injection hv180_3 with hva_ hvn_ hvc_
                    rw [hva_] at ge180_3
                    rw [hvc_] at ul180_3
                    have HL180_3 := Aside0.mk (show Kd.V k42 42 _ w.heap.size _ _ ((rd_T48 t169 x12_1).f0.f3) from Kd.V_mk ul180_3 ge180_3)
                    clear hva_ hvn_ hvc_ ge180_3 ul180_3
                    have hv180_4 := hcc180 4 _ rfl
                    rw [add_field _ _ 4 (by omega)] at hv180_4
                    replace hv180_4 := Option.some.inj (hv180_4.symm.trans hx180_4)
                    injection hv180_4 with hva_ hvn_ hvc_
                    rw [hva_] at ge180_4
                    rw [hvc_] at ul180_4
                    have HL180_4 := Aside0.mk (show Kd.V k25 25 _ w.heap.size _ _ ((rd_T48 t169 x12_1).f0.f4) from Kd.V_mk ul180_4 ge180_4)
                    clear hva_ hvn_ hvc_ ge180_4 ul180_4
                    clear hcc180 hce180
                    have HR180_3 := Aside0.mk hi180_3
                    have HC180_3 := Aside0.mk hl180_3
                    clear hi180_3 hl180_3
                    have HR180_4 := Aside0.mk hi180_4
                    have HC180_4 := Aside0.mk hl180_4
                    clear hi180_4 hl180_4
                    replace p180 := eq_true p180
                    replace q180 := eq_true q180
                    have ea_ := Option.some.inj (hx175_3.symm.trans hx180_3)
                    injection ea_ with ea_ en_ ec_
                    subst ea_
                    subst ec_
                    clear en_
                    have ea_ := Option.some.inj (hx175_4.symm.trans hx180_4)
                    injection ea_ with ea_ en_ ec_
                    subst ea_
                    subst ec_
                    clear en_
                    go_wp2
                    repeat (go_quiet (fail); try go_wp2)
                    go_roundg k2
                    case measure => have := HK1.out; have := HK2.out; omega
                    case rel => exact ⟨(wrap64 (x36_2 + 1)), (by first | rfl | (simp; done) | (simp [*]; done)), H', ⟨by have := HK1.out; have := HK2.out; omega⟩, ⟨by (with_reducible repeat (first | apply Kd.N_alloc | apply Kd.N_drewN | apply Kd.N_drew)); exact HO_4.out⟩, ⟨by (with_reducible repeat first | apply zM | apply zE | apply zF); exact BK168.out⟩, ⟨by repeat (first | (with_reducible exact HR172_3.out) | (with_reducible refine Kd.C_alloc ?_ _) | (with_reducible refine Kd.C_drewN ?_ _) | (with_reducible refine Kd.C_drew ?_) | exact HR172_3.out)⟩, ⟨by repeat (first | (with_reducible exact HR172_4.out) | (with_reducible refine Kd.C_alloc ?_ _) | (with_reducible refine Kd.C_drewN ?_ _) | (with_reducible refine Kd.C_drew ?_) | exact HR172_4.out)⟩, ⟨by repeat (first | (with_reducible exact HR173_3.out) | (with_reducible refine Kd.C_alloc ?_ _) | (with_reducible refine Kd.C_drewN ?_ _) | (with_reducible refine Kd.C_drew ?_) | exact HR173_3.out)⟩, ⟨by repeat (first | (with_reducible exact HR173_4.out) | (with_reducible refine Kd.C_alloc ?_ _) | (with_reducible refine Kd.C_drewN ?_ _) | (with_reducible refine Kd.C_drew ?_) | exact HR173_4.out)⟩, ⟨by repeat (first | (with_reducible first | exact HB.out | apply zA | apply zN | apply zD | refine zS ?_ GE168.out) | exact HB.out)⟩⟩
                 ·
                  rw [if_neg c21] at H
                  have c21b0 : (((rd_T48 t169 x36_2).f2) == ((rd_T48 t169 x12_1).f2)) = false := beq_eq_false_iff_ne.mpr c21
                  have c21b1 : (((rd_T48 t169 x36_2).f2) != ((rd_T48 t169 x12_1).f2)) = true := bne_iff_ne.mpr c21
                  have H' := Aside0.mk H
                  clear H
                  have p175 : 0 ≤ (x12_1 : Int) := of_decide_eq_true (by first | (with_reducible assumption) | assumption)
                  have q175 : x12_1 < (t169.length : Int) := of_decide_eq_true (by first | (with_reducible assumption) | assumption)
                  obtain ⟨ad175, A175_3, c175_3, A175_4, c175_4, e175, hx175_0, hx175_1, hx175_2, hx175_3, hx175_4, hx175_5, hx175_6, hl175_3, hi175_3, hl175_4, hi175_4⟩ := at_T48 (Kd.N_reads' HO_4.out).2.2 x12_1 p175 q175
                  obtain rfl : ad172 = ad175 := (by injection e175)
                  obtain ⟨ce175, hce175, hMe175, hcc175⟩ := Kd.N_get HO_4.out z48 x12_1 p175 (by first | exact q175 | exact of_decide_eq_true (by first | (with_reducible assumption) | assumption) | (have e_ := (Kd.N_reads' HO_4.out).1; omega))
                  obtain ⟨ua175_3, uc175_3, ua175_4, uc175_4, rfl, ul175_3, ge175_3, ul175_4, ge175_4⟩ := k48_openF hMe175
                  have hv175_3 := hcc175 3 _ rfl
                  rw [add_field _ _ 3 (by omega)] at hv175_3
                  replace hv175_3 := Option.some.inj (hv175_3.symm.trans hx175_3)
                  injection hv175_3 with hva_ hvn_ hvc_
                  rw [hva_] at ge175_3
                  rw [hvc_] at ul175_3
                  have HL175_3 := Aside0.mk (show Kd.V k42 42 _ w.heap.size _ _ ((rd_T48 t169 x12_1).f0.f3) from Kd.V_mk ul175_3 ge175_3)
                  clear hva_ hvn_ hvc_ ge175_3 ul175_3
                  have hv175_4 := hcc175 4 _ rfl
                  rw [add_field _ _ 4 (by omega)] at hv175_4
                  replace hv175_4 := Option.some.inj (hv175_4.symm.trans hx175_4)
                  injection hv175_4 with hva_ hvn_ hvc_
                  rw [hva_] at ge175_4
                  rw [hvc_] at ul175_4
                  have HL175_4 := Aside0.mk (show Kd.V k25 25 _ w.heap.size _ _ ((rd_T48 t169 x12_1).f0.f4) from Kd.V_mk ul175_4 ge175_4)
                  clear hva_ hvn_ hvc_ ge175_4 ul175_4
                  clear hcc175 hce175
                  have HR175_3 := Aside0.mk hi175_3
                  have HC175_3 := Aside0.mk hl175_3
                  clear hi175_3 hl175_3
                  have HR175_4 := Aside0.mk hi175_4
                  have HC175_4 := Aside0.mk hl175_4
                  clear hi175_4 hl175_4
                  replace p175 := eq_true p175
                  replace q175 := eq_true q175
                  have p176 : 0 ≤ (x36_2 : Int) := of_decide_eq_true (by first | (with_reducible assumption) | assumption)
                  have q176 : x36_2 < (t169.length : Int) := of_decide_eq_true (by first | (with_reducible assumption) | assumption)
                  obtain ⟨ad176, A176_3, c176_3, A176_4, c176_4, e176, hx176_0, hx176_1, hx176_2, hx176_3, hx176_4, hx176_5, hx176_6, hl176_3, hi176_3, hl176_4, hi176_4⟩ := at_T48 (Kd.N_reads' HO_4.out).2.2 x36_2 p176 q176
                  obtain rfl : ad172 = ad176 := (by injection e176)
                  obtain ⟨ce176, hce176, hMe176, hcc176⟩ := Kd.N_get HO_4.out z48 x36_2 p176 (by first | exact q176 | exact of_decide_eq_true (by first | (with_reducible assumption) | assumption) | (have e_ := (Kd.N_reads' HO_4.out).1; omega))
                  obtain ⟨ua176_3, uc176_3, ua176_4, uc176_4, rfl, ul176_3, ge176_3, ul176_4, ge176_4⟩ := k48_openF hMe176
                  have hv176_3 := hcc176 3 _ rfl
                  rw [add_field _ _ 3 (by omega)] at hv176_3
                  replace hv176_3 := Option.some.inj (hv176_3.symm.trans hx176_3)
                  injection hv176_3 with hva_ hvn_ hvc_
                  rw [hva_] at ge176_3
                  rw [hvc_] at ul176_3
                  have HL176_3 := Aside0.mk (show Kd.V k42 42 _ w.heap.size _ _ ((rd_T48 t169 x36_2).f0.f3) from Kd.V_mk ul176_3 ge176_3)
                  clear hva_ hvn_ hvc_ ge176_3 ul176_3
                  have hv176_4 := hcc176 4 _ rfl
                  rw [add_field _ _ 4 (by omega)] at hv176_4
                  replace hv176_4 := Option.some.inj (hv176_4.symm.trans hx176_4)
                  injection hv176_4 with hva_ hvn_ hvc_
                  rw [hva_] at ge176_4
                  rw [hvc_] at ul176_4
                  have HL176_4 := Aside0.mk (show Kd.V k25 25 _ w.heap.size _ _ ((rd_T48 t169 x36_2).f0.f4) from Kd.V_mk ul176_4 ge176_4)
                  clear hva_ hvn_ hvc_ ge176_4 ul176_4
                  clear hcc176 hce176
                  have HR176_3 := Aside0.mk hi176_3
                  have HC176_3 := Aside0.mk hl176_3
                  clear hi176_3 hl176_3
                  have HR176_4 := Aside0.mk hi176_4
                  have HC176_4 := Aside0.mk hl176_4
                  clear hi176_4 hl176_4
                  replace p176 := eq_true p176
                  replace q176 := eq_true q176
                  have p177 : 0 ≤ (x12_1 : Int) := of_decide_eq_true (by first | (with_reducible assumption) | assumption)
                  have q177 : x12_1 < (t169.length : Int) := of_decide_eq_true (by first | (with_reducible assumption) | assumption)
                  obtain ⟨ad177, A177_3, c177_3, A177_4, c177_4, e177, hx177_0, hx177_1, hx177_2, hx177_3, hx177_4, hx177_5, hx177_6, hl177_3, hi177_3, hl177_4, hi177_4⟩ := at_T48 (Kd.N_reads' HO_4.out).2.2 x12_1 p177 q177
                  obtain rfl : ad172 = ad177 := (by injection e177)
                  obtain ⟨ce177, hce177, hMe177, hcc177⟩ := Kd.N_get HO_4.out z48 x12_1 p177 (by first | exact q177 | exact of_decide_eq_true (by first | (with_reducible assumption) | assumption) | (have e_ := (Kd.N_reads' HO_4.out).1; omega))
                  obtain ⟨ua177_3, uc177_3, ua177_4, uc177_4, rfl, ul177_3, ge177_3, ul177_4, ge177_4⟩ := k48_openF hMe177
                  have hv177_3 := hcc177 3 _ rfl
                  rw [add_field _ _ 3 (by omega)] at hv177_3
                  replace hv177_3 := Option.some.inj (hv177_3.symm.trans hx177_3)
                  injection hv177_3 with hva_ hvn_ hvc_
                  rw [hva_] at ge177_3
                  rw [hvc_] at ul177_3
                  have HL177_3 := Aside0.mk (show Kd.V k42 42 _ w.heap.size _ _ ((rd_T48 t169 x12_1).f0.f3) from Kd.V_mk ul177_3 ge177_3)
                  clear hva_ hvn_ hvc_ ge177_3 ul177_3
                  have hv177_4 := hcc177 4 _ rfl
                  rw [add_field _ _ 4 (by omega)] at hv177_4
                  replace hv177_4 := Option.some.inj (hv177_4.symm.trans hx177_4)
                  injection hv177_4 with hva_ hvn_ hvc_
                  rw [hva_] at ge177_4
                  rw [hvc_] at ul177_4
                  have HL177_4 := Aside0.mk (show Kd.V k25 25 _ w.heap.size _ _ ((rd_T48 t169 x12_1).f0.f4) from Kd.V_mk ul177_4 ge177_4)
                  clear hva_ hvn_ hvc_ ge177_4 ul177_4
                  clear hcc177 hce177
                  have HR177_3 := Aside0.mk hi177_3
                  have HC177_3 := Aside0.mk hl177_3
                  clear hi177_3 hl177_3
                  have HR177_4 := Aside0.mk hi177_4
                  have HC177_4 := Aside0.mk hl177_4
                  clear hi177_4 hl177_4
                  replace p177 := eq_true p177
                  replace q177 := eq_true q177
                  have ea_ := Option.some.inj (hx175_3.symm.trans hx177_3)
                  injection ea_ with ea_ en_ ec_
                  subst ea_
                  subst ec_
                  clear en_
                  have ea_ := Option.some.inj (hx175_4.symm.trans hx177_4)
                  injection ea_ with ea_ en_ ec_
                  subst ea_
                  subst ec_
                  clear en_
                  go_wp2
                  repeat (go_quiet (fail); try go_wp2)
                  go_roundg k2
                  case measure => have := HK1.out; have := HK2.out; omega
                  case rel => exact ⟨(wrap64 (x36_2 + 1)), (by first | rfl | (simp; done) | (simp [*]; done)), H', ⟨by have := HK1.out; have := HK2.out; omega⟩, ⟨by (with_reducible repeat (first | apply Kd.N_alloc | apply Kd.N_drewN | apply Kd.N_drew)); exact HO_4.out⟩, ⟨by (with_reducible repeat first | apply zM | apply zE | apply zF); exact BK168.out⟩, ⟨by repeat (first | (with_reducible exact HR172_3.out) | (with_reducible refine Kd.C_alloc ?_ _) | (with_reducible refine Kd.C_drewN ?_ _) | (with_reducible refine Kd.C_drew ?_) | exact HR172_3.out)⟩, ⟨by repeat (first | (with_reducible exact HR172_4.out) | (with_reducible refine Kd.C_alloc ?_ _) | (with_reducible refine Kd.C_drewN ?_ _) | (with_reducible refine Kd.C_drew ?_) | exact HR172_4.out)⟩, ⟨by repeat (first | (with_reducible exact HR173_3.out) | (with_reducible refine Kd.C_alloc ?_ _) | (with_reducible refine Kd.C_drewN ?_ _) | (with_reducible refine Kd.C_drew ?_) | exact HR173_3.out)⟩, ⟨by repeat (first | (with_reducible exact HR173_4.out) | (with_reducible refine Kd.C_alloc ?_ _) | (with_reducible refine Kd.C_drewN ?_ _) | (with_reducible refine Kd.C_drew ?_) | exact HR173_4.out)⟩, ⟨by repeat (first | (with_reducible first | exact HB.out | apply zA | apply zN | apply zD | refine zS ?_ GE168.out) | exact HB.out)⟩⟩
                ·
                 rw [if_neg c20] at H
                 exact absurd H (by simp)
               ·
                rw [if_neg c19] at H
                exact absurd H (by simp)
              ·
               rw [if_neg c18] at H
               have c18b0 : decide (0 ≤ ((rd_T48 t169 x12_1).f2)) = false := decide_eq_false c18
               clear c18
               have H' := Aside0.mk H
               clear H
               have p175 : 0 ≤ (x12_1 : Int) := of_decide_eq_true (by first | (with_reducible assumption) | assumption)
               have q175 : x12_1 < (t169.length : Int) := of_decide_eq_true (by first | (with_reducible assumption) | assumption)
               obtain ⟨ad175, A175_3, c175_3, A175_4, c175_4, e175, hx175_0, hx175_1, hx175_2, hx175_3, hx175_4, hx175_5, hx175_6, hl175_3, hi175_3, hl175_4, hi175_4⟩ := at_T48 (Kd.N_reads' HO_4.out).2.2 x12_1 p175 q175
               obtain rfl : ad172 = ad175 := (by injection e175)
               obtain ⟨ce175, hce175, hMe175, hcc175⟩ := Kd.N_get HO_4.out z48 x12_1 p175 (by first | exact q175 | exact of_decide_eq_true (by first | (with_reducible assumption) | assumption) | (have e_ := (Kd.N_reads' HO_4.out).1; omega))
               obtain ⟨ua175_3, uc175_3, ua175_4, uc175_4, rfl, ul175_3, ge175_3, ul175_4, ge175_4⟩ := k48_openF hMe175
               have hv175_3 := hcc175 3 _ rfl
               rw [add_field _ _ 3 (by omega)] at hv175_3
               replace hv175_3 := Option.some.inj (hv175_3.symm.trans hx175_3)
               injection hv175_3 with hva_ hvn_ hvc_
               rw [hva_] at ge175_3
               rw [hvc_] at ul175_3
               have HL175_3 := Aside0.mk (show Kd.V k42 42 _ w.heap.size _ _ ((rd_T48 t169 x12_1).f0.f3) from Kd.V_mk ul175_3 ge175_3)
               clear hva_ hvn_ hvc_ ge175_3 ul175_3
               have hv175_4 := hcc175 4 _ rfl
               rw [add_field _ _ 4 (by omega)] at hv175_4
               replace hv175_4 := Option.some.inj (hv175_4.symm.trans hx175_4)
               injection hv175_4 with hva_ hvn_ hvc_
               rw [hva_] at ge175_4
               rw [hvc_] at ul175_4
               have HL175_4 := Aside0.mk (show Kd.V k25 25 _ w.heap.size _ _ ((rd_T48 t169 x12_1).f0.f4) from Kd.V_mk ul175_4 ge175_4)
               clear hva_ hvn_ hvc_ ge175_4 ul175_4
               clear hcc175 hce175
               have HR175_3 := Aside0.mk hi175_3
               have HC175_3 := Aside0.mk hl175_3
               clear hi175_3 hl175_3
               have HR175_4 := Aside0.mk hi175_4
               have HC175_4 := Aside0.mk hl175_4
               clear hi175_4 hl175_4
               replace p175 := eq_true p175
               replace q175 := eq_true q175
               go_wp2
               repeat (go_quiet (fail); try go_wp2)
               go_roundg k2
               case measure => have := HK1.out; have := HK2.out; omega
               case rel => exact ⟨(wrap64 (x36_2 + 1)), (by first | rfl | (simp; done) | (simp [*]; done)), H', ⟨by have := HK1.out; have := HK2.out; omega⟩, ⟨by (with_reducible repeat (first | apply Kd.N_alloc | apply Kd.N_drewN | apply Kd.N_drew)); exact HO_4.out⟩, ⟨by (with_reducible repeat first | apply zM | apply zE | apply zF); exact BK168.out⟩, ⟨by repeat (first | (with_reducible exact HR172_3.out) | (with_reducible refine Kd.C_alloc ?_ _) | (with_reducible refine Kd.C_drewN ?_ _) | (with_reducible refine Kd.C_drew ?_) | exact HR172_3.out)⟩, ⟨by repeat (first | (with_reducible exact HR172_4.out) | (with_reducible refine Kd.C_alloc ?_ _) | (with_reducible refine Kd.C_drewN ?_ _) | (with_reducible refine Kd.C_drew ?_) | exact HR172_4.out)⟩, ⟨by repeat (first | (with_reducible exact HR173_3.out) | (with_reducible refine Kd.C_alloc ?_ _) | (with_reducible refine Kd.C_drewN ?_ _) | (with_reducible refine Kd.C_drew ?_) | exact HR173_3.out)⟩, ⟨by repeat (first | (with_reducible exact HR173_4.out) | (with_reducible refine Kd.C_alloc ?_ _) | (with_reducible refine Kd.C_drewN ?_ _) | (with_reducible refine Kd.C_drew ?_) | exact HR173_4.out)⟩, ⟨by repeat (first | (with_reducible first | exact HB.out | apply zA | apply zN | apply zD | refine zS ?_ GE168.out) | exact HB.out)⟩⟩
             ·
              rw [if_neg c17] at H
              exact absurd H (by simp)
            ·
             rw [if_neg c16] at H
             exact absurd H (by simp)
           ·
            rw [if_neg c15] at H
            have c15b0 : decide (x36_2 < x12_1) = false := decide_eq_false c15
            clear c15
            have H' := Aside0.mk H
            clear H
            go_wp2
            repeat (go_quiet (fail); try go_wp2)
            go_roundg k2
            case measure => have := HK1.out; have := HK2.out; omega
            case rel => exact ⟨(wrap64 (x12_1 + 1)), (by first | rfl | (simp; done) | (simp [*]; done)), H', ⟨by have := HK1.out; have := HK2.out; omega⟩, ⟨by (with_reducible repeat (first | apply Kd.N_alloc | apply Kd.N_drewN | apply Kd.N_drew)); exact HO_4.out⟩, ⟨by (with_reducible repeat first | apply zM | apply zE | apply zF); exact BK168.out⟩, ⟨by repeat (first | (with_reducible first | exact HB.out | apply zA | apply zN | apply zD | refine zS ?_ GE168.out) | exact HB.out)⟩⟩
        ·
         rw [if_neg c13] at H
         have c13b0 : (t174 == 0) = false := beq_eq_false_iff_ne.mpr c13
         have c13b1 : (t174 != 0) = true := bne_iff_ne.mpr c13
         simp only [Option.some.injEq, Prod.mk.injEq] at H
         obtain ⟨rfl, rfl⟩ := H
         have p172 : 0 ≤ (x12_1 : Int) := of_decide_eq_true (by first | (with_reducible assumption) | assumption)
         have q172 : x12_1 < (t169.length : Int) := of_decide_eq_true (by first | (with_reducible assumption) | assumption)
         obtain ⟨ad172, A172_3, c172_3, A172_4, c172_4, e172, hx172_0, hx172_1, hx172_2, hx172_3, hx172_4, hx172_5, hx172_6, hl172_3, hi172_3, hl172_4, hi172_4⟩ := at_T48 (Kd.N_reads' HO_4.out).2.2 x12_1 p172 q172
         cases e172
         obtain ⟨ce172, hce172, hMe172, hcc172⟩ := Kd.N_get HO_4.out z48 x12_1 p172 (by first | exact q172 | exact of_decide_eq_true (by first | (with_reducible assumption) | assumption) | (have e_ := (Kd.N_reads' HO_4.out).1; omega))
         obtain ⟨ua172_3, uc172_3, ua172_4, uc172_4, rfl, ul172_3, ge172_3, ul172_4, ge172_4⟩ := k48_openF hMe172
         have hv172_3 := hcc172 3 _ rfl
         rw [add_field _ _ 3 (by omega)] at hv172_3
         replace hv172_3 := Option.some.inj (hv172_3.symm.trans hx172_3)
         injection hv172_3 with hva_ hvn_ hvc_
         rw [hva_] at ge172_3
         rw [hvc_] at ul172_3
         have HL172_3 := Aside0.mk (show Kd.V k42 42 _ w.heap.size _ _ ((rd_T48 t169 x12_1).f0.f3) from Kd.V_mk ul172_3 ge172_3)
         clear hva_ hvn_ hvc_ ge172_3 ul172_3
         have hv172_4 := hcc172 4 _ rfl
         rw [add_field _ _ 4 (by omega)] at hv172_4
         replace hv172_4 := Option.some.inj (hv172_4.symm.trans hx172_4)
         injection hv172_4 with hva_ hvn_ hvc_
         rw [hva_] at ge172_4
         rw [hvc_] at ul172_4
         have HL172_4 := Aside0.mk (show Kd.V k25 25 _ w.heap.size _ _ ((rd_T48 t169 x12_1).f0.f4) from Kd.V_mk ul172_4 ge172_4)
         clear hva_ hvn_ hvc_ ge172_4 ul172_4
         clear hcc172 hce172
         have HR172_3 := Aside0.mk hi172_3
         have HC172_3 := Aside0.mk hl172_3
         clear hi172_3 hl172_3
         have HR172_4 := Aside0.mk hi172_4
         have HC172_4 := Aside0.mk hl172_4
         clear hi172_4 hl172_4
         replace p172 := eq_true p172
         replace q172 := eq_true q172
         have p173 : 0 ≤ (x12_1 : Int) := of_decide_eq_true (by first | (with_reducible assumption) | assumption)
         have q173 : x12_1 < (t169.length : Int) := of_decide_eq_true (by first | (with_reducible assumption) | assumption)
         obtain ⟨ad173, A173_3, c173_3, A173_4, c173_4, e173, hx173_0, hx173_1, hx173_2, hx173_3, hx173_4, hx173_5, hx173_6, hl173_3, hi173_3, hl173_4, hi173_4⟩ := at_T48 (Kd.N_reads' HO_4.out).2.2 x12_1 p173 q173
         obtain rfl : ad172 = ad173 := (by injection e173)
         obtain ⟨ce173, hce173, hMe173, hcc173⟩ := Kd.N_get HO_4.out z48 x12_1 p173 (by first | exact q173 | exact of_decide_eq_true (by first | (with_reducible assumption) | assumption) | (have e_ := (Kd.N_reads' HO_4.out).1; omega))
         obtain ⟨ua173_3, uc173_3, ua173_4, uc173_4, rfl, ul173_3, ge173_3, ul173_4, ge173_4⟩ := k48_openF hMe173
         have hv173_3 := hcc173 3 _ rfl
         rw [add_field _ _ 3 (by omega)] at hv173_3
         replace hv173_3 := Option.some.inj (hv173_3.symm.trans hx173_3)
         injection hv173_3 with hva_ hvn_ hvc_
         rw [hva_] at ge173_3
         rw [hvc_] at ul173_3
         have HL173_3 := Aside0.mk (show Kd.V k42 42 _ w.heap.size _ _ ((rd_T48 t169 x12_1).f0.f3) from Kd.V_mk ul173_3 ge173_3)
         clear hva_ hvn_ hvc_ ge173_3 ul173_3
         have hv173_4 := hcc173 4 _ rfl
         rw [add_field _ _ 4 (by omega)] at hv173_4
         replace hv173_4 := Option.some.inj (hv173_4.symm.trans hx173_4)
         injection hv173_4 with hva_ hvn_ hvc_
         rw [hva_] at ge173_4
         rw [hvc_] at ul173_4
         have HL173_4 := Aside0.mk (show Kd.V k25 25 _ w.heap.size _ _ ((rd_T48 t169 x12_1).f0.f4) from Kd.V_mk ul173_4 ge173_4)
         clear hva_ hvn_ hvc_ ge173_4 ul173_4
         clear hcc173 hce173
         have HR173_3 := Aside0.mk hi173_3
         have HC173_3 := Aside0.mk hl173_3
         clear hi173_3 hl173_3
         have HR173_4 := Aside0.mk hi173_4
         have HC173_4 := Aside0.mk hl173_4
         clear hi173_4 hl173_4
         replace p173 := eq_true p173
         replace q173 := eq_true q173
         have ea_ := Option.some.inj (hx172_3.symm.trans hx173_3)
         injection ea_ with ea_ en_ ec_
         subst ea_
         subst ec_
         clear en_
         have ea_ := Option.some.inj (hx172_4.symm.trans hx173_4)
         injection ea_ with ea_ en_ ec_
         subst ea_
         subst ec_
         clear en_
         go_wp2_with (first | (go_at_call 14; (with_reducible refine (tendrilref11_Alone.calls k1 ((rd_T48 t169 x12_1).f0.f0) ((rd_T48 t169 x12_1).f0.f1) ((rd_T48 t169 x12_1).f0.f2) _ _ ((rd_T48 t169 x12_1).f0.f3) _ _ ((rd_T48 t169 x12_1).f0.f4) t174 _ ?side1 ?side2 ?side3 ?side4 A12.out).mono ?_); (case side1 => repeat (first | exact (by repeat (first | (with_reducible exact HR173_3.out) | (with_reducible refine Kd.C_alloc ?_ _) | (with_reducible refine Kd.C_drewN ?_ _) | (with_reducible refine Kd.C_drew ?_) | exact HR173_3.out)) | (with_reducible refine Kd.C_alloc ?_ _) | (with_reducible refine Kd.C_drewN ?_ _) | (with_reducible refine Kd.C_drew ?_))); (case side2 => exact HC173_3.out); (case side3 => repeat (first | exact (by repeat (first | (with_reducible exact HR173_4.out) | (with_reducible refine Kd.C_alloc ?_ _) | (with_reducible refine Kd.C_drewN ?_ _) | (with_reducible refine Kd.C_drew ?_) | exact HR173_4.out)) | (with_reducible refine Kd.C_alloc ?_ _) | (with_reducible refine Kd.C_drewN ?_ _) | (with_reducible refine Kd.C_drew ?_))); (case side4 => exact HC173_4.out); rintro e w24 ⟨rfl, hb⟩; have n0_ := Aside0.mk (Kd.N_below (by (with_reducible repeat (first | apply Kd.N_alloc | apply Kd.N_drewN | apply Kd.N_drew)); exact HO_4.out) hb); have n1_ := Aside0.mk (Kd.V_below (by (with_reducible repeat (first | apply Kd.V_alloc | apply Kd.V_drewN | apply Kd.V_drew)); exact HL172_3.out) hb); have n2_ := Aside0.mk (Kd.V_below (by (with_reducible repeat (first | apply Kd.V_alloc | apply Kd.V_drewN | apply Kd.V_drew)); exact HL172_4.out) hb); have n3_ := Aside0.mk (Kd.V_below (by (with_reducible repeat (first | apply Kd.V_alloc | apply Kd.V_drewN | apply Kd.V_drew)); exact HL173_3.out) hb); have n4_ := Aside0.mk (Kd.V_below (by (with_reducible repeat (first | apply Kd.V_alloc | apply Kd.V_drewN | apply Kd.V_drew)); exact HL173_4.out) hb); have n5_ := Aside0.mk (blk_below (g := gb168) (o := .cells #[.string a0_0, .string a0_1, .string a0_2, .slice A0_3 l0_3.length c0_3, .slice A0_4 l0_4.length c0_4] 25 (0, 0)) (by (with_reducible repeat first | apply zM | apply zE | apply zF); exact BK168.out) hb); have n6_ := Aside0.mk (Kd.C_below (by repeat (first | (with_reducible exact HR172_3.out) | (with_reducible refine Kd.C_alloc ?_ _) | (with_reducible refine Kd.C_drewN ?_ _) | (with_reducible refine Kd.C_drew ?_) | exact HR172_3.out)) hb); have n7_ := Aside0.mk (Kd.C_below (by repeat (first | (with_reducible exact HR172_4.out) | (with_reducible refine Kd.C_alloc ?_ _) | (with_reducible refine Kd.C_drewN ?_ _) | (with_reducible refine Kd.C_drew ?_) | exact HR172_4.out)) hb); have n8_ := Aside0.mk (Kd.C_below (by repeat (first | (with_reducible exact HR173_3.out) | (with_reducible refine Kd.C_alloc ?_ _) | (with_reducible refine Kd.C_drewN ?_ _) | (with_reducible refine Kd.C_drew ?_) | exact HR173_3.out)) hb); have n9_ := Aside0.mk (Kd.C_below (by repeat (first | (with_reducible exact HR173_4.out) | (with_reducible refine Kd.C_alloc ?_ _) | (with_reducible refine Kd.C_drewN ?_ _) | (with_reducible refine Kd.C_drew ?_) | exact HR173_4.out)) hb); have n10_ := Aside0.mk (below_step (by repeat (first | (with_reducible first | exact HB.out | apply zA | apply zN | apply zD | refine zS ?_ GE168.out) | exact HB.out)) hb); clear HO_4; clear HL172_3; clear HL172_4; clear HL173_3; clear HL173_4; clear BK168; clear HR172_3; clear HR172_4; clear HR173_3; clear HR173_4; clear HB; have HO_4 := n0_; have HL172_3 := n1_; have HL172_4 := n2_; have HL173_3 := n3_; have HL173_4 := n4_; have BK168 := n5_; have HR172_3 := n6_; have HR172_4 := n7_; have HR173_3 := n8_; have HR173_4 := n9_; have HB := n10_; clear n0_ n1_ n2_ n3_ n4_ n5_ n6_ n7_ n8_ n9_ n10_; (try clear hb); (try clear hb2); (try clear hk); (try clear hi)))
         repeat (go_quiet (first | (go_at_call 14; (with_reducible refine (tendrilref11_Alone.calls k1 ((rd_T48 t169 x12_1).f0.f0) ((rd_T48 t169 x12_1).f0.f1) ((rd_T48 t169 x12_1).f0.f2) _ _ ((rd_T48 t169 x12_1).f0.f3) _ _ ((rd_T48 t169 x12_1).f0.f4) t174 _ ?side1 ?side2 ?side3 ?side4 A12.out).mono ?_); (case side1 => repeat (first | exact (by repeat (first | (with_reducible exact HR173_3.out) | (with_reducible refine Kd.C_alloc ?_ _) | (with_reducible refine Kd.C_drewN ?_ _) | (with_reducible refine Kd.C_drew ?_) | exact HR173_3.out)) | (with_reducible refine Kd.C_alloc ?_ _) | (with_reducible refine Kd.C_drewN ?_ _) | (with_reducible refine Kd.C_drew ?_))); (case side2 => exact HC173_3.out); (case side3 => repeat (first | exact (by repeat (first | (with_reducible exact HR173_4.out) | (with_reducible refine Kd.C_alloc ?_ _) | (with_reducible refine Kd.C_drewN ?_ _) | (with_reducible refine Kd.C_drew ?_) | exact HR173_4.out)) | (with_reducible refine Kd.C_alloc ?_ _) | (with_reducible refine Kd.C_drewN ?_ _) | (with_reducible refine Kd.C_drew ?_))); (case side4 => exact HC173_4.out); rintro e w24 ⟨rfl, hb⟩; have n0_ := Aside0.mk (Kd.N_below (by (with_reducible repeat (first | apply Kd.N_alloc | apply Kd.N_drewN | apply Kd.N_drew)); exact HO_4.out) hb); have n1_ := Aside0.mk (Kd.V_below (by (with_reducible repeat (first | apply Kd.V_alloc | apply Kd.V_drewN | apply Kd.V_drew)); exact HL172_3.out) hb); have n2_ := Aside0.mk (Kd.V_below (by (with_reducible repeat (first | apply Kd.V_alloc | apply Kd.V_drewN | apply Kd.V_drew)); exact HL172_4.out) hb); have n3_ := Aside0.mk (Kd.V_below (by (with_reducible repeat (first | apply Kd.V_alloc | apply Kd.V_drewN | apply Kd.V_drew)); exact HL173_3.out) hb); have n4_ := Aside0.mk (Kd.V_below (by (with_reducible repeat (first | apply Kd.V_alloc | apply Kd.V_drewN | apply Kd.V_drew)); exact HL173_4.out) hb); have n5_ := Aside0.mk (blk_below (g := gb168) (o := .cells #[.string a0_0, .string a0_1, .string a0_2, .slice A0_3 l0_3.length c0_3, .slice A0_4 l0_4.length c0_4] 25 (0, 0)) (by (with_reducible repeat first | apply zM | apply zE | apply zF); exact BK168.out) hb); have n6_ := Aside0.mk (Kd.C_below (by repeat (first | (with_reducible exact HR172_3.out) | (with_reducible refine Kd.C_alloc ?_ _) | (with_reducible refine Kd.C_drewN ?_ _) | (with_reducible refine Kd.C_drew ?_) | exact HR172_3.out)) hb); have n7_ := Aside0.mk (Kd.C_below (by repeat (first | (with_reducible exact HR172_4.out) | (with_reducible refine Kd.C_alloc ?_ _) | (with_reducible refine Kd.C_drewN ?_ _) | (with_reducible refine Kd.C_drew ?_) | exact HR172_4.out)) hb); have n8_ := Aside0.mk (Kd.C_below (by repeat (first | (with_reducible exact HR173_3.out) | (with_reducible refine Kd.C_alloc ?_ _) | (with_reducible refine Kd.C_drewN ?_ _) | (with_reducible refine Kd.C_drew ?_) | exact HR173_3.out)) hb); have n9_ := Aside0.mk (Kd.C_below (by repeat (first | (with_reducible exact HR173_4.out) | (with_reducible refine Kd.C_alloc ?_ _) | (with_reducible refine Kd.C_drewN ?_ _) | (with_reducible refine Kd.C_drew ?_) | exact HR173_4.out)) hb); have n10_ := Aside0.mk (below_step (by repeat (first | (with_reducible first | exact HB.out | apply zA | apply zN | apply zD | refine zS ?_ GE168.out) | exact HB.out)) hb); clear HO_4; clear HL172_3; clear HL172_4; clear HL173_3; clear HL173_4; clear BK168; clear HR172_3; clear HR172_4; clear HR173_3; clear HR173_4; clear HB; have HO_4 := n0_; have HL172_3 := n1_; have HL172_4 := n2_; have HL173_3 := n3_; have HL173_4 := n4_; have BK168 := n5_; have HR172_3 := n6_; have HR172_4 := n7_; have HR173_3 := n8_; have HR173_4 := n9_; have HB := n10_; clear n0_ n1_ n2_ n3_ n4_ n5_ n6_ n7_ n8_ n9_ n10_; (try clear hb); (try clear hb2); (try clear hk); (try clear hi))); try go_wp2_with (first | (go_at_call 14; (with_reducible refine (tendrilref11_Alone.calls k1 ((rd_T48 t169 x12_1).f0.f0) ((rd_T48 t169 x12_1).f0.f1) ((rd_T48 t169 x12_1).f0.f2) _ _ ((rd_T48 t169 x12_1).f0.f3) _ _ ((rd_T48 t169 x12_1).f0.f4) t174 _ ?side1 ?side2 ?side3 ?side4 A12.out).mono ?_); (case side1 => repeat (first | exact (by repeat (first | (with_reducible exact HR173_3.out) | (with_reducible refine Kd.C_alloc ?_ _) | (with_reducible refine Kd.C_drewN ?_ _) | (with_reducible refine Kd.C_drew ?_) | exact HR173_3.out)) | (with_reducible refine Kd.C_alloc ?_ _) | (with_reducible refine Kd.C_drewN ?_ _) | (with_reducible refine Kd.C_drew ?_))); (case side2 => exact HC173_3.out); (case side3 => repeat (first | exact (by repeat (first | (with_reducible exact HR173_4.out) | (with_reducible refine Kd.C_alloc ?_ _) | (with_reducible refine Kd.C_drewN ?_ _) | (with_reducible refine Kd.C_drew ?_) | exact HR173_4.out)) | (with_reducible refine Kd.C_alloc ?_ _) | (with_reducible refine Kd.C_drewN ?_ _) | (with_reducible refine Kd.C_drew ?_))); (case side4 => exact HC173_4.out); rintro e w24 ⟨rfl, hb⟩; have n0_ := Aside0.mk (Kd.N_below (by (with_reducible repeat (first | apply Kd.N_alloc | apply Kd.N_drewN | apply Kd.N_drew)); exact HO_4.out) hb); have n1_ := Aside0.mk (Kd.V_below (by (with_reducible repeat (first | apply Kd.V_alloc | apply Kd.V_drewN | apply Kd.V_drew)); exact HL172_3.out) hb); have n2_ := Aside0.mk (Kd.V_below (by (with_reducible repeat (first | apply Kd.V_alloc | apply Kd.V_drewN | apply Kd.V_drew)); exact HL172_4.out) hb); have n3_ := Aside0.mk (Kd.V_below (by (with_reducible repeat (first | apply Kd.V_alloc | apply Kd.V_drewN | apply Kd.V_drew)); exact HL173_3.out) hb); have n4_ := Aside0.mk (Kd.V_below (by (with_reducible repeat (first | apply Kd.V_alloc | apply Kd.V_drewN | apply Kd.V_drew)); exact HL173_4.out) hb); have n5_ := Aside0.mk (blk_below (g := gb168) (o := .cells #[.string a0_0, .string a0_1, .string a0_2, .slice A0_3 l0_3.length c0_3, .slice A0_4 l0_4.length c0_4] 25 (0, 0)) (by (with_reducible repeat first | apply zM | apply zE | apply zF); exact BK168.out) hb); have n6_ := Aside0.mk (Kd.C_below (by repeat (first | (with_reducible exact HR172_3.out) | (with_reducible refine Kd.C_alloc ?_ _) | (with_reducible refine Kd.C_drewN ?_ _) | (with_reducible refine Kd.C_drew ?_) | exact HR172_3.out)) hb); have n7_ := Aside0.mk (Kd.C_below (by repeat (first | (with_reducible exact HR172_4.out) | (with_reducible refine Kd.C_alloc ?_ _) | (with_reducible refine Kd.C_drewN ?_ _) | (with_reducible refine Kd.C_drew ?_) | exact HR172_4.out)) hb); have n8_ := Aside0.mk (Kd.C_below (by repeat (first | (with_reducible exact HR173_3.out) | (with_reducible refine Kd.C_alloc ?_ _) | (with_reducible refine Kd.C_drewN ?_ _) | (with_reducible refine Kd.C_drew ?_) | exact HR173_3.out)) hb); have n9_ := Aside0.mk (Kd.C_below (by repeat (first | (with_reducible exact HR173_4.out) | (with_reducible refine Kd.C_alloc ?_ _) | (with_reducible refine Kd.C_drewN ?_ _) | (with_reducible refine Kd.C_drew ?_) | exact HR173_4.out)) hb); have n10_ := Aside0.mk (below_step (by repeat (first | (with_reducible first | exact HB.out | apply zA | apply zN | apply zD | refine zS ?_ GE168.out) | exact HB.out)) hb); clear HO_4; clear HL172_3; clear HL172_4; clear HL173_3; clear HL173_4; clear BK168; clear HR172_3; clear HR172_4; clear HR173_3; clear HR173_4; clear HB; have HO_4 := n0_; have HL172_3 := n1_; have HL172_4 := n2_; have HL173_3 := n3_; have HL173_4 := n4_; have BK168 := n5_; have HR172_3 := n6_; have HR172_4 := n7_; have HR173_3 := n8_; have HR173_4 := n9_; have HB := n10_; clear n0_ n1_ n2_ n3_ n4_ n5_ n6_ n7_ n8_ n9_ n10_; (try clear hb); (try clear hb2); (try clear hk); (try clear hi))))
         go_ret2
         exact ⟨by first | rfl | (simp [errW_none, errW_some] <;> rfl) | (simp [*, errW_none, errW_some] <;> rfl), by repeat (first | (with_reducible first | exact HB.out | apply zA | apply zN | apply zD | refine zS ?_ GE168.out) | exact HB.out)⟩
      ·
       rw [if_neg c10] at H
       exact absurd H (by simp)
     ·
      rw [if_neg c9] at H
      exact absurd H (by simp)
   ·
    rw [if_neg c7] at H
    have c7b0 : decide (x12_1 < (t169.length : Int)) = false := decide_eq_false c7
    clear c7
    simp only [Option.some.injEq, Prod.mk.injEq] at H
    obtain ⟨rfl, rfl⟩ := H
    go_wp2
    repeat (go_quiet (fail); try go_wp2)
    go_ret2
    exact ⟨by first | rfl | (simp [errW_none, errW_some] <;> rfl) | (simp [*, errW_none, errW_some] <;> rfl), by repeat (first | (with_reducible first | exact HB.out | apply zA | apply zN | apply zD | refine zS ?_ GE168.out) | exact HB.out)⟩

-- squeezed
end Go.Proofs.Ytafkgjnafddgbaa.G
