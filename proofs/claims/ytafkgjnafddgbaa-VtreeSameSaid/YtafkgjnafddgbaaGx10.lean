-- Written by gp.py (wip/gen) for this claim: pure functions and contracts, out of the translation; not trusted: Lean checks it.
import Derived.Test.YtafkgjnafddgbaaGx0
import Derived.Test.YtafkgjnafddgbaaH5
import Derived.Test.YtafkgjnafddgbaaGx4
import Derived.Test.YtafkgjnafddgbaaGx8
import Derived.Test.YtafkgjnafddgbaaGx9
namespace Go.Proofs.Ytafkgjnafddgbaa.G
open Go.RowKit Go.Proofs.YtafkgjnafddgbaaW.PrintWords Go.Proofs.YtafkgjnafddgbaaW.PrintLast Go.Proofs.YtafkgjnafddgbaaW.PrintMore
attribute [local go_sem] max2_int min2_int max_two min_two max_three min_three max_four min_four   -- for this text's walks alone
set_option linter.unusedVariables false
set_option linter.unusedSimpArgs false

open Go.Proofs.YtafkgjnafddgbaaW.PrintWords renaming below_alloc → zA, pw_below_drewN → zN, below_drew1 → zD, below_set → zS, blk_drewN → zM, blk_drew → zE, blk_alloc → zF, blk_far → zG, blk_put → zP, blk_cell → zC, blk_frozen → zR
/-! ### tendrillaw11_VtreeSame: function 5 -/
mutual
def tendrillaw11_VtreeSame.j0 : Nat → Bool → ByteArray → ByteArray → ByteArray → List (S42) → List (S25) → ByteArray → ByteArray → ByteArray → List (S42) → List (S25) → Option (Bool)
 | 0, _, _, _, _, _, _, _, _, _, _, _ => none
 | k + 1, x19, x236000, x236001, x236002, x236003, x236004, x237000, x237001, x237002, x237003, x237004 => if x19 = true then ((tendrillaw11_same.f k).bind fun t239 => (some t239)) else ((tendrilref11_Right.f k x236000 x236001 x236002 x236003 x236004).bind fun t240 => ((vtree_Copy.f k x236000 x236001 x236002 x236003 x236004).bind fun bt241 => ((vtree_Same.f k x236000 x236001 x236002 x236003 x236004 x237000 x237001 x237002 x237003 x237004).bind fun t252 => (if t240 = true then ((tendrilref11_Right.f k x237000 x237001 x237002 x237003 x237004).bind fun t253 => (if t253 = true then ((tendrilplain_Nodes.f k x236000 x236001 x236002 x236003 x236004 x237000 x237001 x237002 x237003 x237004).bind fun t254 => (if (t252 != t254) = true then (tendrillaw11_VtreeSame.j1 k t240 true x236000 x236001 x236002 x236003 x236004 bt241.1 bt241.2.1 bt241.2.2.1 bt241.2.2.2.1 bt241.2.2.2.2.1) else (tendrillaw11_VtreeSame.j1 k t240 (bt241.2.2.2.2.2 != t240) x236000 x236001 x236002 x236003 x236004 bt241.1 bt241.2.1 bt241.2.2.1 bt241.2.2.2.1 bt241.2.2.2.2.1))) else (if (t252 != false) = true then (tendrillaw11_VtreeSame.j1 k t240 true x236000 x236001 x236002 x236003 x236004 bt241.1 bt241.2.1 bt241.2.2.1 bt241.2.2.2.1 bt241.2.2.2.2.1) else (tendrillaw11_VtreeSame.j1 k t240 (bt241.2.2.2.2.2 != t240) x236000 x236001 x236002 x236003 x236004 bt241.1 bt241.2.1 bt241.2.2.1 bt241.2.2.2.1 bt241.2.2.2.2.1)))) else (if (t252 != false) = true then (tendrillaw11_VtreeSame.j1 k t240 true x236000 x236001 x236002 x236003 x236004 bt241.1 bt241.2.1 bt241.2.2.1 bt241.2.2.2.1 bt241.2.2.2.2.1) else (tendrillaw11_VtreeSame.j1 k t240 (bt241.2.2.2.2.2 != t240) x236000 x236001 x236002 x236003 x236004 bt241.1 bt241.2.1 bt241.2.2.1 bt241.2.2.2.1 bt241.2.2.2.2.1))))))
def tendrillaw11_VtreeSame.j1 : Nat → Bool → Bool → ByteArray → ByteArray → ByteArray → List (S42) → List (S25) → ByteArray → ByteArray → ByteArray → List (S42) → List (S25) → Option (Bool)
 | 0, _, _, _, _, _, _, _, _, _, _, _, _ => none
 | k + 1, x5, x46, x236000, x236001, x236002, x236003, x236004, x252000, x252001, x252002, x252003, x252004 => if x46 = true then (some false) else (if x5 = true then ((tendrilplain_Nodes.f k x236000 x236001 x236002 x236003 x236004 x252000 x252001 x252002 x252003 x252004).bind fun t258 => (if t258 = true then ((tendrillaw11_twin.f k x236000 x236001 x236002 x236003 x236004).bind fun bt259 => (tendrillaw11_VtreeSame.l0 k x236000 (x252004.length : Int) 0 x236000 x236001 x236002 x236003 x236004 x252000 x252001 x252002 x252003 x252004 bt259.1 bt259.2.1 bt259.2.2.1 bt259.2.2.2.1 bt259.2.2.2.2)) else (some false))) else ((tendrilplain_Nodes.f k x252000 x252001 x252002 x252003 x252004 (⟨#[]⟩ : ByteArray) (⟨#[]⟩ : ByteArray) (⟨#[]⟩ : ByteArray) ([] : List (S42)) ([] : List (S25))).bind fun t255 => (if t255 = true then ((vtree_Same.f k x236000 x236001 x236002 x236003 x236004 x236000 x236001 x236002 x236003 x236004).bind fun t256 => (if t256 = true then (some false) else ((tendrillaw11_same.f k).bind fun t257 => (some t257)))) else (some false))))
def tendrillaw11_VtreeSame.l0 : Nat → ByteArray → Int → Int → ByteArray → ByteArray → ByteArray → List (S42) → List (S25) → ByteArray → ByteArray → ByteArray → List (S42) → List (S25) → ByteArray → ByteArray → ByteArray → List (S42) → List (S25) → Option (Bool)
 | 0, _, _, _, _, _, _, _, _, _, _, _, _, _, _, _, _, _, _ => none
 | k + 1, x9, x71, x72, x236000, x236001, x236002, x236003, x236004, x252000, x252001, x252002, x252003, x252004, x269000, x269001, x269002, x269003, x269004 => if x72 < x71 then (if x9.size + 1 ≤ 9223372036854775807 then (if 0 ≤ x72 then (if x72 < (x252004.length : Int) then (tendrillaw11_VtreeSame.l0 k x9 x71 (wrap64 (x72 + 1)) x236000 x236001 x236002 x236003 x236004 x252000 x252001 x252002 x252003 (x252004.set (x72 : Int).toNat (⟨x9 ++ (⟨#[45]⟩ : ByteArray), (rd_T25 x252004 x72).f1, (rd_T25 x252004 x72).f2, (rd_T25 x252004 x72).f3, (rd_T25 x252004 x72).f4⟩ : S25)) x269000 x269001 x269002 x269003 x269004) else (none)) else (none)) else (none)) else (tendrillaw11_VtreeSame.l1 k (x252003.length : Int) 0 x236000 x236001 x236002 x236003 x236004 x252000 x252001 x252002 x252003 x252004 x269000 x269001 x269002 x269003 x269004)
def tendrillaw11_VtreeSame.l1 : Nat → Int → Int → ByteArray → ByteArray → ByteArray → List (S42) → List (S25) → ByteArray → ByteArray → ByteArray → List (S42) → List (S25) → ByteArray → ByteArray → ByteArray → List (S42) → List (S25) → Option (Bool)
 | 0, _, _, _, _, _, _, _, _, _, _, _, _, _, _, _, _, _ => none
 | k + 1, x85, x86, x236000, x236001, x236002, x236003, x236004, x252000, x252001, x252002, x252003, x252004, x269000, x269001, x269002, x269003, x269004 => if x86 < x85 then (if 0 ≤ x86 then (if x86 < (x252003.length : Int) then (tendrillaw11_VtreeSame.l1 k x85 (wrap64 (x86 + 1)) x236000 x236001 x236002 x236003 x236004 x252000 x252001 x252002 (x252003.set (x86 : Int).toNat (⟨(⟨#[]⟩ : ByteArray), (rd_T42 x252003 x86).f1⟩ : S42)) x252004 x269000 x269001 x269002 x269003 x269004) else (none)) else (none)) else ((tendrilplain_Nodes.f k x236000 x236001 x236002 x236003 x236004 x269000 x269001 x269002 x269003 x269004).bind fun t271 => (if t271 = true then ((vtree_Same.f k x236000 x236001 x236002 x236003 x236004 x236000 x236001 x236002 x236003 x236004).bind fun t272 => (if t272 = true then ((tendrillaw11_same.f k).bind fun t273 => (some t273)) else (some false))) else (some false)))
end
def tendrillaw11_VtreeSame.f (k : Nat) (a0_0 : ByteArray) (a0_1 : ByteArray) (a0_2 : ByteArray) (l0_3 : List (S42)) (l0_4 : List (S25)) (a1_0 : ByteArray) (a1_1 : ByteArray) (a1_2 : ByteArray) (l1_3 : List (S42)) (l1_4 : List (S25)) : Option (Bool) := (tendrilplain_Few.f k a0_0 a0_1 a0_2 l0_3 l0_4 800).bind fun t237 => (if t237 = true then ((tendrilplain_Few.f k a1_0 a1_1 a1_2 l1_3 l1_4 800).bind fun t238 => (tendrillaw11_VtreeSame.j0 k (!t238) a0_0 a0_1 a0_2 l0_3 l0_4 a1_0 a1_1 a1_2 l1_3 l1_4)) else (tendrillaw11_VtreeSame.j0 k true a0_0 a0_1 a0_2 l0_3 l0_4 a1_0 a1_1 a1_2 l1_3 l1_4))
set_option maxHeartbeats 8000000 in
set_option maxRecDepth 100000 in
theorem tendrillaw11_VtreeSame.calls (k : Nat) (a0_0 : ByteArray) (a0_1 : ByteArray) (a0_2 : ByteArray) (A0_3 : Option Addr) (c0_3 : Nat) (l0_3 : List (S42)) (A0_4 : Option Addr) (c0_4 : Nat) (l0_4 : List (S25)) (a1_0 : ByteArray) (a1_1 : ByteArray) (a1_2 : ByteArray) (A1_3 : Option Addr) (c1_3 : Nat) (l1_3 : List (S42)) (A1_4 : Option Addr) (c1_4 : Nat) (l1_4 : List (S25)) (r : Bool) (w : World) (hr0_3 : Kd.C k42 w A0_3 l0_3.length l0_3) (hc0_3 : l0_3.length ≤ c0_3) (hr0_4 : Kd.C k25 w A0_4 l0_4.length l0_4) (hc0_4 : l0_4.length ≤ c0_4) (hr1_3 : Kd.C k42 w A1_3 l1_3.length l1_3) (hc1_3 : l1_3.length ≤ c1_3) (hr1_4 : Kd.C k25 w A1_4 l1_4.length l1_4) (hc1_4 : l1_4.length ≤ c1_4) (h : tendrillaw11_VtreeSame.f k a0_0 a0_1 a0_2 l0_3 l0_4 a1_0 a1_1 a1_2 l1_3 l1_4 = some r) :
  Calls Try.prog 5 #[.agg #[.string a0_0, .string a0_1, .string a0_2, .slice A0_3 l0_3.length c0_3, .slice A0_4 l0_4.length c0_4], .agg #[.string a1_0, .string a1_1, .string a1_2, .slice A1_3 l1_3.length c1_3, .slice A1_4 l1_4.length c1_4]] w fun e w' => e = .returned (.bool r) ∧ Below w.heap.size w w' := by
 have hu25 := Try.underlying25
 have HR0_3 := Aside0.mk hr0_3
 have HC0_3 := Aside0.mk hc0_3
 clear hr0_3 hc0_3
 have HR0_4 := Aside0.mk hr0_4
 have HC0_4 := Aside0.mk hc0_4
 clear hr0_4 hc0_4
 have HR1_3 := Aside0.mk hr1_3
 have HC1_3 := Aside0.mk hc1_3
 clear hr1_3 hc1_3
 have HR1_4 := Aside0.mk hr1_4
 have HC1_4 := Aside0.mk hc1_4
 clear hr1_4 hc1_4
 have HB := Aside0.mk (Below.refl w.heap.size w)
 have H : ((tendrilplain_Few.f k a0_0 a0_1 a0_2 l0_3 l0_4 800).bind fun t237 => (if t237 = true then ((tendrilplain_Few.f k a1_0 a1_1 a1_2 l1_3 l1_4 800).bind fun t238 => (tendrillaw11_VtreeSame.j0 k (!t238) a0_0 a0_1 a0_2 l0_3 l0_4 a1_0 a1_1 a1_2 l1_3 l1_4)) else (tendrillaw11_VtreeSame.j0 k true a0_0 a0_1 a0_2 l0_3 l0_4 a1_0 a1_1 a1_2 l1_3 l1_4))) = some r := h
 clear h
 have HC3 := Aside0.mk H
 clear H
 go_enter Try.func5, Try.ntmps5
 go_upto_region 1 with (first | ((with_reducible refine gate_dst (N := 2) rfl ?_); refine box_event ?hg (N := 2) ?hd (cs := #[.string a0_0, .string a0_1, .string a0_2, .slice A0_3 l0_3.length c0_3, .slice A0_4 l0_4.length c0_4]) (t := 25) ?hr ?_; (case hd => rfl); (case hg => rfl); (case hr => first | (go_simp; done) | (go_simp; rfl)); intro gb235 hg w4 hbox hb; have n0_ := Aside0.mk (below_step (by repeat (first | (with_reducible first | exact HB.out | apply zA | apply zN | apply zD) | exact HB.out)) hb); have n1_ := Aside0.mk (hbox); have n2_ := Aside0.mk ((by rw [hg]; exact (below_size (by repeat (first | (with_reducible first | exact HB.out | apply zA | apply zN | apply zD) | exact HB.out))) : w.heap.size ≤ gb235)); have n3_ := Aside0.mk ((by rw [hg]; exact (below_size (by repeat (first | (with_reducible first | exact HB.out | apply zA | apply zN | apply zD) | exact HB.out))) : w.heap.size ≤ gb235)); clear HB; have HB := n0_; have BK235 := n1_; have GW235 := n2_; have GE235 := n3_; clear n0_ n1_ n2_ n3_; clear hb hbox hg) | ((with_reducible refine gate_dst (N := 3) rfl ?_); refine box_event ?hg (N := 3) ?hd (cs := #[.string a1_0, .string a1_1, .string a1_2, .slice A1_3 l1_3.length c1_3, .slice A1_4 l1_4.length c1_4]) (t := 25) ?hr ?_; (case hd => rfl); (case hg => rfl); (case hr => first | (go_simp; done) | (go_simp; rfl)); intro gb236 hg w5 hbox hb; have n0_ := Aside0.mk (blk_below (g := gb235) (o := .cells #[.string a0_0, .string a0_1, .string a0_2, .slice A0_3 l0_3.length c0_3, .slice A0_4 l0_4.length c0_4] 25 (0, 0)) (by (with_reducible repeat first | apply zM | apply zE | apply zF); exact BK235.out) hb); have n1_ := Aside0.mk (below_step (by repeat (first | (with_reducible first | exact HB.out | apply zA | apply zN | apply zD | refine zS ?_ GE235.out) | exact HB.out)) hb); have n2_ := Aside0.mk (hbox); have n3_ := Aside0.mk ((by rw [hg]; exact (below_size (by repeat (first | (with_reducible first | exact HB.out | apply zA | apply zN | apply zD | refine zS ?_ GE235.out) | exact HB.out))) : w.heap.size ≤ gb236)); have n4_ := Aside0.mk ((by rw [hg]; exact (below_size (by repeat (first | (with_reducible first | exact HB.out | apply zA | apply zN | apply zD | refine zS ?_ GE235.out) | exact HB.out))) : w.heap.size ≤ gb236)); have n5_ := Aside0.mk ((by rw [hg]; exact Nat.ne_of_lt (blk_lt (g := gb235) (o := .cells #[.string a0_0, .string a0_1, .string a0_2, .slice A0_3 l0_3.length c0_3, .slice A0_4 l0_4.length c0_4] 25 (0, 0)) (by (with_reducible repeat first | apply zM | apply zE | apply zF); exact BK235.out)) : gb235 ≠ gb236)); have n6_ := Aside0.mk ((by rw [hg]; exact Nat.ne_of_gt (blk_lt (g := gb235) (o := .cells #[.string a0_0, .string a0_1, .string a0_2, .slice A0_3 l0_3.length c0_3, .slice A0_4 l0_4.length c0_4] 25 (0, 0)) (by (with_reducible repeat first | apply zM | apply zE | apply zF); exact BK235.out)) : gb236 ≠ gb235)); clear BK235; clear HB; have BK235 := n0_; have HB := n1_; have BK236 := n2_; have GW236 := n3_; have GE236 := n4_; have NB235_236 := n5_; have NB236_235 := n6_; clear n0_ n1_ n2_ n3_ n4_ n5_ n6_; clear hb hbox hg))
 (try simp only [Act.put, List.setIfInBounds_toArray, List.set_cons_zero, List.set_cons_succ])
 go_cut [19] (fun v19 wc => ∃ (kq : Nat) (x19_2 : Bool), v19 = .bool x19_2 ∧ Aside0 (tendrillaw11_VtreeSame.j0 kq x19_2 a0_0 a0_1 a0_2 l0_3 l0_4 a1_0 a1_1 a1_2 l1_3 l1_4 = some r) ∧ Aside0 (kq ≤ k) ∧ Aside0 (wc.heap[gb235]? = some (.cells #[.string a0_0, .string a0_1, .string a0_2, (.slice A0_3 l0_3.length c0_3), (.slice A0_4 l0_4.length c0_4)] 25 (0, 0))) ∧ Aside0 (wc.heap[gb236]? = some (.cells #[.string a1_0, .string a1_1, .string a1_2, (.slice A1_3 l1_3.length c1_3), (.slice A1_4 l1_4.length c1_4)] 25 (0, 0))) ∧ Aside0 (Below w.heap.size w wc))
 case first =>
  have H := HC3.out
  clear HC3
  replace H := Option.bind_eq_some_iff.mp H
  obtain ⟨t237, A60, H⟩ := H
  replace H : (if t237 = true then ((tendrilplain_Few.f k a1_0 a1_1 a1_2 l1_3 l1_4 800).bind fun t238 => (tendrillaw11_VtreeSame.j0 k (!t238) a0_0 a0_1 a0_2 l0_3 l0_4 a1_0 a1_1 a1_2 l1_3 l1_4)) else (tendrillaw11_VtreeSame.j0 k true a0_0 a0_1 a0_2 l0_3 l0_4 a1_0 a1_1 a1_2 l1_3 l1_4)) = some r := H
  have A6 := Aside0.mk A60
  clear A60
  by_cases c7 : t237 = true
  ·
   subst c7
   have H1 : ((tendrilplain_Few.f k a1_0 a1_1 a1_2 l1_3 l1_4 800).bind fun t238 => (tendrillaw11_VtreeSame.j0 k (!t238) a0_0 a0_1 a0_2 l0_3 l0_4 a1_0 a1_1 a1_2 l1_3 l1_4)) = some r := by rw [if_pos rfl] at H; exact H
   clear H
   have H := H1
   clear H1
   replace H := Option.bind_eq_some_iff.mp H
   obtain ⟨t238, A80, H⟩ := H
   replace H : (tendrillaw11_VtreeSame.j0 k (!t238) a0_0 a0_1 a0_2 l0_3 l0_4 a1_0 a1_1 a1_2 l1_3 l1_4) = some r := H
   have A8 := Aside0.mk A80
   clear A80
   have H' := Aside0.mk H
   clear H
   have hnb9 := NB235_236.out
   have hnc9 := NB236_235.out
   have hcz10_0 : w5.cell? ⟨gb235, 0, none⟩ = some (.string a0_0) := (zC BK235.out 0).trans rfl
   have hcz10_1 : w5.cell? ⟨gb235, 1, none⟩ = some (.string a0_1) := (zC BK235.out 1).trans rfl
   have hcz10_2 : w5.cell? ⟨gb235, 2, none⟩ = some (.string a0_2) := (zC BK235.out 2).trans rfl
   have hcz10_3 : w5.cell? ⟨gb235, 3, none⟩ = some (.slice A0_3 l0_3.length c0_3) := (zC BK235.out 3).trans rfl
   have hcz10_4 : w5.cell? ⟨gb235, 4, none⟩ = some (.slice A0_4 l0_4.length c0_4) := (zC BK235.out 4).trans rfl
   have hfz10_0 := zR BK235.out 0
   have hfz10_1 := zR BK235.out 1
   have hfz10_2 := zR BK235.out 2
   have hfz10_3 := zR BK235.out 3
   have hfz10_4 := zR BK235.out 4
   go_wp2_with (first | ((with_reducible refine gate_callee (f := 6) rfl ?_); refine goesL_ (some 13) rfl rfl Try.func6 (by kernel_rfl) rfl #[.agg #[.string a0_0, .string a0_1, .string a0_2, .slice A0_3 l0_3.length c0_3, .slice A0_4 l0_4.length c0_4], .int .i64 800] rfl (by (try simp only [List.map_toArray, List.map_cons, List.map_nil]); first | done | rfl | (simp only [List.length_drop, List.length_take]; rfl)) ?_; (with_reducible refine (tendrilplain_Few.calls k a0_0 a0_1 a0_2 _ _ l0_3 _ _ l0_4 800 true _ ?side1 ?side2 ?side3 ?side4 A6.out).mono ?_); (case side1 => repeat (first | exact (Kd.C_below HR0_3.out HB.out) | (with_reducible refine Kd.C_alloc ?_ _) | (with_reducible refine Kd.C_drewN ?_ _) | (with_reducible refine Kd.C_drew ?_))); (case side2 => exact HC0_3.out); (case side3 => repeat (first | exact (Kd.C_below HR0_4.out HB.out) | (with_reducible refine Kd.C_alloc ?_ _) | (with_reducible refine Kd.C_drewN ?_ _) | (with_reducible refine Kd.C_drew ?_))); (case side4 => exact HC0_4.out); rintro e w11 ⟨rfl, hb⟩; refine ⟨_, rfl, ?_⟩; have n0_ := Aside0.mk (blk_below (g := gb235) (o := .cells #[.string a0_0, .string a0_1, .string a0_2, .slice A0_3 l0_3.length c0_3, .slice A0_4 l0_4.length c0_4] 25 (0, 0)) (by (with_reducible repeat first | apply zM | apply zE | apply zF); exact BK235.out) hb); have n1_ := Aside0.mk (blk_below (g := gb236) (o := .cells #[.string a1_0, .string a1_1, .string a1_2, .slice A1_3 l1_3.length c1_3, .slice A1_4 l1_4.length c1_4] 25 (0, 0)) (by (with_reducible repeat first | apply zM | apply zE | apply zF); exact BK236.out) hb); have n2_ := Aside0.mk (below_step (by repeat (first | (with_reducible first | exact HB.out | apply zA | apply zN | apply zD | refine zS ?_ GE235.out | refine zS ?_ GE236.out) | exact HB.out)) hb); clear BK235; clear BK236; clear HB; have BK235 := n0_; have BK236 := n1_; have HB := n2_; clear n0_ n1_ n2_; (try clear hb); (try clear hb2); (try clear hk); (try clear hi); have hcz12_0 : w11.cell? ⟨gb236, 0, none⟩ = some (.string a1_0) := (zC BK236.out 0).trans rfl; have hcz12_1 : w11.cell? ⟨gb236, 1, none⟩ = some (.string a1_1) := (zC BK236.out 1).trans rfl; have hcz12_2 : w11.cell? ⟨gb236, 2, none⟩ = some (.string a1_2) := (zC BK236.out 2).trans rfl; have hcz12_3 : w11.cell? ⟨gb236, 3, none⟩ = some (.slice A1_3 l1_3.length c1_3) := (zC BK236.out 3).trans rfl; have hcz12_4 : w11.cell? ⟨gb236, 4, none⟩ = some (.slice A1_4 l1_4.length c1_4) := (zC BK236.out 4).trans rfl; have hfz12_0 := zR BK236.out 0; have hfz12_1 := zR BK236.out 1; have hfz12_2 := zR BK236.out 2; have hfz12_3 := zR BK236.out 3; have hfz12_4 := zR BK236.out 4) | (go_at_call 6; (with_reducible refine (tendrilplain_Few.calls k a1_0 a1_1 a1_2 _ _ l1_3 _ _ l1_4 800 t238 _ ?side1 ?side2 ?side3 ?side4 A8.out).mono ?_); (case side1 => repeat (first | exact (Kd.C_below HR1_3.out HB.out) | (with_reducible refine Kd.C_alloc ?_ _) | (with_reducible refine Kd.C_drewN ?_ _) | (with_reducible refine Kd.C_drew ?_))); (case side2 => exact HC1_3.out); (case side3 => repeat (first | exact (Kd.C_below HR1_4.out HB.out) | (with_reducible refine Kd.C_alloc ?_ _) | (with_reducible refine Kd.C_drewN ?_ _) | (with_reducible refine Kd.C_drew ?_))); (case side4 => exact HC1_4.out); rintro e w13 ⟨rfl, hb⟩; have n0_ := Aside0.mk (blk_below (g := gb235) (o := .cells #[.string a0_0, .string a0_1, .string a0_2, .slice A0_3 l0_3.length c0_3, .slice A0_4 l0_4.length c0_4] 25 (0, 0)) (by (with_reducible repeat first | apply zM | apply zE | apply zF); exact BK235.out) hb); have n1_ := Aside0.mk (blk_below (g := gb236) (o := .cells #[.string a1_0, .string a1_1, .string a1_2, .slice A1_3 l1_3.length c1_3, .slice A1_4 l1_4.length c1_4] 25 (0, 0)) (by (with_reducible repeat first | apply zM | apply zE | apply zF); exact BK236.out) hb); have n2_ := Aside0.mk (below_step (by repeat (first | (with_reducible first | exact HB.out | apply zA | apply zN | apply zD | refine zS ?_ GE235.out | refine zS ?_ GE236.out) | exact HB.out)) hb); clear BK235; clear BK236; clear HB; have BK235 := n0_; have BK236 := n1_; have HB := n2_; clear n0_ n1_ n2_; (try clear hb); (try clear hb2); (try clear hk); (try clear hi)))
   go_meet
   case rel => exact ⟨_, (!t238), (by first | rfl | (simp; done) | (simp [*]; done)), H', ⟨by first | omega | exact Nat.le_refl _⟩, ⟨by (with_reducible repeat first | apply zM | apply zE | apply zF); exact BK235.out⟩, ⟨by (with_reducible repeat first | apply zM | apply zE | apply zF); exact BK236.out⟩, ⟨by repeat (first | (with_reducible first | exact HB.out | apply zA | apply zN | apply zD | refine zS ?_ GE235.out | refine zS ?_ GE236.out) | exact HB.out)⟩⟩
  ·
   replace c7 := Bool.eq_false_iff.mpr c7
   subst c7
   have H1 : (tendrillaw11_VtreeSame.j0 k true a0_0 a0_1 a0_2 l0_3 l0_4 a1_0 a1_1 a1_2 l1_3 l1_4) = some r := by rw [if_neg (show ¬ (false = true) by decide)] at H; exact H
   clear H
   have H := H1
   clear H1
   have H' := Aside0.mk H
   clear H
   have hnb14 := NB235_236.out
   have hnc14 := NB236_235.out
   have hcz15_0 : w5.cell? ⟨gb235, 0, none⟩ = some (.string a0_0) := (zC BK235.out 0).trans rfl
   have hcz15_1 : w5.cell? ⟨gb235, 1, none⟩ = some (.string a0_1) := (zC BK235.out 1).trans rfl
   have hcz15_2 : w5.cell? ⟨gb235, 2, none⟩ = some (.string a0_2) := (zC BK235.out 2).trans rfl
   have hcz15_3 : w5.cell? ⟨gb235, 3, none⟩ = some (.slice A0_3 l0_3.length c0_3) := (zC BK235.out 3).trans rfl
   have hcz15_4 : w5.cell? ⟨gb235, 4, none⟩ = some (.slice A0_4 l0_4.length c0_4) := (zC BK235.out 4).trans rfl
   have hfz15_0 := zR BK235.out 0
   have hfz15_1 := zR BK235.out 1
   have hfz15_2 := zR BK235.out 2
   have hfz15_3 := zR BK235.out 3
   have hfz15_4 := zR BK235.out 4
   go_wp2_with (first | ((with_reducible refine gate_callee (f := 6) rfl ?_); refine goesL_ (some 13) rfl rfl Try.func6 (by kernel_rfl) rfl #[.agg #[.string a0_0, .string a0_1, .string a0_2, .slice A0_3 l0_3.length c0_3, .slice A0_4 l0_4.length c0_4], .int .i64 800] rfl (by (try simp only [List.map_toArray, List.map_cons, List.map_nil]); first | done | rfl | (simp only [List.length_drop, List.length_take]; rfl)) ?_; (with_reducible refine (tendrilplain_Few.calls k a0_0 a0_1 a0_2 _ _ l0_3 _ _ l0_4 800 false _ ?side1 ?side2 ?side3 ?side4 A6.out).mono ?_); (case side1 => repeat (first | exact (Kd.C_below HR0_3.out HB.out) | (with_reducible refine Kd.C_alloc ?_ _) | (with_reducible refine Kd.C_drewN ?_ _) | (with_reducible refine Kd.C_drew ?_))); (case side2 => exact HC0_3.out); (case side3 => repeat (first | exact (Kd.C_below HR0_4.out HB.out) | (with_reducible refine Kd.C_alloc ?_ _) | (with_reducible refine Kd.C_drewN ?_ _) | (with_reducible refine Kd.C_drew ?_))); (case side4 => exact HC0_4.out); rintro e w16 ⟨rfl, hb⟩; refine ⟨_, rfl, ?_⟩; have n0_ := Aside0.mk (blk_below (g := gb235) (o := .cells #[.string a0_0, .string a0_1, .string a0_2, .slice A0_3 l0_3.length c0_3, .slice A0_4 l0_4.length c0_4] 25 (0, 0)) (by (with_reducible repeat first | apply zM | apply zE | apply zF); exact BK235.out) hb); have n1_ := Aside0.mk (blk_below (g := gb236) (o := .cells #[.string a1_0, .string a1_1, .string a1_2, .slice A1_3 l1_3.length c1_3, .slice A1_4 l1_4.length c1_4] 25 (0, 0)) (by (with_reducible repeat first | apply zM | apply zE | apply zF); exact BK236.out) hb); have n2_ := Aside0.mk (below_step (by repeat (first | (with_reducible first | exact HB.out | apply zA | apply zN | apply zD | refine zS ?_ GE235.out | refine zS ?_ GE236.out) | exact HB.out)) hb); clear BK235; clear BK236; clear HB; have BK235 := n0_; have BK236 := n1_; have HB := n2_; clear n0_ n1_ n2_; (try clear hb); (try clear hb2); (try clear hk); (try clear hi)))
   go_meet
   case rel => exact ⟨_, (true), (by first | rfl | (simp; done) | (simp [*]; done)), H', ⟨by first | omega | exact Nat.le_refl _⟩, ⟨by (with_reducible repeat first | apply zM | apply zE | apply zF); exact BK235.out⟩, ⟨by (with_reducible repeat first | apply zM | apply zE | apply zF); exact BK236.out⟩, ⟨by repeat (first | (with_reducible first | exact HB.out | apply zA | apply zN | apply zD | refine zS ?_ GE235.out | refine zS ?_ GE236.out) | exact HB.out)⟩⟩
 case rest =>
  clear HC3
  try clear c1
  try clear p2
  try clear c5
  try clear c6
  try clear c7
  try clear c9
  try clear c14
  obtain ⟨kq, x19_2, rfl, HA, HJ2, BK235, BK236, HB⟩ := hcut
  cases kq with
  | zero => exact absurd HA.out (by simp [tendrillaw11_VtreeSame.j0])
  | succ kj2 =>
   have H := HA.out
   clear HA
   simp only [tendrillaw11_VtreeSame.j0] at H
   by_cases c17 : x19_2 = true
   ·
    subst c17
    have H1 : ((tendrillaw11_same.f kj2).bind fun t239 => (some t239)) = some r := by rw [if_pos rfl] at H; exact H
    clear H
    have H := H1
    clear H1
    replace H := Option.bind_eq_some_iff.mp H
    obtain ⟨t239, A180, H⟩ := H
    replace H : (some t239) = some r := H
    have A18 := Aside0.mk A180
    clear A180
    obtain rfl := Option.some.inj H
    go_wp2_with (first | ((with_reducible refine gate_callee (f := 7) rfl ?_); refine goesL_ (some 20) rfl rfl Try.func7 (by kernel_rfl) rfl #[] rfl (by (try simp only [List.map_toArray, List.map_cons, List.map_nil]); first | done | rfl | (simp only [List.length_drop, List.length_take]; rfl)) ?_; (with_reducible refine (tendrillaw11_same.calls kj2  t239 _ A18.out).mono ?_); rintro e w19 ⟨rfl, hb⟩; refine ⟨_, rfl, ?_⟩; have n0_ := Aside0.mk (blk_below (g := gb235) (o := .cells #[.string a0_0, .string a0_1, .string a0_2, .slice A0_3 l0_3.length c0_3, .slice A0_4 l0_4.length c0_4] 25 (0, 0)) (by (with_reducible repeat first | apply zM | apply zE | apply zF); exact BK235.out) hb); have n1_ := Aside0.mk (blk_below (g := gb236) (o := .cells #[.string a1_0, .string a1_1, .string a1_2, .slice A1_3 l1_3.length c1_3, .slice A1_4 l1_4.length c1_4] 25 (0, 0)) (by (with_reducible repeat first | apply zM | apply zE | apply zF); exact BK236.out) hb); have n2_ := Aside0.mk (below_step (by repeat (first | (with_reducible first | exact HB.out | apply zA | apply zN | apply zD | refine zS ?_ GE235.out | refine zS ?_ GE236.out) | exact HB.out)) hb); clear BK235; clear BK236; clear HB; have BK235 := n0_; have BK236 := n1_; have HB := n2_; clear n0_ n1_ n2_; (try clear hb); (try clear hb2); (try clear hk); (try clear hi)))
    go_ret
    exact ⟨by first | rfl | (simp [errW_none, errW_some] <;> rfl) | (simp [*, errW_none, errW_some] <;> rfl), by repeat (first | (with_reducible first | exact HB.out | apply zA | apply zN | apply zD | refine zS ?_ GE235.out | refine zS ?_ GE236.out) | exact HB.out)⟩
   ·
    replace c17 := Bool.eq_false_iff.mpr c17
    subst c17
    have H1 : ((tendrilref11_Right.f kj2 a0_0 a0_1 a0_2 l0_3 l0_4).bind fun t240 => ((vtree_Copy.f kj2 a0_0 a0_1 a0_2 l0_3 l0_4).bind fun bt241 => ((vtree_Same.f kj2 a0_0 a0_1 a0_2 l0_3 l0_4 a1_0 a1_1 a1_2 l1_3 l1_4).bind fun t252 => (if t240 = true then ((tendrilref11_Right.f kj2 a1_0 a1_1 a1_2 l1_3 l1_4).bind fun t253 => (if t253 = true then ((tendrilplain_Nodes.f kj2 a0_0 a0_1 a0_2 l0_3 l0_4 a1_0 a1_1 a1_2 l1_3 l1_4).bind fun t254 => (if (t252 != t254) = true then (tendrillaw11_VtreeSame.j1 kj2 t240 true a0_0 a0_1 a0_2 l0_3 l0_4 bt241.1 bt241.2.1 bt241.2.2.1 bt241.2.2.2.1 bt241.2.2.2.2.1) else (tendrillaw11_VtreeSame.j1 kj2 t240 (bt241.2.2.2.2.2 != t240) a0_0 a0_1 a0_2 l0_3 l0_4 bt241.1 bt241.2.1 bt241.2.2.1 bt241.2.2.2.1 bt241.2.2.2.2.1))) else (if (t252 != false) = true then (tendrillaw11_VtreeSame.j1 kj2 t240 true a0_0 a0_1 a0_2 l0_3 l0_4 bt241.1 bt241.2.1 bt241.2.2.1 bt241.2.2.2.1 bt241.2.2.2.2.1) else (tendrillaw11_VtreeSame.j1 kj2 t240 (bt241.2.2.2.2.2 != t240) a0_0 a0_1 a0_2 l0_3 l0_4 bt241.1 bt241.2.1 bt241.2.2.1 bt241.2.2.2.1 bt241.2.2.2.2.1)))) else (if (t252 != false) = true then (tendrillaw11_VtreeSame.j1 kj2 t240 true a0_0 a0_1 a0_2 l0_3 l0_4 bt241.1 bt241.2.1 bt241.2.2.1 bt241.2.2.2.1 bt241.2.2.2.2.1) else (tendrillaw11_VtreeSame.j1 kj2 t240 (bt241.2.2.2.2.2 != t240) a0_0 a0_1 a0_2 l0_3 l0_4 bt241.1 bt241.2.1 bt241.2.2.1 bt241.2.2.2.1 bt241.2.2.2.2.1)))))) = some r := by rw [if_neg (show ¬ (false = true) by decide)] at H; exact H
    clear H
    have H := H1
    clear H1
    replace H := Option.bind_eq_some_iff.mp H
    obtain ⟨t240, A200, H⟩ := H
    replace H : ((vtree_Copy.f kj2 a0_0 a0_1 a0_2 l0_3 l0_4).bind fun bt241 => ((vtree_Same.f kj2 a0_0 a0_1 a0_2 l0_3 l0_4 a1_0 a1_1 a1_2 l1_3 l1_4).bind fun t252 => (if t240 = true then ((tendrilref11_Right.f kj2 a1_0 a1_1 a1_2 l1_3 l1_4).bind fun t253 => (if t253 = true then ((tendrilplain_Nodes.f kj2 a0_0 a0_1 a0_2 l0_3 l0_4 a1_0 a1_1 a1_2 l1_3 l1_4).bind fun t254 => (if (t252 != t254) = true then (tendrillaw11_VtreeSame.j1 kj2 t240 true a0_0 a0_1 a0_2 l0_3 l0_4 bt241.1 bt241.2.1 bt241.2.2.1 bt241.2.2.2.1 bt241.2.2.2.2.1) else (tendrillaw11_VtreeSame.j1 kj2 t240 (bt241.2.2.2.2.2 != t240) a0_0 a0_1 a0_2 l0_3 l0_4 bt241.1 bt241.2.1 bt241.2.2.1 bt241.2.2.2.1 bt241.2.2.2.2.1))) else (if (t252 != false) = true then (tendrillaw11_VtreeSame.j1 kj2 t240 true a0_0 a0_1 a0_2 l0_3 l0_4 bt241.1 bt241.2.1 bt241.2.2.1 bt241.2.2.2.1 bt241.2.2.2.2.1) else (tendrillaw11_VtreeSame.j1 kj2 t240 (bt241.2.2.2.2.2 != t240) a0_0 a0_1 a0_2 l0_3 l0_4 bt241.1 bt241.2.1 bt241.2.2.1 bt241.2.2.2.1 bt241.2.2.2.2.1)))) else (if (t252 != false) = true then (tendrillaw11_VtreeSame.j1 kj2 t240 true a0_0 a0_1 a0_2 l0_3 l0_4 bt241.1 bt241.2.1 bt241.2.2.1 bt241.2.2.2.1 bt241.2.2.2.2.1) else (tendrillaw11_VtreeSame.j1 kj2 t240 (bt241.2.2.2.2.2 != t240) a0_0 a0_1 a0_2 l0_3 l0_4 bt241.1 bt241.2.1 bt241.2.2.1 bt241.2.2.2.1 bt241.2.2.2.2.1))))) = some r := H
    have A20 := Aside0.mk A200
    clear A200
    replace H := Option.bind_eq_some_iff.mp H
    obtain ⟨⟨t241, t242, t243, t244, t247, t250⟩, A210, H⟩ := H
    replace H : ((vtree_Same.f kj2 a0_0 a0_1 a0_2 l0_3 l0_4 a1_0 a1_1 a1_2 l1_3 l1_4).bind fun t252 => (if t240 = true then ((tendrilref11_Right.f kj2 a1_0 a1_1 a1_2 l1_3 l1_4).bind fun t253 => (if t253 = true then ((tendrilplain_Nodes.f kj2 a0_0 a0_1 a0_2 l0_3 l0_4 a1_0 a1_1 a1_2 l1_3 l1_4).bind fun t254 => (if (t252 != t254) = true then (tendrillaw11_VtreeSame.j1 kj2 t240 true a0_0 a0_1 a0_2 l0_3 l0_4 t241 t242 t243 t244 t247) else (tendrillaw11_VtreeSame.j1 kj2 t240 (t250 != t240) a0_0 a0_1 a0_2 l0_3 l0_4 t241 t242 t243 t244 t247))) else (if (t252 != false) = true then (tendrillaw11_VtreeSame.j1 kj2 t240 true a0_0 a0_1 a0_2 l0_3 l0_4 t241 t242 t243 t244 t247) else (tendrillaw11_VtreeSame.j1 kj2 t240 (t250 != t240) a0_0 a0_1 a0_2 l0_3 l0_4 t241 t242 t243 t244 t247)))) else (if (t252 != false) = true then (tendrillaw11_VtreeSame.j1 kj2 t240 true a0_0 a0_1 a0_2 l0_3 l0_4 t241 t242 t243 t244 t247) else (tendrillaw11_VtreeSame.j1 kj2 t240 (t250 != t240) a0_0 a0_1 a0_2 l0_3 l0_4 t241 t242 t243 t244 t247)))) = some r := H
    have A21 := Aside0.mk A210
    clear A210
    have HC22 := Aside0.mk H
    clear H
    have hnb23 := NB235_236.out
    have hnc23 := NB236_235.out
    have hcz24_0 : wc.cell? ⟨gb235, 0, none⟩ = some (.string a0_0) := (zC BK235.out 0).trans rfl
    have hcz24_1 : wc.cell? ⟨gb235, 1, none⟩ = some (.string a0_1) := (zC BK235.out 1).trans rfl
    have hcz24_2 : wc.cell? ⟨gb235, 2, none⟩ = some (.string a0_2) := (zC BK235.out 2).trans rfl
    have hcz24_3 : wc.cell? ⟨gb235, 3, none⟩ = some (.slice A0_3 l0_3.length c0_3) := (zC BK235.out 3).trans rfl
    have hcz24_4 : wc.cell? ⟨gb235, 4, none⟩ = some (.slice A0_4 l0_4.length c0_4) := (zC BK235.out 4).trans rfl
    have hfz24_0 := zR BK235.out 0
    have hfz24_1 := zR BK235.out 1
    have hfz24_2 := zR BK235.out 2
    have hfz24_3 := zR BK235.out 3
    have hfz24_4 := zR BK235.out 4
    go_upto_region 5 with (first | ((with_reducible refine gate_callee (f := 15) rfl ?_); refine goesL_ (some 22) rfl rfl Try.func15 (by kernel_rfl) rfl #[.agg #[.string a0_0, .string a0_1, .string a0_2, .slice A0_3 l0_3.length c0_3, .slice A0_4 l0_4.length c0_4]] rfl (by (try simp only [List.map_toArray, List.map_cons, List.map_nil]); first | done | rfl | (simp only [List.length_drop, List.length_take]; rfl)) ?_; (with_reducible refine (tendrilref11_Right.calls kj2 a0_0 a0_1 a0_2 _ _ l0_3 _ _ l0_4 t240 _ ?side1 ?side2 ?side3 ?side4 A20.out).mono ?_); (case side1 => repeat (first | exact (Kd.C_below HR0_3.out HB.out) | (with_reducible refine Kd.C_alloc ?_ _) | (with_reducible refine Kd.C_drewN ?_ _) | (with_reducible refine Kd.C_drew ?_))); (case side2 => exact HC0_3.out); (case side3 => repeat (first | exact (Kd.C_below HR0_4.out HB.out) | (with_reducible refine Kd.C_alloc ?_ _) | (with_reducible refine Kd.C_drewN ?_ _) | (with_reducible refine Kd.C_drew ?_))); (case side4 => exact HC0_4.out); rintro e w25 ⟨rfl, hb⟩; refine ⟨_, rfl, ?_⟩; have n0_ := Aside0.mk (blk_below (g := gb235) (o := .cells #[.string a0_0, .string a0_1, .string a0_2, .slice A0_3 l0_3.length c0_3, .slice A0_4 l0_4.length c0_4] 25 (0, 0)) (by (with_reducible repeat first | apply zM | apply zE | apply zF); exact BK235.out) hb); have n1_ := Aside0.mk (blk_below (g := gb236) (o := .cells #[.string a1_0, .string a1_1, .string a1_2, .slice A1_3 l1_3.length c1_3, .slice A1_4 l1_4.length c1_4] 25 (0, 0)) (by (with_reducible repeat first | apply zM | apply zE | apply zF); exact BK236.out) hb); have n2_ := Aside0.mk (below_step (by repeat (first | (with_reducible first | exact HB.out | apply zA | apply zN | apply zD | refine zS ?_ GE235.out | refine zS ?_ GE236.out) | exact HB.out)) hb); clear BK235; clear BK236; clear HB; have BK235 := n0_; have BK236 := n1_; have HB := n2_; clear n0_ n1_ n2_; (try clear hb); (try clear hb2); (try clear hk); (try clear hi); have hcz26_0 : w25.cell? ⟨gb235, 0, none⟩ = some (.string a0_0) := (zC BK235.out 0).trans rfl; have hcz26_1 : w25.cell? ⟨gb235, 1, none⟩ = some (.string a0_1) := (zC BK235.out 1).trans rfl; have hcz26_2 : w25.cell? ⟨gb235, 2, none⟩ = some (.string a0_2) := (zC BK235.out 2).trans rfl; have hcz26_3 : w25.cell? ⟨gb235, 3, none⟩ = some (.slice A0_3 l0_3.length c0_3) := (zC BK235.out 3).trans rfl; have hcz26_4 : w25.cell? ⟨gb235, 4, none⟩ = some (.slice A0_4 l0_4.length c0_4) := (zC BK235.out 4).trans rfl; have hfz26_0 := zR BK235.out 0; have hfz26_1 := zR BK235.out 1; have hfz26_2 := zR BK235.out 2; have hfz26_3 := zR BK235.out 3; have hfz26_4 := zR BK235.out 4) | ((with_reducible refine gate_callee (f := 16) rfl ?_); refine goesL_ (some 25) rfl rfl Try.func16 (by kernel_rfl) rfl #[.agg #[.string a0_0, .string a0_1, .string a0_2, .slice A0_3 l0_3.length c0_3, .slice A0_4 l0_4.length c0_4]] rfl (by (try simp only [List.map_toArray, List.map_cons, List.map_nil]); first | done | rfl | (simp only [List.length_drop, List.length_take]; rfl)) ?_; (with_reducible refine (vtree_Copy.calls kj2 a0_0 a0_1 a0_2 _ _ l0_3 _ _ l0_4 t241 t242 t243 t244 t247 t250 _ ?side1 ?side2 ?side3 ?side4 A21.out).mono ?_); (case side1 => repeat (first | exact (Kd.C_below HR0_3.out HB.out) | (with_reducible refine Kd.C_alloc ?_ _) | (with_reducible refine Kd.C_drewN ?_ _) | (with_reducible refine Kd.C_drew ?_))); (case side2 => exact HC0_3.out); (case side3 => repeat (first | exact (Kd.C_below HR0_4.out HB.out) | (with_reducible refine Kd.C_alloc ?_ _) | (with_reducible refine Kd.C_drewN ?_ _) | (with_reducible refine Kd.C_drew ?_))); (case side4 => exact HC0_4.out); rintro e w27 ⟨v245, v248, rfl, ho0, ho1, hb⟩; refine ⟨_, rfl, ?_⟩; have n0_ := Aside0.mk (Kd.R_lower ho0 (below_size (by repeat (first | (with_reducible first | exact HB.out | apply zA | apply zN | apply zD | refine zS ?_ GE235.out | refine zS ?_ GE236.out) | exact HB.out)))); have n1_ := Aside0.mk (Kd.R_lower (Kd.R_newB (Kd.R_newB ho1 (g := gb235) (o := .cells #[.string a0_0, .string a0_1, .string a0_2, .slice A0_3 l0_3.length c0_3, .slice A0_4 l0_4.length c0_4] 25 (0, 0)) (by (with_reducible repeat first | apply zM | apply zE | apply zF); exact BK235.out)) (g := gb236) (o := .cells #[.string a1_0, .string a1_1, .string a1_2, .slice A1_3 l1_3.length c1_3, .slice A1_4 l1_4.length c1_4] 25 (0, 0)) (by (with_reducible repeat first | apply zM | apply zE | apply zF); exact BK236.out)) (below_size (by repeat (first | (with_reducible first | exact HB.out | apply zA | apply zN | apply zD | refine zS ?_ GE235.out | refine zS ?_ GE236.out) | exact HB.out)))); have n2_ := Aside0.mk (blk_below (g := gb235) (o := .cells #[.string a0_0, .string a0_1, .string a0_2, .slice A0_3 l0_3.length c0_3, .slice A0_4 l0_4.length c0_4] 25 (0, 0)) (by (with_reducible repeat first | apply zM | apply zE | apply zF); exact BK235.out) hb); have n3_ := Aside0.mk (blk_below (g := gb236) (o := .cells #[.string a1_0, .string a1_1, .string a1_2, .slice A1_3 l1_3.length c1_3, .slice A1_4 l1_4.length c1_4] 25 (0, 0)) (by (with_reducible repeat first | apply zM | apply zE | apply zF); exact BK236.out) hb); have n4_ := Aside0.mk (below_step (by repeat (first | (with_reducible first | exact HB.out | apply zA | apply zN | apply zD | refine zS ?_ GE235.out | refine zS ?_ GE236.out) | exact HB.out)) hb); clear BK235; clear BK236; clear HB; have HO246 := n0_; have HO249 := n1_; have BK235 := n2_; have BK236 := n3_; have HB := n4_; clear n0_ n1_ n2_ n3_ n4_; (try clear hb); (try clear hb2); (try clear hk); (try clear hi); (try clear ho0); (try clear ho1)) | ((with_reducible refine gate_dst (N := 6) rfl ?_); refine box_event ?hg (N := 6) ?hd (cs := #[.string (⟨#[]⟩ : ByteArray), .string (⟨#[]⟩ : ByteArray), .string (⟨#[]⟩ : ByteArray), .slice none 0 0, .slice none 0 0]) (t := 25) ?hr ?_; (case hd => rfl); (case hg => rfl); (case hr => first | (go_simp; done) | (go_simp; rfl)); intro gb251 hg w28 hbox hb; have n0_ := Aside0.mk (Kd.R_below (by (with_reducible repeat (first | apply Kd.R_alloc | apply Kd.R_drewN | apply Kd.R_drew)); exact HO246.out) hb); have n1_ := Aside0.mk (Kd.R_below (Kd.R_elderB (by (with_reducible repeat (first | apply Kd.R_alloc | apply Kd.R_drewN | apply Kd.R_drew)); exact HO249.out) gb251 (Nat.le_of_eq hg.symm)) hb); have n2_ := Aside0.mk (blk_below (g := gb235) (o := .cells #[.string a0_0, .string a0_1, .string a0_2, .slice A0_3 l0_3.length c0_3, .slice A0_4 l0_4.length c0_4] 25 (0, 0)) (by (with_reducible repeat first | apply zM | apply zE | apply zF); exact BK235.out) hb); have n3_ := Aside0.mk (blk_below (g := gb236) (o := .cells #[.string a1_0, .string a1_1, .string a1_2, .slice A1_3 l1_3.length c1_3, .slice A1_4 l1_4.length c1_4] 25 (0, 0)) (by (with_reducible repeat first | apply zM | apply zE | apply zF); exact BK236.out) hb); have n4_ := Aside0.mk (below_step (by repeat (first | (with_reducible first | exact HB.out | apply zA | apply zN | apply zD | refine zS ?_ GE235.out | refine zS ?_ GE236.out) | exact HB.out)) hb); have n5_ := Aside0.mk (hbox); have n6_ := Aside0.mk ((by rw [hg]; exact (below_size (by repeat (first | (with_reducible first | exact HB.out | apply zA | apply zN | apply zD | refine zS ?_ GE235.out | refine zS ?_ GE236.out) | exact HB.out))) : w.heap.size ≤ gb251)); have n7_ := Aside0.mk ((by rw [hg]; exact (below_size (by repeat (first | (with_reducible first | exact HB.out | apply zA | apply zN | apply zD | refine zS ?_ GE235.out | refine zS ?_ GE236.out) | exact HB.out))) : w.heap.size ≤ gb251)); have n8_ := Aside0.mk ((by rw [hg]; exact Nat.ne_of_lt (blk_lt (g := gb235) (o := .cells #[.string a0_0, .string a0_1, .string a0_2, .slice A0_3 l0_3.length c0_3, .slice A0_4 l0_4.length c0_4] 25 (0, 0)) (by (with_reducible repeat first | apply zM | apply zE | apply zF); exact BK235.out)) : gb235 ≠ gb251)); have n9_ := Aside0.mk ((by rw [hg]; exact Nat.ne_of_gt (blk_lt (g := gb235) (o := .cells #[.string a0_0, .string a0_1, .string a0_2, .slice A0_3 l0_3.length c0_3, .slice A0_4 l0_4.length c0_4] 25 (0, 0)) (by (with_reducible repeat first | apply zM | apply zE | apply zF); exact BK235.out)) : gb251 ≠ gb235)); have n10_ := Aside0.mk ((by rw [hg]; exact Nat.ne_of_lt (blk_lt (g := gb236) (o := .cells #[.string a1_0, .string a1_1, .string a1_2, .slice A1_3 l1_3.length c1_3, .slice A1_4 l1_4.length c1_4] 25 (0, 0)) (by (with_reducible repeat first | apply zM | apply zE | apply zF); exact BK236.out)) : gb236 ≠ gb251)); have n11_ := Aside0.mk ((by rw [hg]; exact Nat.ne_of_gt (blk_lt (g := gb236) (o := .cells #[.string a1_0, .string a1_1, .string a1_2, .slice A1_3 l1_3.length c1_3, .slice A1_4 l1_4.length c1_4] 25 (0, 0)) (by (with_reducible repeat first | apply zM | apply zE | apply zF); exact BK236.out)) : gb251 ≠ gb236)); clear HO246; clear HO249; clear BK235; clear BK236; clear HB; have HO246 := n0_; have HO249 := n1_; have BK235 := n2_; have BK236 := n3_; have HB := n4_; have BK251 := n5_; have GW251 := n6_; have GE251 := n7_; have NB235_251 := n8_; have NB251_235 := n9_; have NB236_251 := n10_; have NB251_236 := n11_; clear n0_ n1_ n2_ n3_ n4_ n5_ n6_ n7_ n8_ n9_ n10_ n11_; clear hb hbox hg; have hnb29 := NB251_235.out; have hnc29 := NB235_251.out; have hnb30 := NB251_236.out; have hnc30 := NB236_251.out; have hcz31_0 : w28.cell? ⟨gb251, 0, none⟩ = some (.string (⟨#[]⟩ : ByteArray)) := (zC BK251.out 0).trans rfl; have hcz31_1 : w28.cell? ⟨gb251, 1, none⟩ = some (.string (⟨#[]⟩ : ByteArray)) := (zC BK251.out 1).trans rfl; have hcz31_2 : w28.cell? ⟨gb251, 2, none⟩ = some (.string (⟨#[]⟩ : ByteArray)) := (zC BK251.out 2).trans rfl; have hcz31_3 : w28.cell? ⟨gb251, 3, none⟩ = some (.slice none 0 0) := (zC BK251.out 3).trans rfl; have hcz31_4 : w28.cell? ⟨gb251, 4, none⟩ = some (.slice none 0 0) := (zC BK251.out 4).trans rfl; have hfz31_0 := zR BK251.out 0; have hfz31_1 := zR BK251.out 1; have hfz31_2 := zR BK251.out 2; have hfz31_3 := zR BK251.out 3; have hfz31_4 := zR BK251.out 4; obtain ⟨Ao32, co32, eo32⟩ := Kd.R_slice HO246.out; subst eo32; obtain ⟨Ao33, co33, eo33⟩ := Kd.R_slice HO249.out; subst eo33))
    (try simp only [Act.put, List.setIfInBounds_toArray, List.set_cons_zero, List.set_cons_succ])
    go_cut [46] (fun v46 wc => ∃ (kq : Nat) (x46_21 : Bool), v46 = .bool x46_21 ∧ Aside0 (tendrillaw11_VtreeSame.j1 kq t240 x46_21 a0_0 a0_1 a0_2 l0_3 l0_4 t241 t242 t243 t244 t247 = some r) ∧ Aside0 (kq ≤ kj2) ∧ Aside0 (Kd.R k42 42 wc w.heap.size (fun _ => True) (.slice Ao32 t244.length co32) t244) ∧ Aside0 (Kd.R k25 25 wc w.heap.size (fun k_ => some k_ ≠ ((.slice Ao32 t244.length co32) : Value).ownBlock ∧ k_ ≠ gb235 ∧ k_ ≠ gb236 ∧ k_ ≠ gb251) (.slice Ao33 t247.length co33) t247) ∧ Aside0 (wc.heap[gb235]? = some (.cells #[.string a0_0, .string a0_1, .string a0_2, (.slice A0_3 l0_3.length c0_3), (.slice A0_4 l0_4.length c0_4)] 25 (0, 0))) ∧ Aside0 (wc.heap[gb236]? = some (.cells #[.string a1_0, .string a1_1, .string a1_2, (.slice A1_3 l1_3.length c1_3), (.slice A1_4 l1_4.length c1_4)] 25 (0, 0))) ∧ Aside0 (wc.heap[gb251]? = some (.cells #[.string t241, .string t242, .string t243, (.slice Ao32 t244.length co32), (.slice Ao33 t247.length co33)] 25 (0, 0))) ∧ Aside0 (Below w.heap.size w wc))
    case first =>
     have H := HC22.out
     clear HC22
     replace H := Option.bind_eq_some_iff.mp H
     obtain ⟨t252, A340, H⟩ := H
     replace H : (if t240 = true then ((tendrilref11_Right.f kj2 a1_0 a1_1 a1_2 l1_3 l1_4).bind fun t253 => (if t253 = true then ((tendrilplain_Nodes.f kj2 a0_0 a0_1 a0_2 l0_3 l0_4 a1_0 a1_1 a1_2 l1_3 l1_4).bind fun t254 => (if (t252 != t254) = true then (tendrillaw11_VtreeSame.j1 kj2 t240 true a0_0 a0_1 a0_2 l0_3 l0_4 t241 t242 t243 t244 t247) else (tendrillaw11_VtreeSame.j1 kj2 t240 (t250 != t240) a0_0 a0_1 a0_2 l0_3 l0_4 t241 t242 t243 t244 t247))) else (if (t252 != false) = true then (tendrillaw11_VtreeSame.j1 kj2 t240 true a0_0 a0_1 a0_2 l0_3 l0_4 t241 t242 t243 t244 t247) else (tendrillaw11_VtreeSame.j1 kj2 t240 (t250 != t240) a0_0 a0_1 a0_2 l0_3 l0_4 t241 t242 t243 t244 t247)))) else (if (t252 != false) = true then (tendrillaw11_VtreeSame.j1 kj2 t240 true a0_0 a0_1 a0_2 l0_3 l0_4 t241 t242 t243 t244 t247) else (tendrillaw11_VtreeSame.j1 kj2 t240 (t250 != t240) a0_0 a0_1 a0_2 l0_3 l0_4 t241 t242 t243 t244 t247))) = some r := H
     have A34 := Aside0.mk A340
     clear A340
     by_cases c35 : t240 = true
     ·
      subst c35
      have H1 : ((tendrilref11_Right.f kj2 a1_0 a1_1 a1_2 l1_3 l1_4).bind fun t253 => (if t253 = true then ((tendrilplain_Nodes.f kj2 a0_0 a0_1 a0_2 l0_3 l0_4 a1_0 a1_1 a1_2 l1_3 l1_4).bind fun t254 => (if (t252 != t254) = true then (tendrillaw11_VtreeSame.j1 kj2 true true a0_0 a0_1 a0_2 l0_3 l0_4 t241 t242 t243 t244 t247) else (tendrillaw11_VtreeSame.j1 kj2 true (t250 != true) a0_0 a0_1 a0_2 l0_3 l0_4 t241 t242 t243 t244 t247))) else (if (t252 != false) = true then (tendrillaw11_VtreeSame.j1 kj2 true true a0_0 a0_1 a0_2 l0_3 l0_4 t241 t242 t243 t244 t247) else (tendrillaw11_VtreeSame.j1 kj2 true (t250 != true) a0_0 a0_1 a0_2 l0_3 l0_4 t241 t242 t243 t244 t247)))) = some r := by rw [if_pos rfl] at H; exact H
      clear H
      have H := H1
      clear H1
      replace H := Option.bind_eq_some_iff.mp H
      obtain ⟨t253, A360, H⟩ := H
      replace H : (if t253 = true then ((tendrilplain_Nodes.f kj2 a0_0 a0_1 a0_2 l0_3 l0_4 a1_0 a1_1 a1_2 l1_3 l1_4).bind fun t254 => (if (t252 != t254) = true then (tendrillaw11_VtreeSame.j1 kj2 true true a0_0 a0_1 a0_2 l0_3 l0_4 t241 t242 t243 t244 t247) else (tendrillaw11_VtreeSame.j1 kj2 true (t250 != true) a0_0 a0_1 a0_2 l0_3 l0_4 t241 t242 t243 t244 t247))) else (if (t252 != false) = true then (tendrillaw11_VtreeSame.j1 kj2 true true a0_0 a0_1 a0_2 l0_3 l0_4 t241 t242 t243 t244 t247) else (tendrillaw11_VtreeSame.j1 kj2 true (t250 != true) a0_0 a0_1 a0_2 l0_3 l0_4 t241 t242 t243 t244 t247))) = some r := H
      have A36 := Aside0.mk A360
      clear A360
      by_cases c37 : t253 = true
      ·
       subst c37
       have H1 : ((tendrilplain_Nodes.f kj2 a0_0 a0_1 a0_2 l0_3 l0_4 a1_0 a1_1 a1_2 l1_3 l1_4).bind fun t254 => (if (t252 != t254) = true then (tendrillaw11_VtreeSame.j1 kj2 true true a0_0 a0_1 a0_2 l0_3 l0_4 t241 t242 t243 t244 t247) else (tendrillaw11_VtreeSame.j1 kj2 true (t250 != true) a0_0 a0_1 a0_2 l0_3 l0_4 t241 t242 t243 t244 t247))) = some r := by rw [if_pos rfl] at H; exact H
       clear H
       have H := H1
       clear H1
       replace H := Option.bind_eq_some_iff.mp H
       obtain ⟨t254, A380, H⟩ := H
       replace H : (if (t252 != t254) = true then (tendrillaw11_VtreeSame.j1 kj2 true true a0_0 a0_1 a0_2 l0_3 l0_4 t241 t242 t243 t244 t247) else (tendrillaw11_VtreeSame.j1 kj2 true (t250 != true) a0_0 a0_1 a0_2 l0_3 l0_4 t241 t242 t243 t244 t247)) = some r := H
       have A38 := Aside0.mk A380
       clear A380
       by_cases c39 : (t252 != t254) = true
       ·
        rw [if_pos c39] at H
        have c39b0 : (t252 != t254) = true := c39
        (try (have c39b1 : decide (t252 = t254) = false := by simpa using c39))
        (try (have c39b2 : (t252 == t254) = false := by simpa using c39))
        (try (have c39b3 : ¬ (t252 = t254) := by simpa using c39))
        clear c39
        (first | rw [c39b0] | (simp only [i64_w, i32_w]; rw [c39b0]) | skip)
        have H' := Aside0.mk H
        clear H
        have hnb40 := NB235_236.out
        have hnc40 := NB236_235.out
        have hnb41 := NB235_251.out
        have hnc41 := NB251_235.out
        have hcz42_0 : w28.cell? ⟨gb235, 0, none⟩ = some (.string a0_0) := (zC BK235.out 0).trans rfl
        have hcz42_1 : w28.cell? ⟨gb235, 1, none⟩ = some (.string a0_1) := (zC BK235.out 1).trans rfl
        have hcz42_2 : w28.cell? ⟨gb235, 2, none⟩ = some (.string a0_2) := (zC BK235.out 2).trans rfl
        have hcz42_3 : w28.cell? ⟨gb235, 3, none⟩ = some (.slice A0_3 l0_3.length c0_3) := (zC BK235.out 3).trans rfl
        have hcz42_4 : w28.cell? ⟨gb235, 4, none⟩ = some (.slice A0_4 l0_4.length c0_4) := (zC BK235.out 4).trans rfl
        have hfz42_0 := zR BK235.out 0
        have hfz42_1 := zR BK235.out 1
        have hfz42_2 := zR BK235.out 2
        have hfz42_3 := zR BK235.out 3
        have hfz42_4 := zR BK235.out 4
        have hnb43 := NB236_251.out
        have hnc43 := NB251_236.out
        have hcz44_0 : w28.cell? ⟨gb236, 0, none⟩ = some (.string a1_0) := (zC BK236.out 0).trans rfl
        have hcz44_1 : w28.cell? ⟨gb236, 1, none⟩ = some (.string a1_1) := (zC BK236.out 1).trans rfl
        have hcz44_2 : w28.cell? ⟨gb236, 2, none⟩ = some (.string a1_2) := (zC BK236.out 2).trans rfl
        have hcz44_3 : w28.cell? ⟨gb236, 3, none⟩ = some (.slice A1_3 l1_3.length c1_3) := (zC BK236.out 3).trans rfl
        have hcz44_4 : w28.cell? ⟨gb236, 4, none⟩ = some (.slice A1_4 l1_4.length c1_4) := (zC BK236.out 4).trans rfl
        have hfz44_0 := zR BK236.out 0
        have hfz44_1 := zR BK236.out 1
        have hfz44_2 := zR BK236.out 2
        have hfz44_3 := zR BK236.out 3
        have hfz44_4 := zR BK236.out 4
        go_wp2_with (first | ((with_reducible refine gate_callee (f := 17) rfl ?_); refine goesL_ (some 30) rfl rfl Try.func17 (by kernel_rfl) rfl #[.agg #[.string a0_0, .string a0_1, .string a0_2, .slice A0_3 l0_3.length c0_3, .slice A0_4 l0_4.length c0_4], .agg #[.string a1_0, .string a1_1, .string a1_2, .slice A1_3 l1_3.length c1_3, .slice A1_4 l1_4.length c1_4]] rfl (by (try simp only [List.map_toArray, List.map_cons, List.map_nil]); first | done | rfl | (simp only [List.length_drop, List.length_take]; rfl)) ?_; (with_reducible refine (vtree_Same.calls kj2 a0_0 a0_1 a0_2 _ _ l0_3 _ _ l0_4 a1_0 a1_1 a1_2 _ _ l1_3 _ _ l1_4 t252 _ ?side1 ?side2 ?side3 ?side4 ?side5 ?side6 ?side7 ?side8 A34.out).mono ?_); (case side1 => exact Kd.C_below HR0_3.out (by repeat (first | (with_reducible first | exact HB.out | apply zA | apply zN | apply zD | refine zS ?_ GE235.out | refine zS ?_ GE236.out | refine zS ?_ GE251.out) | exact HB.out))); (case side2 => exact HC0_3.out); (case side3 => exact Kd.C_below HR0_4.out (by repeat (first | (with_reducible first | exact HB.out | apply zA | apply zN | apply zD | refine zS ?_ GE235.out | refine zS ?_ GE236.out | refine zS ?_ GE251.out) | exact HB.out))); (case side4 => exact HC0_4.out); (case side5 => exact Kd.C_below HR1_3.out (by repeat (first | (with_reducible first | exact HB.out | apply zA | apply zN | apply zD | refine zS ?_ GE235.out | refine zS ?_ GE236.out | refine zS ?_ GE251.out) | exact HB.out))); (case side6 => exact HC1_3.out); (case side7 => exact Kd.C_below HR1_4.out (by repeat (first | (with_reducible first | exact HB.out | apply zA | apply zN | apply zD | refine zS ?_ GE235.out | refine zS ?_ GE236.out | refine zS ?_ GE251.out) | exact HB.out))); (case side8 => exact HC1_4.out); rintro e w45 ⟨rfl, hb⟩; refine ⟨_, rfl, ?_⟩; have n0_ := Aside0.mk (Kd.R_below (by (with_reducible repeat (first | apply Kd.R_alloc | apply Kd.R_drewN | apply Kd.R_drew)); exact (Kd.R_mono (Kd.R_far (p := ⟨gb251, 4, none⟩) (Kd.R_far (p := ⟨gb251, 3, none⟩) (Kd.R_far (p := ⟨gb251, 2, none⟩) (Kd.R_far (p := ⟨gb251, 1, none⟩) (Kd.R_far (p := ⟨gb251, 0, none⟩) (Kd.R_types HO246.out BK251.out (by decide)) (fun _ hk => hk.2) (.string t241)) (fun _ hk => hk.2) (.string t242)) (fun _ hk => hk.2) (.string t243)) (fun _ hk => hk.2) (.slice Ao32 t244.length co32)) (fun _ hk => hk.2) (.slice Ao33 t247.length co33)) (fun _ h_ => h_.1))) hb); have n1_ := Aside0.mk (Kd.R_below (by (with_reducible repeat (first | apply Kd.R_alloc | apply Kd.R_drewN | apply Kd.R_drew)); exact (Kd.R_mono (Kd.R_far (p := ⟨gb251, 4, none⟩) (Kd.R_far (p := ⟨gb251, 3, none⟩) (Kd.R_far (p := ⟨gb251, 2, none⟩) (Kd.R_far (p := ⟨gb251, 1, none⟩) (Kd.R_far (p := ⟨gb251, 0, none⟩) (Kd.R_mono HO249.out (fun k_ hk => (⟨hk, hk.2⟩ : _ ∧ k_ ≠ gb251))) (fun _ hk => hk.2) (.string t241)) (fun _ hk => hk.2) (.string t242)) (fun _ hk => hk.2) (.string t243)) (fun _ hk => hk.2) (.slice Ao32 t244.length co32)) (fun _ hk => hk.2) (.slice Ao33 t247.length co33)) (fun _ h_ => h_.1))) hb); have n2_ := Aside0.mk (blk_below (g := gb235) (o := .cells #[.string a0_0, .string a0_1, .string a0_2, .slice A0_3 l0_3.length c0_3, .slice A0_4 l0_4.length c0_4] 25 (0, 0)) (by (with_reducible repeat first | apply zM | apply zE | apply zF); refine zG ?_ NB235_251.out _; (with_reducible repeat first | apply zM | apply zE | apply zF); refine zG ?_ NB235_251.out _; (with_reducible repeat first | apply zM | apply zE | apply zF); refine zG ?_ NB235_251.out _; (with_reducible repeat first | apply zM | apply zE | apply zF); refine zG ?_ NB235_251.out _; (with_reducible repeat first | apply zM | apply zE | apply zF); refine zG ?_ NB235_251.out _; (with_reducible repeat first | apply zM | apply zE | apply zF); exact BK235.out) hb); have n3_ := Aside0.mk (blk_below (g := gb236) (o := .cells #[.string a1_0, .string a1_1, .string a1_2, .slice A1_3 l1_3.length c1_3, .slice A1_4 l1_4.length c1_4] 25 (0, 0)) (by (with_reducible repeat first | apply zM | apply zE | apply zF); refine zG ?_ NB236_251.out _; (with_reducible repeat first | apply zM | apply zE | apply zF); refine zG ?_ NB236_251.out _; (with_reducible repeat first | apply zM | apply zE | apply zF); refine zG ?_ NB236_251.out _; (with_reducible repeat first | apply zM | apply zE | apply zF); refine zG ?_ NB236_251.out _; (with_reducible repeat first | apply zM | apply zE | apply zF); refine zG ?_ NB236_251.out _; (with_reducible repeat first | apply zM | apply zE | apply zF); exact BK236.out) hb); have n4_ := Aside0.mk (blk_below (g := gb251) (o := .cells #[.string t241, .string t242, .string t243, .slice Ao32 t244.length co32, .slice Ao33 t247.length co33] 25 (0, 0)) (by (with_reducible repeat first | apply zM | apply zE | apply zF); refine zP (cs := #[.string t241, .string t242, .string t243, .slice Ao32 t244.length co32, .slice none 0 0]) ?_ 4 _ rfl; (with_reducible repeat first | apply zM | apply zE | apply zF); refine zP (cs := #[.string t241, .string t242, .string t243, .slice none 0 0, .slice none 0 0]) ?_ 3 _ rfl; (with_reducible repeat first | apply zM | apply zE | apply zF); refine zP (cs := #[.string t241, .string t242, .string (⟨#[]⟩ : ByteArray), .slice none 0 0, .slice none 0 0]) ?_ 2 _ rfl; (with_reducible repeat first | apply zM | apply zE | apply zF); refine zP (cs := #[.string t241, .string (⟨#[]⟩ : ByteArray), .string (⟨#[]⟩ : ByteArray), .slice none 0 0, .slice none 0 0]) ?_ 1 _ rfl; (with_reducible repeat first | apply zM | apply zE | apply zF); refine zP (cs := #[.string (⟨#[]⟩ : ByteArray), .string (⟨#[]⟩ : ByteArray), .string (⟨#[]⟩ : ByteArray), .slice none 0 0, .slice none 0 0]) ?_ 0 _ rfl; (with_reducible repeat first | apply zM | apply zE | apply zF); exact BK251.out) hb); have n5_ := Aside0.mk (below_step (by repeat (first | (with_reducible first | exact HB.out | apply zA | apply zN | apply zD | refine zS ?_ GE235.out | refine zS ?_ GE236.out | refine zS ?_ GE251.out) | exact HB.out)) hb); clear HO246; clear HO249; clear BK235; clear BK236; clear BK251; clear HB; have HO246 := n0_; have HO249 := n1_; have BK235 := n2_; have BK236 := n3_; have BK251 := n4_; have HB := n5_; clear n0_ n1_ n2_ n3_ n4_ n5_; (try clear hb); (try clear hb2); (try clear hk); (try clear hi); have hcz46_0 : w45.cell? ⟨gb236, 0, none⟩ = some (.string a1_0) := (zC BK236.out 0).trans rfl; have hcz46_1 : w45.cell? ⟨gb236, 1, none⟩ = some (.string a1_1) := (zC BK236.out 1).trans rfl; have hcz46_2 : w45.cell? ⟨gb236, 2, none⟩ = some (.string a1_2) := (zC BK236.out 2).trans rfl; have hcz46_3 : w45.cell? ⟨gb236, 3, none⟩ = some (.slice A1_3 l1_3.length c1_3) := (zC BK236.out 3).trans rfl; have hcz46_4 : w45.cell? ⟨gb236, 4, none⟩ = some (.slice A1_4 l1_4.length c1_4) := (zC BK236.out 4).trans rfl; have hfz46_0 := zR BK236.out 0; have hfz46_1 := zR BK236.out 1; have hfz46_2 := zR BK236.out 2; have hfz46_3 := zR BK236.out 3; have hfz46_4 := zR BK236.out 4) | (go_at_call 15; (with_reducible refine (tendrilref11_Right.calls kj2 a1_0 a1_1 a1_2 _ _ l1_3 _ _ l1_4 true _ ?side1 ?side2 ?side3 ?side4 A36.out).mono ?_); (case side1 => repeat (first | exact (Kd.C_below HR1_3.out HB.out) | (with_reducible refine Kd.C_alloc ?_ _) | (with_reducible refine Kd.C_drewN ?_ _) | (with_reducible refine Kd.C_drew ?_))); (case side2 => exact HC1_3.out); (case side3 => repeat (first | exact (Kd.C_below HR1_4.out HB.out) | (with_reducible refine Kd.C_alloc ?_ _) | (with_reducible refine Kd.C_drewN ?_ _) | (with_reducible refine Kd.C_drew ?_))); (case side4 => exact HC1_4.out); rintro e w47 ⟨rfl, hb⟩; have n0_ := Aside0.mk (Kd.R_below (by (with_reducible repeat (first | apply Kd.R_alloc | apply Kd.R_drewN | apply Kd.R_drew)); exact HO246.out) hb); have n1_ := Aside0.mk (Kd.R_below (by (with_reducible repeat (first | apply Kd.R_alloc | apply Kd.R_drewN | apply Kd.R_drew)); exact HO249.out) hb); have n2_ := Aside0.mk (blk_below (g := gb235) (o := .cells #[.string a0_0, .string a0_1, .string a0_2, .slice A0_3 l0_3.length c0_3, .slice A0_4 l0_4.length c0_4] 25 (0, 0)) (by (with_reducible repeat first | apply zM | apply zE | apply zF); exact BK235.out) hb); have n3_ := Aside0.mk (blk_below (g := gb236) (o := .cells #[.string a1_0, .string a1_1, .string a1_2, .slice A1_3 l1_3.length c1_3, .slice A1_4 l1_4.length c1_4] 25 (0, 0)) (by (with_reducible repeat first | apply zM | apply zE | apply zF); exact BK236.out) hb); have n4_ := Aside0.mk (blk_below (g := gb251) (o := .cells #[.string t241, .string t242, .string t243, .slice Ao32 t244.length co32, .slice Ao33 t247.length co33] 25 (0, 0)) (by (with_reducible repeat first | apply zM | apply zE | apply zF); exact BK251.out) hb); have n5_ := Aside0.mk (below_step (by repeat (first | (with_reducible first | exact HB.out | apply zA | apply zN | apply zD | refine zS ?_ GE235.out | refine zS ?_ GE236.out | refine zS ?_ GE251.out) | exact HB.out)) hb); clear HO246; clear HO249; clear BK235; clear BK236; clear BK251; clear HB; have HO246 := n0_; have HO249 := n1_; have BK235 := n2_; have BK236 := n3_; have BK251 := n4_; have HB := n5_; clear n0_ n1_ n2_ n3_ n4_ n5_; (try clear hb); (try clear hb2); (try clear hk); (try clear hi); have hcz48_0 : w47.cell? ⟨gb235, 0, none⟩ = some (.string a0_0) := (zC BK235.out 0).trans rfl; have hcz48_1 : w47.cell? ⟨gb235, 1, none⟩ = some (.string a0_1) := (zC BK235.out 1).trans rfl; have hcz48_2 : w47.cell? ⟨gb235, 2, none⟩ = some (.string a0_2) := (zC BK235.out 2).trans rfl; have hcz48_3 : w47.cell? ⟨gb235, 3, none⟩ = some (.slice A0_3 l0_3.length c0_3) := (zC BK235.out 3).trans rfl; have hcz48_4 : w47.cell? ⟨gb235, 4, none⟩ = some (.slice A0_4 l0_4.length c0_4) := (zC BK235.out 4).trans rfl; have hfz48_0 := zR BK235.out 0; have hfz48_1 := zR BK235.out 1; have hfz48_2 := zR BK235.out 2; have hfz48_3 := zR BK235.out 3; have hfz48_4 := zR BK235.out 4; have hcz49_0 : w47.cell? ⟨gb236, 0, none⟩ = some (.string a1_0) := (zC BK236.out 0).trans rfl; have hcz49_1 : w47.cell? ⟨gb236, 1, none⟩ = some (.string a1_1) := (zC BK236.out 1).trans rfl; have hcz49_2 : w47.cell? ⟨gb236, 2, none⟩ = some (.string a1_2) := (zC BK236.out 2).trans rfl; have hcz49_3 : w47.cell? ⟨gb236, 3, none⟩ = some (.slice A1_3 l1_3.length c1_3) := (zC BK236.out 3).trans rfl; have hcz49_4 : w47.cell? ⟨gb236, 4, none⟩ = some (.slice A1_4 l1_4.length c1_4) := (zC BK236.out 4).trans rfl; have hfz49_0 := zR BK236.out 0; have hfz49_1 := zR BK236.out 1; have hfz49_2 := zR BK236.out 2; have hfz49_3 := zR BK236.out 3; have hfz49_4 := zR BK236.out 4) | (go_at_call 18; (with_reducible refine (tendrilplain_Nodes.calls kj2 a0_0 a0_1 a0_2 _ _ l0_3 _ _ l0_4 a1_0 a1_1 a1_2 _ _ l1_3 _ _ l1_4 t254 _ ?side1 ?side2 ?side3 ?side4 ?side5 ?side6 ?side7 ?side8 A38.out).mono ?_); (case side1 => repeat (first | exact (Kd.C_below HR0_3.out HB.out) | (with_reducible refine Kd.C_alloc ?_ _) | (with_reducible refine Kd.C_drewN ?_ _) | (with_reducible refine Kd.C_drew ?_))); (case side2 => exact HC0_3.out); (case side3 => repeat (first | exact (Kd.C_below HR0_4.out HB.out) | (with_reducible refine Kd.C_alloc ?_ _) | (with_reducible refine Kd.C_drewN ?_ _) | (with_reducible refine Kd.C_drew ?_))); (case side4 => exact HC0_4.out); (case side5 => repeat (first | exact (Kd.C_below HR1_3.out HB.out) | (with_reducible refine Kd.C_alloc ?_ _) | (with_reducible refine Kd.C_drewN ?_ _) | (with_reducible refine Kd.C_drew ?_))); (case side6 => exact HC1_3.out); (case side7 => repeat (first | exact (Kd.C_below HR1_4.out HB.out) | (with_reducible refine Kd.C_alloc ?_ _) | (with_reducible refine Kd.C_drewN ?_ _) | (with_reducible refine Kd.C_drew ?_))); (case side8 => exact HC1_4.out); rintro e w50 ⟨rfl, hb⟩; have n0_ := Aside0.mk (Kd.R_below (by (with_reducible repeat (first | apply Kd.R_alloc | apply Kd.R_drewN | apply Kd.R_drew)); exact HO246.out) hb); have n1_ := Aside0.mk (Kd.R_below (by (with_reducible repeat (first | apply Kd.R_alloc | apply Kd.R_drewN | apply Kd.R_drew)); exact HO249.out) hb); have n2_ := Aside0.mk (blk_below (g := gb235) (o := .cells #[.string a0_0, .string a0_1, .string a0_2, .slice A0_3 l0_3.length c0_3, .slice A0_4 l0_4.length c0_4] 25 (0, 0)) (by (with_reducible repeat first | apply zM | apply zE | apply zF); exact BK235.out) hb); have n3_ := Aside0.mk (blk_below (g := gb236) (o := .cells #[.string a1_0, .string a1_1, .string a1_2, .slice A1_3 l1_3.length c1_3, .slice A1_4 l1_4.length c1_4] 25 (0, 0)) (by (with_reducible repeat first | apply zM | apply zE | apply zF); exact BK236.out) hb); have n4_ := Aside0.mk (blk_below (g := gb251) (o := .cells #[.string t241, .string t242, .string t243, .slice Ao32 t244.length co32, .slice Ao33 t247.length co33] 25 (0, 0)) (by (with_reducible repeat first | apply zM | apply zE | apply zF); exact BK251.out) hb); have n5_ := Aside0.mk (below_step (by repeat (first | (with_reducible first | exact HB.out | apply zA | apply zN | apply zD | refine zS ?_ GE235.out | refine zS ?_ GE236.out | refine zS ?_ GE251.out) | exact HB.out)) hb); clear HO246; clear HO249; clear BK235; clear BK236; clear BK251; clear HB; have HO246 := n0_; have HO249 := n1_; have BK235 := n2_; have BK236 := n3_; have BK251 := n4_; have HB := n5_; clear n0_ n1_ n2_ n3_ n4_ n5_; (try clear hb); (try clear hb2); (try clear hk); (try clear hi)))
        go_meet
        case rel => exact ⟨_, (true), (by first | rfl | (simp; done) | (simp [*]; done)), H', ⟨by have := HJ2.out; first | omega | exact Nat.le_refl _⟩, ⟨by (with_reducible repeat (first | apply Kd.R_alloc | apply Kd.R_drewN | apply Kd.R_drew)); exact HO246.out⟩, ⟨by (with_reducible repeat (first | apply Kd.R_alloc | apply Kd.R_drewN | apply Kd.R_drew)); exact Kd.R_mono HO249.out (fun _ hk => ⟨hk.1.1.1, ⟨hk.1.1.2, ⟨hk.1.2, hk.2⟩⟩⟩)⟩, ⟨by (with_reducible repeat first | apply zM | apply zE | apply zF); exact BK235.out⟩, ⟨by (with_reducible repeat first | apply zM | apply zE | apply zF); exact BK236.out⟩, ⟨by (with_reducible repeat first | apply zM | apply zE | apply zF); exact BK251.out⟩, ⟨by repeat (first | (with_reducible first | exact HB.out | apply zA | apply zN | apply zD | refine zS ?_ GE235.out | refine zS ?_ GE236.out | refine zS ?_ GE251.out) | exact HB.out)⟩⟩
       ·
        rw [if_neg c39] at H
        have c39b0 : (t252 != t254) = false := by simpa using c39
        (try (have c39b1 : decide (t252 = t254) = true := by simpa using c39))
        (try (have c39b2 : (t252 == t254) = true := by simpa using c39))
        clear c39
        (first | rw [c39b0] | (simp only [i64_w, i32_w]; rw [c39b0]) | skip)
        have H' := Aside0.mk H
        clear H
        have hnb51 := NB235_236.out
        have hnc51 := NB236_235.out
        have hnb52 := NB235_251.out
        have hnc52 := NB251_235.out
        have hcz53_0 : w28.cell? ⟨gb235, 0, none⟩ = some (.string a0_0) := (zC BK235.out 0).trans rfl
        have hcz53_1 : w28.cell? ⟨gb235, 1, none⟩ = some (.string a0_1) := (zC BK235.out 1).trans rfl
        have hcz53_2 : w28.cell? ⟨gb235, 2, none⟩ = some (.string a0_2) := (zC BK235.out 2).trans rfl
        have hcz53_3 : w28.cell? ⟨gb235, 3, none⟩ = some (.slice A0_3 l0_3.length c0_3) := (zC BK235.out 3).trans rfl
        have hcz53_4 : w28.cell? ⟨gb235, 4, none⟩ = some (.slice A0_4 l0_4.length c0_4) := (zC BK235.out 4).trans rfl
        have hfz53_0 := zR BK235.out 0
        have hfz53_1 := zR BK235.out 1
        have hfz53_2 := zR BK235.out 2
        have hfz53_3 := zR BK235.out 3
        have hfz53_4 := zR BK235.out 4
        have hnb54 := NB236_251.out
        have hnc54 := NB251_236.out
        have hcz55_0 : w28.cell? ⟨gb236, 0, none⟩ = some (.string a1_0) := (zC BK236.out 0).trans rfl
        have hcz55_1 : w28.cell? ⟨gb236, 1, none⟩ = some (.string a1_1) := (zC BK236.out 1).trans rfl
        have hcz55_2 : w28.cell? ⟨gb236, 2, none⟩ = some (.string a1_2) := (zC BK236.out 2).trans rfl
        have hcz55_3 : w28.cell? ⟨gb236, 3, none⟩ = some (.slice A1_3 l1_3.length c1_3) := (zC BK236.out 3).trans rfl
        have hcz55_4 : w28.cell? ⟨gb236, 4, none⟩ = some (.slice A1_4 l1_4.length c1_4) := (zC BK236.out 4).trans rfl
        have hfz55_0 := zR BK236.out 0
        have hfz55_1 := zR BK236.out 1
        have hfz55_2 := zR BK236.out 2
        have hfz55_3 := zR BK236.out 3
        have hfz55_4 := zR BK236.out 4
        go_wp2_with (first | ((with_reducible refine gate_callee (f := 17) rfl ?_); refine goesL_ (some 30) rfl rfl Try.func17 (by kernel_rfl) rfl #[.agg #[.string a0_0, .string a0_1, .string a0_2, .slice A0_3 l0_3.length c0_3, .slice A0_4 l0_4.length c0_4], .agg #[.string a1_0, .string a1_1, .string a1_2, .slice A1_3 l1_3.length c1_3, .slice A1_4 l1_4.length c1_4]] rfl (by (try simp only [List.map_toArray, List.map_cons, List.map_nil]); first | done | rfl | (simp only [List.length_drop, List.length_take]; rfl)) ?_; (with_reducible refine (vtree_Same.calls kj2 a0_0 a0_1 a0_2 _ _ l0_3 _ _ l0_4 a1_0 a1_1 a1_2 _ _ l1_3 _ _ l1_4 t252 _ ?side1 ?side2 ?side3 ?side4 ?side5 ?side6 ?side7 ?side8 A34.out).mono ?_); (case side1 => exact Kd.C_below HR0_3.out (by repeat (first | (with_reducible first | exact HB.out | apply zA | apply zN | apply zD | refine zS ?_ GE235.out | refine zS ?_ GE236.out | refine zS ?_ GE251.out) | exact HB.out))); (case side2 => exact HC0_3.out); (case side3 => exact Kd.C_below HR0_4.out (by repeat (first | (with_reducible first | exact HB.out | apply zA | apply zN | apply zD | refine zS ?_ GE235.out | refine zS ?_ GE236.out | refine zS ?_ GE251.out) | exact HB.out))); (case side4 => exact HC0_4.out); (case side5 => exact Kd.C_below HR1_3.out (by repeat (first | (with_reducible first | exact HB.out | apply zA | apply zN | apply zD | refine zS ?_ GE235.out | refine zS ?_ GE236.out | refine zS ?_ GE251.out) | exact HB.out))); (case side6 => exact HC1_3.out); (case side7 => exact Kd.C_below HR1_4.out (by repeat (first | (with_reducible first | exact HB.out | apply zA | apply zN | apply zD | refine zS ?_ GE235.out | refine zS ?_ GE236.out | refine zS ?_ GE251.out) | exact HB.out))); (case side8 => exact HC1_4.out); rintro e w56 ⟨rfl, hb⟩; refine ⟨_, rfl, ?_⟩; have n0_ := Aside0.mk (Kd.R_below (by (with_reducible repeat (first | apply Kd.R_alloc | apply Kd.R_drewN | apply Kd.R_drew)); exact (Kd.R_mono (Kd.R_far (p := ⟨gb251, 4, none⟩) (Kd.R_far (p := ⟨gb251, 3, none⟩) (Kd.R_far (p := ⟨gb251, 2, none⟩) (Kd.R_far (p := ⟨gb251, 1, none⟩) (Kd.R_far (p := ⟨gb251, 0, none⟩) (Kd.R_types HO246.out BK251.out (by decide)) (fun _ hk => hk.2) (.string t241)) (fun _ hk => hk.2) (.string t242)) (fun _ hk => hk.2) (.string t243)) (fun _ hk => hk.2) (.slice Ao32 t244.length co32)) (fun _ hk => hk.2) (.slice Ao33 t247.length co33)) (fun _ h_ => h_.1))) hb); have n1_ := Aside0.mk (Kd.R_below (by (with_reducible repeat (first | apply Kd.R_alloc | apply Kd.R_drewN | apply Kd.R_drew)); exact (Kd.R_mono (Kd.R_far (p := ⟨gb251, 4, none⟩) (Kd.R_far (p := ⟨gb251, 3, none⟩) (Kd.R_far (p := ⟨gb251, 2, none⟩) (Kd.R_far (p := ⟨gb251, 1, none⟩) (Kd.R_far (p := ⟨gb251, 0, none⟩) (Kd.R_mono HO249.out (fun k_ hk => (⟨hk, hk.2⟩ : _ ∧ k_ ≠ gb251))) (fun _ hk => hk.2) (.string t241)) (fun _ hk => hk.2) (.string t242)) (fun _ hk => hk.2) (.string t243)) (fun _ hk => hk.2) (.slice Ao32 t244.length co32)) (fun _ hk => hk.2) (.slice Ao33 t247.length co33)) (fun _ h_ => h_.1))) hb); have n2_ := Aside0.mk (blk_below (g := gb235) (o := .cells #[.string a0_0, .string a0_1, .string a0_2, .slice A0_3 l0_3.length c0_3, .slice A0_4 l0_4.length c0_4] 25 (0, 0)) (by (with_reducible repeat first | apply zM | apply zE | apply zF); refine zG ?_ NB235_251.out _; (with_reducible repeat first | apply zM | apply zE | apply zF); refine zG ?_ NB235_251.out _; (with_reducible repeat first | apply zM | apply zE | apply zF); refine zG ?_ NB235_251.out _; (with_reducible repeat first | apply zM | apply zE | apply zF); refine zG ?_ NB235_251.out _; (with_reducible repeat first | apply zM | apply zE | apply zF); refine zG ?_ NB235_251.out _; (with_reducible repeat first | apply zM | apply zE | apply zF); exact BK235.out) hb); have n3_ := Aside0.mk (blk_below (g := gb236) (o := .cells #[.string a1_0, .string a1_1, .string a1_2, .slice A1_3 l1_3.length c1_3, .slice A1_4 l1_4.length c1_4] 25 (0, 0)) (by (with_reducible repeat first | apply zM | apply zE | apply zF); refine zG ?_ NB236_251.out _; (with_reducible repeat first | apply zM | apply zE | apply zF); refine zG ?_ NB236_251.out _; (with_reducible repeat first | apply zM | apply zE | apply zF); refine zG ?_ NB236_251.out _; (with_reducible repeat first | apply zM | apply zE | apply zF); refine zG ?_ NB236_251.out _; (with_reducible repeat first | apply zM | apply zE | apply zF); refine zG ?_ NB236_251.out _; (with_reducible repeat first | apply zM | apply zE | apply zF); exact BK236.out) hb); have n4_ := Aside0.mk (blk_below (g := gb251) (o := .cells #[.string t241, .string t242, .string t243, .slice Ao32 t244.length co32, .slice Ao33 t247.length co33] 25 (0, 0)) (by (with_reducible repeat first | apply zM | apply zE | apply zF); refine zP (cs := #[.string t241, .string t242, .string t243, .slice Ao32 t244.length co32, .slice none 0 0]) ?_ 4 _ rfl; (with_reducible repeat first | apply zM | apply zE | apply zF); refine zP (cs := #[.string t241, .string t242, .string t243, .slice none 0 0, .slice none 0 0]) ?_ 3 _ rfl; (with_reducible repeat first | apply zM | apply zE | apply zF); refine zP (cs := #[.string t241, .string t242, .string (⟨#[]⟩ : ByteArray), .slice none 0 0, .slice none 0 0]) ?_ 2 _ rfl; (with_reducible repeat first | apply zM | apply zE | apply zF); refine zP (cs := #[.string t241, .string (⟨#[]⟩ : ByteArray), .string (⟨#[]⟩ : ByteArray), .slice none 0 0, .slice none 0 0]) ?_ 1 _ rfl; (with_reducible repeat first | apply zM | apply zE | apply zF); refine zP (cs := #[.string (⟨#[]⟩ : ByteArray), .string (⟨#[]⟩ : ByteArray), .string (⟨#[]⟩ : ByteArray), .slice none 0 0, .slice none 0 0]) ?_ 0 _ rfl; (with_reducible repeat first | apply zM | apply zE | apply zF); exact BK251.out) hb); have n5_ := Aside0.mk (below_step (by repeat (first | (with_reducible first | exact HB.out | apply zA | apply zN | apply zD | refine zS ?_ GE235.out | refine zS ?_ GE236.out | refine zS ?_ GE251.out) | exact HB.out)) hb); clear HO246; clear HO249; clear BK235; clear BK236; clear BK251; clear HB; have HO246 := n0_; have HO249 := n1_; have BK235 := n2_; have BK236 := n3_; have BK251 := n4_; have HB := n5_; clear n0_ n1_ n2_ n3_ n4_ n5_; (try clear hb); (try clear hb2); (try clear hk); (try clear hi); have hcz57_0 : w56.cell? ⟨gb236, 0, none⟩ = some (.string a1_0) := (zC BK236.out 0).trans rfl; have hcz57_1 : w56.cell? ⟨gb236, 1, none⟩ = some (.string a1_1) := (zC BK236.out 1).trans rfl; have hcz57_2 : w56.cell? ⟨gb236, 2, none⟩ = some (.string a1_2) := (zC BK236.out 2).trans rfl; have hcz57_3 : w56.cell? ⟨gb236, 3, none⟩ = some (.slice A1_3 l1_3.length c1_3) := (zC BK236.out 3).trans rfl; have hcz57_4 : w56.cell? ⟨gb236, 4, none⟩ = some (.slice A1_4 l1_4.length c1_4) := (zC BK236.out 4).trans rfl; have hfz57_0 := zR BK236.out 0; have hfz57_1 := zR BK236.out 1; have hfz57_2 := zR BK236.out 2; have hfz57_3 := zR BK236.out 3; have hfz57_4 := zR BK236.out 4) | (go_at_call 15; (with_reducible refine (tendrilref11_Right.calls kj2 a1_0 a1_1 a1_2 _ _ l1_3 _ _ l1_4 true _ ?side1 ?side2 ?side3 ?side4 A36.out).mono ?_); (case side1 => repeat (first | exact (Kd.C_below HR1_3.out HB.out) | (with_reducible refine Kd.C_alloc ?_ _) | (with_reducible refine Kd.C_drewN ?_ _) | (with_reducible refine Kd.C_drew ?_))); (case side2 => exact HC1_3.out); (case side3 => repeat (first | exact (Kd.C_below HR1_4.out HB.out) | (with_reducible refine Kd.C_alloc ?_ _) | (with_reducible refine Kd.C_drewN ?_ _) | (with_reducible refine Kd.C_drew ?_))); (case side4 => exact HC1_4.out); rintro e w58 ⟨rfl, hb⟩; have n0_ := Aside0.mk (Kd.R_below (by (with_reducible repeat (first | apply Kd.R_alloc | apply Kd.R_drewN | apply Kd.R_drew)); exact HO246.out) hb); have n1_ := Aside0.mk (Kd.R_below (by (with_reducible repeat (first | apply Kd.R_alloc | apply Kd.R_drewN | apply Kd.R_drew)); exact HO249.out) hb); have n2_ := Aside0.mk (blk_below (g := gb235) (o := .cells #[.string a0_0, .string a0_1, .string a0_2, .slice A0_3 l0_3.length c0_3, .slice A0_4 l0_4.length c0_4] 25 (0, 0)) (by (with_reducible repeat first | apply zM | apply zE | apply zF); exact BK235.out) hb); have n3_ := Aside0.mk (blk_below (g := gb236) (o := .cells #[.string a1_0, .string a1_1, .string a1_2, .slice A1_3 l1_3.length c1_3, .slice A1_4 l1_4.length c1_4] 25 (0, 0)) (by (with_reducible repeat first | apply zM | apply zE | apply zF); exact BK236.out) hb); have n4_ := Aside0.mk (blk_below (g := gb251) (o := .cells #[.string t241, .string t242, .string t243, .slice Ao32 t244.length co32, .slice Ao33 t247.length co33] 25 (0, 0)) (by (with_reducible repeat first | apply zM | apply zE | apply zF); exact BK251.out) hb); have n5_ := Aside0.mk (below_step (by repeat (first | (with_reducible first | exact HB.out | apply zA | apply zN | apply zD | refine zS ?_ GE235.out | refine zS ?_ GE236.out | refine zS ?_ GE251.out) | exact HB.out)) hb); clear HO246; clear HO249; clear BK235; clear BK236; clear BK251; clear HB; have HO246 := n0_; have HO249 := n1_; have BK235 := n2_; have BK236 := n3_; have BK251 := n4_; have HB := n5_; clear n0_ n1_ n2_ n3_ n4_ n5_; (try clear hb); (try clear hb2); (try clear hk); (try clear hi); have hcz59_0 : w58.cell? ⟨gb235, 0, none⟩ = some (.string a0_0) := (zC BK235.out 0).trans rfl; have hcz59_1 : w58.cell? ⟨gb235, 1, none⟩ = some (.string a0_1) := (zC BK235.out 1).trans rfl; have hcz59_2 : w58.cell? ⟨gb235, 2, none⟩ = some (.string a0_2) := (zC BK235.out 2).trans rfl; have hcz59_3 : w58.cell? ⟨gb235, 3, none⟩ = some (.slice A0_3 l0_3.length c0_3) := (zC BK235.out 3).trans rfl; have hcz59_4 : w58.cell? ⟨gb235, 4, none⟩ = some (.slice A0_4 l0_4.length c0_4) := (zC BK235.out 4).trans rfl; have hfz59_0 := zR BK235.out 0; have hfz59_1 := zR BK235.out 1; have hfz59_2 := zR BK235.out 2; have hfz59_3 := zR BK235.out 3; have hfz59_4 := zR BK235.out 4; have hcz60_0 : w58.cell? ⟨gb236, 0, none⟩ = some (.string a1_0) := (zC BK236.out 0).trans rfl; have hcz60_1 : w58.cell? ⟨gb236, 1, none⟩ = some (.string a1_1) := (zC BK236.out 1).trans rfl; have hcz60_2 : w58.cell? ⟨gb236, 2, none⟩ = some (.string a1_2) := (zC BK236.out 2).trans rfl; have hcz60_3 : w58.cell? ⟨gb236, 3, none⟩ = some (.slice A1_3 l1_3.length c1_3) := (zC BK236.out 3).trans rfl; have hcz60_4 : w58.cell? ⟨gb236, 4, none⟩ = some (.slice A1_4 l1_4.length c1_4) := (zC BK236.out 4).trans rfl; have hfz60_0 := zR BK236.out 0; have hfz60_1 := zR BK236.out 1; have hfz60_2 := zR BK236.out 2; have hfz60_3 := zR BK236.out 3; have hfz60_4 := zR BK236.out 4) | (go_at_call 18; (with_reducible refine (tendrilplain_Nodes.calls kj2 a0_0 a0_1 a0_2 _ _ l0_3 _ _ l0_4 a1_0 a1_1 a1_2 _ _ l1_3 _ _ l1_4 t254 _ ?side1 ?side2 ?side3 ?side4 ?side5 ?side6 ?side7 ?side8 A38.out).mono ?_); (case side1 => repeat (first | exact (Kd.C_below HR0_3.out HB.out) | (with_reducible refine Kd.C_alloc ?_ _) | (with_reducible refine Kd.C_drewN ?_ _) | (with_reducible refine Kd.C_drew ?_))); (case side2 => exact HC0_3.out); (case side3 => repeat (first | exact (Kd.C_below HR0_4.out HB.out) | (with_reducible refine Kd.C_alloc ?_ _) | (with_reducible refine Kd.C_drewN ?_ _) | (with_reducible refine Kd.C_drew ?_))); (case side4 => exact HC0_4.out); (case side5 => repeat (first | exact (Kd.C_below HR1_3.out HB.out) | (with_reducible refine Kd.C_alloc ?_ _) | (with_reducible refine Kd.C_drewN ?_ _) | (with_reducible refine Kd.C_drew ?_))); (case side6 => exact HC1_3.out); (case side7 => repeat (first | exact (Kd.C_below HR1_4.out HB.out) | (with_reducible refine Kd.C_alloc ?_ _) | (with_reducible refine Kd.C_drewN ?_ _) | (with_reducible refine Kd.C_drew ?_))); (case side8 => exact HC1_4.out); rintro e w61 ⟨rfl, hb⟩; have n0_ := Aside0.mk (Kd.R_below (by (with_reducible repeat (first | apply Kd.R_alloc | apply Kd.R_drewN | apply Kd.R_drew)); exact HO246.out) hb); have n1_ := Aside0.mk (Kd.R_below (by (with_reducible repeat (first | apply Kd.R_alloc | apply Kd.R_drewN | apply Kd.R_drew)); exact HO249.out) hb); have n2_ := Aside0.mk (blk_below (g := gb235) (o := .cells #[.string a0_0, .string a0_1, .string a0_2, .slice A0_3 l0_3.length c0_3, .slice A0_4 l0_4.length c0_4] 25 (0, 0)) (by (with_reducible repeat first | apply zM | apply zE | apply zF); exact BK235.out) hb); have n3_ := Aside0.mk (blk_below (g := gb236) (o := .cells #[.string a1_0, .string a1_1, .string a1_2, .slice A1_3 l1_3.length c1_3, .slice A1_4 l1_4.length c1_4] 25 (0, 0)) (by (with_reducible repeat first | apply zM | apply zE | apply zF); exact BK236.out) hb); have n4_ := Aside0.mk (blk_below (g := gb251) (o := .cells #[.string t241, .string t242, .string t243, .slice Ao32 t244.length co32, .slice Ao33 t247.length co33] 25 (0, 0)) (by (with_reducible repeat first | apply zM | apply zE | apply zF); exact BK251.out) hb); have n5_ := Aside0.mk (below_step (by repeat (first | (with_reducible first | exact HB.out | apply zA | apply zN | apply zD | refine zS ?_ GE235.out | refine zS ?_ GE236.out | refine zS ?_ GE251.out) | exact HB.out)) hb); clear HO246; clear HO249; clear BK235; clear BK236; clear BK251; clear HB; have HO246 := n0_; have HO249 := n1_; have BK235 := n2_; have BK236 := n3_; have BK251 := n4_; have HB := n5_; clear n0_ n1_ n2_ n3_ n4_ n5_; (try clear hb); (try clear hb2); (try clear hk); (try clear hi)))
        go_meet
        case rel => exact ⟨_, ((t250 != true)), (by first | rfl | (simp; done) | (simp [*]; done)), H', ⟨by have := HJ2.out; first | omega | exact Nat.le_refl _⟩, ⟨by (with_reducible repeat (first | apply Kd.R_alloc | apply Kd.R_drewN | apply Kd.R_drew)); exact HO246.out⟩, ⟨by (with_reducible repeat (first | apply Kd.R_alloc | apply Kd.R_drewN | apply Kd.R_drew)); exact Kd.R_mono HO249.out (fun _ hk => ⟨hk.1.1.1, ⟨hk.1.1.2, ⟨hk.1.2, hk.2⟩⟩⟩)⟩, ⟨by (with_reducible repeat first | apply zM | apply zE | apply zF); exact BK235.out⟩, ⟨by (with_reducible repeat first | apply zM | apply zE | apply zF); exact BK236.out⟩, ⟨by (with_reducible repeat first | apply zM | apply zE | apply zF); exact BK251.out⟩, ⟨by repeat (first | (with_reducible first | exact HB.out | apply zA | apply zN | apply zD | refine zS ?_ GE235.out | refine zS ?_ GE236.out | refine zS ?_ GE251.out) | exact HB.out)⟩⟩
      ·
       replace c37 := Bool.eq_false_iff.mpr c37
       subst c37
       have H1 : (if (t252 != false) = true then (tendrillaw11_VtreeSame.j1 kj2 true true a0_0 a0_1 a0_2 l0_3 l0_4 t241 t242 t243 t244 t247) else (tendrillaw11_VtreeSame.j1 kj2 true (t250 != true) a0_0 a0_1 a0_2 l0_3 l0_4 t241 t242 t243 t244 t247)) = some r := by rw [if_neg (show ¬ (false = true) by decide)] at H; exact H
       clear H
       have H := H1
       clear H1
       by_cases c62 : (t252 != false) = true
       ·
        rw [if_pos c62] at H
        have c62b0 : (t252 != false) = true := c62
        (try (have c62b1 : decide (t252 = false) = false := by simpa using c62))
        (try (have c62b2 : (t252 == false) = false := by simpa using c62))
        (try (have c62b3 : ¬ (t252 = false) := by simpa using c62))
        clear c62
        have H' := Aside0.mk H
        clear H
        have hnb63 := NB235_236.out
        have hnc63 := NB236_235.out
        have hnb64 := NB235_251.out
        have hnc64 := NB251_235.out
        have hcz65_0 : w28.cell? ⟨gb235, 0, none⟩ = some (.string a0_0) := (zC BK235.out 0).trans rfl
        have hcz65_1 : w28.cell? ⟨gb235, 1, none⟩ = some (.string a0_1) := (zC BK235.out 1).trans rfl
        have hcz65_2 : w28.cell? ⟨gb235, 2, none⟩ = some (.string a0_2) := (zC BK235.out 2).trans rfl
        have hcz65_3 : w28.cell? ⟨gb235, 3, none⟩ = some (.slice A0_3 l0_3.length c0_3) := (zC BK235.out 3).trans rfl
        have hcz65_4 : w28.cell? ⟨gb235, 4, none⟩ = some (.slice A0_4 l0_4.length c0_4) := (zC BK235.out 4).trans rfl
        have hfz65_0 := zR BK235.out 0
        have hfz65_1 := zR BK235.out 1
        have hfz65_2 := zR BK235.out 2
        have hfz65_3 := zR BK235.out 3
        have hfz65_4 := zR BK235.out 4
        have hnb66 := NB236_251.out
        have hnc66 := NB251_236.out
        have hcz67_0 : w28.cell? ⟨gb236, 0, none⟩ = some (.string a1_0) := (zC BK236.out 0).trans rfl
        have hcz67_1 : w28.cell? ⟨gb236, 1, none⟩ = some (.string a1_1) := (zC BK236.out 1).trans rfl
        have hcz67_2 : w28.cell? ⟨gb236, 2, none⟩ = some (.string a1_2) := (zC BK236.out 2).trans rfl
        have hcz67_3 : w28.cell? ⟨gb236, 3, none⟩ = some (.slice A1_3 l1_3.length c1_3) := (zC BK236.out 3).trans rfl
        have hcz67_4 : w28.cell? ⟨gb236, 4, none⟩ = some (.slice A1_4 l1_4.length c1_4) := (zC BK236.out 4).trans rfl
        have hfz67_0 := zR BK236.out 0
        have hfz67_1 := zR BK236.out 1
        have hfz67_2 := zR BK236.out 2
        have hfz67_3 := zR BK236.out 3
        have hfz67_4 := zR BK236.out 4
        go_wp2_with (first | ((with_reducible refine gate_callee (f := 17) rfl ?_); refine goesL_ (some 30) rfl rfl Try.func17 (by kernel_rfl) rfl #[.agg #[.string a0_0, .string a0_1, .string a0_2, .slice A0_3 l0_3.length c0_3, .slice A0_4 l0_4.length c0_4], .agg #[.string a1_0, .string a1_1, .string a1_2, .slice A1_3 l1_3.length c1_3, .slice A1_4 l1_4.length c1_4]] rfl (by (try simp only [List.map_toArray, List.map_cons, List.map_nil]); first | done | rfl | (simp only [List.length_drop, List.length_take]; rfl)) ?_; (with_reducible refine (vtree_Same.calls kj2 a0_0 a0_1 a0_2 _ _ l0_3 _ _ l0_4 a1_0 a1_1 a1_2 _ _ l1_3 _ _ l1_4 t252 _ ?side1 ?side2 ?side3 ?side4 ?side5 ?side6 ?side7 ?side8 A34.out).mono ?_); (case side1 => exact Kd.C_below HR0_3.out (by repeat (first | (with_reducible first | exact HB.out | apply zA | apply zN | apply zD | refine zS ?_ GE235.out | refine zS ?_ GE236.out | refine zS ?_ GE251.out) | exact HB.out))); (case side2 => exact HC0_3.out); (case side3 => exact Kd.C_below HR0_4.out (by repeat (first | (with_reducible first | exact HB.out | apply zA | apply zN | apply zD | refine zS ?_ GE235.out | refine zS ?_ GE236.out | refine zS ?_ GE251.out) | exact HB.out))); (case side4 => exact HC0_4.out); (case side5 => exact Kd.C_below HR1_3.out (by repeat (first | (with_reducible first | exact HB.out | apply zA | apply zN | apply zD | refine zS ?_ GE235.out | refine zS ?_ GE236.out | refine zS ?_ GE251.out) | exact HB.out))); (case side6 => exact HC1_3.out); (case side7 => exact Kd.C_below HR1_4.out (by repeat (first | (with_reducible first | exact HB.out | apply zA | apply zN | apply zD | refine zS ?_ GE235.out | refine zS ?_ GE236.out | refine zS ?_ GE251.out) | exact HB.out))); (case side8 => exact HC1_4.out); rintro e w68 ⟨rfl, hb⟩; refine ⟨_, rfl, ?_⟩; have n0_ := Aside0.mk (Kd.R_below (by (with_reducible repeat (first | apply Kd.R_alloc | apply Kd.R_drewN | apply Kd.R_drew)); exact (Kd.R_mono (Kd.R_far (p := ⟨gb251, 4, none⟩) (Kd.R_far (p := ⟨gb251, 3, none⟩) (Kd.R_far (p := ⟨gb251, 2, none⟩) (Kd.R_far (p := ⟨gb251, 1, none⟩) (Kd.R_far (p := ⟨gb251, 0, none⟩) (Kd.R_types HO246.out BK251.out (by decide)) (fun _ hk => hk.2) (.string t241)) (fun _ hk => hk.2) (.string t242)) (fun _ hk => hk.2) (.string t243)) (fun _ hk => hk.2) (.slice Ao32 t244.length co32)) (fun _ hk => hk.2) (.slice Ao33 t247.length co33)) (fun _ h_ => h_.1))) hb); have n1_ := Aside0.mk (Kd.R_below (by (with_reducible repeat (first | apply Kd.R_alloc | apply Kd.R_drewN | apply Kd.R_drew)); exact (Kd.R_mono (Kd.R_far (p := ⟨gb251, 4, none⟩) (Kd.R_far (p := ⟨gb251, 3, none⟩) (Kd.R_far (p := ⟨gb251, 2, none⟩) (Kd.R_far (p := ⟨gb251, 1, none⟩) (Kd.R_far (p := ⟨gb251, 0, none⟩) (Kd.R_mono HO249.out (fun k_ hk => (⟨hk, hk.2⟩ : _ ∧ k_ ≠ gb251))) (fun _ hk => hk.2) (.string t241)) (fun _ hk => hk.2) (.string t242)) (fun _ hk => hk.2) (.string t243)) (fun _ hk => hk.2) (.slice Ao32 t244.length co32)) (fun _ hk => hk.2) (.slice Ao33 t247.length co33)) (fun _ h_ => h_.1))) hb); have n2_ := Aside0.mk (blk_below (g := gb235) (o := .cells #[.string a0_0, .string a0_1, .string a0_2, .slice A0_3 l0_3.length c0_3, .slice A0_4 l0_4.length c0_4] 25 (0, 0)) (by (with_reducible repeat first | apply zM | apply zE | apply zF); refine zG ?_ NB235_251.out _; (with_reducible repeat first | apply zM | apply zE | apply zF); refine zG ?_ NB235_251.out _; (with_reducible repeat first | apply zM | apply zE | apply zF); refine zG ?_ NB235_251.out _; (with_reducible repeat first | apply zM | apply zE | apply zF); refine zG ?_ NB235_251.out _; (with_reducible repeat first | apply zM | apply zE | apply zF); refine zG ?_ NB235_251.out _; (with_reducible repeat first | apply zM | apply zE | apply zF); exact BK235.out) hb); have n3_ := Aside0.mk (blk_below (g := gb236) (o := .cells #[.string a1_0, .string a1_1, .string a1_2, .slice A1_3 l1_3.length c1_3, .slice A1_4 l1_4.length c1_4] 25 (0, 0)) (by (with_reducible repeat first | apply zM | apply zE | apply zF); refine zG ?_ NB236_251.out _; (with_reducible repeat first | apply zM | apply zE | apply zF); refine zG ?_ NB236_251.out _; (with_reducible repeat first | apply zM | apply zE | apply zF); refine zG ?_ NB236_251.out _; (with_reducible repeat first | apply zM | apply zE | apply zF); refine zG ?_ NB236_251.out _; (with_reducible repeat first | apply zM | apply zE | apply zF); refine zG ?_ NB236_251.out _; (with_reducible repeat first | apply zM | apply zE | apply zF); exact BK236.out) hb); have n4_ := Aside0.mk (blk_below (g := gb251) (o := .cells #[.string t241, .string t242, .string t243, .slice Ao32 t244.length co32, .slice Ao33 t247.length co33] 25 (0, 0)) (by (with_reducible repeat first | apply zM | apply zE | apply zF); refine zP (cs := #[.string t241, .string t242, .string t243, .slice Ao32 t244.length co32, .slice none 0 0]) ?_ 4 _ rfl; (with_reducible repeat first | apply zM | apply zE | apply zF); refine zP (cs := #[.string t241, .string t242, .string t243, .slice none 0 0, .slice none 0 0]) ?_ 3 _ rfl; (with_reducible repeat first | apply zM | apply zE | apply zF); refine zP (cs := #[.string t241, .string t242, .string (⟨#[]⟩ : ByteArray), .slice none 0 0, .slice none 0 0]) ?_ 2 _ rfl; (with_reducible repeat first | apply zM | apply zE | apply zF); refine zP (cs := #[.string t241, .string (⟨#[]⟩ : ByteArray), .string (⟨#[]⟩ : ByteArray), .slice none 0 0, .slice none 0 0]) ?_ 1 _ rfl; (with_reducible repeat first | apply zM | apply zE | apply zF); refine zP (cs := #[.string (⟨#[]⟩ : ByteArray), .string (⟨#[]⟩ : ByteArray), .string (⟨#[]⟩ : ByteArray), .slice none 0 0, .slice none 0 0]) ?_ 0 _ rfl; (with_reducible repeat first | apply zM | apply zE | apply zF); exact BK251.out) hb); have n5_ := Aside0.mk (below_step (by repeat (first | (with_reducible first | exact HB.out | apply zA | apply zN | apply zD | refine zS ?_ GE235.out | refine zS ?_ GE236.out | refine zS ?_ GE251.out) | exact HB.out)) hb); clear HO246; clear HO249; clear BK235; clear BK236; clear BK251; clear HB; have HO246 := n0_; have HO249 := n1_; have BK235 := n2_; have BK236 := n3_; have BK251 := n4_; have HB := n5_; clear n0_ n1_ n2_ n3_ n4_ n5_; (try clear hb); (try clear hb2); (try clear hk); (try clear hi); have hcz69_0 : w68.cell? ⟨gb236, 0, none⟩ = some (.string a1_0) := (zC BK236.out 0).trans rfl; have hcz69_1 : w68.cell? ⟨gb236, 1, none⟩ = some (.string a1_1) := (zC BK236.out 1).trans rfl; have hcz69_2 : w68.cell? ⟨gb236, 2, none⟩ = some (.string a1_2) := (zC BK236.out 2).trans rfl; have hcz69_3 : w68.cell? ⟨gb236, 3, none⟩ = some (.slice A1_3 l1_3.length c1_3) := (zC BK236.out 3).trans rfl; have hcz69_4 : w68.cell? ⟨gb236, 4, none⟩ = some (.slice A1_4 l1_4.length c1_4) := (zC BK236.out 4).trans rfl; have hfz69_0 := zR BK236.out 0; have hfz69_1 := zR BK236.out 1; have hfz69_2 := zR BK236.out 2; have hfz69_3 := zR BK236.out 3; have hfz69_4 := zR BK236.out 4) | (go_at_call 15; (with_reducible refine (tendrilref11_Right.calls kj2 a1_0 a1_1 a1_2 _ _ l1_3 _ _ l1_4 false _ ?side1 ?side2 ?side3 ?side4 A36.out).mono ?_); (case side1 => repeat (first | exact (Kd.C_below HR1_3.out HB.out) | (with_reducible refine Kd.C_alloc ?_ _) | (with_reducible refine Kd.C_drewN ?_ _) | (with_reducible refine Kd.C_drew ?_))); (case side2 => exact HC1_3.out); (case side3 => repeat (first | exact (Kd.C_below HR1_4.out HB.out) | (with_reducible refine Kd.C_alloc ?_ _) | (with_reducible refine Kd.C_drewN ?_ _) | (with_reducible refine Kd.C_drew ?_))); (case side4 => exact HC1_4.out); rintro e w70 ⟨rfl, hb⟩; have n0_ := Aside0.mk (Kd.R_below (by (with_reducible repeat (first | apply Kd.R_alloc | apply Kd.R_drewN | apply Kd.R_drew)); exact HO246.out) hb); have n1_ := Aside0.mk (Kd.R_below (by (with_reducible repeat (first | apply Kd.R_alloc | apply Kd.R_drewN | apply Kd.R_drew)); exact HO249.out) hb); have n2_ := Aside0.mk (blk_below (g := gb235) (o := .cells #[.string a0_0, .string a0_1, .string a0_2, .slice A0_3 l0_3.length c0_3, .slice A0_4 l0_4.length c0_4] 25 (0, 0)) (by (with_reducible repeat first | apply zM | apply zE | apply zF); exact BK235.out) hb); have n3_ := Aside0.mk (blk_below (g := gb236) (o := .cells #[.string a1_0, .string a1_1, .string a1_2, .slice A1_3 l1_3.length c1_3, .slice A1_4 l1_4.length c1_4] 25 (0, 0)) (by (with_reducible repeat first | apply zM | apply zE | apply zF); exact BK236.out) hb); have n4_ := Aside0.mk (blk_below (g := gb251) (o := .cells #[.string t241, .string t242, .string t243, .slice Ao32 t244.length co32, .slice Ao33 t247.length co33] 25 (0, 0)) (by (with_reducible repeat first | apply zM | apply zE | apply zF); exact BK251.out) hb); have n5_ := Aside0.mk (below_step (by repeat (first | (with_reducible first | exact HB.out | apply zA | apply zN | apply zD | refine zS ?_ GE235.out | refine zS ?_ GE236.out | refine zS ?_ GE251.out) | exact HB.out)) hb); clear HO246; clear HO249; clear BK235; clear BK236; clear BK251; clear HB; have HO246 := n0_; have HO249 := n1_; have BK235 := n2_; have BK236 := n3_; have BK251 := n4_; have HB := n5_; clear n0_ n1_ n2_ n3_ n4_ n5_; (try clear hb); (try clear hb2); (try clear hk); (try clear hi)))
        go_meet
        case rel => exact ⟨_, (true), (by first | rfl | (simp; done) | (simp [*]; done)), H', ⟨by have := HJ2.out; first | omega | exact Nat.le_refl _⟩, ⟨by (with_reducible repeat (first | apply Kd.R_alloc | apply Kd.R_drewN | apply Kd.R_drew)); exact HO246.out⟩, ⟨by (with_reducible repeat (first | apply Kd.R_alloc | apply Kd.R_drewN | apply Kd.R_drew)); exact Kd.R_mono HO249.out (fun _ hk => ⟨hk.1.1.1, ⟨hk.1.1.2, ⟨hk.1.2, hk.2⟩⟩⟩)⟩, ⟨by (with_reducible repeat first | apply zM | apply zE | apply zF); exact BK235.out⟩, ⟨by (with_reducible repeat first | apply zM | apply zE | apply zF); exact BK236.out⟩, ⟨by (with_reducible repeat first | apply zM | apply zE | apply zF); exact BK251.out⟩, ⟨by repeat (first | (with_reducible first | exact HB.out | apply zA | apply zN | apply zD | refine zS ?_ GE235.out | refine zS ?_ GE236.out | refine zS ?_ GE251.out) | exact HB.out)⟩⟩
       ·
        rw [if_neg c62] at H
        have c62b0 : (t252 != false) = false := by simpa using c62
        (try (have c62b1 : decide (t252 = false) = true := by simpa using c62))
        (try (have c62b2 : (t252 == false) = true := by simpa using c62))
        clear c62
        have H' := Aside0.mk H
        clear H
        have hnb71 := NB235_236.out
        have hnc71 := NB236_235.out
        have hnb72 := NB235_251.out
        have hnc72 := NB251_235.out
        have hcz73_0 : w28.cell? ⟨gb235, 0, none⟩ = some (.string a0_0) := (zC BK235.out 0).trans rfl
        have hcz73_1 : w28.cell? ⟨gb235, 1, none⟩ = some (.string a0_1) := (zC BK235.out 1).trans rfl
        have hcz73_2 : w28.cell? ⟨gb235, 2, none⟩ = some (.string a0_2) := (zC BK235.out 2).trans rfl
        have hcz73_3 : w28.cell? ⟨gb235, 3, none⟩ = some (.slice A0_3 l0_3.length c0_3) := (zC BK235.out 3).trans rfl
        have hcz73_4 : w28.cell? ⟨gb235, 4, none⟩ = some (.slice A0_4 l0_4.length c0_4) := (zC BK235.out 4).trans rfl
        have hfz73_0 := zR BK235.out 0
        have hfz73_1 := zR BK235.out 1
        have hfz73_2 := zR BK235.out 2
        have hfz73_3 := zR BK235.out 3
        have hfz73_4 := zR BK235.out 4
        have hnb74 := NB236_251.out
        have hnc74 := NB251_236.out
        have hcz75_0 : w28.cell? ⟨gb236, 0, none⟩ = some (.string a1_0) := (zC BK236.out 0).trans rfl
        have hcz75_1 : w28.cell? ⟨gb236, 1, none⟩ = some (.string a1_1) := (zC BK236.out 1).trans rfl
        have hcz75_2 : w28.cell? ⟨gb236, 2, none⟩ = some (.string a1_2) := (zC BK236.out 2).trans rfl
        have hcz75_3 : w28.cell? ⟨gb236, 3, none⟩ = some (.slice A1_3 l1_3.length c1_3) := (zC BK236.out 3).trans rfl
        have hcz75_4 : w28.cell? ⟨gb236, 4, none⟩ = some (.slice A1_4 l1_4.length c1_4) := (zC BK236.out 4).trans rfl
        have hfz75_0 := zR BK236.out 0
        have hfz75_1 := zR BK236.out 1
        have hfz75_2 := zR BK236.out 2
        have hfz75_3 := zR BK236.out 3
        have hfz75_4 := zR BK236.out 4
        go_wp2_with (first | ((with_reducible refine gate_callee (f := 17) rfl ?_); refine goesL_ (some 30) rfl rfl Try.func17 (by kernel_rfl) rfl #[.agg #[.string a0_0, .string a0_1, .string a0_2, .slice A0_3 l0_3.length c0_3, .slice A0_4 l0_4.length c0_4], .agg #[.string a1_0, .string a1_1, .string a1_2, .slice A1_3 l1_3.length c1_3, .slice A1_4 l1_4.length c1_4]] rfl (by (try simp only [List.map_toArray, List.map_cons, List.map_nil]); first | done | rfl | (simp only [List.length_drop, List.length_take]; rfl)) ?_; (with_reducible refine (vtree_Same.calls kj2 a0_0 a0_1 a0_2 _ _ l0_3 _ _ l0_4 a1_0 a1_1 a1_2 _ _ l1_3 _ _ l1_4 t252 _ ?side1 ?side2 ?side3 ?side4 ?side5 ?side6 ?side7 ?side8 A34.out).mono ?_); (case side1 => exact Kd.C_below HR0_3.out (by repeat (first | (with_reducible first | exact HB.out | apply zA | apply zN | apply zD | refine zS ?_ GE235.out | refine zS ?_ GE236.out | refine zS ?_ GE251.out) | exact HB.out))); (case side2 => exact HC0_3.out); (case side3 => exact Kd.C_below HR0_4.out (by repeat (first | (with_reducible first | exact HB.out | apply zA | apply zN | apply zD | refine zS ?_ GE235.out | refine zS ?_ GE236.out | refine zS ?_ GE251.out) | exact HB.out))); (case side4 => exact HC0_4.out); (case side5 => exact Kd.C_below HR1_3.out (by repeat (first | (with_reducible first | exact HB.out | apply zA | apply zN | apply zD | refine zS ?_ GE235.out | refine zS ?_ GE236.out | refine zS ?_ GE251.out) | exact HB.out))); (case side6 => exact HC1_3.out); (case side7 => exact Kd.C_below HR1_4.out (by repeat (first | (with_reducible first | exact HB.out | apply zA | apply zN | apply zD | refine zS ?_ GE235.out | refine zS ?_ GE236.out | refine zS ?_ GE251.out) | exact HB.out))); (case side8 => exact HC1_4.out); rintro e w76 ⟨rfl, hb⟩; refine ⟨_, rfl, ?_⟩; have n0_ := Aside0.mk (Kd.R_below (by (with_reducible repeat (first | apply Kd.R_alloc | apply Kd.R_drewN | apply Kd.R_drew)); exact (Kd.R_mono (Kd.R_far (p := ⟨gb251, 4, none⟩) (Kd.R_far (p := ⟨gb251, 3, none⟩) (Kd.R_far (p := ⟨gb251, 2, none⟩) (Kd.R_far (p := ⟨gb251, 1, none⟩) (Kd.R_far (p := ⟨gb251, 0, none⟩) (Kd.R_types HO246.out BK251.out (by decide)) (fun _ hk => hk.2) (.string t241)) (fun _ hk => hk.2) (.string t242)) (fun _ hk => hk.2) (.string t243)) (fun _ hk => hk.2) (.slice Ao32 t244.length co32)) (fun _ hk => hk.2) (.slice Ao33 t247.length co33)) (fun _ h_ => h_.1))) hb); have n1_ := Aside0.mk (Kd.R_below (by (with_reducible repeat (first | apply Kd.R_alloc | apply Kd.R_drewN | apply Kd.R_drew)); exact (Kd.R_mono (Kd.R_far (p := ⟨gb251, 4, none⟩) (Kd.R_far (p := ⟨gb251, 3, none⟩) (Kd.R_far (p := ⟨gb251, 2, none⟩) (Kd.R_far (p := ⟨gb251, 1, none⟩) (Kd.R_far (p := ⟨gb251, 0, none⟩) (Kd.R_mono HO249.out (fun k_ hk => (⟨hk, hk.2⟩ : _ ∧ k_ ≠ gb251))) (fun _ hk => hk.2) (.string t241)) (fun _ hk => hk.2) (.string t242)) (fun _ hk => hk.2) (.string t243)) (fun _ hk => hk.2) (.slice Ao32 t244.length co32)) (fun _ hk => hk.2) (.slice Ao33 t247.length co33)) (fun _ h_ => h_.1))) hb); have n2_ := Aside0.mk (blk_below (g := gb235) (o := .cells #[.string a0_0, .string a0_1, .string a0_2, .slice A0_3 l0_3.length c0_3, .slice A0_4 l0_4.length c0_4] 25 (0, 0)) (by (with_reducible repeat first | apply zM | apply zE | apply zF); refine zG ?_ NB235_251.out _; (with_reducible repeat first | apply zM | apply zE | apply zF); refine zG ?_ NB235_251.out _; (with_reducible repeat first | apply zM | apply zE | apply zF); refine zG ?_ NB235_251.out _; (with_reducible repeat first | apply zM | apply zE | apply zF); refine zG ?_ NB235_251.out _; (with_reducible repeat first | apply zM | apply zE | apply zF); refine zG ?_ NB235_251.out _; (with_reducible repeat first | apply zM | apply zE | apply zF); exact BK235.out) hb); have n3_ := Aside0.mk (blk_below (g := gb236) (o := .cells #[.string a1_0, .string a1_1, .string a1_2, .slice A1_3 l1_3.length c1_3, .slice A1_4 l1_4.length c1_4] 25 (0, 0)) (by (with_reducible repeat first | apply zM | apply zE | apply zF); refine zG ?_ NB236_251.out _; (with_reducible repeat first | apply zM | apply zE | apply zF); refine zG ?_ NB236_251.out _; (with_reducible repeat first | apply zM | apply zE | apply zF); refine zG ?_ NB236_251.out _; (with_reducible repeat first | apply zM | apply zE | apply zF); refine zG ?_ NB236_251.out _; (with_reducible repeat first | apply zM | apply zE | apply zF); refine zG ?_ NB236_251.out _; (with_reducible repeat first | apply zM | apply zE | apply zF); exact BK236.out) hb); have n4_ := Aside0.mk (blk_below (g := gb251) (o := .cells #[.string t241, .string t242, .string t243, .slice Ao32 t244.length co32, .slice Ao33 t247.length co33] 25 (0, 0)) (by (with_reducible repeat first | apply zM | apply zE | apply zF); refine zP (cs := #[.string t241, .string t242, .string t243, .slice Ao32 t244.length co32, .slice none 0 0]) ?_ 4 _ rfl; (with_reducible repeat first | apply zM | apply zE | apply zF); refine zP (cs := #[.string t241, .string t242, .string t243, .slice none 0 0, .slice none 0 0]) ?_ 3 _ rfl; (with_reducible repeat first | apply zM | apply zE | apply zF); refine zP (cs := #[.string t241, .string t242, .string (⟨#[]⟩ : ByteArray), .slice none 0 0, .slice none 0 0]) ?_ 2 _ rfl; (with_reducible repeat first | apply zM | apply zE | apply zF); refine zP (cs := #[.string t241, .string (⟨#[]⟩ : ByteArray), .string (⟨#[]⟩ : ByteArray), .slice none 0 0, .slice none 0 0]) ?_ 1 _ rfl; (with_reducible repeat first | apply zM | apply zE | apply zF); refine zP (cs := #[.string (⟨#[]⟩ : ByteArray), .string (⟨#[]⟩ : ByteArray), .string (⟨#[]⟩ : ByteArray), .slice none 0 0, .slice none 0 0]) ?_ 0 _ rfl; (with_reducible repeat first | apply zM | apply zE | apply zF); exact BK251.out) hb); have n5_ := Aside0.mk (below_step (by repeat (first | (with_reducible first | exact HB.out | apply zA | apply zN | apply zD | refine zS ?_ GE235.out | refine zS ?_ GE236.out | refine zS ?_ GE251.out) | exact HB.out)) hb); clear HO246; clear HO249; clear BK235; clear BK236; clear BK251; clear HB; have HO246 := n0_; have HO249 := n1_; have BK235 := n2_; have BK236 := n3_; have BK251 := n4_; have HB := n5_; clear n0_ n1_ n2_ n3_ n4_ n5_; (try clear hb); (try clear hb2); (try clear hk); (try clear hi); have hcz77_0 : w76.cell? ⟨gb236, 0, none⟩ = some (.string a1_0) := (zC BK236.out 0).trans rfl; have hcz77_1 : w76.cell? ⟨gb236, 1, none⟩ = some (.string a1_1) := (zC BK236.out 1).trans rfl; have hcz77_2 : w76.cell? ⟨gb236, 2, none⟩ = some (.string a1_2) := (zC BK236.out 2).trans rfl; have hcz77_3 : w76.cell? ⟨gb236, 3, none⟩ = some (.slice A1_3 l1_3.length c1_3) := (zC BK236.out 3).trans rfl; have hcz77_4 : w76.cell? ⟨gb236, 4, none⟩ = some (.slice A1_4 l1_4.length c1_4) := (zC BK236.out 4).trans rfl; have hfz77_0 := zR BK236.out 0; have hfz77_1 := zR BK236.out 1; have hfz77_2 := zR BK236.out 2; have hfz77_3 := zR BK236.out 3; have hfz77_4 := zR BK236.out 4) | (go_at_call 15; (with_reducible refine (tendrilref11_Right.calls kj2 a1_0 a1_1 a1_2 _ _ l1_3 _ _ l1_4 false _ ?side1 ?side2 ?side3 ?side4 A36.out).mono ?_); (case side1 => repeat (first | exact (Kd.C_below HR1_3.out HB.out) | (with_reducible refine Kd.C_alloc ?_ _) | (with_reducible refine Kd.C_drewN ?_ _) | (with_reducible refine Kd.C_drew ?_))); (case side2 => exact HC1_3.out); (case side3 => repeat (first | exact (Kd.C_below HR1_4.out HB.out) | (with_reducible refine Kd.C_alloc ?_ _) | (with_reducible refine Kd.C_drewN ?_ _) | (with_reducible refine Kd.C_drew ?_))); (case side4 => exact HC1_4.out); rintro e w78 ⟨rfl, hb⟩; have n0_ := Aside0.mk (Kd.R_below (by (with_reducible repeat (first | apply Kd.R_alloc | apply Kd.R_drewN | apply Kd.R_drew)); exact HO246.out) hb); have n1_ := Aside0.mk (Kd.R_below (by (with_reducible repeat (first | apply Kd.R_alloc | apply Kd.R_drewN | apply Kd.R_drew)); exact HO249.out) hb); have n2_ := Aside0.mk (blk_below (g := gb235) (o := .cells #[.string a0_0, .string a0_1, .string a0_2, .slice A0_3 l0_3.length c0_3, .slice A0_4 l0_4.length c0_4] 25 (0, 0)) (by (with_reducible repeat first | apply zM | apply zE | apply zF); exact BK235.out) hb); have n3_ := Aside0.mk (blk_below (g := gb236) (o := .cells #[.string a1_0, .string a1_1, .string a1_2, .slice A1_3 l1_3.length c1_3, .slice A1_4 l1_4.length c1_4] 25 (0, 0)) (by (with_reducible repeat first | apply zM | apply zE | apply zF); exact BK236.out) hb); have n4_ := Aside0.mk (blk_below (g := gb251) (o := .cells #[.string t241, .string t242, .string t243, .slice Ao32 t244.length co32, .slice Ao33 t247.length co33] 25 (0, 0)) (by (with_reducible repeat first | apply zM | apply zE | apply zF); exact BK251.out) hb); have n5_ := Aside0.mk (below_step (by repeat (first | (with_reducible first | exact HB.out | apply zA | apply zN | apply zD | refine zS ?_ GE235.out | refine zS ?_ GE236.out | refine zS ?_ GE251.out) | exact HB.out)) hb); clear HO246; clear HO249; clear BK235; clear BK236; clear BK251; clear HB; have HO246 := n0_; have HO249 := n1_; have BK235 := n2_; have BK236 := n3_; have BK251 := n4_; have HB := n5_; clear n0_ n1_ n2_ n3_ n4_ n5_; (try clear hb); (try clear hb2); (try clear hk); (try clear hi)))
        go_meet
        case rel => exact ⟨_, ((t250 != true)), (by first | rfl | (simp; done) | (simp [*]; done)), H', ⟨by have := HJ2.out; first | omega | exact Nat.le_refl _⟩, ⟨by (with_reducible repeat (first | apply Kd.R_alloc | apply Kd.R_drewN | apply Kd.R_drew)); exact HO246.out⟩, ⟨by (with_reducible repeat (first | apply Kd.R_alloc | apply Kd.R_drewN | apply Kd.R_drew)); exact Kd.R_mono HO249.out (fun _ hk => ⟨hk.1.1.1, ⟨hk.1.1.2, ⟨hk.1.2, hk.2⟩⟩⟩)⟩, ⟨by (with_reducible repeat first | apply zM | apply zE | apply zF); exact BK235.out⟩, ⟨by (with_reducible repeat first | apply zM | apply zE | apply zF); exact BK236.out⟩, ⟨by (with_reducible repeat first | apply zM | apply zE | apply zF); exact BK251.out⟩, ⟨by repeat (first | (with_reducible first | exact HB.out | apply zA | apply zN | apply zD | refine zS ?_ GE235.out | refine zS ?_ GE236.out | refine zS ?_ GE251.out) | exact HB.out)⟩⟩
     ·
      replace c35 := Bool.eq_false_iff.mpr c35
      subst c35
      have H1 : (if (t252 != false) = true then (tendrillaw11_VtreeSame.j1 kj2 false true a0_0 a0_1 a0_2 l0_3 l0_4 t241 t242 t243 t244 t247) else (tendrillaw11_VtreeSame.j1 kj2 false (t250 != false) a0_0 a0_1 a0_2 l0_3 l0_4 t241 t242 t243 t244 t247)) = some r := by rw [if_neg (show ¬ (false = true) by decide)] at H; exact H
      clear H
      have H := H1
      clear H1
      by_cases c79 : (t252 != false) = true
      ·
       rw [if_pos c79] at H
       have c79b0 : (t252 != false) = true := c79
       (try (have c79b1 : decide (t252 = false) = false := by simpa using c79))
       (try (have c79b2 : (t252 == false) = false := by simpa using c79))
       (try (have c79b3 : ¬ (t252 = false) := by simpa using c79))
       clear c79
       have H' := Aside0.mk H
       clear H
       have hnb80 := NB235_236.out
       have hnc80 := NB236_235.out
       have hnb81 := NB235_251.out
       have hnc81 := NB251_235.out
       have hcz82_0 : w28.cell? ⟨gb235, 0, none⟩ = some (.string a0_0) := (zC BK235.out 0).trans rfl
       have hcz82_1 : w28.cell? ⟨gb235, 1, none⟩ = some (.string a0_1) := (zC BK235.out 1).trans rfl
       have hcz82_2 : w28.cell? ⟨gb235, 2, none⟩ = some (.string a0_2) := (zC BK235.out 2).trans rfl
       have hcz82_3 : w28.cell? ⟨gb235, 3, none⟩ = some (.slice A0_3 l0_3.length c0_3) := (zC BK235.out 3).trans rfl
       have hcz82_4 : w28.cell? ⟨gb235, 4, none⟩ = some (.slice A0_4 l0_4.length c0_4) := (zC BK235.out 4).trans rfl
       have hfz82_0 := zR BK235.out 0
       have hfz82_1 := zR BK235.out 1
       have hfz82_2 := zR BK235.out 2
       have hfz82_3 := zR BK235.out 3
       have hfz82_4 := zR BK235.out 4
       have hnb83 := NB236_251.out
       have hnc83 := NB251_236.out
       have hcz84_0 : w28.cell? ⟨gb236, 0, none⟩ = some (.string a1_0) := (zC BK236.out 0).trans rfl
       have hcz84_1 : w28.cell? ⟨gb236, 1, none⟩ = some (.string a1_1) := (zC BK236.out 1).trans rfl
       have hcz84_2 : w28.cell? ⟨gb236, 2, none⟩ = some (.string a1_2) := (zC BK236.out 2).trans rfl
       have hcz84_3 : w28.cell? ⟨gb236, 3, none⟩ = some (.slice A1_3 l1_3.length c1_3) := (zC BK236.out 3).trans rfl
       have hcz84_4 : w28.cell? ⟨gb236, 4, none⟩ = some (.slice A1_4 l1_4.length c1_4) := (zC BK236.out 4).trans rfl
       have hfz84_0 := zR BK236.out 0
       have hfz84_1 := zR BK236.out 1
       have hfz84_2 := zR BK236.out 2
       have hfz84_3 := zR BK236.out 3
       have hfz84_4 := zR BK236.out 4
       go_wp2_with (first | ((with_reducible refine gate_callee (f := 17) rfl ?_); refine goesL_ (some 30) rfl rfl Try.func17 (by kernel_rfl) rfl #[.agg #[.string a0_0, .string a0_1, .string a0_2, .slice A0_3 l0_3.length c0_3, .slice A0_4 l0_4.length c0_4], .agg #[.string a1_0, .string a1_1, .string a1_2, .slice A1_3 l1_3.length c1_3, .slice A1_4 l1_4.length c1_4]] rfl (by (try simp only [List.map_toArray, List.map_cons, List.map_nil]); first | done | rfl | (simp only [List.length_drop, List.length_take]; rfl)) ?_; (with_reducible refine (vtree_Same.calls kj2 a0_0 a0_1 a0_2 _ _ l0_3 _ _ l0_4 a1_0 a1_1 a1_2 _ _ l1_3 _ _ l1_4 t252 _ ?side1 ?side2 ?side3 ?side4 ?side5 ?side6 ?side7 ?side8 A34.out).mono ?_); (case side1 => exact Kd.C_below HR0_3.out (by repeat (first | (with_reducible first | exact HB.out | apply zA | apply zN | apply zD | refine zS ?_ GE235.out | refine zS ?_ GE236.out | refine zS ?_ GE251.out) | exact HB.out))); (case side2 => exact HC0_3.out); (case side3 => exact Kd.C_below HR0_4.out (by repeat (first | (with_reducible first | exact HB.out | apply zA | apply zN | apply zD | refine zS ?_ GE235.out | refine zS ?_ GE236.out | refine zS ?_ GE251.out) | exact HB.out))); (case side4 => exact HC0_4.out); (case side5 => exact Kd.C_below HR1_3.out (by repeat (first | (with_reducible first | exact HB.out | apply zA | apply zN | apply zD | refine zS ?_ GE235.out | refine zS ?_ GE236.out | refine zS ?_ GE251.out) | exact HB.out))); (case side6 => exact HC1_3.out); (case side7 => exact Kd.C_below HR1_4.out (by repeat (first | (with_reducible first | exact HB.out | apply zA | apply zN | apply zD | refine zS ?_ GE235.out | refine zS ?_ GE236.out | refine zS ?_ GE251.out) | exact HB.out))); (case side8 => exact HC1_4.out); rintro e w85 ⟨rfl, hb⟩; refine ⟨_, rfl, ?_⟩; have n0_ := Aside0.mk (Kd.R_below (by (with_reducible repeat (first | apply Kd.R_alloc | apply Kd.R_drewN | apply Kd.R_drew)); exact (Kd.R_mono (Kd.R_far (p := ⟨gb251, 4, none⟩) (Kd.R_far (p := ⟨gb251, 3, none⟩) (Kd.R_far (p := ⟨gb251, 2, none⟩) (Kd.R_far (p := ⟨gb251, 1, none⟩) (Kd.R_far (p := ⟨gb251, 0, none⟩) (Kd.R_types HO246.out BK251.out (by decide)) (fun _ hk => hk.2) (.string t241)) (fun _ hk => hk.2) (.string t242)) (fun _ hk => hk.2) (.string t243)) (fun _ hk => hk.2) (.slice Ao32 t244.length co32)) (fun _ hk => hk.2) (.slice Ao33 t247.length co33)) (fun _ h_ => h_.1))) hb); have n1_ := Aside0.mk (Kd.R_below (by (with_reducible repeat (first | apply Kd.R_alloc | apply Kd.R_drewN | apply Kd.R_drew)); exact (Kd.R_mono (Kd.R_far (p := ⟨gb251, 4, none⟩) (Kd.R_far (p := ⟨gb251, 3, none⟩) (Kd.R_far (p := ⟨gb251, 2, none⟩) (Kd.R_far (p := ⟨gb251, 1, none⟩) (Kd.R_far (p := ⟨gb251, 0, none⟩) (Kd.R_mono HO249.out (fun k_ hk => (⟨hk, hk.2⟩ : _ ∧ k_ ≠ gb251))) (fun _ hk => hk.2) (.string t241)) (fun _ hk => hk.2) (.string t242)) (fun _ hk => hk.2) (.string t243)) (fun _ hk => hk.2) (.slice Ao32 t244.length co32)) (fun _ hk => hk.2) (.slice Ao33 t247.length co33)) (fun _ h_ => h_.1))) hb); have n2_ := Aside0.mk (blk_below (g := gb235) (o := .cells #[.string a0_0, .string a0_1, .string a0_2, .slice A0_3 l0_3.length c0_3, .slice A0_4 l0_4.length c0_4] 25 (0, 0)) (by (with_reducible repeat first | apply zM | apply zE | apply zF); refine zG ?_ NB235_251.out _; (with_reducible repeat first | apply zM | apply zE | apply zF); refine zG ?_ NB235_251.out _; (with_reducible repeat first | apply zM | apply zE | apply zF); refine zG ?_ NB235_251.out _; (with_reducible repeat first | apply zM | apply zE | apply zF); refine zG ?_ NB235_251.out _; (with_reducible repeat first | apply zM | apply zE | apply zF); refine zG ?_ NB235_251.out _; (with_reducible repeat first | apply zM | apply zE | apply zF); exact BK235.out) hb); have n3_ := Aside0.mk (blk_below (g := gb236) (o := .cells #[.string a1_0, .string a1_1, .string a1_2, .slice A1_3 l1_3.length c1_3, .slice A1_4 l1_4.length c1_4] 25 (0, 0)) (by (with_reducible repeat first | apply zM | apply zE | apply zF); refine zG ?_ NB236_251.out _; (with_reducible repeat first | apply zM | apply zE | apply zF); refine zG ?_ NB236_251.out _; (with_reducible repeat first | apply zM | apply zE | apply zF); refine zG ?_ NB236_251.out _; (with_reducible repeat first | apply zM | apply zE | apply zF); refine zG ?_ NB236_251.out _; (with_reducible repeat first | apply zM | apply zE | apply zF); refine zG ?_ NB236_251.out _; (with_reducible repeat first | apply zM | apply zE | apply zF); exact BK236.out) hb); have n4_ := Aside0.mk (blk_below (g := gb251) (o := .cells #[.string t241, .string t242, .string t243, .slice Ao32 t244.length co32, .slice Ao33 t247.length co33] 25 (0, 0)) (by (with_reducible repeat first | apply zM | apply zE | apply zF); refine zP (cs := #[.string t241, .string t242, .string t243, .slice Ao32 t244.length co32, .slice none 0 0]) ?_ 4 _ rfl; (with_reducible repeat first | apply zM | apply zE | apply zF); refine zP (cs := #[.string t241, .string t242, .string t243, .slice none 0 0, .slice none 0 0]) ?_ 3 _ rfl; (with_reducible repeat first | apply zM | apply zE | apply zF); refine zP (cs := #[.string t241, .string t242, .string (⟨#[]⟩ : ByteArray), .slice none 0 0, .slice none 0 0]) ?_ 2 _ rfl; (with_reducible repeat first | apply zM | apply zE | apply zF); refine zP (cs := #[.string t241, .string (⟨#[]⟩ : ByteArray), .string (⟨#[]⟩ : ByteArray), .slice none 0 0, .slice none 0 0]) ?_ 1 _ rfl; (with_reducible repeat first | apply zM | apply zE | apply zF); refine zP (cs := #[.string (⟨#[]⟩ : ByteArray), .string (⟨#[]⟩ : ByteArray), .string (⟨#[]⟩ : ByteArray), .slice none 0 0, .slice none 0 0]) ?_ 0 _ rfl; (with_reducible repeat first | apply zM | apply zE | apply zF); exact BK251.out) hb); have n5_ := Aside0.mk (below_step (by repeat (first | (with_reducible first | exact HB.out | apply zA | apply zN | apply zD | refine zS ?_ GE235.out | refine zS ?_ GE236.out | refine zS ?_ GE251.out) | exact HB.out)) hb); clear HO246; clear HO249; clear BK235; clear BK236; clear BK251; clear HB; have HO246 := n0_; have HO249 := n1_; have BK235 := n2_; have BK236 := n3_; have BK251 := n4_; have HB := n5_; clear n0_ n1_ n2_ n3_ n4_ n5_; (try clear hb); (try clear hb2); (try clear hk); (try clear hi)))
       go_meet
       case rel => exact ⟨_, (true), (by first | rfl | (simp; done) | (simp [*]; done)), H', ⟨by have := HJ2.out; first | omega | exact Nat.le_refl _⟩, ⟨by (with_reducible repeat (first | apply Kd.R_alloc | apply Kd.R_drewN | apply Kd.R_drew)); exact HO246.out⟩, ⟨by (with_reducible repeat (first | apply Kd.R_alloc | apply Kd.R_drewN | apply Kd.R_drew)); exact Kd.R_mono HO249.out (fun _ hk => ⟨hk.1.1.1, ⟨hk.1.1.2, ⟨hk.1.2, hk.2⟩⟩⟩)⟩, ⟨by (with_reducible repeat first | apply zM | apply zE | apply zF); exact BK235.out⟩, ⟨by (with_reducible repeat first | apply zM | apply zE | apply zF); exact BK236.out⟩, ⟨by (with_reducible repeat first | apply zM | apply zE | apply zF); exact BK251.out⟩, ⟨by repeat (first | (with_reducible first | exact HB.out | apply zA | apply zN | apply zD | refine zS ?_ GE235.out | refine zS ?_ GE236.out | refine zS ?_ GE251.out) | exact HB.out)⟩⟩
      ·
       rw [if_neg c79] at H
       have c79b0 : (t252 != false) = false := by simpa using c79
       (try (have c79b1 : decide (t252 = false) = true := by simpa using c79))
       (try (have c79b2 : (t252 == false) = true := by simpa using c79))
       clear c79
       have H' := Aside0.mk H
       clear H
       have hnb86 := NB235_236.out
       have hnc86 := NB236_235.out
       have hnb87 := NB235_251.out
       have hnc87 := NB251_235.out
       have hcz88_0 : w28.cell? ⟨gb235, 0, none⟩ = some (.string a0_0) := (zC BK235.out 0).trans rfl
       have hcz88_1 : w28.cell? ⟨gb235, 1, none⟩ = some (.string a0_1) := (zC BK235.out 1).trans rfl
       have hcz88_2 : w28.cell? ⟨gb235, 2, none⟩ = some (.string a0_2) := (zC BK235.out 2).trans rfl
       have hcz88_3 : w28.cell? ⟨gb235, 3, none⟩ = some (.slice A0_3 l0_3.length c0_3) := (zC BK235.out 3).trans rfl
       have hcz88_4 : w28.cell? ⟨gb235, 4, none⟩ = some (.slice A0_4 l0_4.length c0_4) := (zC BK235.out 4).trans rfl
       have hfz88_0 := zR BK235.out 0
       have hfz88_1 := zR BK235.out 1
       have hfz88_2 := zR BK235.out 2
       have hfz88_3 := zR BK235.out 3
       have hfz88_4 := zR BK235.out 4
       have hnb89 := NB236_251.out
       have hnc89 := NB251_236.out
       have hcz90_0 : w28.cell? ⟨gb236, 0, none⟩ = some (.string a1_0) := (zC BK236.out 0).trans rfl
       have hcz90_1 : w28.cell? ⟨gb236, 1, none⟩ = some (.string a1_1) := (zC BK236.out 1).trans rfl
       have hcz90_2 : w28.cell? ⟨gb236, 2, none⟩ = some (.string a1_2) := (zC BK236.out 2).trans rfl
       have hcz90_3 : w28.cell? ⟨gb236, 3, none⟩ = some (.slice A1_3 l1_3.length c1_3) := (zC BK236.out 3).trans rfl
       have hcz90_4 : w28.cell? ⟨gb236, 4, none⟩ = some (.slice A1_4 l1_4.length c1_4) := (zC BK236.out 4).trans rfl
       have hfz90_0 := zR BK236.out 0
       have hfz90_1 := zR BK236.out 1
       have hfz90_2 := zR BK236.out 2
       have hfz90_3 := zR BK236.out 3
       have hfz90_4 := zR BK236.out 4
       go_wp2_with (first | ((with_reducible refine gate_callee (f := 17) rfl ?_); refine goesL_ (some 30) rfl rfl Try.func17 (by kernel_rfl) rfl #[.agg #[.string a0_0, .string a0_1, .string a0_2, .slice A0_3 l0_3.length c0_3, .slice A0_4 l0_4.length c0_4], .agg #[.string a1_0, .string a1_1, .string a1_2, .slice A1_3 l1_3.length c1_3, .slice A1_4 l1_4.length c1_4]] rfl (by (try simp only [List.map_toArray, List.map_cons, List.map_nil]); first | done | rfl | (simp only [List.length_drop, List.length_take]; rfl)) ?_; (with_reducible refine (vtree_Same.calls kj2 a0_0 a0_1 a0_2 _ _ l0_3 _ _ l0_4 a1_0 a1_1 a1_2 _ _ l1_3 _ _ l1_4 t252 _ ?side1 ?side2 ?side3 ?side4 ?side5 ?side6 ?side7 ?side8 A34.out).mono ?_); (case side1 => exact Kd.C_below HR0_3.out (by repeat (first | (with_reducible first | exact HB.out | apply zA | apply zN | apply zD | refine zS ?_ GE235.out | refine zS ?_ GE236.out | refine zS ?_ GE251.out) | exact HB.out))); (case side2 => exact HC0_3.out); (case side3 => exact Kd.C_below HR0_4.out (by repeat (first | (with_reducible first | exact HB.out | apply zA | apply zN | apply zD | refine zS ?_ GE235.out | refine zS ?_ GE236.out | refine zS ?_ GE251.out) | exact HB.out))); (case side4 => exact HC0_4.out); (case side5 => exact Kd.C_below HR1_3.out (by repeat (first | (with_reducible first | exact HB.out | apply zA | apply zN | apply zD | refine zS ?_ GE235.out | refine zS ?_ GE236.out | refine zS ?_ GE251.out) | exact HB.out))); (case side6 => exact HC1_3.out); (case side7 => exact Kd.C_below HR1_4.out (by repeat (first | (with_reducible first | exact HB.out | apply zA | apply zN | apply zD | refine zS ?_ GE235.out | refine zS ?_ GE236.out | refine zS ?_ GE251.out) | exact HB.out))); (case side8 => exact HC1_4.out); rintro e w91 ⟨rfl, hb⟩; refine ⟨_, rfl, ?_⟩; have n0_ := Aside0.mk (Kd.R_below (by (with_reducible repeat (first | apply Kd.R_alloc | apply Kd.R_drewN | apply Kd.R_drew)); exact (Kd.R_mono (Kd.R_far (p := ⟨gb251, 4, none⟩) (Kd.R_far (p := ⟨gb251, 3, none⟩) (Kd.R_far (p := ⟨gb251, 2, none⟩) (Kd.R_far (p := ⟨gb251, 1, none⟩) (Kd.R_far (p := ⟨gb251, 0, none⟩) (Kd.R_types HO246.out BK251.out (by decide)) (fun _ hk => hk.2) (.string t241)) (fun _ hk => hk.2) (.string t242)) (fun _ hk => hk.2) (.string t243)) (fun _ hk => hk.2) (.slice Ao32 t244.length co32)) (fun _ hk => hk.2) (.slice Ao33 t247.length co33)) (fun _ h_ => h_.1))) hb); have n1_ := Aside0.mk (Kd.R_below (by (with_reducible repeat (first | apply Kd.R_alloc | apply Kd.R_drewN | apply Kd.R_drew)); exact (Kd.R_mono (Kd.R_far (p := ⟨gb251, 4, none⟩) (Kd.R_far (p := ⟨gb251, 3, none⟩) (Kd.R_far (p := ⟨gb251, 2, none⟩) (Kd.R_far (p := ⟨gb251, 1, none⟩) (Kd.R_far (p := ⟨gb251, 0, none⟩) (Kd.R_mono HO249.out (fun k_ hk => (⟨hk, hk.2⟩ : _ ∧ k_ ≠ gb251))) (fun _ hk => hk.2) (.string t241)) (fun _ hk => hk.2) (.string t242)) (fun _ hk => hk.2) (.string t243)) (fun _ hk => hk.2) (.slice Ao32 t244.length co32)) (fun _ hk => hk.2) (.slice Ao33 t247.length co33)) (fun _ h_ => h_.1))) hb); have n2_ := Aside0.mk (blk_below (g := gb235) (o := .cells #[.string a0_0, .string a0_1, .string a0_2, .slice A0_3 l0_3.length c0_3, .slice A0_4 l0_4.length c0_4] 25 (0, 0)) (by (with_reducible repeat first | apply zM | apply zE | apply zF); refine zG ?_ NB235_251.out _; (with_reducible repeat first | apply zM | apply zE | apply zF); refine zG ?_ NB235_251.out _; (with_reducible repeat first | apply zM | apply zE | apply zF); refine zG ?_ NB235_251.out _; (with_reducible repeat first | apply zM | apply zE | apply zF); refine zG ?_ NB235_251.out _; (with_reducible repeat first | apply zM | apply zE | apply zF); refine zG ?_ NB235_251.out _; (with_reducible repeat first | apply zM | apply zE | apply zF); exact BK235.out) hb); have n3_ := Aside0.mk (blk_below (g := gb236) (o := .cells #[.string a1_0, .string a1_1, .string a1_2, .slice A1_3 l1_3.length c1_3, .slice A1_4 l1_4.length c1_4] 25 (0, 0)) (by (with_reducible repeat first | apply zM | apply zE | apply zF); refine zG ?_ NB236_251.out _; (with_reducible repeat first | apply zM | apply zE | apply zF); refine zG ?_ NB236_251.out _; (with_reducible repeat first | apply zM | apply zE | apply zF); refine zG ?_ NB236_251.out _; (with_reducible repeat first | apply zM | apply zE | apply zF); refine zG ?_ NB236_251.out _; (with_reducible repeat first | apply zM | apply zE | apply zF); refine zG ?_ NB236_251.out _; (with_reducible repeat first | apply zM | apply zE | apply zF); exact BK236.out) hb); have n4_ := Aside0.mk (blk_below (g := gb251) (o := .cells #[.string t241, .string t242, .string t243, .slice Ao32 t244.length co32, .slice Ao33 t247.length co33] 25 (0, 0)) (by (with_reducible repeat first | apply zM | apply zE | apply zF); refine zP (cs := #[.string t241, .string t242, .string t243, .slice Ao32 t244.length co32, .slice none 0 0]) ?_ 4 _ rfl; (with_reducible repeat first | apply zM | apply zE | apply zF); refine zP (cs := #[.string t241, .string t242, .string t243, .slice none 0 0, .slice none 0 0]) ?_ 3 _ rfl; (with_reducible repeat first | apply zM | apply zE | apply zF); refine zP (cs := #[.string t241, .string t242, .string (⟨#[]⟩ : ByteArray), .slice none 0 0, .slice none 0 0]) ?_ 2 _ rfl; (with_reducible repeat first | apply zM | apply zE | apply zF); refine zP (cs := #[.string t241, .string (⟨#[]⟩ : ByteArray), .string (⟨#[]⟩ : ByteArray), .slice none 0 0, .slice none 0 0]) ?_ 1 _ rfl; (with_reducible repeat first | apply zM | apply zE | apply zF); refine zP (cs := #[.string (⟨#[]⟩ : ByteArray), .string (⟨#[]⟩ : ByteArray), .string (⟨#[]⟩ : ByteArray), .slice none 0 0, .slice none 0 0]) ?_ 0 _ rfl; (with_reducible repeat first | apply zM | apply zE | apply zF); exact BK251.out) hb); have n5_ := Aside0.mk (below_step (by repeat (first | (with_reducible first | exact HB.out | apply zA | apply zN | apply zD | refine zS ?_ GE235.out | refine zS ?_ GE236.out | refine zS ?_ GE251.out) | exact HB.out)) hb); clear HO246; clear HO249; clear BK235; clear BK236; clear BK251; clear HB; have HO246 := n0_; have HO249 := n1_; have BK235 := n2_; have BK236 := n3_; have BK251 := n4_; have HB := n5_; clear n0_ n1_ n2_ n3_ n4_ n5_; (try clear hb); (try clear hb2); (try clear hk); (try clear hi)))
       go_meet
       case rel => exact ⟨_, ((t250 != false)), (by first | rfl | (simp; done) | (simp [*]; done)), H', ⟨by have := HJ2.out; first | omega | exact Nat.le_refl _⟩, ⟨by (with_reducible repeat (first | apply Kd.R_alloc | apply Kd.R_drewN | apply Kd.R_drew)); exact HO246.out⟩, ⟨by (with_reducible repeat (first | apply Kd.R_alloc | apply Kd.R_drewN | apply Kd.R_drew)); exact Kd.R_mono HO249.out (fun _ hk => ⟨hk.1.1.1, ⟨hk.1.1.2, ⟨hk.1.2, hk.2⟩⟩⟩)⟩, ⟨by (with_reducible repeat first | apply zM | apply zE | apply zF); exact BK235.out⟩, ⟨by (with_reducible repeat first | apply zM | apply zE | apply zF); exact BK236.out⟩, ⟨by (with_reducible repeat first | apply zM | apply zE | apply zF); exact BK251.out⟩, ⟨by repeat (first | (with_reducible first | exact HB.out | apply zA | apply zN | apply zD | refine zS ?_ GE235.out | refine zS ?_ GE236.out | refine zS ?_ GE251.out) | exact HB.out)⟩⟩
    case rest =>
     clear HC22
     try clear c1
     try clear c2
     try clear p2
     try clear c3
     try clear c4
     try clear c5
     try clear c6
     try clear c7
     try clear c8
     try clear c9
     try clear c14
     try clear c15
     try clear c16
     try clear c17
     try clear c23
     try clear c29
     try clear c30
     try clear c35
     try clear c37
     try clear c39
     try clear c39b0
     try clear c39b1
     try clear c39b2
     try clear c40
     try clear c41
     try clear c43
     try clear c51
     try clear c52
     try clear c54
     try clear c62
     try clear c62b0
     try clear c62b1
     try clear c62b2
     try clear c63
     try clear c64
     try clear c66
     try clear c71
     try clear c72
     try clear c74
     try clear c79
     try clear c79b0
     try clear c79b1
     try clear c79b2
     try clear c80
     try clear c81
     try clear c83
     try clear c86
     try clear c87
     try clear c89
     try clear p2
     obtain ⟨kq, x46_21, rfl, HA, HJ21, HO_252003, HO_252004, BK235, BK236, BK251, HB⟩ := hcut
     cases kq with
     | zero => exact absurd HA.out (by simp [tendrillaw11_VtreeSame.j1])
     | succ kj21 =>
      have H := HA.out
      clear HA
      simp only [tendrillaw11_VtreeSame.j1] at H
      by_cases c92 : x46_21 = true
      ·
       subst c92
       have H1 : (some false) = some r := by rw [if_pos rfl] at H; exact H
       clear H
       have H := H1
       clear H1
       obtain rfl := Option.some.inj H
       go_wp2
       go_ret
       exact ⟨by first | rfl | (simp [errW_none, errW_some] <;> rfl) | (simp [*, errW_none, errW_some] <;> rfl), by repeat (first | (with_reducible first | exact HB.out | apply zA | apply zN | apply zD | refine zS ?_ GE235.out | refine zS ?_ GE236.out | refine zS ?_ GE251.out) | exact HB.out)⟩
      ·
       replace c92 := Bool.eq_false_iff.mpr c92
       subst c92
       have H1 : (if t240 = true then ((tendrilplain_Nodes.f kj21 a0_0 a0_1 a0_2 l0_3 l0_4 t241 t242 t243 t244 t247).bind fun t258 => (if t258 = true then ((tendrillaw11_twin.f kj21 a0_0 a0_1 a0_2 l0_3 l0_4).bind fun bt259 => (tendrillaw11_VtreeSame.l0 kj21 a0_0 (t247.length : Int) 0 a0_0 a0_1 a0_2 l0_3 l0_4 t241 t242 t243 t244 t247 bt259.1 bt259.2.1 bt259.2.2.1 bt259.2.2.2.1 bt259.2.2.2.2)) else (some false))) else ((tendrilplain_Nodes.f kj21 t241 t242 t243 t244 t247 (⟨#[]⟩ : ByteArray) (⟨#[]⟩ : ByteArray) (⟨#[]⟩ : ByteArray) ([] : List (S42)) ([] : List (S25))).bind fun t255 => (if t255 = true then ((vtree_Same.f kj21 a0_0 a0_1 a0_2 l0_3 l0_4 a0_0 a0_1 a0_2 l0_3 l0_4).bind fun t256 => (if t256 = true then (some false) else ((tendrillaw11_same.f kj21).bind fun t257 => (some t257)))) else (some false)))) = some r := by rw [if_neg (show ¬ (false = true) by decide)] at H; exact H
       clear H
       have H := H1
       clear H1
       by_cases c93 : t240 = true
       ·
        subst c93
        have H1 : ((tendrilplain_Nodes.f kj21 a0_0 a0_1 a0_2 l0_3 l0_4 t241 t242 t243 t244 t247).bind fun t258 => (if t258 = true then ((tendrillaw11_twin.f kj21 a0_0 a0_1 a0_2 l0_3 l0_4).bind fun bt259 => (tendrillaw11_VtreeSame.l0 kj21 a0_0 (t247.length : Int) 0 a0_0 a0_1 a0_2 l0_3 l0_4 t241 t242 t243 t244 t247 bt259.1 bt259.2.1 bt259.2.2.1 bt259.2.2.2.1 bt259.2.2.2.2)) else (some false))) = some r := by rw [if_pos rfl] at H; exact H
        clear H
        have H := H1
        clear H1
        replace H := Option.bind_eq_some_iff.mp H
        obtain ⟨t258, A940, H⟩ := H
        replace H : (if t258 = true then ((tendrillaw11_twin.f kj21 a0_0 a0_1 a0_2 l0_3 l0_4).bind fun bt259 => (tendrillaw11_VtreeSame.l0 kj21 a0_0 (t247.length : Int) 0 a0_0 a0_1 a0_2 l0_3 l0_4 t241 t242 t243 t244 t247 bt259.1 bt259.2.1 bt259.2.2.1 bt259.2.2.2.1 bt259.2.2.2.2)) else (some false)) = some r := H
        have A94 := Aside0.mk A940
        clear A940
        by_cases c95 : t258 = true
        ·
         subst c95
         have H1 : ((tendrillaw11_twin.f kj21 a0_0 a0_1 a0_2 l0_3 l0_4).bind fun bt259 => (tendrillaw11_VtreeSame.l0 kj21 a0_0 (t247.length : Int) 0 a0_0 a0_1 a0_2 l0_3 l0_4 t241 t242 t243 t244 t247 bt259.1 bt259.2.1 bt259.2.2.1 bt259.2.2.2.1 bt259.2.2.2.2)) = some r := by rw [if_pos rfl] at H; exact H
         clear H
         have H := H1
         clear H1
         replace H := Option.bind_eq_some_iff.mp H
         obtain ⟨⟨t259, t260, t261, t262, t265⟩, A960, H⟩ := H
         replace H : (tendrillaw11_VtreeSame.l0 kj21 a0_0 (t247.length : Int) 0 a0_0 a0_1 a0_2 l0_3 l0_4 t241 t242 t243 t244 t247 t259 t260 t261 t262 t265) = some r := H
         have A96 := Aside0.mk A960
         clear A960
         have H' := Aside0.mk H
         clear H
         have hnb97 := NB235_236.out
         have hnc97 := NB236_235.out
         have hnb98 := NB235_251.out
         have hnc98 := NB251_235.out
         have hcz99_0 : wc.cell? ⟨gb235, 0, none⟩ = some (.string a0_0) := (zC BK235.out 0).trans rfl
         have hcz99_1 : wc.cell? ⟨gb235, 1, none⟩ = some (.string a0_1) := (zC BK235.out 1).trans rfl
         have hcz99_2 : wc.cell? ⟨gb235, 2, none⟩ = some (.string a0_2) := (zC BK235.out 2).trans rfl
         have hcz99_3 : wc.cell? ⟨gb235, 3, none⟩ = some (.slice A0_3 l0_3.length c0_3) := (zC BK235.out 3).trans rfl
         have hcz99_4 : wc.cell? ⟨gb235, 4, none⟩ = some (.slice A0_4 l0_4.length c0_4) := (zC BK235.out 4).trans rfl
         have hfz99_0 := zR BK235.out 0
         have hfz99_1 := zR BK235.out 1
         have hfz99_2 := zR BK235.out 2
         have hfz99_3 := zR BK235.out 3
         have hfz99_4 := zR BK235.out 4
         have hnb100 := NB251_236.out
         have hnc100 := NB236_251.out
         have hcz101_0 : wc.cell? ⟨gb251, 0, none⟩ = some (.string t241) := (zC BK251.out 0).trans rfl
         have hcz101_1 : wc.cell? ⟨gb251, 1, none⟩ = some (.string t242) := (zC BK251.out 1).trans rfl
         have hcz101_2 : wc.cell? ⟨gb251, 2, none⟩ = some (.string t243) := (zC BK251.out 2).trans rfl
         have hcz101_3 : wc.cell? ⟨gb251, 3, none⟩ = some (.slice Ao32 t244.length co32) := (zC BK251.out 3).trans rfl
         have hcz101_4 : wc.cell? ⟨gb251, 4, none⟩ = some (.slice Ao33 t247.length co33) := (zC BK251.out 4).trans rfl
         have hfz101_0 := zR BK251.out 0
         have hfz101_1 := zR BK251.out 1
         have hfz101_2 := zR BK251.out 2
         have hfz101_3 := zR BK251.out 3
         have hfz101_4 := zR BK251.out 4
         go_wp2_with (first | ((with_reducible refine gate_callee (f := 18) rfl ?_); refine goesL_ (some 63) rfl rfl Try.func18 (by kernel_rfl) rfl #[.agg #[.string a0_0, .string a0_1, .string a0_2, .slice A0_3 l0_3.length c0_3, .slice A0_4 l0_4.length c0_4], .agg #[.string t241, .string t242, .string t243, .slice Ao32 t244.length co32, .slice Ao33 t247.length co33]] rfl (by (try simp only [List.map_toArray, List.map_cons, List.map_nil]); first | done | rfl | (simp only [List.length_drop, List.length_take]; rfl)) ?_; (with_reducible refine (tendrilplain_Nodes.calls kj21 a0_0 a0_1 a0_2 _ _ l0_3 _ _ l0_4 t241 t242 t243 _ _ t244 _ _ t247 true _ ?side1 ?side2 ?side3 ?side4 ?side5 ?side6 ?side7 ?side8 A94.out).mono ?_); (case side1 => repeat (first | exact (Kd.C_below HR0_3.out HB.out) | (with_reducible refine Kd.C_alloc ?_ _) | (with_reducible refine Kd.C_drewN ?_ _) | (with_reducible refine Kd.C_drew ?_))); (case side2 => exact HC0_3.out); (case side3 => repeat (first | exact (Kd.C_below HR0_4.out HB.out) | (with_reducible refine Kd.C_alloc ?_ _) | (with_reducible refine Kd.C_drewN ?_ _) | (with_reducible refine Kd.C_drew ?_))); (case side4 => exact HC0_4.out); (case side5 => repeat (first | exact (Kd.R_reads' HO_252003.out).2.2 | (with_reducible refine Kd.C_alloc ?_ _) | (with_reducible refine Kd.C_drewN ?_ _) | (with_reducible refine Kd.C_drew ?_))); (case side6 => exact (Kd.R_reads' HO_252003.out).2.1); (case side7 => repeat (first | exact (Kd.R_reads' HO_252004.out).2.2 | (with_reducible refine Kd.C_alloc ?_ _) | (with_reducible refine Kd.C_drewN ?_ _) | (with_reducible refine Kd.C_drew ?_))); (case side8 => exact (Kd.R_reads' HO_252004.out).2.1); rintro e w102 ⟨rfl, hb⟩; refine ⟨_, rfl, ?_⟩; have n0_ := Aside0.mk (Kd.R_below (by (with_reducible repeat (first | apply Kd.R_alloc | apply Kd.R_drewN | apply Kd.R_drew)); exact HO_252003.out) hb); have n1_ := Aside0.mk (Kd.R_below (by (with_reducible repeat (first | apply Kd.R_alloc | apply Kd.R_drewN | apply Kd.R_drew)); exact HO_252004.out) hb); have n2_ := Aside0.mk (blk_below (g := gb235) (o := .cells #[.string a0_0, .string a0_1, .string a0_2, .slice A0_3 l0_3.length c0_3, .slice A0_4 l0_4.length c0_4] 25 (0, 0)) (by (with_reducible repeat first | apply zM | apply zE | apply zF); exact BK235.out) hb); have n3_ := Aside0.mk (blk_below (g := gb236) (o := .cells #[.string a1_0, .string a1_1, .string a1_2, .slice A1_3 l1_3.length c1_3, .slice A1_4 l1_4.length c1_4] 25 (0, 0)) (by (with_reducible repeat first | apply zM | apply zE | apply zF); exact BK236.out) hb); have n4_ := Aside0.mk (blk_below (g := gb251) (o := .cells #[.string t241, .string t242, .string t243, .slice Ao32 t244.length co32, .slice Ao33 t247.length co33] 25 (0, 0)) (by (with_reducible repeat first | apply zM | apply zE | apply zF); exact BK251.out) hb); have n5_ := Aside0.mk (below_step (by repeat (first | (with_reducible first | exact HB.out | apply zA | apply zN | apply zD | refine zS ?_ GE235.out | refine zS ?_ GE236.out | refine zS ?_ GE251.out) | exact HB.out)) hb); clear HO_252003; clear HO_252004; clear BK235; clear BK236; clear BK251; clear HB; have HO_252003 := n0_; have HO_252004 := n1_; have BK235 := n2_; have BK236 := n3_; have BK251 := n4_; have HB := n5_; clear n0_ n1_ n2_ n3_ n4_ n5_; (try clear hb); (try clear hb2); (try clear hk); (try clear hi); have hcz103_0 : w102.cell? ⟨gb235, 0, none⟩ = some (.string a0_0) := (zC BK235.out 0).trans rfl; have hcz103_1 : w102.cell? ⟨gb235, 1, none⟩ = some (.string a0_1) := (zC BK235.out 1).trans rfl; have hcz103_2 : w102.cell? ⟨gb235, 2, none⟩ = some (.string a0_2) := (zC BK235.out 2).trans rfl; have hcz103_3 : w102.cell? ⟨gb235, 3, none⟩ = some (.slice A0_3 l0_3.length c0_3) := (zC BK235.out 3).trans rfl; have hcz103_4 : w102.cell? ⟨gb235, 4, none⟩ = some (.slice A0_4 l0_4.length c0_4) := (zC BK235.out 4).trans rfl; have hfz103_0 := zR BK235.out 0; have hfz103_1 := zR BK235.out 1; have hfz103_2 := zR BK235.out 2; have hfz103_3 := zR BK235.out 3; have hfz103_4 := zR BK235.out 4) | ((with_reducible refine gate_callee (f := 19) rfl ?_); refine goesL_ (some 66) rfl rfl Try.func19 (by kernel_rfl) rfl #[.agg #[.string a0_0, .string a0_1, .string a0_2, .slice A0_3 l0_3.length c0_3, .slice A0_4 l0_4.length c0_4]] rfl (by (try simp only [List.map_toArray, List.map_cons, List.map_nil]); first | done | rfl | (simp only [List.length_drop, List.length_take]; rfl)) ?_; (with_reducible refine (tendrillaw11_twin.calls kj21 a0_0 a0_1 a0_2 _ _ l0_3 _ _ l0_4 t259 t260 t261 t262 t265 _ ?side1 ?side2 ?side3 ?side4 A96.out).mono ?_); (case side1 => repeat (first | exact (Kd.C_below HR0_3.out HB.out) | (with_reducible refine Kd.C_alloc ?_ _) | (with_reducible refine Kd.C_drewN ?_ _) | (with_reducible refine Kd.C_drew ?_))); (case side2 => exact HC0_3.out); (case side3 => repeat (first | exact (Kd.C_below HR0_4.out HB.out) | (with_reducible refine Kd.C_alloc ?_ _) | (with_reducible refine Kd.C_drewN ?_ _) | (with_reducible refine Kd.C_drew ?_))); (case side4 => exact HC0_4.out); rintro e w104 ⟨v263, v266, rfl, ho0, ho1, hb⟩; refine ⟨_, rfl, ?_⟩; have n0_ := Aside0.mk (Kd.R_below (by (with_reducible repeat (first | apply Kd.R_alloc | apply Kd.R_drewN | apply Kd.R_drew)); exact HO_252003.out) hb); have n1_ := Aside0.mk (Kd.R_below (by (with_reducible repeat (first | apply Kd.R_alloc | apply Kd.R_drewN | apply Kd.R_drew)); exact HO_252004.out) hb); have n2_ := Aside0.mk (Kd.V_lower (Kd.V_mono (ok' := fun k_ => some k_ ≠ (.slice Ao32 t244.length co32 : Value).ownBlock ∧ some k_ ≠ (.slice Ao33 t247.length co33 : Value).ownBlock ∧ k_ ≠ gb235 ∧ k_ ≠ gb236 ∧ k_ ≠ gb251) ho0 (fun k_ hk_ => ⟨(Kd.fresh' (Kd.R_lt (by (with_reducible repeat (first | apply Kd.R_alloc | apply Kd.R_drewN | apply Kd.R_drew)); exact HO_252003.out)) k_ hk_), (Kd.fresh' (Kd.R_lt (by (with_reducible repeat (first | apply Kd.R_alloc | apply Kd.R_drewN | apply Kd.R_drew)); exact HO_252004.out)) k_ hk_), (Kd.freshB (g := gb235) (o := .cells #[.string a0_0, .string a0_1, .string a0_2, .slice A0_3 l0_3.length c0_3, .slice A0_4 l0_4.length c0_4] 25 (0, 0)) (by (with_reducible repeat first | apply zM | apply zE | apply zF); exact BK235.out) k_ hk_), (Kd.freshB (g := gb236) (o := .cells #[.string a1_0, .string a1_1, .string a1_2, .slice A1_3 l1_3.length c1_3, .slice A1_4 l1_4.length c1_4] 25 (0, 0)) (by (with_reducible repeat first | apply zM | apply zE | apply zF); exact BK236.out) k_ hk_), (Kd.freshB (g := gb251) (o := .cells #[.string t241, .string t242, .string t243, .slice Ao32 t244.length co32, .slice Ao33 t247.length co33] 25 (0, 0)) (by (with_reducible repeat first | apply zM | apply zE | apply zF); exact BK251.out) k_ hk_)⟩)) (below_size (by repeat (first | (with_reducible first | exact HB.out | apply zA | apply zN | apply zD | refine zS ?_ GE235.out | refine zS ?_ GE236.out | refine zS ?_ GE251.out) | exact HB.out)))); have n3_ := Aside0.mk (Kd.V_lower (Kd.V_mono (ok' := fun k_ => some k_ ≠ (.slice Ao32 t244.length co32 : Value).ownBlock ∧ some k_ ≠ (.slice Ao33 t247.length co33 : Value).ownBlock ∧ k_ ≠ gb235 ∧ k_ ≠ gb236 ∧ k_ ≠ gb251) ho1 (fun k_ hk_ => ⟨(Kd.fresh' (Kd.R_lt (by (with_reducible repeat (first | apply Kd.R_alloc | apply Kd.R_drewN | apply Kd.R_drew)); exact HO_252003.out)) k_ hk_), (Kd.fresh' (Kd.R_lt (by (with_reducible repeat (first | apply Kd.R_alloc | apply Kd.R_drewN | apply Kd.R_drew)); exact HO_252004.out)) k_ hk_), (Kd.freshB (g := gb235) (o := .cells #[.string a0_0, .string a0_1, .string a0_2, .slice A0_3 l0_3.length c0_3, .slice A0_4 l0_4.length c0_4] 25 (0, 0)) (by (with_reducible repeat first | apply zM | apply zE | apply zF); exact BK235.out) k_ hk_), (Kd.freshB (g := gb236) (o := .cells #[.string a1_0, .string a1_1, .string a1_2, .slice A1_3 l1_3.length c1_3, .slice A1_4 l1_4.length c1_4] 25 (0, 0)) (by (with_reducible repeat first | apply zM | apply zE | apply zF); exact BK236.out) k_ hk_), (Kd.freshB (g := gb251) (o := .cells #[.string t241, .string t242, .string t243, .slice Ao32 t244.length co32, .slice Ao33 t247.length co33] 25 (0, 0)) (by (with_reducible repeat first | apply zM | apply zE | apply zF); exact BK251.out) k_ hk_)⟩)) (below_size (by repeat (first | (with_reducible first | exact HB.out | apply zA | apply zN | apply zD | refine zS ?_ GE235.out | refine zS ?_ GE236.out | refine zS ?_ GE251.out) | exact HB.out)))); have n4_ := Aside0.mk (blk_below (g := gb235) (o := .cells #[.string a0_0, .string a0_1, .string a0_2, .slice A0_3 l0_3.length c0_3, .slice A0_4 l0_4.length c0_4] 25 (0, 0)) (by (with_reducible repeat first | apply zM | apply zE | apply zF); exact BK235.out) hb); have n5_ := Aside0.mk (blk_below (g := gb236) (o := .cells #[.string a1_0, .string a1_1, .string a1_2, .slice A1_3 l1_3.length c1_3, .slice A1_4 l1_4.length c1_4] 25 (0, 0)) (by (with_reducible repeat first | apply zM | apply zE | apply zF); exact BK236.out) hb); have n6_ := Aside0.mk (blk_below (g := gb251) (o := .cells #[.string t241, .string t242, .string t243, .slice Ao32 t244.length co32, .slice Ao33 t247.length co33] 25 (0, 0)) (by (with_reducible repeat first | apply zM | apply zE | apply zF); exact BK251.out) hb); have n7_ := Aside0.mk (below_step (by repeat (first | (with_reducible first | exact HB.out | apply zA | apply zN | apply zD | refine zS ?_ GE235.out | refine zS ?_ GE236.out | refine zS ?_ GE251.out) | exact HB.out)) hb); clear HO_252003; clear HO_252004; clear BK235; clear BK236; clear BK251; clear HB; have HO_252003 := n0_; have HO_252004 := n1_; have HO264 := n2_; have HO267 := n3_; have BK235 := n4_; have BK236 := n5_; have BK251 := n6_; have HB := n7_; clear n0_ n1_ n2_ n3_ n4_ n5_ n6_ n7_; (try clear hb); (try clear hb2); (try clear hk); (try clear hi); (try clear ho0); (try clear ho1)) | ((with_reducible refine gate_dst (N := 8) rfl ?_); refine box_event ?hg (N := 8) ?hd (cs := #[.string (⟨#[]⟩ : ByteArray), .string (⟨#[]⟩ : ByteArray), .string (⟨#[]⟩ : ByteArray), .slice none 0 0, .slice none 0 0]) (t := 25) ?hr ?_; (case hd => rfl); (case hg => rfl); (case hr => first | (go_simp; done) | (go_simp; rfl)); intro gb268 hg w105 hbox hb; have n0_ := Aside0.mk (Kd.R_below (by (with_reducible repeat (first | apply Kd.R_alloc | apply Kd.R_drewN | apply Kd.R_drew)); exact HO_252003.out) hb); have n1_ := Aside0.mk (Kd.R_below (Kd.R_elderB (by (with_reducible repeat (first | apply Kd.R_alloc | apply Kd.R_drewN | apply Kd.R_drew)); exact HO_252004.out) gb268 (Nat.le_of_eq hg.symm)) hb); have n2_ := Aside0.mk (Kd.V_below (Kd.V_elderB (by (with_reducible repeat (first | apply Kd.V_alloc | apply Kd.V_drewN | apply Kd.V_drew)); exact HO264.out) gb268 (Nat.le_of_eq hg.symm)) hb); have n3_ := Aside0.mk (Kd.V_below (Kd.V_elderB (by (with_reducible repeat (first | apply Kd.V_alloc | apply Kd.V_drewN | apply Kd.V_drew)); exact HO267.out) gb268 (Nat.le_of_eq hg.symm)) hb); have n4_ := Aside0.mk (blk_below (g := gb235) (o := .cells #[.string a0_0, .string a0_1, .string a0_2, .slice A0_3 l0_3.length c0_3, .slice A0_4 l0_4.length c0_4] 25 (0, 0)) (by (with_reducible repeat first | apply zM | apply zE | apply zF); exact BK235.out) hb); have n5_ := Aside0.mk (blk_below (g := gb236) (o := .cells #[.string a1_0, .string a1_1, .string a1_2, .slice A1_3 l1_3.length c1_3, .slice A1_4 l1_4.length c1_4] 25 (0, 0)) (by (with_reducible repeat first | apply zM | apply zE | apply zF); exact BK236.out) hb); have n6_ := Aside0.mk (blk_below (g := gb251) (o := .cells #[.string t241, .string t242, .string t243, .slice Ao32 t244.length co32, .slice Ao33 t247.length co33] 25 (0, 0)) (by (with_reducible repeat first | apply zM | apply zE | apply zF); exact BK251.out) hb); have n7_ := Aside0.mk (below_step (by repeat (first | (with_reducible first | exact HB.out | apply zA | apply zN | apply zD | refine zS ?_ GE235.out | refine zS ?_ GE236.out | refine zS ?_ GE251.out) | exact HB.out)) hb); have n8_ := Aside0.mk (hbox); have n9_ := Aside0.mk ((by rw [hg]; exact (below_size (by repeat (first | (with_reducible first | exact HB.out | apply zA | apply zN | apply zD | refine zS ?_ GE235.out | refine zS ?_ GE236.out | refine zS ?_ GE251.out) | exact HB.out))) : w.heap.size ≤ gb268)); have n10_ := Aside0.mk ((by rw [hg]; exact (below_size (by repeat (first | (with_reducible first | exact HB.out | apply zA | apply zN | apply zD | refine zS ?_ GE235.out | refine zS ?_ GE236.out | refine zS ?_ GE251.out) | exact HB.out))) : w.heap.size ≤ gb268)); have n11_ := Aside0.mk ((by rw [hg]; exact Nat.ne_of_lt (blk_lt (g := gb235) (o := .cells #[.string a0_0, .string a0_1, .string a0_2, .slice A0_3 l0_3.length c0_3, .slice A0_4 l0_4.length c0_4] 25 (0, 0)) (by (with_reducible repeat first | apply zM | apply zE | apply zF); exact BK235.out)) : gb235 ≠ gb268)); have n12_ := Aside0.mk ((by rw [hg]; exact Nat.ne_of_gt (blk_lt (g := gb235) (o := .cells #[.string a0_0, .string a0_1, .string a0_2, .slice A0_3 l0_3.length c0_3, .slice A0_4 l0_4.length c0_4] 25 (0, 0)) (by (with_reducible repeat first | apply zM | apply zE | apply zF); exact BK235.out)) : gb268 ≠ gb235)); have n13_ := Aside0.mk ((by rw [hg]; exact Nat.ne_of_lt (blk_lt (g := gb236) (o := .cells #[.string a1_0, .string a1_1, .string a1_2, .slice A1_3 l1_3.length c1_3, .slice A1_4 l1_4.length c1_4] 25 (0, 0)) (by (with_reducible repeat first | apply zM | apply zE | apply zF); exact BK236.out)) : gb236 ≠ gb268)); have n14_ := Aside0.mk ((by rw [hg]; exact Nat.ne_of_gt (blk_lt (g := gb236) (o := .cells #[.string a1_0, .string a1_1, .string a1_2, .slice A1_3 l1_3.length c1_3, .slice A1_4 l1_4.length c1_4] 25 (0, 0)) (by (with_reducible repeat first | apply zM | apply zE | apply zF); exact BK236.out)) : gb268 ≠ gb236)); have n15_ := Aside0.mk ((by rw [hg]; exact Nat.ne_of_lt (blk_lt (g := gb251) (o := .cells #[.string t241, .string t242, .string t243, .slice Ao32 t244.length co32, .slice Ao33 t247.length co33] 25 (0, 0)) (by (with_reducible repeat first | apply zM | apply zE | apply zF); exact BK251.out)) : gb251 ≠ gb268)); have n16_ := Aside0.mk ((by rw [hg]; exact Nat.ne_of_gt (blk_lt (g := gb251) (o := .cells #[.string t241, .string t242, .string t243, .slice Ao32 t244.length co32, .slice Ao33 t247.length co33] 25 (0, 0)) (by (with_reducible repeat first | apply zM | apply zE | apply zF); exact BK251.out)) : gb268 ≠ gb251)); clear HO_252003; clear HO_252004; clear HO264; clear HO267; clear BK235; clear BK236; clear BK251; clear HB; have HO_252003 := n0_; have HO_252004 := n1_; have HO264 := n2_; have HO267 := n3_; have BK235 := n4_; have BK236 := n5_; have BK251 := n6_; have HB := n7_; have BK268 := n8_; have GW268 := n9_; have GE268 := n10_; have NB235_268 := n11_; have NB268_235 := n12_; have NB236_268 := n13_; have NB268_236 := n14_; have NB251_268 := n15_; have NB268_251 := n16_; clear n0_ n1_ n2_ n3_ n4_ n5_ n6_ n7_ n8_ n9_ n10_ n11_ n12_ n13_ n14_ n15_ n16_; clear hb hbox hg; have hnb106 := NB268_235.out; have hnc106 := NB235_268.out; have hnb107 := NB268_236.out; have hnc107 := NB236_268.out; have hnb108 := NB268_251.out; have hnc108 := NB251_268.out; have hcz109_0 : w105.cell? ⟨gb268, 0, none⟩ = some (.string (⟨#[]⟩ : ByteArray)) := (zC BK268.out 0).trans rfl; have hcz109_1 : w105.cell? ⟨gb268, 1, none⟩ = some (.string (⟨#[]⟩ : ByteArray)) := (zC BK268.out 1).trans rfl; have hcz109_2 : w105.cell? ⟨gb268, 2, none⟩ = some (.string (⟨#[]⟩ : ByteArray)) := (zC BK268.out 2).trans rfl; have hcz109_3 : w105.cell? ⟨gb268, 3, none⟩ = some (.slice none 0 0) := (zC BK268.out 3).trans rfl; have hcz109_4 : w105.cell? ⟨gb268, 4, none⟩ = some (.slice none 0 0) := (zC BK268.out 4).trans rfl; have hfz109_0 := zR BK268.out 0; have hfz109_1 := zR BK268.out 1; have hfz109_2 := zR BK268.out 2; have hfz109_3 := zR BK268.out 3; have hfz109_4 := zR BK268.out 4; obtain ⟨Ao110, co110, eo110⟩ := Kd.V_slice HO264.out; subst eo110; obtain ⟨Ao111, co111, eo111⟩ := Kd.V_slice HO267.out; subst eo111; have hcz112_0 : w105.cell? ⟨gb235, 0, none⟩ = some (.string a0_0) := (zC BK235.out 0).trans rfl; have hcz112_1 : w105.cell? ⟨gb235, 1, none⟩ = some (.string a0_1) := (zC BK235.out 1).trans rfl; have hcz112_2 : w105.cell? ⟨gb235, 2, none⟩ = some (.string a0_2) := (zC BK235.out 2).trans rfl; have hcz112_3 : w105.cell? ⟨gb235, 3, none⟩ = some (.slice A0_3 l0_3.length c0_3) := (zC BK235.out 3).trans rfl; have hcz112_4 : w105.cell? ⟨gb235, 4, none⟩ = some (.slice A0_4 l0_4.length c0_4) := (zC BK235.out 4).trans rfl; have hfz112_0 := zR BK235.out 0; have hfz112_1 := zR BK235.out 1; have hfz112_2 := zR BK235.out 2; have hfz112_3 := zR BK235.out 3; have hfz112_4 := zR BK235.out 4; have hcz113_0 : w105.cell? ⟨gb251, 0, none⟩ = some (.string t241) := (zC BK251.out 0).trans rfl; have hcz113_1 : w105.cell? ⟨gb251, 1, none⟩ = some (.string t242) := (zC BK251.out 1).trans rfl; have hcz113_2 : w105.cell? ⟨gb251, 2, none⟩ = some (.string t243) := (zC BK251.out 2).trans rfl; have hcz113_3 : w105.cell? ⟨gb251, 3, none⟩ = some (.slice Ao32 t244.length co32) := (zC BK251.out 3).trans rfl; have hcz113_4 : w105.cell? ⟨gb251, 4, none⟩ = some (.slice Ao33 t247.length co33) := (zC BK251.out 4).trans rfl; have hfz113_0 := zR BK251.out 0; have hfz113_1 := zR BK251.out 1; have hfz113_2 := zR BK251.out 2; have hfz113_3 := zR BK251.out 3; have hfz113_4 := zR BK251.out 4))
         go_loopg [72] kj21 (fun kq v72 w' => ∃ (x72_3 : Int) (x236000_3 : ByteArray) (x237000_3 : ByteArray) (x252000_3 : ByteArray) (x252004_3 : List (S25)) (x269000_3 : ByteArray) (x269004_3 : List (S25)) (u252004 : Value) (u269004 : Value), v72 = .int .i64 x72_3 ∧ Aside0 (tendrillaw11_VtreeSame.l0 kq a0_0 (t247.length : Int) x72_3 x236000_3 a0_1 a0_2 l0_3 l0_4 x252000_3 t242 t243 t244 x252004_3 x269000_3 t260 t261 t262 x269004_3 = some r) ∧ Aside0 (kq ≤ kj21) ∧ Aside0 (Kd.R k42 42 w' w.heap.size (fun _ => True) (.slice Ao32 t244.length co32) t244) ∧ Aside0 (Kd.R k25 25 w' w.heap.size (fun k_ => some k_ ≠ ((.slice Ao32 t244.length co32) : Value).ownBlock ∧ k_ ≠ gb235 ∧ k_ ≠ gb236 ∧ k_ ≠ gb251 ∧ k_ ≠ gb268) u252004 x252004_3) ∧ Aside0 (Kd.V k42 42 w' w.heap.size (fun k_ => some k_ ≠ ((.slice Ao32 t244.length co32) : Value).ownBlock ∧ some k_ ≠ (u252004 : Value).ownBlock ∧ k_ ≠ gb235 ∧ k_ ≠ gb236 ∧ k_ ≠ gb251 ∧ k_ ≠ gb268) (.slice Ao110 t262.length co110) t262) ∧ Aside0 (Kd.V k25 25 w' w.heap.size (fun k_ => some k_ ≠ ((.slice Ao32 t244.length co32) : Value).ownBlock ∧ some k_ ≠ (u252004 : Value).ownBlock ∧ k_ ≠ gb235 ∧ k_ ≠ gb236 ∧ k_ ≠ gb251 ∧ k_ ≠ gb268) u269004 x269004_3) ∧ Aside0 (w'.heap[gb235]? = some (.cells #[.string x236000_3, .string a0_1, .string a0_2, (.slice A0_3 l0_3.length c0_3), (.slice A0_4 l0_4.length c0_4)] 25 (0, 0))) ∧ Aside0 (w'.heap[gb236]? = some (.cells #[.string x237000_3, .string a1_1, .string a1_2, (.slice A1_3 l1_3.length c1_3), (.slice A1_4 l1_4.length c1_4)] 25 (0, 0))) ∧ Aside0 (w'.heap[gb251]? = some (.cells #[.string x252000_3, .string t242, .string t243, (.slice Ao32 t244.length co32), u252004] 25 (0, 0))) ∧ Aside0 (w'.heap[gb268]? = some (.cells #[.string x269000_3, .string t260, .string t261, (.slice Ao110 t262.length co110), u269004] 25 (0, 0))) ∧ Aside0 (Below w.heap.size w w'))
         case atStart => exact ⟨(0), (a0_0), (a1_0), (t241), (t247), (t259), (t265), (.slice Ao33 t247.length co33), (.slice Ao111 t265.length co111), (by first | rfl | (simp; done) | (simp [*]; done)), H', ⟨Nat.le_refl _⟩, ⟨by (with_reducible repeat (first | apply Kd.R_alloc | apply Kd.R_drewN | apply Kd.R_drew)); exact Kd.R_mono (Kd.R_far (p := ⟨gb268, 4, none⟩) (Kd.R_far (p := ⟨gb268, 3, none⟩) (Kd.R_far (p := ⟨gb268, 2, none⟩) (Kd.R_far (p := ⟨gb268, 1, none⟩) (Kd.R_far (p := ⟨gb268, 0, none⟩) (Kd.R_types HO_252003.out BK268.out (by decide)) (fun _ hk => hk.2) (.string t259)) (fun _ hk => hk.2) (.string t260)) (fun _ hk => hk.2) (.string t261)) (fun _ hk => hk.2) (.slice Ao110 t262.length co110)) (fun _ hk => hk.2) (.slice Ao111 t265.length co111)) (fun _ hk => trivial)⟩, ⟨by (with_reducible repeat (first | apply Kd.R_alloc | apply Kd.R_drewN | apply Kd.R_drew)); exact Kd.R_mono (Kd.R_far (p := ⟨gb268, 4, none⟩) (Kd.R_far (p := ⟨gb268, 3, none⟩) (Kd.R_far (p := ⟨gb268, 2, none⟩) (Kd.R_far (p := ⟨gb268, 1, none⟩) (Kd.R_far (p := ⟨gb268, 0, none⟩) (Kd.R_mono HO_252004.out (fun k_ hk => (⟨hk, hk.2⟩ : _ ∧ k_ ≠ gb268))) (fun _ hk => hk.2) (.string t259)) (fun _ hk => hk.2) (.string t260)) (fun _ hk => hk.2) (.string t261)) (fun _ hk => hk.2) (.slice Ao110 t262.length co110)) (fun _ hk => hk.2) (.slice Ao111 t265.length co111)) (fun _ hk => ⟨hk.1.1.1, ⟨hk.1.1.2.1, ⟨hk.1.1.2.2.1, ⟨hk.1.1.2.2.2, hk.1.2⟩⟩⟩⟩)⟩, ⟨by (with_reducible repeat (first | apply Kd.V_alloc | apply Kd.V_drewN | apply Kd.V_drew)); exact Kd.V_mono (Kd.V_far (p := ⟨gb268, 4, none⟩) (Kd.V_far (p := ⟨gb268, 3, none⟩) (Kd.V_far (p := ⟨gb268, 2, none⟩) (Kd.V_far (p := ⟨gb268, 1, none⟩) (Kd.V_far (p := ⟨gb268, 0, none⟩) (Kd.V_mono HO264.out (fun k_ hk => (⟨hk, hk.2⟩ : _ ∧ k_ ≠ gb268))) (fun _ hk => hk.2) (.string t259)) (fun _ hk => hk.2) (.string t260)) (fun _ hk => hk.2) (.string t261)) (fun _ hk => hk.2) (.slice Ao110 t262.length co110)) (fun _ hk => hk.2) (.slice Ao111 t265.length co111)) (fun _ hk => ⟨hk.1.1.1, ⟨hk.1.1.2.1, ⟨hk.1.1.2.2.1, ⟨hk.1.1.2.2.2.1, ⟨hk.1.1.2.2.2.2, hk.1.2⟩⟩⟩⟩⟩)⟩, ⟨by (with_reducible repeat (first | apply Kd.V_alloc | apply Kd.V_drewN | apply Kd.V_drew)); exact Kd.V_mono (Kd.V_far (p := ⟨gb268, 4, none⟩) (Kd.V_far (p := ⟨gb268, 3, none⟩) (Kd.V_far (p := ⟨gb268, 2, none⟩) (Kd.V_far (p := ⟨gb268, 1, none⟩) (Kd.V_far (p := ⟨gb268, 0, none⟩) (Kd.V_mono HO267.out (fun k_ hk => (⟨hk, hk.2⟩ : _ ∧ k_ ≠ gb268))) (fun _ hk => hk.2) (.string t259)) (fun _ hk => hk.2) (.string t260)) (fun _ hk => hk.2) (.string t261)) (fun _ hk => hk.2) (.slice Ao110 t262.length co110)) (fun _ hk => hk.2) (.slice Ao111 t265.length co111)) (fun _ hk => ⟨hk.1.1.1, ⟨hk.1.1.2.1, ⟨hk.1.1.2.2.1, ⟨hk.1.1.2.2.2.1, ⟨hk.1.1.2.2.2.2, hk.1.2⟩⟩⟩⟩⟩)⟩, ⟨by (with_reducible repeat first | apply zM | apply zE | apply zF); refine zG ?_ NB235_268.out _; (with_reducible repeat first | apply zM | apply zE | apply zF); refine zG ?_ NB235_268.out _; (with_reducible repeat first | apply zM | apply zE | apply zF); refine zG ?_ NB235_268.out _; (with_reducible repeat first | apply zM | apply zE | apply zF); refine zG ?_ NB235_268.out _; (with_reducible repeat first | apply zM | apply zE | apply zF); refine zG ?_ NB235_268.out _; (with_reducible repeat first | apply zM | apply zE | apply zF); exact BK235.out⟩, ⟨by (with_reducible repeat first | apply zM | apply zE | apply zF); refine zG ?_ NB236_268.out _; (with_reducible repeat first | apply zM | apply zE | apply zF); refine zG ?_ NB236_268.out _; (with_reducible repeat first | apply zM | apply zE | apply zF); refine zG ?_ NB236_268.out _; (with_reducible repeat first | apply zM | apply zE | apply zF); refine zG ?_ NB236_268.out _; (with_reducible repeat first | apply zM | apply zE | apply zF); refine zG ?_ NB236_268.out _; (with_reducible repeat first | apply zM | apply zE | apply zF); exact BK236.out⟩, ⟨by (with_reducible repeat first | apply zM | apply zE | apply zF); refine zG ?_ NB251_268.out _; (with_reducible repeat first | apply zM | apply zE | apply zF); refine zG ?_ NB251_268.out _; (with_reducible repeat first | apply zM | apply zE | apply zF); refine zG ?_ NB251_268.out _; (with_reducible repeat first | apply zM | apply zE | apply zF); refine zG ?_ NB251_268.out _; (with_reducible repeat first | apply zM | apply zE | apply zF); refine zG ?_ NB251_268.out _; (with_reducible repeat first | apply zM | apply zE | apply zF); exact BK251.out⟩, ⟨by (with_reducible repeat first | apply zM | apply zE | apply zF); refine zP (cs := #[.string t259, .string t260, .string t261, .slice Ao110 t262.length co110, .slice none 0 0]) ?_ 4 _ rfl; (with_reducible repeat first | apply zM | apply zE | apply zF); refine zP (cs := #[.string t259, .string t260, .string t261, .slice none 0 0, .slice none 0 0]) ?_ 3 _ rfl; (with_reducible repeat first | apply zM | apply zE | apply zF); refine zP (cs := #[.string t259, .string t260, .string (⟨#[]⟩ : ByteArray), .slice none 0 0, .slice none 0 0]) ?_ 2 _ rfl; (with_reducible repeat first | apply zM | apply zE | apply zF); refine zP (cs := #[.string t259, .string (⟨#[]⟩ : ByteArray), .string (⟨#[]⟩ : ByteArray), .slice none 0 0, .slice none 0 0]) ?_ 1 _ rfl; (with_reducible repeat first | apply zM | apply zE | apply zF); refine zP (cs := #[.string (⟨#[]⟩ : ByteArray), .string (⟨#[]⟩ : ByteArray), .string (⟨#[]⟩ : ByteArray), .slice none 0 0, .slice none 0 0]) ?_ 0 _ rfl; (with_reducible repeat first | apply zM | apply zE | apply zF); exact BK268.out⟩, ⟨by repeat (first | (with_reducible first | exact HB.out | apply zA | apply zN | apply zD | refine zS ?_ GE235.out | refine zS ?_ GE236.out | refine zS ?_ GE251.out | refine zS ?_ GE268.out) | exact HB.out)⟩⟩
         case round =>
          clear H'
          try clear c1
          try clear c2
          try clear p2
          try clear c3
          try clear c4
          try clear c5
          try clear c6
          try clear c7
          try clear c8
          try clear c9
          try clear c10
          try clear c14
          try clear c15
          try clear c16
          try clear c17
          try clear c18
          try clear c19
          try clear c23
          try clear c29
          try clear c30
          try clear c35
          try clear c37
          try clear c39
          try clear c39b0
          try clear c39b1
          try clear c39b2
          try clear c40
          try clear c41
          try clear c43
          try clear c51
          try clear c52
          try clear c54
          try clear c62
          try clear c62b0
          try clear c62b1
          try clear c62b2
          try clear c63
          try clear c64
          try clear c66
          try clear c71
          try clear c72
          try clear c74
          try clear c79
          try clear c79b0
          try clear c79b1
          try clear c79b2
          try clear c80
          try clear c81
          try clear c83
          try clear c86
          try clear c87
          try clear c89
          try clear c92
          try clear c93
          try clear c95
          try clear c97
          try clear c98
          try clear c100
          try clear c106
          try clear c107
          try clear c108
          try clear p2
          (try clear BK235); (try clear BK236); (try clear BK251); (try clear BK268)
          obtain ⟨x72_3, x236000_3, x237000_3, x252000_3, x252004_3, x269000_3, x269004_3, u252004, u269004, rfl, HA, HK3, HO_252003, HO_252004, HO_269003, HO_269004, BK235, BK236, BK251, BK268, HB⟩ := hrel
          cases gk with
          | zero => exact absurd HA.out (by simp [tendrillaw11_VtreeSame.l0])
          | succ k3 =>
           have H := HA.out
           clear HA
           simp only [tendrillaw11_VtreeSame.l0] at H
           by_cases c114 : x72_3 < (t247.length : Int)
           ·
            rw [if_pos c114] at H
            have c114b0 : decide (x72_3 < (t247.length : Int)) = true := decide_eq_true c114
            clear c114
            by_cases c115 : a0_0.size + 1 ≤ 9223372036854775807
            ·
             rw [if_pos c115] at H
             have c115b0 := eq_true c115
             have c115b1 : decide (a0_0.size + 1 ≤ 9223372036854775807) = true := decide_eq_true c115
             try have c115b2 : (9223372036854775807 < a0_0.size + 1) = False := eq_false (Nat.not_lt.2 c115)
             by_cases c116 : 0 ≤ x72_3
             ·
              rw [if_pos c116] at H
              have c116b0 : decide (0 ≤ x72_3) = true := decide_eq_true c116
              clear c116
              by_cases c117 : x72_3 < (x252004_3.length : Int)
              ·
               rw [if_pos c117] at H
               have c117b0 : decide (x72_3 < (x252004_3.length : Int)) = true := decide_eq_true c117
               clear c117
               obtain ⟨y269, hy269⟩ : ∃ y_ : List (S25), y_ = (x252004_3.set (x72_3 : Int).toNat (⟨a0_0 ++ (⟨#[45]⟩ : ByteArray), (rd_T25 x252004_3 x72_3).f1, (rd_T25 x252004_3 x72_3).f2, (rd_T25 x252004_3 x72_3).f3, (rd_T25 x252004_3 x72_3).f4⟩ : S25)) := ⟨_, rfl⟩
               replace H : (tendrillaw11_VtreeSame.l0 k3 a0_0 (t247.length : Int) (wrap64 (x72_3 + 1)) x236000_3 a0_1 a0_2 l0_3 l0_4 x252000_3 t242 t243 t244 y269 x269000_3 t260 t261 t262 x269004_3) = some r := by first | (rw [hy269]; with_reducible exact H) | (have H2_ := (Option.bind_some _ _).symm.trans H; rw [hy269]; with_reducible exact H2_) | (have H2_ := (Option.bind_some _ _).symm.trans H; with_reducible exact H2_) | with_reducible exact H | (rw [hy269]; exact H) | exact H
               have Ny269 := Aside0.mk hy269
               clear hy269
               have H' := Aside0.mk H
               clear H
               have hnb119 := NB251_235.out
               have hnc119 := NB235_251.out
               have hnb120 := NB251_236.out
               have hnc120 := NB236_251.out
               have hnb121 := NB251_268.out
               have hnc121 := NB268_251.out
               have hcz122_0 : wr.cell? ⟨gb251, 0, none⟩ = some (.string x252000_3) := (zC BK251.out 0).trans rfl
               have hcz122_1 : wr.cell? ⟨gb251, 1, none⟩ = some (.string t242) := (zC BK251.out 1).trans rfl
               have hcz122_2 : wr.cell? ⟨gb251, 2, none⟩ = some (.string t243) := (zC BK251.out 2).trans rfl
               have hcz122_3 : wr.cell? ⟨gb251, 3, none⟩ = some (.slice Ao32 t244.length co32) := (zC BK251.out 3).trans rfl
               have hcz122_4 : wr.cell? ⟨gb251, 4, none⟩ = some (u252004) := (zC BK251.out 4).trans rfl
               have hfz122_0 := zR BK251.out 0
               have hfz122_1 := zR BK251.out 1
               have hfz122_2 := zR BK251.out 2
               have hfz122_3 := zR BK251.out 3
               have hfz122_4 := zR BK251.out 4
               have p118 : 0 ≤ (x72_3 : Int) := of_decide_eq_true (by first | (with_reducible assumption) | assumption)
               have q118 : (x72_3 : Int) < ((x252004_3.length : Int) : Int) := of_decide_eq_true (by first | (with_reducible assumption) | assumption)
               obtain ⟨go118, co118, eo118, gb118, gl118, cl118, HG118⟩ := Kd.R_form HO_252004.out (by omega)
               (first | cases eo118 | (injection eo118 with ea_ en_ ec_; (first | subst ea_ | (injection ea_ with ea_; subst ea_)); subst ec_; clear en_))
               have GB118 := Aside0.mk gb118
               have GG118 := Aside0.mk HG118
               clear gb118 gl118 HG118
               obtain ⟨ce118, hcl118, hM118, hcc118, hfr118⟩ := Kd.R_elem HO_252004.out z25 (x72_3 : Int) p118 q118
               obtain ⟨ve118_3, ve118_4, rfl, ge118_3, ge118_4⟩ := k25_openM hM118
               have hx118_0 : wr.cell? ⟨go118, (x72_3 : Int).toNat * 5, none⟩ = some (.string ((rd_T25 x252004_3 x72_3).f0)) := hcc118 0 _ rfl
               have hx118_1 : wr.cell? ⟨go118, (x72_3 : Int).toNat * 5 + 1, none⟩ = some (.string ((rd_T25 x252004_3 x72_3).f1)) := hcc118 1 _ rfl
               have hx118_2 : wr.cell? ⟨go118, (x72_3 : Int).toNat * 5 + 2, none⟩ = some (.string ((rd_T25 x252004_3 x72_3).f2)) := hcc118 2 _ rfl
               have hx118_3 : wr.cell? ⟨go118, (x72_3 : Int).toNat * 5 + 3, none⟩ = some (ve118_3) := hcc118 3 _ rfl
               have hx118_4 : wr.cell? ⟨go118, (x72_3 : Int).toNat * 5 + 4, none⟩ = some (ve118_4) := hcc118 4 _ rfl
               have hf118_0 : wr.frozen? ⟨go118, (x72_3 : Int).toNat * 5, none⟩ = false := hfr118 0
               have hf118_1 : wr.frozen? ⟨go118, (x72_3 : Int).toNat * 5 + 1, none⟩ = false := hfr118 1
               have hf118_2 : wr.frozen? ⟨go118, (x72_3 : Int).toNat * 5 + 2, none⟩ = false := hfr118 2
               have hf118_3 : wr.frozen? ⟨go118, (x72_3 : Int).toNat * 5 + 3, none⟩ = false := hfr118 3
               have hf118_4 : wr.frozen? ⟨go118, (x72_3 : Int).toNat * 5 + 4, none⟩ = false := hfr118 4
               clear hcl118 hcc118 hfr118 hM118
               replace p118 := eq_true p118
               replace q118 := eq_true q118
               have HX123 := Aside0.mk (show Kd.R k25 25 wr w.heap.size (fun k_ => some k_ ≠ (.slice Ao32 t244.length co32 : Value).ownBlock ∧ k_ ≠ gb235 ∧ k_ ≠ gb236 ∧ k_ ≠ gb251 ∧ k_ ≠ gb268) (.slice (some ⟨go118, 0, none⟩) x252004_3.length co118) x252004_3 from (by (with_reducible repeat (first | apply Kd.R_alloc | apply Kd.R_drewN | apply Kd.R_drew)); exact HO_252004.out))
               obtain ⟨ce123, hcl123, hM123, hcc123, hfr123⟩ := Kd.R_elem HX123.out z25 (x72_3 : Int) (of_decide_eq_true (by first | (with_reducible assumption) | assumption)) (by have h_ : (x72_3 : Int) < ((x252004_3.length : Int) : Int) := of_decide_eq_true (by first | (with_reducible assumption) | assumption); first | exact h_ | (have e_ := (Kd.R_reads' HO_252004.out).1; omega) | simpa using h_)
               obtain ⟨ve123_3, ve123_4, rfl, ge123_3, ge123_4⟩ := k25_openM hM123
               have HP123 := Kd.R_seg HX123.out (x72_3 : Int) (of_decide_eq_true (by first | (with_reducible assumption) | assumption)) (by have h_ : (x72_3 : Int) < ((x252004_3.length : Int) : Int) := of_decide_eq_true (by first | (with_reducible assumption) | assumption); first | exact h_ | (have e_ := (Kd.R_reads' HO_252004.out).1; omega) | simpa using h_) (seg := [.string (a0_0 ++ (⟨#[45]⟩ : ByteArray))]) (j := 0) hcl123 hcc123 (show 1 ≤ 5 from by decide) (x' := (⟨a0_0 ++ (⟨#[45]⟩ : ByteArray), (rd_T25 x252004_3 x72_3).f1, (rd_T25 x252004_3 x72_3).f2, (rd_T25 x252004_3 x72_3).f3, (rd_T25 x252004_3 x72_3).f4⟩ : S25)) (k25_mkM _ _ _ (⟨a0_0 ++ (⟨#[45]⟩ : ByteArray), (rd_T25 x252004_3 x72_3).f1, (rd_T25 x252004_3 x72_3).f2, (rd_T25 x252004_3 x72_3).f3, (rd_T25 x252004_3 x72_3).f4⟩ : S25) ge123_3 ge123_4) (fun _ hk => hk)
               have hx123_0 := hcc123 0 _ rfl
               (try simp only [show (k25).sz = 5 from rfl, Nat.mul_one, Nat.add_zero] at hx123_0)
               have hf123_0 := hfr123 0
               (try simp only [show (k25).sz = 5 from rfl, Nat.mul_one, Nat.add_zero] at hf123_0)
               clear hcl123 hcc123 hfr123 hM123
               go_wp2_with (first | ((with_reducible refine gate_store (t := 9) (p := 81) rfl ?_); refine store_event (t := 9) (p := 81) (v := ?vo_w124) (w1 := (wr.setCell ⟨go118, (x72_3 : Int).toNat * 5, none⟩ (.string (a0_0 ++ (⟨#[45]⟩ : ByteArray))))) ?hg ?ho ?hn ?hr ?_; (case ho => rfl); (case hg => rfl); (case hn => rfl); (case hr => first | (go_simp; done) | (go_simp; rfl)); intro w124 hw; have hg : wr.grownBy w124 (some go118) := (by rw [hw]; exact HP123.2); have hp_ : Kd.R k25 25 w124 w.heap.size (fun k_ => some k_ ≠ (.slice Ao32 t244.length co32 : Value).ownBlock ∧ k_ ≠ gb235 ∧ k_ ≠ gb236 ∧ k_ ≠ gb251 ∧ k_ ≠ gb268) (.slice (some ⟨go118, 0, none⟩) x252004_3.length co118) y269 := (by rw [hw, Ny269.out]; exact HP123.1); clear HP123; have n0_ := Aside0.mk (Kd.R_over' (v := (.slice (some ⟨go118, 0, none⟩) x252004_3.length co118)) (by (with_reducible repeat (first | apply Kd.R_alloc | apply Kd.R_drewN | apply Kd.R_drew)); exact HO_252003.out) (Kd.R_typed HO_252004.out) (by decide) hg); have n1_ := Aside0.mk (hp_); have n2_ := Aside0.mk (Kd.V_afterv (v := (.slice (some ⟨go118, 0, none⟩) x252004_3.length co118)) (v1 := (.slice (some ⟨go118, 0, none⟩) x252004_3.length co118)) (ok := (fun k_ => some k_ ≠ (.slice Ao32 t244.length co32 : Value).ownBlock ∧ k_ ≠ gb235 ∧ k_ ≠ gb236 ∧ k_ ≠ gb251 ∧ k_ ≠ gb268)) (by (with_reducible repeat (first | apply Kd.V_alloc | apply Kd.V_drewN | apply Kd.V_drew)); exact Kd.V_mono HO_269003.out (fun _ hk => ⟨⟨hk.1, ⟨hk.2.2.1, ⟨hk.2.2.2.1, ⟨hk.2.2.2.2.1, hk.2.2.2.2.2⟩⟩⟩⟩, hk.2.1⟩)) hg (.inl rfl)); have n3_ := Aside0.mk (Kd.V_afterv (v := (.slice (some ⟨go118, 0, none⟩) x252004_3.length co118)) (v1 := (.slice (some ⟨go118, 0, none⟩) x252004_3.length co118)) (ok := (fun k_ => some k_ ≠ (.slice Ao32 t244.length co32 : Value).ownBlock ∧ k_ ≠ gb235 ∧ k_ ≠ gb236 ∧ k_ ≠ gb251 ∧ k_ ≠ gb268)) (by (with_reducible repeat (first | apply Kd.V_alloc | apply Kd.V_drewN | apply Kd.V_drew)); exact Kd.V_mono HO_269004.out (fun _ hk => ⟨⟨hk.1, ⟨hk.2.2.1, ⟨hk.2.2.2.1, ⟨hk.2.2.2.2.1, hk.2.2.2.2.2⟩⟩⟩⟩, hk.2.1⟩)) hg (.inl rfl)); have n4_ := Aside0.mk (blk_grown (g := gb235) (o := .cells #[.string x236000_3, .string a0_1, .string a0_2, .slice A0_3 l0_3.length c0_3, .slice A0_4 l0_4.length c0_4] 25 (0, 0)) (by (with_reducible repeat first | apply zM | apply zE | apply zF); exact BK235.out) hg (Kd.R_away HO_252004.out (fun _ hk => hk.2.1))); have n5_ := Aside0.mk (blk_grown (g := gb236) (o := .cells #[.string x237000_3, .string a1_1, .string a1_2, .slice A1_3 l1_3.length c1_3, .slice A1_4 l1_4.length c1_4] 25 (0, 0)) (by (with_reducible repeat first | apply zM | apply zE | apply zF); exact BK236.out) hg (Kd.R_away HO_252004.out (fun _ hk => hk.2.2.1))); have n6_ := Aside0.mk (blk_grown (g := gb251) (o := .cells #[.string x252000_3, .string t242, .string t243, .slice Ao32 t244.length co32, .slice (some ⟨go118, 0, none⟩) x252004_3.length co118] 25 (0, 0)) (by (with_reducible repeat first | apply zM | apply zE | apply zF); exact BK251.out) hg (Kd.R_away HO_252004.out (fun _ hk => hk.2.2.2.1))); have n7_ := Aside0.mk (blk_grown (g := gb268) (o := .cells #[.string x269000_3, .string t260, .string t261, .slice Ao110 t262.length co110, u269004] 25 (0, 0)) (by (with_reducible repeat first | apply zM | apply zE | apply zF); exact BK268.out) hg (Kd.R_away HO_252004.out (fun _ hk => hk.2.2.2.2))); have n8_ := Aside0.mk ((by rw [hw]; exact zS (HB.out) GB118.out : Below w.heap.size w w124)); clear HO_252003; clear HO_252004; clear HO_269003; clear HO_269004; clear BK235; clear BK236; clear BK251; clear BK268; clear HB; have HO_252003 := n0_; have HO_252004 := n1_; have HO_269003 := n2_; have HO_269004 := n3_; have BK235 := n4_; have BK236 := n5_; have BK251 := n6_; have BK268 := n7_; have HB := n8_; clear n0_ n1_ n2_ n3_ n4_ n5_ n6_ n7_ n8_; clear hg hw hp_))
               go_roundg k3
               case measure => have := HJ2.out; have := HJ21.out; have := HK3.out; omega
               case rel => exact ⟨(wrap64 (x72_3 + 1)), (x236000_3), (x237000_3), (x252000_3), (y269), (x269000_3), (x269004_3), (.slice (some ⟨go118, 0, none⟩) x252004_3.length co118), (u269004), (by first | rfl | (simp; done) | (simp [*]; done)), H', ⟨by have := HJ2.out; have := HJ21.out; have := HK3.out; omega⟩, ⟨by (with_reducible repeat (first | apply Kd.R_alloc | apply Kd.R_drewN | apply Kd.R_drew)); exact HO_252003.out⟩, ⟨by (with_reducible repeat (first | apply Kd.R_alloc | apply Kd.R_drewN | apply Kd.R_drew)); exact HO_252004.out⟩, ⟨by (with_reducible repeat (first | apply Kd.V_alloc | apply Kd.V_drewN | apply Kd.V_drew)); exact Kd.V_mono HO_269003.out (fun _ hk => ⟨hk.1.1, ⟨hk.2, ⟨hk.1.2.1, ⟨hk.1.2.2.1, ⟨hk.1.2.2.2.1, hk.1.2.2.2.2⟩⟩⟩⟩⟩)⟩, ⟨by (with_reducible repeat (first | apply Kd.V_alloc | apply Kd.V_drewN | apply Kd.V_drew)); exact Kd.V_mono HO_269004.out (fun _ hk => ⟨hk.1.1, ⟨hk.2, ⟨hk.1.2.1, ⟨hk.1.2.2.1, ⟨hk.1.2.2.2.1, hk.1.2.2.2.2⟩⟩⟩⟩⟩)⟩, ⟨by (with_reducible repeat first | apply zM | apply zE | apply zF); exact BK235.out⟩, ⟨by (with_reducible repeat first | apply zM | apply zE | apply zF); exact BK236.out⟩, ⟨by (with_reducible repeat first | apply zM | apply zE | apply zF); exact BK251.out⟩, ⟨by (with_reducible repeat first | apply zM | apply zE | apply zF); exact BK268.out⟩, ⟨by repeat (first | (with_reducible first | exact HB.out | apply zA | apply zN | apply zD | refine zS ?_ GE235.out | refine zS ?_ GE236.out | refine zS ?_ GE251.out | refine zS ?_ GE268.out) | exact HB.out)⟩⟩
              ·
               rw [if_neg c117] at H
               exact absurd H (by simp)
             ·
              rw [if_neg c116] at H
              exact absurd H (by simp)
            ·
             rw [if_neg c115] at H
             exact absurd H (by simp)
           ·
            rw [if_neg c114] at H
            have c114b0 : decide (x72_3 < (t247.length : Int)) = false := decide_eq_false c114
            clear c114
            have H' := Aside0.mk H
            clear H
            have hnb125 := NB251_235.out
            have hnc125 := NB235_251.out
            have hnb126 := NB251_236.out
            have hnc126 := NB236_251.out
            have hnb127 := NB251_268.out
            have hnc127 := NB268_251.out
            have hcz128_0 : wr.cell? ⟨gb251, 0, none⟩ = some (.string x252000_3) := (zC BK251.out 0).trans rfl
            have hcz128_1 : wr.cell? ⟨gb251, 1, none⟩ = some (.string t242) := (zC BK251.out 1).trans rfl
            have hcz128_2 : wr.cell? ⟨gb251, 2, none⟩ = some (.string t243) := (zC BK251.out 2).trans rfl
            have hcz128_3 : wr.cell? ⟨gb251, 3, none⟩ = some (.slice Ao32 t244.length co32) := (zC BK251.out 3).trans rfl
            have hcz128_4 : wr.cell? ⟨gb251, 4, none⟩ = some (u252004) := (zC BK251.out 4).trans rfl
            have hfz128_0 := zR BK251.out 0
            have hfz128_1 := zR BK251.out 1
            have hfz128_2 := zR BK251.out 2
            have hfz128_3 := zR BK251.out 3
            have hfz128_4 := zR BK251.out 4
            go_wp2
            go_loopg [86] k3 (fun kq v86 w' => ∃ (x86_4 : Int) (x252003_4 : List (S42)) (x269003_4 : List (S42)) (u252003 : Value) (u269003 : Value), v86 = .int .i64 x86_4 ∧ Aside0 (tendrillaw11_VtreeSame.l1 kq (t244.length : Int) x86_4 x236000_3 a0_1 a0_2 l0_3 l0_4 x252000_3 t242 t243 x252003_4 x252004_3 x269000_3 t260 t261 x269003_4 x269004_3 = some r) ∧ Aside0 (kq ≤ k3) ∧ Aside0 (Kd.R k42 42 w' w.heap.size (fun _ => True) u252003 x252003_4) ∧ Aside0 (Kd.R k25 25 w' w.heap.size (fun k_ => some k_ ≠ (u252003 : Value).ownBlock ∧ k_ ≠ gb235 ∧ k_ ≠ gb236 ∧ k_ ≠ gb251 ∧ k_ ≠ gb268) u252004 x252004_3) ∧ Aside0 (Kd.V k42 42 w' w.heap.size (fun k_ => some k_ ≠ (u252003 : Value).ownBlock ∧ some k_ ≠ (u252004 : Value).ownBlock ∧ k_ ≠ gb235 ∧ k_ ≠ gb236 ∧ k_ ≠ gb251 ∧ k_ ≠ gb268) u269003 x269003_4) ∧ Aside0 (Kd.V k25 25 w' w.heap.size (fun k_ => some k_ ≠ (u252003 : Value).ownBlock ∧ some k_ ≠ (u252004 : Value).ownBlock ∧ k_ ≠ gb235 ∧ k_ ≠ gb236 ∧ k_ ≠ gb251 ∧ k_ ≠ gb268) u269004 x269004_3) ∧ Aside0 (w'.heap[gb235]? = some (.cells #[.string x236000_3, .string a0_1, .string a0_2, (.slice A0_3 l0_3.length c0_3), (.slice A0_4 l0_4.length c0_4)] 25 (0, 0))) ∧ Aside0 (w'.heap[gb236]? = some (.cells #[.string x237000_3, .string a1_1, .string a1_2, (.slice A1_3 l1_3.length c1_3), (.slice A1_4 l1_4.length c1_4)] 25 (0, 0))) ∧ Aside0 (w'.heap[gb251]? = some (.cells #[.string x252000_3, .string t242, .string t243, u252003, u252004] 25 (0, 0))) ∧ Aside0 (w'.heap[gb268]? = some (.cells #[.string x269000_3, .string t260, .string t261, u269003, u269004] 25 (0, 0))) ∧ Aside0 (Below w.heap.size w w'))
            case atStart => exact ⟨(0), (t244), (t262), (.slice Ao32 t244.length co32), (.slice Ao110 t262.length co110), (by first | rfl | (simp; done) | (simp [*]; done)), H', ⟨Nat.le_refl _⟩, ⟨by (with_reducible repeat (first | apply Kd.R_alloc | apply Kd.R_drewN | apply Kd.R_drew)); exact HO_252003.out⟩, ⟨by (with_reducible repeat (first | apply Kd.R_alloc | apply Kd.R_drewN | apply Kd.R_drew)); exact HO_252004.out⟩, ⟨by (with_reducible repeat (first | apply Kd.V_alloc | apply Kd.V_drewN | apply Kd.V_drew)); exact HO_269003.out⟩, ⟨by (with_reducible repeat (first | apply Kd.V_alloc | apply Kd.V_drewN | apply Kd.V_drew)); exact HO_269004.out⟩, ⟨by (with_reducible repeat first | apply zM | apply zE | apply zF); exact BK235.out⟩, ⟨by (with_reducible repeat first | apply zM | apply zE | apply zF); exact BK236.out⟩, ⟨by (with_reducible repeat first | apply zM | apply zE | apply zF); exact BK251.out⟩, ⟨by (with_reducible repeat first | apply zM | apply zE | apply zF); exact BK268.out⟩, ⟨by repeat (first | (with_reducible first | exact HB.out | apply zA | apply zN | apply zD | refine zS ?_ GE235.out | refine zS ?_ GE236.out | refine zS ?_ GE251.out | refine zS ?_ GE268.out) | exact HB.out)⟩⟩
            case round =>
             clear H'
             try clear c1
             try clear p1
             try clear q1
             try clear hx1
             try clear c2
             try clear p2
             try clear c3
             try clear c4
             try clear c5
             try clear c6
             try clear p6
             try clear c7
             try clear c8
             try clear c9
             try clear c10
             try clear c11
             try clear p11
             try clear q11
             try clear hx11
             try clear hf11
             try clear c12
             try clear hx12
             try clear hf12
             try clear c14
             try clear c15
             try clear c16
             try clear c17
             try clear c18
             try clear c19
             try clear c23
             try clear c29
             try clear c30
             try clear c35
             try clear c37
             try clear c39
             try clear c39b0
             try clear c39b1
             try clear c39b2
             try clear c40
             try clear c41
             try clear c43
             try clear c51
             try clear c52
             try clear c54
             try clear c62
             try clear c62b0
             try clear c62b1
             try clear c62b2
             try clear c63
             try clear c64
             try clear p64
             try clear c66
             try clear c71
             try clear c72
             try clear c74
             try clear c79
             try clear c79b0
             try clear c79b1
             try clear c79b2
             try clear c80
             try clear c81
             try clear c83
             try clear c86
             try clear c87
             try clear c89
             try clear c92
             try clear c93
             try clear c95
             try clear c97
             try clear c98
             try clear c100
             try clear c106
             try clear c107
             try clear c108
             try clear c114
             try clear c114b0
             try clear c115
             try clear c115b0
             try clear c115b1
             try clear c115b2
             try clear c116
             try clear c116b0
             try clear c117
             try clear c117b0
             try clear c118
             try clear p118
             try clear q118
             try clear hx118
             try clear hf118
             try clear c119
             try clear c120
             try clear c121
             try clear c123
             try clear hx123
             try clear hf123
             try clear c125
             try clear c126
             try clear c127
             try clear hx118_0
             try clear hx118_1
             try clear hx118_2
             try clear hx118_3
             try clear hx118_4
             try clear hx123_0
             try clear p118
             try clear p2
             try clear q118
             (try clear BK235); (try clear BK236); (try clear BK251); (try clear BK268)
             obtain ⟨x86_4, x252003_4, x269003_4, u252003, u269003, rfl, HA, HK4, HO_252003, HO_252004, HO_269003, HO_269004, BK235, BK236, BK251, BK268, HB⟩ := hrel
             cases gk with
             | zero => exact absurd HA.out (by simp [tendrillaw11_VtreeSame.l1])
             | succ k4 =>
              have H := HA.out
              clear HA
              simp only [tendrillaw11_VtreeSame.l1] at H
              by_cases c129 : x86_4 < (t244.length : Int)
              ·
               rw [if_pos c129] at H
               have c129b0 : decide (x86_4 < (t244.length : Int)) = true := decide_eq_true c129
               clear c129
               by_cases c130 : 0 ≤ x86_4
               ·
                rw [if_pos c130] at H
                have c130b0 : decide (0 ≤ x86_4) = true := decide_eq_true c130
                clear c130
                by_cases c131 : x86_4 < (x252003_4.length : Int)
                ·
                 rw [if_pos c131] at H
                 have c131b0 : decide (x86_4 < (x252003_4.length : Int)) = true := decide_eq_true c131
                 clear c131
                 obtain ⟨y270, hy270⟩ : ∃ y_ : List (S42), y_ = (x252003_4.set (x86_4 : Int).toNat (⟨(⟨#[]⟩ : ByteArray), (rd_T42 x252003_4 x86_4).f1⟩ : S42)) := ⟨_, rfl⟩
                 replace H : (tendrillaw11_VtreeSame.l1 k4 (t244.length : Int) (wrap64 (x86_4 + 1)) x236000_3 a0_1 a0_2 l0_3 l0_4 x252000_3 t242 t243 y270 x252004_3 x269000_3 t260 t261 x269003_4 x269004_3) = some r := by first | (rw [hy270]; with_reducible exact H) | (have H2_ := (Option.bind_some _ _).symm.trans H; rw [hy270]; with_reducible exact H2_) | (have H2_ := (Option.bind_some _ _).symm.trans H; with_reducible exact H2_) | with_reducible exact H | (rw [hy270]; exact H) | exact H
                 have Ny270 := Aside0.mk hy270
                 clear hy270
                 have H' := Aside0.mk H
                 clear H
                 have hnb133 := NB251_235.out
                 have hnc133 := NB235_251.out
                 have hnb134 := NB251_236.out
                 have hnc134 := NB236_251.out
                 have hnb135 := NB251_268.out
                 have hnc135 := NB268_251.out
                 have hcz136_0 : wr.cell? ⟨gb251, 0, none⟩ = some (.string x252000_3) := (zC BK251.out 0).trans rfl
                 have hcz136_1 : wr.cell? ⟨gb251, 1, none⟩ = some (.string t242) := (zC BK251.out 1).trans rfl
                 have hcz136_2 : wr.cell? ⟨gb251, 2, none⟩ = some (.string t243) := (zC BK251.out 2).trans rfl
                 have hcz136_3 : wr.cell? ⟨gb251, 3, none⟩ = some (u252003) := (zC BK251.out 3).trans rfl
                 have hcz136_4 : wr.cell? ⟨gb251, 4, none⟩ = some (u252004) := (zC BK251.out 4).trans rfl
                 have hfz136_0 := zR BK251.out 0
                 have hfz136_1 := zR BK251.out 1
                 have hfz136_2 := zR BK251.out 2
                 have hfz136_3 := zR BK251.out 3
                 have hfz136_4 := zR BK251.out 4
                 have p132 : 0 ≤ (x86_4 : Int) := of_decide_eq_true (by first | (with_reducible assumption) | assumption)
                 have q132 : (x86_4 : Int) < ((x252003_4.length : Int) : Int) := of_decide_eq_true (by first | (with_reducible assumption) | assumption)
                 obtain ⟨go132, co132, eo132, gb132, gl132, cl132, HG132⟩ := Kd.R_form HO_252003.out (by omega)
                 (first | cases eo132 | (injection eo132 with ea_ en_ ec_; (first | subst ea_ | (injection ea_ with ea_; subst ea_)); subst ec_; clear en_))
                 have GB132 := Aside0.mk gb132
                 have GG132 := Aside0.mk HG132
                 clear gb132 gl132 HG132
                 obtain ⟨ce132, hcl132, hM132, hcc132, hfr132⟩ := Kd.R_elem HO_252003.out z42 (x86_4 : Int) p132 q132
                 obtain rfl := k42_openM hM132
                 have hx132_0 : wr.cell? ⟨go132, (x86_4 : Int).toNat * 2, none⟩ = some (.string ((rd_T42 x252003_4 x86_4).f0)) := hcc132 0 _ rfl
                 have hx132_1 : wr.cell? ⟨go132, (x86_4 : Int).toNat * 2 + 1, none⟩ = some (.string ((rd_T42 x252003_4 x86_4).f1)) := hcc132 1 _ rfl
                 have hf132_0 : wr.frozen? ⟨go132, (x86_4 : Int).toNat * 2, none⟩ = false := hfr132 0
                 have hf132_1 : wr.frozen? ⟨go132, (x86_4 : Int).toNat * 2 + 1, none⟩ = false := hfr132 1
                 clear hcl132 hcc132 hfr132 hM132
                 replace p132 := eq_true p132
                 replace q132 := eq_true q132
                 have HX137 := Aside0.mk (show Kd.R k42 42 wr w.heap.size (fun _ => True) (.slice (some ⟨go132, 0, none⟩) x252003_4.length co132) x252003_4 from (by (with_reducible repeat (first | apply Kd.R_alloc | apply Kd.R_drewN | apply Kd.R_drew)); exact HO_252003.out))
                 obtain ⟨ce137, hcl137, hM137, hcc137, hfr137⟩ := Kd.R_elem HX137.out z42 (x86_4 : Int) (of_decide_eq_true (by first | (with_reducible assumption) | assumption)) (by have h_ : (x86_4 : Int) < ((x252003_4.length : Int) : Int) := of_decide_eq_true (by first | (with_reducible assumption) | assumption); first | exact h_ | (have e_ := (Kd.R_reads' HO_252003.out).1; omega) | simpa using h_)
                 obtain rfl := k42_openM hM137
                 have HP137 := Kd.R_seg HX137.out (x86_4 : Int) (of_decide_eq_true (by first | (with_reducible assumption) | assumption)) (by have h_ : (x86_4 : Int) < ((x252003_4.length : Int) : Int) := of_decide_eq_true (by first | (with_reducible assumption) | assumption); first | exact h_ | (have e_ := (Kd.R_reads' HO_252003.out).1; omega) | simpa using h_) (seg := [.string (⟨#[]⟩ : ByteArray)]) (j := 0) hcl137 hcc137 (show 1 ≤ 2 from by decide) (x' := (⟨(⟨#[]⟩ : ByteArray), (rd_T42 x252003_4 x86_4).f1⟩ : S42)) (k42_mkM _ _ _ (⟨(⟨#[]⟩ : ByteArray), (rd_T42 x252003_4 x86_4).f1⟩ : S42) ) (fun _ hk => hk)
                 have hx137_0 := hcc137 0 _ rfl
                 (try simp only [show (k42).sz = 2 from rfl, Nat.mul_one, Nat.add_zero] at hx137_0)
                 have hf137_0 := hfr137 0
                 (try simp only [show (k42).sz = 2 from rfl, Nat.mul_one, Nat.add_zero] at hf137_0)
                 clear hcl137 hcc137 hfr137 hM137
                 go_wp2_with (first | ((with_reducible refine gate_store (t := 9) (p := 93) rfl ?_); refine store_event (t := 9) (p := 93) (v := ?vo_w138) (w1 := (wr.setCell ⟨go132, (x86_4 : Int).toNat * 2, none⟩ (.string (⟨#[]⟩ : ByteArray)))) ?hg ?ho ?hn ?hr ?_; (case ho => rfl); (case hg => rfl); (case hn => rfl); (case hr => first | (go_simp; done) | (go_simp; rfl)); intro w138 hw; have hg : wr.grownBy w138 (some go132) := (by rw [hw]; exact HP137.2); have hp_ : Kd.R k42 42 w138 w.heap.size (fun _ => True) (.slice (some ⟨go132, 0, none⟩) x252003_4.length co132) y270 := (by rw [hw, Ny270.out]; exact HP137.1); clear HP137; have n0_ := Aside0.mk (hp_); have n1_ := Aside0.mk (Kd.R_after (v := (.slice (some ⟨go132, 0, none⟩) x252003_4.length co132)) (v1 := (.slice (some ⟨go132, 0, none⟩) x252003_4.length co132)) (ok := (fun k_ => k_ ≠ gb235 ∧ k_ ≠ gb236 ∧ k_ ≠ gb251 ∧ k_ ≠ gb268)) (by (with_reducible repeat (first | apply Kd.R_alloc | apply Kd.R_drewN | apply Kd.R_drew)); exact Kd.R_mono HO_252004.out (fun _ hk => ⟨⟨hk.2.1, ⟨hk.2.2.1, ⟨hk.2.2.2.1, hk.2.2.2.2⟩⟩⟩, hk.1⟩)) hg (.inl rfl)); have n2_ := Aside0.mk (Kd.V_afterv (v := (.slice (some ⟨go132, 0, none⟩) x252003_4.length co132)) (v1 := (.slice (some ⟨go132, 0, none⟩) x252003_4.length co132)) (ok := (fun k_ => some k_ ≠ (u252004 : Value).ownBlock ∧ k_ ≠ gb235 ∧ k_ ≠ gb236 ∧ k_ ≠ gb251 ∧ k_ ≠ gb268)) (by (with_reducible repeat (first | apply Kd.V_alloc | apply Kd.V_drewN | apply Kd.V_drew)); exact Kd.V_mono HO_269003.out (fun _ hk => ⟨⟨hk.2.1, ⟨hk.2.2.1, ⟨hk.2.2.2.1, ⟨hk.2.2.2.2.1, hk.2.2.2.2.2⟩⟩⟩⟩, hk.1⟩)) hg (.inl rfl)); have n3_ := Aside0.mk (Kd.V_afterv (v := (.slice (some ⟨go132, 0, none⟩) x252003_4.length co132)) (v1 := (.slice (some ⟨go132, 0, none⟩) x252003_4.length co132)) (ok := (fun k_ => some k_ ≠ (u252004 : Value).ownBlock ∧ k_ ≠ gb235 ∧ k_ ≠ gb236 ∧ k_ ≠ gb251 ∧ k_ ≠ gb268)) (by (with_reducible repeat (first | apply Kd.V_alloc | apply Kd.V_drewN | apply Kd.V_drew)); exact Kd.V_mono HO_269004.out (fun _ hk => ⟨⟨hk.2.1, ⟨hk.2.2.1, ⟨hk.2.2.2.1, ⟨hk.2.2.2.2.1, hk.2.2.2.2.2⟩⟩⟩⟩, hk.1⟩)) hg (.inl rfl)); have n4_ := Aside0.mk (blk_grown (g := gb235) (o := .cells #[.string x236000_3, .string a0_1, .string a0_2, .slice A0_3 l0_3.length c0_3, .slice A0_4 l0_4.length c0_4] 25 (0, 0)) (by (with_reducible repeat first | apply zM | apply zE | apply zF); exact BK235.out) hg (Kd.R_ne HO_252003.out BK235.out (by decide))); have n5_ := Aside0.mk (blk_grown (g := gb236) (o := .cells #[.string x237000_3, .string a1_1, .string a1_2, .slice A1_3 l1_3.length c1_3, .slice A1_4 l1_4.length c1_4] 25 (0, 0)) (by (with_reducible repeat first | apply zM | apply zE | apply zF); exact BK236.out) hg (Kd.R_ne HO_252003.out BK236.out (by decide))); have n6_ := Aside0.mk (blk_grown (g := gb251) (o := .cells #[.string x252000_3, .string t242, .string t243, .slice (some ⟨go132, 0, none⟩) x252003_4.length co132, u252004] 25 (0, 0)) (by (with_reducible repeat first | apply zM | apply zE | apply zF); exact BK251.out) hg (Kd.R_ne HO_252003.out BK251.out (by decide))); have n7_ := Aside0.mk (blk_grown (g := gb268) (o := .cells #[.string x269000_3, .string t260, .string t261, u269003, u269004] 25 (0, 0)) (by (with_reducible repeat first | apply zM | apply zE | apply zF); exact BK268.out) hg (Kd.R_ne HO_252003.out BK268.out (by decide))); have n8_ := Aside0.mk ((by rw [hw]; exact zS (HB.out) GB132.out : Below w.heap.size w w138)); clear HO_252003; clear HO_252004; clear HO_269003; clear HO_269004; clear BK235; clear BK236; clear BK251; clear BK268; clear HB; have HO_252003 := n0_; have HO_252004 := n1_; have HO_269003 := n2_; have HO_269004 := n3_; have BK235 := n4_; have BK236 := n5_; have BK251 := n6_; have BK268 := n7_; have HB := n8_; clear n0_ n1_ n2_ n3_ n4_ n5_ n6_ n7_ n8_; clear hg hw hp_))
                 go_roundg k4
                 case measure => have := HJ2.out; have := HJ21.out; have := HK3.out; have := HK4.out; omega
                 case rel => exact ⟨(wrap64 (x86_4 + 1)), (y270), (x269003_4), (.slice (some ⟨go132, 0, none⟩) x252003_4.length co132), (u269003), (by first | rfl | (simp; done) | (simp [*]; done)), H', ⟨by have := HJ2.out; have := HJ21.out; have := HK3.out; have := HK4.out; omega⟩, ⟨by (with_reducible repeat (first | apply Kd.R_alloc | apply Kd.R_drewN | apply Kd.R_drew)); exact HO_252003.out⟩, ⟨by (with_reducible repeat (first | apply Kd.R_alloc | apply Kd.R_drewN | apply Kd.R_drew)); exact Kd.R_mono HO_252004.out (fun _ hk => ⟨hk.2, ⟨hk.1.1, ⟨hk.1.2.1, ⟨hk.1.2.2.1, hk.1.2.2.2⟩⟩⟩⟩)⟩, ⟨by (with_reducible repeat (first | apply Kd.V_alloc | apply Kd.V_drewN | apply Kd.V_drew)); exact Kd.V_mono HO_269003.out (fun _ hk => ⟨hk.2, ⟨hk.1.1, ⟨hk.1.2.1, ⟨hk.1.2.2.1, ⟨hk.1.2.2.2.1, hk.1.2.2.2.2⟩⟩⟩⟩⟩)⟩, ⟨by (with_reducible repeat (first | apply Kd.V_alloc | apply Kd.V_drewN | apply Kd.V_drew)); exact Kd.V_mono HO_269004.out (fun _ hk => ⟨hk.2, ⟨hk.1.1, ⟨hk.1.2.1, ⟨hk.1.2.2.1, ⟨hk.1.2.2.2.1, hk.1.2.2.2.2⟩⟩⟩⟩⟩)⟩, ⟨by (with_reducible repeat first | apply zM | apply zE | apply zF); exact BK235.out⟩, ⟨by (with_reducible repeat first | apply zM | apply zE | apply zF); exact BK236.out⟩, ⟨by (with_reducible repeat first | apply zM | apply zE | apply zF); exact BK251.out⟩, ⟨by (with_reducible repeat first | apply zM | apply zE | apply zF); exact BK268.out⟩, ⟨by repeat (first | (with_reducible first | exact HB.out | apply zA | apply zN | apply zD | refine zS ?_ GE235.out | refine zS ?_ GE236.out | refine zS ?_ GE251.out | refine zS ?_ GE268.out) | exact HB.out)⟩⟩
                ·
                 rw [if_neg c131] at H
                 exact absurd H (by simp)
               ·
                rw [if_neg c130] at H
                exact absurd H (by simp)
              ·
               rw [if_neg c129] at H
               have c129b0 : decide (x86_4 < (t244.length : Int)) = false := decide_eq_false c129
               clear c129
               replace H := Option.bind_eq_some_iff.mp H
               obtain ⟨t271, A1390, H⟩ := H
               replace H : (if t271 = true then ((vtree_Same.f k4 x236000_3 a0_1 a0_2 l0_3 l0_4 x236000_3 a0_1 a0_2 l0_3 l0_4).bind fun t272 => (if t272 = true then ((tendrillaw11_same.f k4).bind fun t273 => (some t273)) else (some false))) else (some false)) = some r := H
               have A139 := Aside0.mk A1390
               clear A1390
               by_cases c140 : t271 = true
               ·
                subst c140
                have H1 : ((vtree_Same.f k4 x236000_3 a0_1 a0_2 l0_3 l0_4 x236000_3 a0_1 a0_2 l0_3 l0_4).bind fun t272 => (if t272 = true then ((tendrillaw11_same.f k4).bind fun t273 => (some t273)) else (some false))) = some r := by rw [if_pos rfl] at H; exact H
                clear H
                have H := H1
                clear H1
                replace H := Option.bind_eq_some_iff.mp H
                obtain ⟨t272, A1410, H⟩ := H
                replace H : (if t272 = true then ((tendrillaw11_same.f k4).bind fun t273 => (some t273)) else (some false)) = some r := H
                have A141 := Aside0.mk A1410
                clear A1410
                by_cases c142 : t272 = true
                ·
                 subst c142
                 have H1 : ((tendrillaw11_same.f k4).bind fun t273 => (some t273)) = some r := by rw [if_pos rfl] at H; exact H
                 clear H
                 have H := H1
                 clear H1
                 replace H := Option.bind_eq_some_iff.mp H
                 obtain ⟨t273, A1430, H⟩ := H
                 replace H : (some t273) = some r := H
                 have A143 := Aside0.mk A1430
                 clear A1430
                 obtain rfl := Option.some.inj H
                 have hnb144 := NB235_236.out
                 have hnc144 := NB236_235.out
                 have hnb145 := NB235_251.out
                 have hnc145 := NB251_235.out
                 have hnb146 := NB235_268.out
                 have hnc146 := NB268_235.out
                 have hcz147_0 : wr.cell? ⟨gb235, 0, none⟩ = some (.string x236000_3) := (zC BK235.out 0).trans rfl
                 have hcz147_1 : wr.cell? ⟨gb235, 1, none⟩ = some (.string a0_1) := (zC BK235.out 1).trans rfl
                 have hcz147_2 : wr.cell? ⟨gb235, 2, none⟩ = some (.string a0_2) := (zC BK235.out 2).trans rfl
                 have hcz147_3 : wr.cell? ⟨gb235, 3, none⟩ = some (.slice A0_3 l0_3.length c0_3) := (zC BK235.out 3).trans rfl
                 have hcz147_4 : wr.cell? ⟨gb235, 4, none⟩ = some (.slice A0_4 l0_4.length c0_4) := (zC BK235.out 4).trans rfl
                 have hfz147_0 := zR BK235.out 0
                 have hfz147_1 := zR BK235.out 1
                 have hfz147_2 := zR BK235.out 2
                 have hfz147_3 := zR BK235.out 3
                 have hfz147_4 := zR BK235.out 4
                 have hnb148 := NB268_236.out
                 have hnc148 := NB236_268.out
                 have hnb149 := NB268_251.out
                 have hnc149 := NB251_268.out
                 have hcz150_0 : wr.cell? ⟨gb268, 0, none⟩ = some (.string x269000_3) := (zC BK268.out 0).trans rfl
                 have hcz150_1 : wr.cell? ⟨gb268, 1, none⟩ = some (.string t260) := (zC BK268.out 1).trans rfl
                 have hcz150_2 : wr.cell? ⟨gb268, 2, none⟩ = some (.string t261) := (zC BK268.out 2).trans rfl
                 have hcz150_3 : wr.cell? ⟨gb268, 3, none⟩ = some (u269003) := (zC BK268.out 3).trans rfl
                 have hcz150_4 : wr.cell? ⟨gb268, 4, none⟩ = some (u269004) := (zC BK268.out 4).trans rfl
                 have hfz150_0 := zR BK268.out 0
                 have hfz150_1 := zR BK268.out 1
                 have hfz150_2 := zR BK268.out 2
                 have hfz150_3 := zR BK268.out 3
                 have hfz150_4 := zR BK268.out 4
                 obtain ⟨Ao151, co151, eo151⟩ := Kd.V_slice HO_269003.out
                 subst eo151
                 obtain ⟨Ao152, co152, eo152⟩ := Kd.V_slice HO_269004.out
                 subst eo152
                 go_wp2_with (first | ((with_reducible refine gate_callee (f := 18) rfl ?_); refine goesL_ (some 97) rfl rfl Try.func18 (by kernel_rfl) rfl #[.agg #[.string x236000_3, .string a0_1, .string a0_2, .slice A0_3 l0_3.length c0_3, .slice A0_4 l0_4.length c0_4], .agg #[.string x269000_3, .string t260, .string t261, .slice Ao151 x269003_4.length co151, .slice Ao152 x269004_3.length co152]] rfl (by (try simp only [List.map_toArray, List.map_cons, List.map_nil]); first | done | rfl | (simp only [List.length_drop, List.length_take]; rfl)) ?_; (with_reducible refine (tendrilplain_Nodes.calls k4 x236000_3 a0_1 a0_2 _ _ l0_3 _ _ l0_4 x269000_3 t260 t261 _ _ x269003_4 _ _ x269004_3 true _ ?side1 ?side2 ?side3 ?side4 ?side5 ?side6 ?side7 ?side8 A139.out).mono ?_); (case side1 => repeat (first | exact (Kd.C_below HR0_3.out HB.out) | (with_reducible refine Kd.C_alloc ?_ _) | (with_reducible refine Kd.C_drewN ?_ _) | (with_reducible refine Kd.C_drew ?_))); (case side2 => exact HC0_3.out); (case side3 => repeat (first | exact (Kd.C_below HR0_4.out HB.out) | (with_reducible refine Kd.C_alloc ?_ _) | (with_reducible refine Kd.C_drewN ?_ _) | (with_reducible refine Kd.C_drew ?_))); (case side4 => exact HC0_4.out); (case side5 => repeat (first | exact (Kd.V_reads' HO_269003.out).2.2 | (with_reducible refine Kd.C_alloc ?_ _) | (with_reducible refine Kd.C_drewN ?_ _) | (with_reducible refine Kd.C_drew ?_))); (case side6 => exact (Kd.V_reads' HO_269003.out).2.1); (case side7 => repeat (first | exact (Kd.V_reads' HO_269004.out).2.2 | (with_reducible refine Kd.C_alloc ?_ _) | (with_reducible refine Kd.C_drewN ?_ _) | (with_reducible refine Kd.C_drew ?_))); (case side8 => exact (Kd.V_reads' HO_269004.out).2.1); rintro e w153 ⟨rfl, hb⟩; refine ⟨_, rfl, ?_⟩; have n0_ := Aside0.mk (Kd.R_below (by (with_reducible repeat (first | apply Kd.R_alloc | apply Kd.R_drewN | apply Kd.R_drew)); exact HO_252003.out) hb); have n1_ := Aside0.mk (Kd.R_below (by (with_reducible repeat (first | apply Kd.R_alloc | apply Kd.R_drewN | apply Kd.R_drew)); exact HO_252004.out) hb); have n2_ := Aside0.mk (Kd.V_below (by (with_reducible repeat (first | apply Kd.V_alloc | apply Kd.V_drewN | apply Kd.V_drew)); exact HO_269003.out) hb); have n3_ := Aside0.mk (Kd.V_below (by (with_reducible repeat (first | apply Kd.V_alloc | apply Kd.V_drewN | apply Kd.V_drew)); exact HO_269004.out) hb); have n4_ := Aside0.mk (blk_below (g := gb235) (o := .cells #[.string x236000_3, .string a0_1, .string a0_2, .slice A0_3 l0_3.length c0_3, .slice A0_4 l0_4.length c0_4] 25 (0, 0)) (by (with_reducible repeat first | apply zM | apply zE | apply zF); exact BK235.out) hb); have n5_ := Aside0.mk (blk_below (g := gb236) (o := .cells #[.string x237000_3, .string a1_1, .string a1_2, .slice A1_3 l1_3.length c1_3, .slice A1_4 l1_4.length c1_4] 25 (0, 0)) (by (with_reducible repeat first | apply zM | apply zE | apply zF); exact BK236.out) hb); have n6_ := Aside0.mk (blk_below (g := gb251) (o := .cells #[.string x252000_3, .string t242, .string t243, u252003, u252004] 25 (0, 0)) (by (with_reducible repeat first | apply zM | apply zE | apply zF); exact BK251.out) hb); have n7_ := Aside0.mk (blk_below (g := gb268) (o := .cells #[.string x269000_3, .string t260, .string t261, .slice Ao151 x269003_4.length co151, .slice Ao152 x269004_3.length co152] 25 (0, 0)) (by (with_reducible repeat first | apply zM | apply zE | apply zF); exact BK268.out) hb); have n8_ := Aside0.mk (below_step (by repeat (first | (with_reducible first | exact HB.out | apply zA | apply zN | apply zD | refine zS ?_ GE235.out | refine zS ?_ GE236.out | refine zS ?_ GE251.out | refine zS ?_ GE268.out) | exact HB.out)) hb); clear HO_252003; clear HO_252004; clear HO_269003; clear HO_269004; clear BK235; clear BK236; clear BK251; clear BK268; clear HB; have HO_252003 := n0_; have HO_252004 := n1_; have HO_269003 := n2_; have HO_269004 := n3_; have BK235 := n4_; have BK236 := n5_; have BK251 := n6_; have BK268 := n7_; have HB := n8_; clear n0_ n1_ n2_ n3_ n4_ n5_ n6_ n7_ n8_; (try clear hb); (try clear hb2); (try clear hk); (try clear hi); have hcz154_0 : w153.cell? ⟨gb235, 0, none⟩ = some (.string x236000_3) := (zC BK235.out 0).trans rfl; have hcz154_1 : w153.cell? ⟨gb235, 1, none⟩ = some (.string a0_1) := (zC BK235.out 1).trans rfl; have hcz154_2 : w153.cell? ⟨gb235, 2, none⟩ = some (.string a0_2) := (zC BK235.out 2).trans rfl; have hcz154_3 : w153.cell? ⟨gb235, 3, none⟩ = some (.slice A0_3 l0_3.length c0_3) := (zC BK235.out 3).trans rfl; have hcz154_4 : w153.cell? ⟨gb235, 4, none⟩ = some (.slice A0_4 l0_4.length c0_4) := (zC BK235.out 4).trans rfl; have hfz154_0 := zR BK235.out 0; have hfz154_1 := zR BK235.out 1; have hfz154_2 := zR BK235.out 2; have hfz154_3 := zR BK235.out 3; have hfz154_4 := zR BK235.out 4) | (go_at_call 17; (with_reducible refine (vtree_Same.calls k4 x236000_3 a0_1 a0_2 _ _ l0_3 _ _ l0_4 x236000_3 a0_1 a0_2 _ _ l0_3 _ _ l0_4 true _ ?side1 ?side2 ?side3 ?side4 ?side5 ?side6 ?side7 ?side8 A141.out).mono ?_); (case side1 => repeat (first | exact (Kd.C_below HR0_3.out HB.out) | (with_reducible refine Kd.C_alloc ?_ _) | (with_reducible refine Kd.C_drewN ?_ _) | (with_reducible refine Kd.C_drew ?_))); (case side2 => exact HC0_3.out); (case side3 => repeat (first | exact (Kd.C_below HR0_4.out HB.out) | (with_reducible refine Kd.C_alloc ?_ _) | (with_reducible refine Kd.C_drewN ?_ _) | (with_reducible refine Kd.C_drew ?_))); (case side4 => exact HC0_4.out); (case side5 => repeat (first | exact (Kd.C_below HR0_3.out HB.out) | (with_reducible refine Kd.C_alloc ?_ _) | (with_reducible refine Kd.C_drewN ?_ _) | (with_reducible refine Kd.C_drew ?_))); (case side6 => exact HC0_3.out); (case side7 => repeat (first | exact (Kd.C_below HR0_4.out HB.out) | (with_reducible refine Kd.C_alloc ?_ _) | (with_reducible refine Kd.C_drewN ?_ _) | (with_reducible refine Kd.C_drew ?_))); (case side8 => exact HC0_4.out); rintro e w155 ⟨rfl, hb⟩; have n0_ := Aside0.mk (Kd.R_below (by (with_reducible repeat (first | apply Kd.R_alloc | apply Kd.R_drewN | apply Kd.R_drew)); exact HO_252003.out) hb); have n1_ := Aside0.mk (Kd.R_below (by (with_reducible repeat (first | apply Kd.R_alloc | apply Kd.R_drewN | apply Kd.R_drew)); exact HO_252004.out) hb); have n2_ := Aside0.mk (Kd.V_below (by (with_reducible repeat (first | apply Kd.V_alloc | apply Kd.V_drewN | apply Kd.V_drew)); exact HO_269003.out) hb); have n3_ := Aside0.mk (Kd.V_below (by (with_reducible repeat (first | apply Kd.V_alloc | apply Kd.V_drewN | apply Kd.V_drew)); exact HO_269004.out) hb); have n4_ := Aside0.mk (blk_below (g := gb235) (o := .cells #[.string x236000_3, .string a0_1, .string a0_2, .slice A0_3 l0_3.length c0_3, .slice A0_4 l0_4.length c0_4] 25 (0, 0)) (by (with_reducible repeat first | apply zM | apply zE | apply zF); exact BK235.out) hb); have n5_ := Aside0.mk (blk_below (g := gb236) (o := .cells #[.string x237000_3, .string a1_1, .string a1_2, .slice A1_3 l1_3.length c1_3, .slice A1_4 l1_4.length c1_4] 25 (0, 0)) (by (with_reducible repeat first | apply zM | apply zE | apply zF); exact BK236.out) hb); have n6_ := Aside0.mk (blk_below (g := gb251) (o := .cells #[.string x252000_3, .string t242, .string t243, u252003, u252004] 25 (0, 0)) (by (with_reducible repeat first | apply zM | apply zE | apply zF); exact BK251.out) hb); have n7_ := Aside0.mk (blk_below (g := gb268) (o := .cells #[.string x269000_3, .string t260, .string t261, .slice Ao151 x269003_4.length co151, .slice Ao152 x269004_3.length co152] 25 (0, 0)) (by (with_reducible repeat first | apply zM | apply zE | apply zF); exact BK268.out) hb); have n8_ := Aside0.mk (below_step (by repeat (first | (with_reducible first | exact HB.out | apply zA | apply zN | apply zD | refine zS ?_ GE235.out | refine zS ?_ GE236.out | refine zS ?_ GE251.out | refine zS ?_ GE268.out) | exact HB.out)) hb); clear HO_252003; clear HO_252004; clear HO_269003; clear HO_269004; clear BK235; clear BK236; clear BK251; clear BK268; clear HB; have HO_252003 := n0_; have HO_252004 := n1_; have HO_269003 := n2_; have HO_269004 := n3_; have BK235 := n4_; have BK236 := n5_; have BK251 := n6_; have BK268 := n7_; have HB := n8_; clear n0_ n1_ n2_ n3_ n4_ n5_ n6_ n7_ n8_; (try clear hb); (try clear hb2); (try clear hk); (try clear hi)) | (go_at_call 7; (with_reducible refine (tendrillaw11_same.calls k4  t273 _ A143.out).mono ?_); rintro e w156 ⟨rfl, hb⟩; have n0_ := Aside0.mk (Kd.R_below (by (with_reducible repeat (first | apply Kd.R_alloc | apply Kd.R_drewN | apply Kd.R_drew)); exact HO_252003.out) hb); have n1_ := Aside0.mk (Kd.R_below (by (with_reducible repeat (first | apply Kd.R_alloc | apply Kd.R_drewN | apply Kd.R_drew)); exact HO_252004.out) hb); have n2_ := Aside0.mk (Kd.V_below (by (with_reducible repeat (first | apply Kd.V_alloc | apply Kd.V_drewN | apply Kd.V_drew)); exact HO_269003.out) hb); have n3_ := Aside0.mk (Kd.V_below (by (with_reducible repeat (first | apply Kd.V_alloc | apply Kd.V_drewN | apply Kd.V_drew)); exact HO_269004.out) hb); have n4_ := Aside0.mk (blk_below (g := gb235) (o := .cells #[.string x236000_3, .string a0_1, .string a0_2, .slice A0_3 l0_3.length c0_3, .slice A0_4 l0_4.length c0_4] 25 (0, 0)) (by (with_reducible repeat first | apply zM | apply zE | apply zF); exact BK235.out) hb); have n5_ := Aside0.mk (blk_below (g := gb236) (o := .cells #[.string x237000_3, .string a1_1, .string a1_2, .slice A1_3 l1_3.length c1_3, .slice A1_4 l1_4.length c1_4] 25 (0, 0)) (by (with_reducible repeat first | apply zM | apply zE | apply zF); exact BK236.out) hb); have n6_ := Aside0.mk (blk_below (g := gb251) (o := .cells #[.string x252000_3, .string t242, .string t243, u252003, u252004] 25 (0, 0)) (by (with_reducible repeat first | apply zM | apply zE | apply zF); exact BK251.out) hb); have n7_ := Aside0.mk (blk_below (g := gb268) (o := .cells #[.string x269000_3, .string t260, .string t261, .slice Ao151 x269003_4.length co151, .slice Ao152 x269004_3.length co152] 25 (0, 0)) (by (with_reducible repeat first | apply zM | apply zE | apply zF); exact BK268.out) hb); have n8_ := Aside0.mk (below_step (by repeat (first | (with_reducible first | exact HB.out | apply zA | apply zN | apply zD | refine zS ?_ GE235.out | refine zS ?_ GE236.out | refine zS ?_ GE251.out | refine zS ?_ GE268.out) | exact HB.out)) hb); clear HO_252003; clear HO_252004; clear HO_269003; clear HO_269004; clear BK235; clear BK236; clear BK251; clear BK268; clear HB; have HO_252003 := n0_; have HO_252004 := n1_; have HO_269003 := n2_; have HO_269004 := n3_; have BK235 := n4_; have BK236 := n5_; have BK251 := n6_; have BK268 := n7_; have HB := n8_; clear n0_ n1_ n2_ n3_ n4_ n5_ n6_ n7_ n8_; (try clear hb); (try clear hb2); (try clear hk); (try clear hi)))
                 go_ret
                 exact ⟨by first | rfl | (simp [errW_none, errW_some] <;> rfl) | (simp [*, errW_none, errW_some] <;> rfl), by repeat (first | (with_reducible first | exact HB.out | apply zA | apply zN | apply zD | refine zS ?_ GE235.out | refine zS ?_ GE236.out | refine zS ?_ GE251.out | refine zS ?_ GE268.out) | exact HB.out)⟩
                ·
                 replace c142 := Bool.eq_false_iff.mpr c142
                 subst c142
                 have H1 : (some false) = some r := by rw [if_neg (show ¬ (false = true) by decide)] at H; exact H
                 clear H
                 have H := H1
                 clear H1
                 obtain rfl := Option.some.inj H
                 have hnb157 := NB235_236.out
                 have hnc157 := NB236_235.out
                 have hnb158 := NB235_251.out
                 have hnc158 := NB251_235.out
                 have hnb159 := NB235_268.out
                 have hnc159 := NB268_235.out
                 have hcz160_0 : wr.cell? ⟨gb235, 0, none⟩ = some (.string x236000_3) := (zC BK235.out 0).trans rfl
                 have hcz160_1 : wr.cell? ⟨gb235, 1, none⟩ = some (.string a0_1) := (zC BK235.out 1).trans rfl
                 have hcz160_2 : wr.cell? ⟨gb235, 2, none⟩ = some (.string a0_2) := (zC BK235.out 2).trans rfl
                 have hcz160_3 : wr.cell? ⟨gb235, 3, none⟩ = some (.slice A0_3 l0_3.length c0_3) := (zC BK235.out 3).trans rfl
                 have hcz160_4 : wr.cell? ⟨gb235, 4, none⟩ = some (.slice A0_4 l0_4.length c0_4) := (zC BK235.out 4).trans rfl
                 have hfz160_0 := zR BK235.out 0
                 have hfz160_1 := zR BK235.out 1
                 have hfz160_2 := zR BK235.out 2
                 have hfz160_3 := zR BK235.out 3
                 have hfz160_4 := zR BK235.out 4
                 have hnb161 := NB268_236.out
                 have hnc161 := NB236_268.out
                 have hnb162 := NB268_251.out
                 have hnc162 := NB251_268.out
                 have hcz163_0 : wr.cell? ⟨gb268, 0, none⟩ = some (.string x269000_3) := (zC BK268.out 0).trans rfl
                 have hcz163_1 : wr.cell? ⟨gb268, 1, none⟩ = some (.string t260) := (zC BK268.out 1).trans rfl
                 have hcz163_2 : wr.cell? ⟨gb268, 2, none⟩ = some (.string t261) := (zC BK268.out 2).trans rfl
                 have hcz163_3 : wr.cell? ⟨gb268, 3, none⟩ = some (u269003) := (zC BK268.out 3).trans rfl
                 have hcz163_4 : wr.cell? ⟨gb268, 4, none⟩ = some (u269004) := (zC BK268.out 4).trans rfl
                 have hfz163_0 := zR BK268.out 0
                 have hfz163_1 := zR BK268.out 1
                 have hfz163_2 := zR BK268.out 2
                 have hfz163_3 := zR BK268.out 3
                 have hfz163_4 := zR BK268.out 4
                 obtain ⟨Ao164, co164, eo164⟩ := Kd.V_slice HO_269003.out
                 subst eo164
                 obtain ⟨Ao165, co165, eo165⟩ := Kd.V_slice HO_269004.out
                 subst eo165
                 go_wp2_with (first | ((with_reducible refine gate_callee (f := 18) rfl ?_); refine goesL_ (some 97) rfl rfl Try.func18 (by kernel_rfl) rfl #[.agg #[.string x236000_3, .string a0_1, .string a0_2, .slice A0_3 l0_3.length c0_3, .slice A0_4 l0_4.length c0_4], .agg #[.string x269000_3, .string t260, .string t261, .slice Ao164 x269003_4.length co164, .slice Ao165 x269004_3.length co165]] rfl (by (try simp only [List.map_toArray, List.map_cons, List.map_nil]); first | done | rfl | (simp only [List.length_drop, List.length_take]; rfl)) ?_; (with_reducible refine (tendrilplain_Nodes.calls k4 x236000_3 a0_1 a0_2 _ _ l0_3 _ _ l0_4 x269000_3 t260 t261 _ _ x269003_4 _ _ x269004_3 true _ ?side1 ?side2 ?side3 ?side4 ?side5 ?side6 ?side7 ?side8 A139.out).mono ?_); (case side1 => repeat (first | exact (Kd.C_below HR0_3.out HB.out) | (with_reducible refine Kd.C_alloc ?_ _) | (with_reducible refine Kd.C_drewN ?_ _) | (with_reducible refine Kd.C_drew ?_))); (case side2 => exact HC0_3.out); (case side3 => repeat (first | exact (Kd.C_below HR0_4.out HB.out) | (with_reducible refine Kd.C_alloc ?_ _) | (with_reducible refine Kd.C_drewN ?_ _) | (with_reducible refine Kd.C_drew ?_))); (case side4 => exact HC0_4.out); (case side5 => repeat (first | exact (Kd.V_reads' HO_269003.out).2.2 | (with_reducible refine Kd.C_alloc ?_ _) | (with_reducible refine Kd.C_drewN ?_ _) | (with_reducible refine Kd.C_drew ?_))); (case side6 => exact (Kd.V_reads' HO_269003.out).2.1); (case side7 => repeat (first | exact (Kd.V_reads' HO_269004.out).2.2 | (with_reducible refine Kd.C_alloc ?_ _) | (with_reducible refine Kd.C_drewN ?_ _) | (with_reducible refine Kd.C_drew ?_))); (case side8 => exact (Kd.V_reads' HO_269004.out).2.1); rintro e w166 ⟨rfl, hb⟩; refine ⟨_, rfl, ?_⟩; have n0_ := Aside0.mk (Kd.R_below (by (with_reducible repeat (first | apply Kd.R_alloc | apply Kd.R_drewN | apply Kd.R_drew)); exact HO_252003.out) hb); have n1_ := Aside0.mk (Kd.R_below (by (with_reducible repeat (first | apply Kd.R_alloc | apply Kd.R_drewN | apply Kd.R_drew)); exact HO_252004.out) hb); have n2_ := Aside0.mk (Kd.V_below (by (with_reducible repeat (first | apply Kd.V_alloc | apply Kd.V_drewN | apply Kd.V_drew)); exact HO_269003.out) hb); have n3_ := Aside0.mk (Kd.V_below (by (with_reducible repeat (first | apply Kd.V_alloc | apply Kd.V_drewN | apply Kd.V_drew)); exact HO_269004.out) hb); have n4_ := Aside0.mk (blk_below (g := gb235) (o := .cells #[.string x236000_3, .string a0_1, .string a0_2, .slice A0_3 l0_3.length c0_3, .slice A0_4 l0_4.length c0_4] 25 (0, 0)) (by (with_reducible repeat first | apply zM | apply zE | apply zF); exact BK235.out) hb); have n5_ := Aside0.mk (blk_below (g := gb236) (o := .cells #[.string x237000_3, .string a1_1, .string a1_2, .slice A1_3 l1_3.length c1_3, .slice A1_4 l1_4.length c1_4] 25 (0, 0)) (by (with_reducible repeat first | apply zM | apply zE | apply zF); exact BK236.out) hb); have n6_ := Aside0.mk (blk_below (g := gb251) (o := .cells #[.string x252000_3, .string t242, .string t243, u252003, u252004] 25 (0, 0)) (by (with_reducible repeat first | apply zM | apply zE | apply zF); exact BK251.out) hb); have n7_ := Aside0.mk (blk_below (g := gb268) (o := .cells #[.string x269000_3, .string t260, .string t261, .slice Ao164 x269003_4.length co164, .slice Ao165 x269004_3.length co165] 25 (0, 0)) (by (with_reducible repeat first | apply zM | apply zE | apply zF); exact BK268.out) hb); have n8_ := Aside0.mk (below_step (by repeat (first | (with_reducible first | exact HB.out | apply zA | apply zN | apply zD | refine zS ?_ GE235.out | refine zS ?_ GE236.out | refine zS ?_ GE251.out | refine zS ?_ GE268.out) | exact HB.out)) hb); clear HO_252003; clear HO_252004; clear HO_269003; clear HO_269004; clear BK235; clear BK236; clear BK251; clear BK268; clear HB; have HO_252003 := n0_; have HO_252004 := n1_; have HO_269003 := n2_; have HO_269004 := n3_; have BK235 := n4_; have BK236 := n5_; have BK251 := n6_; have BK268 := n7_; have HB := n8_; clear n0_ n1_ n2_ n3_ n4_ n5_ n6_ n7_ n8_; (try clear hb); (try clear hb2); (try clear hk); (try clear hi); have hcz167_0 : w166.cell? ⟨gb235, 0, none⟩ = some (.string x236000_3) := (zC BK235.out 0).trans rfl; have hcz167_1 : w166.cell? ⟨gb235, 1, none⟩ = some (.string a0_1) := (zC BK235.out 1).trans rfl; have hcz167_2 : w166.cell? ⟨gb235, 2, none⟩ = some (.string a0_2) := (zC BK235.out 2).trans rfl; have hcz167_3 : w166.cell? ⟨gb235, 3, none⟩ = some (.slice A0_3 l0_3.length c0_3) := (zC BK235.out 3).trans rfl; have hcz167_4 : w166.cell? ⟨gb235, 4, none⟩ = some (.slice A0_4 l0_4.length c0_4) := (zC BK235.out 4).trans rfl; have hfz167_0 := zR BK235.out 0; have hfz167_1 := zR BK235.out 1; have hfz167_2 := zR BK235.out 2; have hfz167_3 := zR BK235.out 3; have hfz167_4 := zR BK235.out 4) | (go_at_call 17; (with_reducible refine (vtree_Same.calls k4 x236000_3 a0_1 a0_2 _ _ l0_3 _ _ l0_4 x236000_3 a0_1 a0_2 _ _ l0_3 _ _ l0_4 false _ ?side1 ?side2 ?side3 ?side4 ?side5 ?side6 ?side7 ?side8 A141.out).mono ?_); (case side1 => repeat (first | exact (Kd.C_below HR0_3.out HB.out) | (with_reducible refine Kd.C_alloc ?_ _) | (with_reducible refine Kd.C_drewN ?_ _) | (with_reducible refine Kd.C_drew ?_))); (case side2 => exact HC0_3.out); (case side3 => repeat (first | exact (Kd.C_below HR0_4.out HB.out) | (with_reducible refine Kd.C_alloc ?_ _) | (with_reducible refine Kd.C_drewN ?_ _) | (with_reducible refine Kd.C_drew ?_))); (case side4 => exact HC0_4.out); (case side5 => repeat (first | exact (Kd.C_below HR0_3.out HB.out) | (with_reducible refine Kd.C_alloc ?_ _) | (with_reducible refine Kd.C_drewN ?_ _) | (with_reducible refine Kd.C_drew ?_))); (case side6 => exact HC0_3.out); (case side7 => repeat (first | exact (Kd.C_below HR0_4.out HB.out) | (with_reducible refine Kd.C_alloc ?_ _) | (with_reducible refine Kd.C_drewN ?_ _) | (with_reducible refine Kd.C_drew ?_))); (case side8 => exact HC0_4.out); rintro e w168 ⟨rfl, hb⟩; have n0_ := Aside0.mk (Kd.R_below (by (with_reducible repeat (first | apply Kd.R_alloc | apply Kd.R_drewN | apply Kd.R_drew)); exact HO_252003.out) hb); have n1_ := Aside0.mk (Kd.R_below (by (with_reducible repeat (first | apply Kd.R_alloc | apply Kd.R_drewN | apply Kd.R_drew)); exact HO_252004.out) hb); have n2_ := Aside0.mk (Kd.V_below (by (with_reducible repeat (first | apply Kd.V_alloc | apply Kd.V_drewN | apply Kd.V_drew)); exact HO_269003.out) hb); have n3_ := Aside0.mk (Kd.V_below (by (with_reducible repeat (first | apply Kd.V_alloc | apply Kd.V_drewN | apply Kd.V_drew)); exact HO_269004.out) hb); have n4_ := Aside0.mk (blk_below (g := gb235) (o := .cells #[.string x236000_3, .string a0_1, .string a0_2, .slice A0_3 l0_3.length c0_3, .slice A0_4 l0_4.length c0_4] 25 (0, 0)) (by (with_reducible repeat first | apply zM | apply zE | apply zF); exact BK235.out) hb); have n5_ := Aside0.mk (blk_below (g := gb236) (o := .cells #[.string x237000_3, .string a1_1, .string a1_2, .slice A1_3 l1_3.length c1_3, .slice A1_4 l1_4.length c1_4] 25 (0, 0)) (by (with_reducible repeat first | apply zM | apply zE | apply zF); exact BK236.out) hb); have n6_ := Aside0.mk (blk_below (g := gb251) (o := .cells #[.string x252000_3, .string t242, .string t243, u252003, u252004] 25 (0, 0)) (by (with_reducible repeat first | apply zM | apply zE | apply zF); exact BK251.out) hb); have n7_ := Aside0.mk (blk_below (g := gb268) (o := .cells #[.string x269000_3, .string t260, .string t261, .slice Ao164 x269003_4.length co164, .slice Ao165 x269004_3.length co165] 25 (0, 0)) (by (with_reducible repeat first | apply zM | apply zE | apply zF); exact BK268.out) hb); have n8_ := Aside0.mk (below_step (by repeat (first | (with_reducible first | exact HB.out | apply zA | apply zN | apply zD | refine zS ?_ GE235.out | refine zS ?_ GE236.out | refine zS ?_ GE251.out | refine zS ?_ GE268.out) | exact HB.out)) hb); clear HO_252003; clear HO_252004; clear HO_269003; clear HO_269004; clear BK235; clear BK236; clear BK251; clear BK268; clear HB; have HO_252003 := n0_; have HO_252004 := n1_; have HO_269003 := n2_; have HO_269004 := n3_; have BK235 := n4_; have BK236 := n5_; have BK251 := n6_; have BK268 := n7_; have HB := n8_; clear n0_ n1_ n2_ n3_ n4_ n5_ n6_ n7_ n8_; (try clear hb); (try clear hb2); (try clear hk); (try clear hi)))
                 go_ret
                 exact ⟨by first | rfl | (simp [errW_none, errW_some] <;> rfl) | (simp [*, errW_none, errW_some] <;> rfl), by repeat (first | (with_reducible first | exact HB.out | apply zA | apply zN | apply zD | refine zS ?_ GE235.out | refine zS ?_ GE236.out | refine zS ?_ GE251.out | refine zS ?_ GE268.out) | exact HB.out)⟩
               ·
                replace c140 := Bool.eq_false_iff.mpr c140
                subst c140
                have H1 : (some false) = some r := by rw [if_neg (show ¬ (false = true) by decide)] at H; exact H
                clear H
                have H := H1
                clear H1
                obtain rfl := Option.some.inj H
                have hnb169 := NB235_236.out
                have hnc169 := NB236_235.out
                have hnb170 := NB235_251.out
                have hnc170 := NB251_235.out
                have hnb171 := NB235_268.out
                have hnc171 := NB268_235.out
                have hcz172_0 : wr.cell? ⟨gb235, 0, none⟩ = some (.string x236000_3) := (zC BK235.out 0).trans rfl
                have hcz172_1 : wr.cell? ⟨gb235, 1, none⟩ = some (.string a0_1) := (zC BK235.out 1).trans rfl
                have hcz172_2 : wr.cell? ⟨gb235, 2, none⟩ = some (.string a0_2) := (zC BK235.out 2).trans rfl
                have hcz172_3 : wr.cell? ⟨gb235, 3, none⟩ = some (.slice A0_3 l0_3.length c0_3) := (zC BK235.out 3).trans rfl
                have hcz172_4 : wr.cell? ⟨gb235, 4, none⟩ = some (.slice A0_4 l0_4.length c0_4) := (zC BK235.out 4).trans rfl
                have hfz172_0 := zR BK235.out 0
                have hfz172_1 := zR BK235.out 1
                have hfz172_2 := zR BK235.out 2
                have hfz172_3 := zR BK235.out 3
                have hfz172_4 := zR BK235.out 4
                have hnb173 := NB268_236.out
                have hnc173 := NB236_268.out
                have hnb174 := NB268_251.out
                have hnc174 := NB251_268.out
                have hcz175_0 : wr.cell? ⟨gb268, 0, none⟩ = some (.string x269000_3) := (zC BK268.out 0).trans rfl
                have hcz175_1 : wr.cell? ⟨gb268, 1, none⟩ = some (.string t260) := (zC BK268.out 1).trans rfl
                have hcz175_2 : wr.cell? ⟨gb268, 2, none⟩ = some (.string t261) := (zC BK268.out 2).trans rfl
                have hcz175_3 : wr.cell? ⟨gb268, 3, none⟩ = some (u269003) := (zC BK268.out 3).trans rfl
                have hcz175_4 : wr.cell? ⟨gb268, 4, none⟩ = some (u269004) := (zC BK268.out 4).trans rfl
                have hfz175_0 := zR BK268.out 0
                have hfz175_1 := zR BK268.out 1
                have hfz175_2 := zR BK268.out 2
                have hfz175_3 := zR BK268.out 3
                have hfz175_4 := zR BK268.out 4
                obtain ⟨Ao176, co176, eo176⟩ := Kd.V_slice HO_269003.out
                subst eo176
                obtain ⟨Ao177, co177, eo177⟩ := Kd.V_slice HO_269004.out
                subst eo177
                go_wp2_with (first | ((with_reducible refine gate_callee (f := 18) rfl ?_); refine goesL_ (some 97) rfl rfl Try.func18 (by kernel_rfl) rfl #[.agg #[.string x236000_3, .string a0_1, .string a0_2, .slice A0_3 l0_3.length c0_3, .slice A0_4 l0_4.length c0_4], .agg #[.string x269000_3, .string t260, .string t261, .slice Ao176 x269003_4.length co176, .slice Ao177 x269004_3.length co177]] rfl (by (try simp only [List.map_toArray, List.map_cons, List.map_nil]); first | done | rfl | (simp only [List.length_drop, List.length_take]; rfl)) ?_; (with_reducible refine (tendrilplain_Nodes.calls k4 x236000_3 a0_1 a0_2 _ _ l0_3 _ _ l0_4 x269000_3 t260 t261 _ _ x269003_4 _ _ x269004_3 false _ ?side1 ?side2 ?side3 ?side4 ?side5 ?side6 ?side7 ?side8 A139.out).mono ?_); (case side1 => repeat (first | exact (Kd.C_below HR0_3.out HB.out) | (with_reducible refine Kd.C_alloc ?_ _) | (with_reducible refine Kd.C_drewN ?_ _) | (with_reducible refine Kd.C_drew ?_))); (case side2 => exact HC0_3.out); (case side3 => repeat (first | exact (Kd.C_below HR0_4.out HB.out) | (with_reducible refine Kd.C_alloc ?_ _) | (with_reducible refine Kd.C_drewN ?_ _) | (with_reducible refine Kd.C_drew ?_))); (case side4 => exact HC0_4.out); (case side5 => repeat (first | exact (Kd.V_reads' HO_269003.out).2.2 | (with_reducible refine Kd.C_alloc ?_ _) | (with_reducible refine Kd.C_drewN ?_ _) | (with_reducible refine Kd.C_drew ?_))); (case side6 => exact (Kd.V_reads' HO_269003.out).2.1); (case side7 => repeat (first | exact (Kd.V_reads' HO_269004.out).2.2 | (with_reducible refine Kd.C_alloc ?_ _) | (with_reducible refine Kd.C_drewN ?_ _) | (with_reducible refine Kd.C_drew ?_))); (case side8 => exact (Kd.V_reads' HO_269004.out).2.1); rintro e w178 ⟨rfl, hb⟩; refine ⟨_, rfl, ?_⟩; have n0_ := Aside0.mk (Kd.R_below (by (with_reducible repeat (first | apply Kd.R_alloc | apply Kd.R_drewN | apply Kd.R_drew)); exact HO_252003.out) hb); have n1_ := Aside0.mk (Kd.R_below (by (with_reducible repeat (first | apply Kd.R_alloc | apply Kd.R_drewN | apply Kd.R_drew)); exact HO_252004.out) hb); have n2_ := Aside0.mk (Kd.V_below (by (with_reducible repeat (first | apply Kd.V_alloc | apply Kd.V_drewN | apply Kd.V_drew)); exact HO_269003.out) hb); have n3_ := Aside0.mk (Kd.V_below (by (with_reducible repeat (first | apply Kd.V_alloc | apply Kd.V_drewN | apply Kd.V_drew)); exact HO_269004.out) hb); have n4_ := Aside0.mk (blk_below (g := gb235) (o := .cells #[.string x236000_3, .string a0_1, .string a0_2, .slice A0_3 l0_3.length c0_3, .slice A0_4 l0_4.length c0_4] 25 (0, 0)) (by (with_reducible repeat first | apply zM | apply zE | apply zF); exact BK235.out) hb); have n5_ := Aside0.mk (blk_below (g := gb236) (o := .cells #[.string x237000_3, .string a1_1, .string a1_2, .slice A1_3 l1_3.length c1_3, .slice A1_4 l1_4.length c1_4] 25 (0, 0)) (by (with_reducible repeat first | apply zM | apply zE | apply zF); exact BK236.out) hb); have n6_ := Aside0.mk (blk_below (g := gb251) (o := .cells #[.string x252000_3, .string t242, .string t243, u252003, u252004] 25 (0, 0)) (by (with_reducible repeat first | apply zM | apply zE | apply zF); exact BK251.out) hb); have n7_ := Aside0.mk (blk_below (g := gb268) (o := .cells #[.string x269000_3, .string t260, .string t261, .slice Ao176 x269003_4.length co176, .slice Ao177 x269004_3.length co177] 25 (0, 0)) (by (with_reducible repeat first | apply zM | apply zE | apply zF); exact BK268.out) hb); have n8_ := Aside0.mk (below_step (by repeat (first | (with_reducible first | exact HB.out | apply zA | apply zN | apply zD | refine zS ?_ GE235.out | refine zS ?_ GE236.out | refine zS ?_ GE251.out | refine zS ?_ GE268.out) | exact HB.out)) hb); clear HO_252003; clear HO_252004; clear HO_269003; clear HO_269004; clear BK235; clear BK236; clear BK251; clear BK268; clear HB; have HO_252003 := n0_; have HO_252004 := n1_; have HO_269003 := n2_; have HO_269004 := n3_; have BK235 := n4_; have BK236 := n5_; have BK251 := n6_; have BK268 := n7_; have HB := n8_; clear n0_ n1_ n2_ n3_ n4_ n5_ n6_ n7_ n8_; (try clear hb); (try clear hb2); (try clear hk); (try clear hi)))
                go_ret
                exact ⟨by first | rfl | (simp [errW_none, errW_some] <;> rfl) | (simp [*, errW_none, errW_some] <;> rfl), by repeat (first | (with_reducible first | exact HB.out | apply zA | apply zN | apply zD | refine zS ?_ GE235.out | refine zS ?_ GE236.out | refine zS ?_ GE251.out | refine zS ?_ GE268.out) | exact HB.out)⟩
        ·
         replace c95 := Bool.eq_false_iff.mpr c95
         subst c95
         have H1 : (some false) = some r := by rw [if_neg (show ¬ (false = true) by decide)] at H; exact H
         clear H
         have H := H1
         clear H1
         obtain rfl := Option.some.inj H
         have hnb179 := NB235_236.out
         have hnc179 := NB236_235.out
         have hnb180 := NB235_251.out
         have hnc180 := NB251_235.out
         have hcz181_0 : wc.cell? ⟨gb235, 0, none⟩ = some (.string a0_0) := (zC BK235.out 0).trans rfl
         have hcz181_1 : wc.cell? ⟨gb235, 1, none⟩ = some (.string a0_1) := (zC BK235.out 1).trans rfl
         have hcz181_2 : wc.cell? ⟨gb235, 2, none⟩ = some (.string a0_2) := (zC BK235.out 2).trans rfl
         have hcz181_3 : wc.cell? ⟨gb235, 3, none⟩ = some (.slice A0_3 l0_3.length c0_3) := (zC BK235.out 3).trans rfl
         have hcz181_4 : wc.cell? ⟨gb235, 4, none⟩ = some (.slice A0_4 l0_4.length c0_4) := (zC BK235.out 4).trans rfl
         have hfz181_0 := zR BK235.out 0
         have hfz181_1 := zR BK235.out 1
         have hfz181_2 := zR BK235.out 2
         have hfz181_3 := zR BK235.out 3
         have hfz181_4 := zR BK235.out 4
         have hnb182 := NB251_236.out
         have hnc182 := NB236_251.out
         have hcz183_0 : wc.cell? ⟨gb251, 0, none⟩ = some (.string t241) := (zC BK251.out 0).trans rfl
         have hcz183_1 : wc.cell? ⟨gb251, 1, none⟩ = some (.string t242) := (zC BK251.out 1).trans rfl
         have hcz183_2 : wc.cell? ⟨gb251, 2, none⟩ = some (.string t243) := (zC BK251.out 2).trans rfl
         have hcz183_3 : wc.cell? ⟨gb251, 3, none⟩ = some (.slice Ao32 t244.length co32) := (zC BK251.out 3).trans rfl
         have hcz183_4 : wc.cell? ⟨gb251, 4, none⟩ = some (.slice Ao33 t247.length co33) := (zC BK251.out 4).trans rfl
         have hfz183_0 := zR BK251.out 0
         have hfz183_1 := zR BK251.out 1
         have hfz183_2 := zR BK251.out 2
         have hfz183_3 := zR BK251.out 3
         have hfz183_4 := zR BK251.out 4
         go_wp2_with (first | ((with_reducible refine gate_callee (f := 18) rfl ?_); refine goesL_ (some 63) rfl rfl Try.func18 (by kernel_rfl) rfl #[.agg #[.string a0_0, .string a0_1, .string a0_2, .slice A0_3 l0_3.length c0_3, .slice A0_4 l0_4.length c0_4], .agg #[.string t241, .string t242, .string t243, .slice Ao32 t244.length co32, .slice Ao33 t247.length co33]] rfl (by (try simp only [List.map_toArray, List.map_cons, List.map_nil]); first | done | rfl | (simp only [List.length_drop, List.length_take]; rfl)) ?_; (with_reducible refine (tendrilplain_Nodes.calls kj21 a0_0 a0_1 a0_2 _ _ l0_3 _ _ l0_4 t241 t242 t243 _ _ t244 _ _ t247 false _ ?side1 ?side2 ?side3 ?side4 ?side5 ?side6 ?side7 ?side8 A94.out).mono ?_); (case side1 => repeat (first | exact (Kd.C_below HR0_3.out HB.out) | (with_reducible refine Kd.C_alloc ?_ _) | (with_reducible refine Kd.C_drewN ?_ _) | (with_reducible refine Kd.C_drew ?_))); (case side2 => exact HC0_3.out); (case side3 => repeat (first | exact (Kd.C_below HR0_4.out HB.out) | (with_reducible refine Kd.C_alloc ?_ _) | (with_reducible refine Kd.C_drewN ?_ _) | (with_reducible refine Kd.C_drew ?_))); (case side4 => exact HC0_4.out); (case side5 => repeat (first | exact (Kd.R_reads' HO_252003.out).2.2 | (with_reducible refine Kd.C_alloc ?_ _) | (with_reducible refine Kd.C_drewN ?_ _) | (with_reducible refine Kd.C_drew ?_))); (case side6 => exact (Kd.R_reads' HO_252003.out).2.1); (case side7 => repeat (first | exact (Kd.R_reads' HO_252004.out).2.2 | (with_reducible refine Kd.C_alloc ?_ _) | (with_reducible refine Kd.C_drewN ?_ _) | (with_reducible refine Kd.C_drew ?_))); (case side8 => exact (Kd.R_reads' HO_252004.out).2.1); rintro e w184 ⟨rfl, hb⟩; refine ⟨_, rfl, ?_⟩; have n0_ := Aside0.mk (Kd.R_below (by (with_reducible repeat (first | apply Kd.R_alloc | apply Kd.R_drewN | apply Kd.R_drew)); exact HO_252003.out) hb); have n1_ := Aside0.mk (Kd.R_below (by (with_reducible repeat (first | apply Kd.R_alloc | apply Kd.R_drewN | apply Kd.R_drew)); exact HO_252004.out) hb); have n2_ := Aside0.mk (blk_below (g := gb235) (o := .cells #[.string a0_0, .string a0_1, .string a0_2, .slice A0_3 l0_3.length c0_3, .slice A0_4 l0_4.length c0_4] 25 (0, 0)) (by (with_reducible repeat first | apply zM | apply zE | apply zF); exact BK235.out) hb); have n3_ := Aside0.mk (blk_below (g := gb236) (o := .cells #[.string a1_0, .string a1_1, .string a1_2, .slice A1_3 l1_3.length c1_3, .slice A1_4 l1_4.length c1_4] 25 (0, 0)) (by (with_reducible repeat first | apply zM | apply zE | apply zF); exact BK236.out) hb); have n4_ := Aside0.mk (blk_below (g := gb251) (o := .cells #[.string t241, .string t242, .string t243, .slice Ao32 t244.length co32, .slice Ao33 t247.length co33] 25 (0, 0)) (by (with_reducible repeat first | apply zM | apply zE | apply zF); exact BK251.out) hb); have n5_ := Aside0.mk (below_step (by repeat (first | (with_reducible first | exact HB.out | apply zA | apply zN | apply zD | refine zS ?_ GE235.out | refine zS ?_ GE236.out | refine zS ?_ GE251.out) | exact HB.out)) hb); clear HO_252003; clear HO_252004; clear BK235; clear BK236; clear BK251; clear HB; have HO_252003 := n0_; have HO_252004 := n1_; have BK235 := n2_; have BK236 := n3_; have BK251 := n4_; have HB := n5_; clear n0_ n1_ n2_ n3_ n4_ n5_; (try clear hb); (try clear hb2); (try clear hk); (try clear hi)))
         go_ret
         exact ⟨by first | rfl | (simp [errW_none, errW_some] <;> rfl) | (simp [*, errW_none, errW_some] <;> rfl), by repeat (first | (with_reducible first | exact HB.out | apply zA | apply zN | apply zD | refine zS ?_ GE235.out | refine zS ?_ GE236.out | refine zS ?_ GE251.out) | exact HB.out)⟩
       ·
        replace c93 := Bool.eq_false_iff.mpr c93
        subst c93
        have H1 : ((tendrilplain_Nodes.f kj21 t241 t242 t243 t244 t247 (⟨#[]⟩ : ByteArray) (⟨#[]⟩ : ByteArray) (⟨#[]⟩ : ByteArray) ([] : List (S42)) ([] : List (S25))).bind fun t255 => (if t255 = true then ((vtree_Same.f kj21 a0_0 a0_1 a0_2 l0_3 l0_4 a0_0 a0_1 a0_2 l0_3 l0_4).bind fun t256 => (if t256 = true then (some false) else ((tendrillaw11_same.f kj21).bind fun t257 => (some t257)))) else (some false))) = some r := by rw [if_neg (show ¬ (false = true) by decide)] at H; exact H
        clear H
        have H := H1
        clear H1
        replace H := Option.bind_eq_some_iff.mp H
        obtain ⟨t255, A1850, H⟩ := H
        replace H : (if t255 = true then ((vtree_Same.f kj21 a0_0 a0_1 a0_2 l0_3 l0_4 a0_0 a0_1 a0_2 l0_3 l0_4).bind fun t256 => (if t256 = true then (some false) else ((tendrillaw11_same.f kj21).bind fun t257 => (some t257)))) else (some false)) = some r := H
        have A185 := Aside0.mk A1850
        clear A1850
        by_cases c186 : t255 = true
        ·
         subst c186
         have H1 : ((vtree_Same.f kj21 a0_0 a0_1 a0_2 l0_3 l0_4 a0_0 a0_1 a0_2 l0_3 l0_4).bind fun t256 => (if t256 = true then (some false) else ((tendrillaw11_same.f kj21).bind fun t257 => (some t257)))) = some r := by rw [if_pos rfl] at H; exact H
         clear H
         have H := H1
         clear H1
         replace H := Option.bind_eq_some_iff.mp H
         obtain ⟨t256, A1870, H⟩ := H
         replace H : (if t256 = true then (some false) else ((tendrillaw11_same.f kj21).bind fun t257 => (some t257))) = some r := H
         have A187 := Aside0.mk A1870
         clear A1870
         by_cases c188 : t256 = true
         ·
          subst c188
          have H1 : (some false) = some r := by rw [if_pos rfl] at H; exact H
          clear H
          have H := H1
          clear H1
          obtain rfl := Option.some.inj H
          have hnb189 := NB251_235.out
          have hnc189 := NB235_251.out
          have hnb190 := NB251_236.out
          have hnc190 := NB236_251.out
          have hcz191_0 : wc.cell? ⟨gb251, 0, none⟩ = some (.string t241) := (zC BK251.out 0).trans rfl
          have hcz191_1 : wc.cell? ⟨gb251, 1, none⟩ = some (.string t242) := (zC BK251.out 1).trans rfl
          have hcz191_2 : wc.cell? ⟨gb251, 2, none⟩ = some (.string t243) := (zC BK251.out 2).trans rfl
          have hcz191_3 : wc.cell? ⟨gb251, 3, none⟩ = some (.slice Ao32 t244.length co32) := (zC BK251.out 3).trans rfl
          have hcz191_4 : wc.cell? ⟨gb251, 4, none⟩ = some (.slice Ao33 t247.length co33) := (zC BK251.out 4).trans rfl
          have hfz191_0 := zR BK251.out 0
          have hfz191_1 := zR BK251.out 1
          have hfz191_2 := zR BK251.out 2
          have hfz191_3 := zR BK251.out 3
          have hfz191_4 := zR BK251.out 4
          go_wp2_with (first | ((with_reducible refine gate_callee (f := 18) rfl ?_); refine goesL_ (some 51) rfl rfl Try.func18 (by kernel_rfl) rfl #[.agg #[.string t241, .string t242, .string t243, .slice Ao32 t244.length co32, .slice Ao33 t247.length co33], .agg #[.string (⟨#[]⟩ : ByteArray), .string (⟨#[]⟩ : ByteArray), .string (⟨#[]⟩ : ByteArray), .slice none 0 0, .slice none 0 0]] rfl (by (try simp only [List.map_toArray, List.map_cons, List.map_nil]); first | done | rfl | (simp only [List.length_drop, List.length_take]; rfl)) ?_; (refine (tendrilplain_Nodes.calls kj21 t241 t242 t243 _ _ t244 _ _ t247 (⟨#[]⟩ : ByteArray) (⟨#[]⟩ : ByteArray) (⟨#[]⟩ : ByteArray) _ _ ([] : List (S42)) _ _ ([] : List (S25)) true _ ?side1 ?side2 ?side3 ?side4 ?side5 ?side6 ?side7 ?side8 A185.out).mono ?_); (case side1 => repeat (first | exact (Kd.R_reads' HO_252003.out).2.2 | (with_reducible refine Kd.C_alloc ?_ _) | (with_reducible refine Kd.C_drewN ?_ _) | (with_reducible refine Kd.C_drew ?_))); (case side2 => exact (Kd.R_reads' HO_252003.out).2.1); (case side3 => repeat (first | exact (Kd.R_reads' HO_252004.out).2.2 | (with_reducible refine Kd.C_alloc ?_ _) | (with_reducible refine Kd.C_drewN ?_ _) | (with_reducible refine Kd.C_drew ?_))); (case side4 => exact (Kd.R_reads' HO_252004.out).2.1); (case side5 => exact Kd.C_nil _ _); (case side6 => exact Nat.le_refl _); (case side7 => exact Kd.C_nil _ _); (case side8 => exact Nat.le_refl _); rintro e w192 ⟨rfl, hb⟩; refine ⟨_, rfl, ?_⟩; have n0_ := Aside0.mk (Kd.R_below (by (with_reducible repeat (first | apply Kd.R_alloc | apply Kd.R_drewN | apply Kd.R_drew)); exact HO_252003.out) hb); have n1_ := Aside0.mk (Kd.R_below (by (with_reducible repeat (first | apply Kd.R_alloc | apply Kd.R_drewN | apply Kd.R_drew)); exact HO_252004.out) hb); have n2_ := Aside0.mk (blk_below (g := gb235) (o := .cells #[.string a0_0, .string a0_1, .string a0_2, .slice A0_3 l0_3.length c0_3, .slice A0_4 l0_4.length c0_4] 25 (0, 0)) (by (with_reducible repeat first | apply zM | apply zE | apply zF); exact BK235.out) hb); have n3_ := Aside0.mk (blk_below (g := gb236) (o := .cells #[.string a1_0, .string a1_1, .string a1_2, .slice A1_3 l1_3.length c1_3, .slice A1_4 l1_4.length c1_4] 25 (0, 0)) (by (with_reducible repeat first | apply zM | apply zE | apply zF); exact BK236.out) hb); have n4_ := Aside0.mk (blk_below (g := gb251) (o := .cells #[.string t241, .string t242, .string t243, .slice Ao32 t244.length co32, .slice Ao33 t247.length co33] 25 (0, 0)) (by (with_reducible repeat first | apply zM | apply zE | apply zF); exact BK251.out) hb); have n5_ := Aside0.mk (below_step (by repeat (first | (with_reducible first | exact HB.out | apply zA | apply zN | apply zD | refine zS ?_ GE235.out | refine zS ?_ GE236.out | refine zS ?_ GE251.out) | exact HB.out)) hb); clear HO_252003; clear HO_252004; clear BK235; clear BK236; clear BK251; clear HB; have HO_252003 := n0_; have HO_252004 := n1_; have BK235 := n2_; have BK236 := n3_; have BK251 := n4_; have HB := n5_; clear n0_ n1_ n2_ n3_ n4_ n5_; (try clear hb); (try clear hb2); (try clear hk); (try clear hi); have hnb193 := NB235_236.out; have hnc193 := NB236_235.out; have hcz194_0 : w192.cell? ⟨gb235, 0, none⟩ = some (.string a0_0) := (zC BK235.out 0).trans rfl; have hcz194_1 : w192.cell? ⟨gb235, 1, none⟩ = some (.string a0_1) := (zC BK235.out 1).trans rfl; have hcz194_2 : w192.cell? ⟨gb235, 2, none⟩ = some (.string a0_2) := (zC BK235.out 2).trans rfl; have hcz194_3 : w192.cell? ⟨gb235, 3, none⟩ = some (.slice A0_3 l0_3.length c0_3) := (zC BK235.out 3).trans rfl; have hcz194_4 : w192.cell? ⟨gb235, 4, none⟩ = some (.slice A0_4 l0_4.length c0_4) := (zC BK235.out 4).trans rfl; have hfz194_0 := zR BK235.out 0; have hfz194_1 := zR BK235.out 1; have hfz194_2 := zR BK235.out 2; have hfz194_3 := zR BK235.out 3; have hfz194_4 := zR BK235.out 4) | (go_at_call 17; (with_reducible refine (vtree_Same.calls kj21 a0_0 a0_1 a0_2 _ _ l0_3 _ _ l0_4 a0_0 a0_1 a0_2 _ _ l0_3 _ _ l0_4 true _ ?side1 ?side2 ?side3 ?side4 ?side5 ?side6 ?side7 ?side8 A187.out).mono ?_); (case side1 => repeat (first | exact (Kd.C_below HR0_3.out HB.out) | (with_reducible refine Kd.C_alloc ?_ _) | (with_reducible refine Kd.C_drewN ?_ _) | (with_reducible refine Kd.C_drew ?_))); (case side2 => exact HC0_3.out); (case side3 => repeat (first | exact (Kd.C_below HR0_4.out HB.out) | (with_reducible refine Kd.C_alloc ?_ _) | (with_reducible refine Kd.C_drewN ?_ _) | (with_reducible refine Kd.C_drew ?_))); (case side4 => exact HC0_4.out); (case side5 => repeat (first | exact (Kd.C_below HR0_3.out HB.out) | (with_reducible refine Kd.C_alloc ?_ _) | (with_reducible refine Kd.C_drewN ?_ _) | (with_reducible refine Kd.C_drew ?_))); (case side6 => exact HC0_3.out); (case side7 => repeat (first | exact (Kd.C_below HR0_4.out HB.out) | (with_reducible refine Kd.C_alloc ?_ _) | (with_reducible refine Kd.C_drewN ?_ _) | (with_reducible refine Kd.C_drew ?_))); (case side8 => exact HC0_4.out); rintro e w195 ⟨rfl, hb⟩; have n0_ := Aside0.mk (Kd.R_below (by (with_reducible repeat (first | apply Kd.R_alloc | apply Kd.R_drewN | apply Kd.R_drew)); exact HO_252003.out) hb); have n1_ := Aside0.mk (Kd.R_below (by (with_reducible repeat (first | apply Kd.R_alloc | apply Kd.R_drewN | apply Kd.R_drew)); exact HO_252004.out) hb); have n2_ := Aside0.mk (blk_below (g := gb235) (o := .cells #[.string a0_0, .string a0_1, .string a0_2, .slice A0_3 l0_3.length c0_3, .slice A0_4 l0_4.length c0_4] 25 (0, 0)) (by (with_reducible repeat first | apply zM | apply zE | apply zF); exact BK235.out) hb); have n3_ := Aside0.mk (blk_below (g := gb236) (o := .cells #[.string a1_0, .string a1_1, .string a1_2, .slice A1_3 l1_3.length c1_3, .slice A1_4 l1_4.length c1_4] 25 (0, 0)) (by (with_reducible repeat first | apply zM | apply zE | apply zF); exact BK236.out) hb); have n4_ := Aside0.mk (blk_below (g := gb251) (o := .cells #[.string t241, .string t242, .string t243, .slice Ao32 t244.length co32, .slice Ao33 t247.length co33] 25 (0, 0)) (by (with_reducible repeat first | apply zM | apply zE | apply zF); exact BK251.out) hb); have n5_ := Aside0.mk (below_step (by repeat (first | (with_reducible first | exact HB.out | apply zA | apply zN | apply zD | refine zS ?_ GE235.out | refine zS ?_ GE236.out | refine zS ?_ GE251.out) | exact HB.out)) hb); clear HO_252003; clear HO_252004; clear BK235; clear BK236; clear BK251; clear HB; have HO_252003 := n0_; have HO_252004 := n1_; have BK235 := n2_; have BK236 := n3_; have BK251 := n4_; have HB := n5_; clear n0_ n1_ n2_ n3_ n4_ n5_; (try clear hb); (try clear hb2); (try clear hk); (try clear hi)))
          go_ret
          exact ⟨by first | rfl | (simp [errW_none, errW_some] <;> rfl) | (simp [*, errW_none, errW_some] <;> rfl), by repeat (first | (with_reducible first | exact HB.out | apply zA | apply zN | apply zD | refine zS ?_ GE235.out | refine zS ?_ GE236.out | refine zS ?_ GE251.out) | exact HB.out)⟩
         ·
          replace c188 := Bool.eq_false_iff.mpr c188
          subst c188
          have H1 : ((tendrillaw11_same.f kj21).bind fun t257 => (some t257)) = some r := by rw [if_neg (show ¬ (false = true) by decide)] at H; exact H
          clear H
          have H := H1
          clear H1
          replace H := Option.bind_eq_some_iff.mp H
          obtain ⟨t257, A1960, H⟩ := H
          replace H : (some t257) = some r := H
          have A196 := Aside0.mk A1960
          clear A1960
          obtain rfl := Option.some.inj H
          have hnb197 := NB251_235.out
          have hnc197 := NB235_251.out
          have hnb198 := NB251_236.out
          have hnc198 := NB236_251.out
          have hcz199_0 : wc.cell? ⟨gb251, 0, none⟩ = some (.string t241) := (zC BK251.out 0).trans rfl
          have hcz199_1 : wc.cell? ⟨gb251, 1, none⟩ = some (.string t242) := (zC BK251.out 1).trans rfl
          have hcz199_2 : wc.cell? ⟨gb251, 2, none⟩ = some (.string t243) := (zC BK251.out 2).trans rfl
          have hcz199_3 : wc.cell? ⟨gb251, 3, none⟩ = some (.slice Ao32 t244.length co32) := (zC BK251.out 3).trans rfl
          have hcz199_4 : wc.cell? ⟨gb251, 4, none⟩ = some (.slice Ao33 t247.length co33) := (zC BK251.out 4).trans rfl
          have hfz199_0 := zR BK251.out 0
          have hfz199_1 := zR BK251.out 1
          have hfz199_2 := zR BK251.out 2
          have hfz199_3 := zR BK251.out 3
          have hfz199_4 := zR BK251.out 4
          go_wp2_with (first | ((with_reducible refine gate_callee (f := 18) rfl ?_); refine goesL_ (some 51) rfl rfl Try.func18 (by kernel_rfl) rfl #[.agg #[.string t241, .string t242, .string t243, .slice Ao32 t244.length co32, .slice Ao33 t247.length co33], .agg #[.string (⟨#[]⟩ : ByteArray), .string (⟨#[]⟩ : ByteArray), .string (⟨#[]⟩ : ByteArray), .slice none 0 0, .slice none 0 0]] rfl (by (try simp only [List.map_toArray, List.map_cons, List.map_nil]); first | done | rfl | (simp only [List.length_drop, List.length_take]; rfl)) ?_; (refine (tendrilplain_Nodes.calls kj21 t241 t242 t243 _ _ t244 _ _ t247 (⟨#[]⟩ : ByteArray) (⟨#[]⟩ : ByteArray) (⟨#[]⟩ : ByteArray) _ _ ([] : List (S42)) _ _ ([] : List (S25)) true _ ?side1 ?side2 ?side3 ?side4 ?side5 ?side6 ?side7 ?side8 A185.out).mono ?_); (case side1 => repeat (first | exact (Kd.R_reads' HO_252003.out).2.2 | (with_reducible refine Kd.C_alloc ?_ _) | (with_reducible refine Kd.C_drewN ?_ _) | (with_reducible refine Kd.C_drew ?_))); (case side2 => exact (Kd.R_reads' HO_252003.out).2.1); (case side3 => repeat (first | exact (Kd.R_reads' HO_252004.out).2.2 | (with_reducible refine Kd.C_alloc ?_ _) | (with_reducible refine Kd.C_drewN ?_ _) | (with_reducible refine Kd.C_drew ?_))); (case side4 => exact (Kd.R_reads' HO_252004.out).2.1); (case side5 => exact Kd.C_nil _ _); (case side6 => exact Nat.le_refl _); (case side7 => exact Kd.C_nil _ _); (case side8 => exact Nat.le_refl _); rintro e w200 ⟨rfl, hb⟩; refine ⟨_, rfl, ?_⟩; have n0_ := Aside0.mk (Kd.R_below (by (with_reducible repeat (first | apply Kd.R_alloc | apply Kd.R_drewN | apply Kd.R_drew)); exact HO_252003.out) hb); have n1_ := Aside0.mk (Kd.R_below (by (with_reducible repeat (first | apply Kd.R_alloc | apply Kd.R_drewN | apply Kd.R_drew)); exact HO_252004.out) hb); have n2_ := Aside0.mk (blk_below (g := gb235) (o := .cells #[.string a0_0, .string a0_1, .string a0_2, .slice A0_3 l0_3.length c0_3, .slice A0_4 l0_4.length c0_4] 25 (0, 0)) (by (with_reducible repeat first | apply zM | apply zE | apply zF); exact BK235.out) hb); have n3_ := Aside0.mk (blk_below (g := gb236) (o := .cells #[.string a1_0, .string a1_1, .string a1_2, .slice A1_3 l1_3.length c1_3, .slice A1_4 l1_4.length c1_4] 25 (0, 0)) (by (with_reducible repeat first | apply zM | apply zE | apply zF); exact BK236.out) hb); have n4_ := Aside0.mk (blk_below (g := gb251) (o := .cells #[.string t241, .string t242, .string t243, .slice Ao32 t244.length co32, .slice Ao33 t247.length co33] 25 (0, 0)) (by (with_reducible repeat first | apply zM | apply zE | apply zF); exact BK251.out) hb); have n5_ := Aside0.mk (below_step (by repeat (first | (with_reducible first | exact HB.out | apply zA | apply zN | apply zD | refine zS ?_ GE235.out | refine zS ?_ GE236.out | refine zS ?_ GE251.out) | exact HB.out)) hb); clear HO_252003; clear HO_252004; clear BK235; clear BK236; clear BK251; clear HB; have HO_252003 := n0_; have HO_252004 := n1_; have BK235 := n2_; have BK236 := n3_; have BK251 := n4_; have HB := n5_; clear n0_ n1_ n2_ n3_ n4_ n5_; (try clear hb); (try clear hb2); (try clear hk); (try clear hi); have hnb201 := NB235_236.out; have hnc201 := NB236_235.out; have hcz202_0 : w200.cell? ⟨gb235, 0, none⟩ = some (.string a0_0) := (zC BK235.out 0).trans rfl; have hcz202_1 : w200.cell? ⟨gb235, 1, none⟩ = some (.string a0_1) := (zC BK235.out 1).trans rfl; have hcz202_2 : w200.cell? ⟨gb235, 2, none⟩ = some (.string a0_2) := (zC BK235.out 2).trans rfl; have hcz202_3 : w200.cell? ⟨gb235, 3, none⟩ = some (.slice A0_3 l0_3.length c0_3) := (zC BK235.out 3).trans rfl; have hcz202_4 : w200.cell? ⟨gb235, 4, none⟩ = some (.slice A0_4 l0_4.length c0_4) := (zC BK235.out 4).trans rfl; have hfz202_0 := zR BK235.out 0; have hfz202_1 := zR BK235.out 1; have hfz202_2 := zR BK235.out 2; have hfz202_3 := zR BK235.out 3; have hfz202_4 := zR BK235.out 4) | (go_at_call 17; (with_reducible refine (vtree_Same.calls kj21 a0_0 a0_1 a0_2 _ _ l0_3 _ _ l0_4 a0_0 a0_1 a0_2 _ _ l0_3 _ _ l0_4 false _ ?side1 ?side2 ?side3 ?side4 ?side5 ?side6 ?side7 ?side8 A187.out).mono ?_); (case side1 => repeat (first | exact (Kd.C_below HR0_3.out HB.out) | (with_reducible refine Kd.C_alloc ?_ _) | (with_reducible refine Kd.C_drewN ?_ _) | (with_reducible refine Kd.C_drew ?_))); (case side2 => exact HC0_3.out); (case side3 => repeat (first | exact (Kd.C_below HR0_4.out HB.out) | (with_reducible refine Kd.C_alloc ?_ _) | (with_reducible refine Kd.C_drewN ?_ _) | (with_reducible refine Kd.C_drew ?_))); (case side4 => exact HC0_4.out); (case side5 => repeat (first | exact (Kd.C_below HR0_3.out HB.out) | (with_reducible refine Kd.C_alloc ?_ _) | (with_reducible refine Kd.C_drewN ?_ _) | (with_reducible refine Kd.C_drew ?_))); (case side6 => exact HC0_3.out); (case side7 => repeat (first | exact (Kd.C_below HR0_4.out HB.out) | (with_reducible refine Kd.C_alloc ?_ _) | (with_reducible refine Kd.C_drewN ?_ _) | (with_reducible refine Kd.C_drew ?_))); (case side8 => exact HC0_4.out); rintro e w203 ⟨rfl, hb⟩; have n0_ := Aside0.mk (Kd.R_below (by (with_reducible repeat (first | apply Kd.R_alloc | apply Kd.R_drewN | apply Kd.R_drew)); exact HO_252003.out) hb); have n1_ := Aside0.mk (Kd.R_below (by (with_reducible repeat (first | apply Kd.R_alloc | apply Kd.R_drewN | apply Kd.R_drew)); exact HO_252004.out) hb); have n2_ := Aside0.mk (blk_below (g := gb235) (o := .cells #[.string a0_0, .string a0_1, .string a0_2, .slice A0_3 l0_3.length c0_3, .slice A0_4 l0_4.length c0_4] 25 (0, 0)) (by (with_reducible repeat first | apply zM | apply zE | apply zF); exact BK235.out) hb); have n3_ := Aside0.mk (blk_below (g := gb236) (o := .cells #[.string a1_0, .string a1_1, .string a1_2, .slice A1_3 l1_3.length c1_3, .slice A1_4 l1_4.length c1_4] 25 (0, 0)) (by (with_reducible repeat first | apply zM | apply zE | apply zF); exact BK236.out) hb); have n4_ := Aside0.mk (blk_below (g := gb251) (o := .cells #[.string t241, .string t242, .string t243, .slice Ao32 t244.length co32, .slice Ao33 t247.length co33] 25 (0, 0)) (by (with_reducible repeat first | apply zM | apply zE | apply zF); exact BK251.out) hb); have n5_ := Aside0.mk (below_step (by repeat (first | (with_reducible first | exact HB.out | apply zA | apply zN | apply zD | refine zS ?_ GE235.out | refine zS ?_ GE236.out | refine zS ?_ GE251.out) | exact HB.out)) hb); clear HO_252003; clear HO_252004; clear BK235; clear BK236; clear BK251; clear HB; have HO_252003 := n0_; have HO_252004 := n1_; have BK235 := n2_; have BK236 := n3_; have BK251 := n4_; have HB := n5_; clear n0_ n1_ n2_ n3_ n4_ n5_; (try clear hb); (try clear hb2); (try clear hk); (try clear hi)) | (go_at_call 7; (with_reducible refine (tendrillaw11_same.calls kj21  t257 _ A196.out).mono ?_); rintro e w204 ⟨rfl, hb⟩; have n0_ := Aside0.mk (Kd.R_below (by (with_reducible repeat (first | apply Kd.R_alloc | apply Kd.R_drewN | apply Kd.R_drew)); exact HO_252003.out) hb); have n1_ := Aside0.mk (Kd.R_below (by (with_reducible repeat (first | apply Kd.R_alloc | apply Kd.R_drewN | apply Kd.R_drew)); exact HO_252004.out) hb); have n2_ := Aside0.mk (blk_below (g := gb235) (o := .cells #[.string a0_0, .string a0_1, .string a0_2, .slice A0_3 l0_3.length c0_3, .slice A0_4 l0_4.length c0_4] 25 (0, 0)) (by (with_reducible repeat first | apply zM | apply zE | apply zF); exact BK235.out) hb); have n3_ := Aside0.mk (blk_below (g := gb236) (o := .cells #[.string a1_0, .string a1_1, .string a1_2, .slice A1_3 l1_3.length c1_3, .slice A1_4 l1_4.length c1_4] 25 (0, 0)) (by (with_reducible repeat first | apply zM | apply zE | apply zF); exact BK236.out) hb); have n4_ := Aside0.mk (blk_below (g := gb251) (o := .cells #[.string t241, .string t242, .string t243, .slice Ao32 t244.length co32, .slice Ao33 t247.length co33] 25 (0, 0)) (by (with_reducible repeat first | apply zM | apply zE | apply zF); exact BK251.out) hb); have n5_ := Aside0.mk (below_step (by repeat (first | (with_reducible first | exact HB.out | apply zA | apply zN | apply zD | refine zS ?_ GE235.out | refine zS ?_ GE236.out | refine zS ?_ GE251.out) | exact HB.out)) hb); clear HO_252003; clear HO_252004; clear BK235; clear BK236; clear BK251; clear HB; have HO_252003 := n0_; have HO_252004 := n1_; have BK235 := n2_; have BK236 := n3_; have BK251 := n4_; have HB := n5_; clear n0_ n1_ n2_ n3_ n4_ n5_; (try clear hb); (try clear hb2); (try clear hk); (try clear hi)))
          go_ret
          exact ⟨by first | rfl | (simp [errW_none, errW_some] <;> rfl) | (simp [*, errW_none, errW_some] <;> rfl), by repeat (first | (with_reducible first | exact HB.out | apply zA | apply zN | apply zD | refine zS ?_ GE235.out | refine zS ?_ GE236.out | refine zS ?_ GE251.out) | exact HB.out)⟩
        ·
         replace c186 := Bool.eq_false_iff.mpr c186
         subst c186
         have H1 : (some false) = some r := by rw [if_neg (show ¬ (false = true) by decide)] at H; exact H
         clear H
         have H := H1
         clear H1
         obtain rfl := Option.some.inj H
         have hnb205 := NB251_235.out
         have hnc205 := NB235_251.out
         have hnb206 := NB251_236.out
         have hnc206 := NB236_251.out
         have hcz207_0 : wc.cell? ⟨gb251, 0, none⟩ = some (.string t241) := (zC BK251.out 0).trans rfl
         have hcz207_1 : wc.cell? ⟨gb251, 1, none⟩ = some (.string t242) := (zC BK251.out 1).trans rfl
         have hcz207_2 : wc.cell? ⟨gb251, 2, none⟩ = some (.string t243) := (zC BK251.out 2).trans rfl
         have hcz207_3 : wc.cell? ⟨gb251, 3, none⟩ = some (.slice Ao32 t244.length co32) := (zC BK251.out 3).trans rfl
         have hcz207_4 : wc.cell? ⟨gb251, 4, none⟩ = some (.slice Ao33 t247.length co33) := (zC BK251.out 4).trans rfl
         have hfz207_0 := zR BK251.out 0
         have hfz207_1 := zR BK251.out 1
         have hfz207_2 := zR BK251.out 2
         have hfz207_3 := zR BK251.out 3
         have hfz207_4 := zR BK251.out 4
         go_wp2_with (first | ((with_reducible refine gate_callee (f := 18) rfl ?_); refine goesL_ (some 51) rfl rfl Try.func18 (by kernel_rfl) rfl #[.agg #[.string t241, .string t242, .string t243, .slice Ao32 t244.length co32, .slice Ao33 t247.length co33], .agg #[.string (⟨#[]⟩ : ByteArray), .string (⟨#[]⟩ : ByteArray), .string (⟨#[]⟩ : ByteArray), .slice none 0 0, .slice none 0 0]] rfl (by (try simp only [List.map_toArray, List.map_cons, List.map_nil]); first | done | rfl | (simp only [List.length_drop, List.length_take]; rfl)) ?_; (refine (tendrilplain_Nodes.calls kj21 t241 t242 t243 _ _ t244 _ _ t247 (⟨#[]⟩ : ByteArray) (⟨#[]⟩ : ByteArray) (⟨#[]⟩ : ByteArray) _ _ ([] : List (S42)) _ _ ([] : List (S25)) false _ ?side1 ?side2 ?side3 ?side4 ?side5 ?side6 ?side7 ?side8 A185.out).mono ?_); (case side1 => repeat (first | exact (Kd.R_reads' HO_252003.out).2.2 | (with_reducible refine Kd.C_alloc ?_ _) | (with_reducible refine Kd.C_drewN ?_ _) | (with_reducible refine Kd.C_drew ?_))); (case side2 => exact (Kd.R_reads' HO_252003.out).2.1); (case side3 => repeat (first | exact (Kd.R_reads' HO_252004.out).2.2 | (with_reducible refine Kd.C_alloc ?_ _) | (with_reducible refine Kd.C_drewN ?_ _) | (with_reducible refine Kd.C_drew ?_))); (case side4 => exact (Kd.R_reads' HO_252004.out).2.1); (case side5 => exact Kd.C_nil _ _); (case side6 => exact Nat.le_refl _); (case side7 => exact Kd.C_nil _ _); (case side8 => exact Nat.le_refl _); rintro e w208 ⟨rfl, hb⟩; refine ⟨_, rfl, ?_⟩; have n0_ := Aside0.mk (Kd.R_below (by (with_reducible repeat (first | apply Kd.R_alloc | apply Kd.R_drewN | apply Kd.R_drew)); exact HO_252003.out) hb); have n1_ := Aside0.mk (Kd.R_below (by (with_reducible repeat (first | apply Kd.R_alloc | apply Kd.R_drewN | apply Kd.R_drew)); exact HO_252004.out) hb); have n2_ := Aside0.mk (blk_below (g := gb235) (o := .cells #[.string a0_0, .string a0_1, .string a0_2, .slice A0_3 l0_3.length c0_3, .slice A0_4 l0_4.length c0_4] 25 (0, 0)) (by (with_reducible repeat first | apply zM | apply zE | apply zF); exact BK235.out) hb); have n3_ := Aside0.mk (blk_below (g := gb236) (o := .cells #[.string a1_0, .string a1_1, .string a1_2, .slice A1_3 l1_3.length c1_3, .slice A1_4 l1_4.length c1_4] 25 (0, 0)) (by (with_reducible repeat first | apply zM | apply zE | apply zF); exact BK236.out) hb); have n4_ := Aside0.mk (blk_below (g := gb251) (o := .cells #[.string t241, .string t242, .string t243, .slice Ao32 t244.length co32, .slice Ao33 t247.length co33] 25 (0, 0)) (by (with_reducible repeat first | apply zM | apply zE | apply zF); exact BK251.out) hb); have n5_ := Aside0.mk (below_step (by repeat (first | (with_reducible first | exact HB.out | apply zA | apply zN | apply zD | refine zS ?_ GE235.out | refine zS ?_ GE236.out | refine zS ?_ GE251.out) | exact HB.out)) hb); clear HO_252003; clear HO_252004; clear BK235; clear BK236; clear BK251; clear HB; have HO_252003 := n0_; have HO_252004 := n1_; have BK235 := n2_; have BK236 := n3_; have BK251 := n4_; have HB := n5_; clear n0_ n1_ n2_ n3_ n4_ n5_; (try clear hb); (try clear hb2); (try clear hk); (try clear hi)))
         go_ret
         exact ⟨by first | rfl | (simp [errW_none, errW_some] <;> rfl) | (simp [*, errW_none, errW_some] <;> rfl), by repeat (first | (with_reducible first | exact HB.out | apply zA | apply zN | apply zD | refine zS ?_ GE235.out | refine zS ?_ GE236.out | refine zS ?_ GE251.out) | exact HB.out)⟩

-- squeezed
end Go.Proofs.Ytafkgjnafddgbaa.G
