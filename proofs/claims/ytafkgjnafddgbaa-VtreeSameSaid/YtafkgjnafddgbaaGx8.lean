-- Written by gp.py (wip/gen) for this claim: pure functions and contracts, out of the translation; not trusted: Lean checks it.
import Derived.Test.YtafkgjnafddgbaaGx0
import Derived.Test.YtafkgjnafddgbaaH1c
import Derived.Test.YtafkgjnafddgbaaH3
import Derived.Test.YtafkgjnafddgbaaH4c
import Derived.Test.YtafkgjnafddgbaaGx1
import Derived.Test.YtafkgjnafddgbaaGx7
namespace Go.Proofs.Ytafkgjnafddgbaa.G
open Go.RowKit Go.Proofs.YtafkgjnafddgbaaW.PrintWords Go.Proofs.YtafkgjnafddgbaaW.PrintLast Go.Proofs.YtafkgjnafddgbaaW.PrintMore
attribute [local go_sem] max2_int min2_int max_two min_two max_three min_three max_four min_four   -- for this text's walks alone
set_option linter.unusedVariables false
set_option linter.unusedSimpArgs false

attribute [local go_sem high] eqA42
/-! ### tendrilref11_Right: function 15 -/
def tendrilref11_Right.f (k : Nat) (a0_0 : ByteArray) (a0_1 : ByteArray) (a0_2 : ByteArray) (l0_3 : List (S42)) (l0_4 : List (S25)) : Option (Bool) := (tendrilref11_Check.f k a0_0 a0_1 a0_2 l0_3 l0_4).bind fun bt182 => (some (bt182.2 == 0))
set_option maxHeartbeats 8000000 in
set_option maxRecDepth 100000 in
theorem tendrilref11_Right.calls (k : Nat) (a0_0 : ByteArray) (a0_1 : ByteArray) (a0_2 : ByteArray) (A0_3 : Option Addr) (c0_3 : Nat) (l0_3 : List (S42)) (A0_4 : Option Addr) (c0_4 : Nat) (l0_4 : List (S25)) (r : Bool) (w : World) (hr0_3 : Kd.C k42 w A0_3 l0_3.length l0_3) (hc0_3 : l0_3.length ≤ c0_3) (hr0_4 : Kd.C k25 w A0_4 l0_4.length l0_4) (hc0_4 : l0_4.length ≤ c0_4) (h : tendrilref11_Right.f k a0_0 a0_1 a0_2 l0_3 l0_4 = some r) :
    Calls Try.prog 15 #[.agg #[.string a0_0, .string a0_1, .string a0_2, .slice A0_3 l0_3.length c0_3, .slice A0_4 l0_4.length c0_4]] w fun e w' => e = .returned (.bool r) ∧ Below w.heap.size w w' := by
  have hu25 := Try.underlying25
  have HR0_3 := Aside0.mk hr0_3
  have HC0_3 := Aside0.mk hc0_3
  clear hr0_3 hc0_3
  have HR0_4 := Aside0.mk hr0_4
  have HC0_4 := Aside0.mk hc0_4
  clear hr0_4 hc0_4
  have HB := Aside0.mk (Below.refl w.heap.size w)
  have H : ((tendrilref11_Check.f k a0_0 a0_1 a0_2 l0_3 l0_4).bind fun bt182 => (some (bt182.2 == 0))) = some r := h
  clear h
  replace H := Option.bind_eq_some_iff.mp H
  obtain ⟨⟨t182, t183⟩, A20, H⟩ := H
  replace H : (some (t183 == 0)) = some r := H
  have A2 := Aside0.mk A20
  clear A20
  obtain rfl := Option.some.inj H
  go_enter Try.func15, Try.ntmps15
  go_wp2_with (first | ((with_reducible refine gate_dst (N := 1) rfl ?_); refine box_event ?hg (N := 1) ?hd (cs := #[.string a0_0, .string a0_1, .string a0_2, .slice A0_3 l0_3.length c0_3, .slice A0_4 l0_4.length c0_4]) (t := 25) ?hr ?_; (case hd => rfl); (case hg => rfl); (case hr => first | (go_simp; done) | (go_simp; rfl)); intro gb181 hg w3 hbox hb; have n0_ := Aside0.mk (below_step (by repeat (first | (with_reducible first | exact HB.out | apply below_alloc | apply pw_below_drewN | apply below_drew1) | exact HB.out)) hb); have n1_ := Aside0.mk (hbox); have n2_ := Aside0.mk ((by rw [hg]; exact (below_size (by repeat (first | (with_reducible first | exact HB.out | apply below_alloc | apply pw_below_drewN | apply below_drew1) | exact HB.out))) : w.heap.size ≤ gb181)); have n3_ := Aside0.mk ((by rw [hg]; exact (below_size (by repeat (first | (with_reducible first | exact HB.out | apply below_alloc | apply pw_below_drewN | apply below_drew1) | exact HB.out))) : w.heap.size ≤ gb181)); clear HB; have HB := n0_; have BK181 := n1_; have GW181 := n2_; have GE181 := n3_; clear n0_ n1_ n2_ n3_; clear hb hbox hg; have hcz4_0 : w3.cell? ⟨gb181, 0, none⟩ = some (.string a0_0) := (blk_cell BK181.out 0).trans rfl; have hcz4_1 : w3.cell? ⟨gb181, 1, none⟩ = some (.string a0_1) := (blk_cell BK181.out 1).trans rfl; have hcz4_2 : w3.cell? ⟨gb181, 2, none⟩ = some (.string a0_2) := (blk_cell BK181.out 2).trans rfl; have hcz4_3 : w3.cell? ⟨gb181, 3, none⟩ = some (.slice A0_3 l0_3.length c0_3) := (blk_cell BK181.out 3).trans rfl; have hcz4_4 : w3.cell? ⟨gb181, 4, none⟩ = some (.slice A0_4 l0_4.length c0_4) := (blk_cell BK181.out 4).trans rfl; have hfz4_0 := blk_frozen BK181.out 0; have hfz4_1 := blk_frozen BK181.out 1; have hfz4_2 := blk_frozen BK181.out 2; have hfz4_3 := blk_frozen BK181.out 3; have hfz4_4 := blk_frozen BK181.out 4) | ((with_reducible refine gate_callee (f := 9) rfl ?_); refine goesL_ (some 7) rfl rfl Try.func9 (by kernel_rfl) rfl #[.agg #[.string a0_0, .string a0_1, .string a0_2, .slice A0_3 l0_3.length c0_3, .slice A0_4 l0_4.length c0_4]] rfl (by (try simp only [List.map_toArray, List.map_cons, List.map_nil]); first | done | rfl | (simp only [List.length_drop, List.length_take]; rfl)) ?_; (with_reducible refine (tendrilref11_Check.calls k a0_0 a0_1 a0_2 _ _ l0_3 _ _ l0_4 t182 t183 _ ?side1 ?side2 ?side3 ?side4 A2.out).mono ?_); (case side1 => repeat (first | exact (Kd.C_below HR0_3.out HB.out) | (with_reducible refine Kd.C_alloc ?_ _) | (with_reducible refine Kd.C_drewN ?_ _) | (with_reducible refine Kd.C_drew ?_))); (case side2 => exact HC0_3.out); (case side3 => repeat (first | exact (Kd.C_below HR0_4.out HB.out) | (with_reducible refine Kd.C_alloc ?_ _) | (with_reducible refine Kd.C_drewN ?_ _) | (with_reducible refine Kd.C_drew ?_))); (case side4 => exact HC0_4.out); rintro e w5 ⟨rfl, hb⟩; refine ⟨_, rfl, ?_⟩; have n0_ := Aside0.mk (blk_below (g := gb181) (o := .cells #[.string a0_0, .string a0_1, .string a0_2, .slice A0_3 l0_3.length c0_3, .slice A0_4 l0_4.length c0_4] 25 (0, 0)) (by (with_reducible repeat (first | refine blk_drewN ?_ _ | refine blk_drew ?_ | refine blk_alloc ?_ _)); exact BK181.out) hb); have n1_ := Aside0.mk (below_step (by repeat (first | (with_reducible first | exact HB.out | apply below_alloc | apply pw_below_drewN | apply below_drew1 | refine below_set ?_ GE181.out) | exact HB.out)) hb); clear BK181; clear HB; have BK181 := n0_; have HB := n1_; clear n0_ n1_; (try clear hb); (try clear hb2); (try clear hk); (try clear hi)))
  go_ret
  exact ⟨by first | rfl | (simp [errW_none, errW_some] <;> rfl) | (simp [*, errW_none, errW_some] <;> rfl), by repeat (first | (with_reducible first | exact HB.out | apply below_alloc | apply pw_below_drewN | apply below_drew1 | refine below_set ?_ GE181.out) | exact HB.out)⟩

open Go.Proofs.YtafkgjnafddgbaaW.PrintWords renaming below_alloc → zA, pw_below_drewN → zN, below_drew1 → zD, below_set → zS, blk_drewN → zM, blk_drew → zE, blk_alloc → zF, blk_far → zG, blk_put → zP, blk_cell → zC, blk_frozen → zR
/-! ### vtree_double: function 25 -/
mutual
def vtree_double.l0 : Nat → List (S25) → Int → Int → ByteArray → ByteArray → ByteArray → List (S42) → List (S25) → Option (ByteArray × ByteArray × ByteArray × (List (S42)) × (List (S25)))
 | 0, _, _, _, _, _, _, _, _ => none
 | k + 1, x13, x14, x15, x187000, x187001, x187002, x187003, x187004 => if x15 < x14 then (if 0 ≤ x15 then (if x15 < (x13.length : Int) then ((vtree_double.f k ((rd_T25 x13 x15).f0) ((rd_T25 x13 x15).f1) ((rd_T25 x13 x15).f2) ((rd_T25 x13 x15).f3) ((rd_T25 x13 x15).f4)).bind fun bt192 => (if x187004.length < 1466015503701 then (vtree_double.l0 k x13 x14 (wrap64 (x15 + 1)) x187000 x187001 x187002 x187003 (x187004 ++ [(⟨bt192.1, bt192.2.1, bt192.2.2.1, bt192.2.2.2.1, bt192.2.2.2.2⟩ : S25)])) else (none))) else (none)) else (none)) else (some (x187000, x187001, x187002, x187003, x187004))
def vtree_double.f : Nat → ByteArray → ByteArray → ByteArray → List (S42) → List (S25) → Option (ByteArray × ByteArray × ByteArray × (List (S42)) × (List (S25)))
 | 0, _, _, _, _, _ => none
 | k + 1, a0_0, a0_1, a0_2, l0_3, l0_4 => (api_Attr_32.f l0_3).bind fun t187 => (vtree_double.l0 k l0_4 (l0_4.length : Int) 0 a0_0 a0_1 a0_2 t187 ([] : List (S25)))
end
def vtree_double.T7 : Bool × List (List Nat × List Nat) := (true, [([], []), ([0], [0]), ([], []), ([2], [2]), ([3], [3]), ([1, 4, 3], [1, 4]), ([0, 1, 2, 3, 4, 5], []), ([6, 5, 5, 0, 1, 2, 3, 4, 5], [5, 6])])
def vtree_double.B7 : List Nat := [0, 1, 0, 4, 12, 31, 63, 127]
theorem vtree_double.tab7 : rtab .any (opsOf Try.f25 7) = vtree_double.T7 := by kernel_rfl
theorem vtree_double.bits7 : waitsOk vtree_double.T7.2 vtree_double.B7 = true := by kernel_rfl
set_option maxHeartbeats 8000000 in
set_option maxRecDepth 100000 in
theorem vtree_double.calls (k : Nat) : ∀ (a0_0 : ByteArray) (a0_1 : ByteArray) (a0_2 : ByteArray) (A0_3 : Option Addr) (c0_3 : Nat) (l0_3 : List (S42)) (A0_4 : Option Addr) (c0_4 : Nat) (l0_4 : List (S25)) (r1 : ByteArray) (r2 : ByteArray) (r3 : ByteArray) (r4 : List (S42)) (r5 : List (S25)) (w : World) (hr0_3 : Kd.C k42 w A0_3 l0_3.length l0_3) (hc0_3 : l0_3.length ≤ c0_3) (hr0_4 : Kd.C k25 w A0_4 l0_4.length l0_4) (hc0_4 : l0_4.length ≤ c0_4) (h : vtree_double.f k a0_0 a0_1 a0_2 l0_3 l0_4 = some (r1, r2, r3, r4, r5)),
  Calls Try.prog 25 #[.agg #[.string a0_0, .string a0_1, .string a0_2, .slice A0_3 l0_3.length c0_3, .slice A0_4 l0_4.length c0_4]] w fun e w' => ∃ v3_ v4_ : Value, e = .returned (.agg #[.string r1, .string r2, .string r3, v3_, v4_]) ∧ Kd.R k42 42 w' w.heap.size (fun _ => True) v3_ r4 ∧ Kd.R k25 25 w' w.heap.size (fun k_ => some k_ ≠ (v3_ : Value).ownBlock) v4_ r5 ∧ Below w.heap.size w w' := by
 induction k using Nat.strongRecOn with
 | _ k ih =>
 intro a0_0 a0_1 a0_2 A0_3 c0_3 l0_3 A0_4 c0_4 l0_4 r1 r2 r3 r4 r5 w hr0_3 hc0_3 hr0_4 hc0_4 h
 cases k with
 | zero => exact absurd h (by simp [vtree_double.f])
 | succ k =>
 simp only [vtree_double.f] at h
 have hu25 := Try.underlying25
 have HR0_3 := Aside0.mk hr0_3
 have HC0_3 := Aside0.mk hc0_3
 clear hr0_3 hc0_3
 have HR0_4 := Aside0.mk hr0_4
 have HC0_4 := Aside0.mk hc0_4
 clear hr0_4 hc0_4
 have HB := Aside0.mk (Below.refl w.heap.size w)
 have H : ((api_Attr_32.f l0_3).bind fun t187 => (vtree_double.l0 k l0_4 (l0_4.length : Int) 0 a0_0 a0_1 a0_2 t187 ([] : List (S25)))) = some (r1, r2, r3, r4, r5) := h
 clear h
 replace H := Option.bind_eq_some_iff.mp H
 obtain ⟨t187, A20, H⟩ := H
 replace H : (vtree_double.l0 k l0_4 (l0_4.length : Int) 0 a0_0 a0_1 a0_2 t187 ([] : List (S25))) = some (r1, r2, r3, r4, r5) := H
 have A2 := Aside0.mk A20
 clear A20
 have H' := Aside0.mk H
 clear H
 go_enter Try.func25, Try.ntmps25
 go_wp2_with (first | ((with_reducible refine gate_dst (N := 1) rfl ?_); refine box_event ?hg (N := 1) ?hd (cs := #[.string a0_0, .string a0_1, .string a0_2, .slice A0_3 l0_3.length c0_3, .slice A0_4 l0_4.length c0_4]) (t := 25) ?hr ?_; (case hd => rfl); (case hg => rfl); (case hr => first | (go_simp; done) | (go_simp; rfl)); intro gb184 hg w3 hbox hb; have n0_ := Aside0.mk (below_step (by repeat (first | (with_reducible first | exact HB.out | apply zA | apply zN | apply zD) | exact HB.out)) hb); have n1_ := Aside0.mk (hbox); have n2_ := Aside0.mk ((by rw [hg]; exact (below_size (by repeat (first | (with_reducible first | exact HB.out | apply zA | apply zN | apply zD) | exact HB.out))) : w.heap.size ≤ gb184)); have n3_ := Aside0.mk ((by rw [hg]; exact (below_size (by repeat (first | (with_reducible first | exact HB.out | apply zA | apply zN | apply zD) | exact HB.out))) : w.heap.size ≤ gb184)); clear HB; have HB := n0_; have BK184 := n1_; have GW184 := n2_; have GE184 := n3_; clear n0_ n1_ n2_ n3_; clear hb hbox hg) | ((with_reducible refine gate_dst (N := 2) rfl ?_); refine box_event ?hg (N := 2) ?hd (cs := #[.string (⟨#[]⟩ : ByteArray), .string (⟨#[]⟩ : ByteArray), .string (⟨#[]⟩ : ByteArray), .slice none 0 0, .slice none 0 0]) (t := 25) ?hr ?_; (case hd => rfl); (case hg => rfl); (case hr => first | (go_simp; done) | (go_simp; rfl)); intro gb185 hg w4 hbox hb; have n0_ := Aside0.mk (blk_below (g := gb184) (o := .cells #[.string a0_0, .string a0_1, .string a0_2, .slice A0_3 l0_3.length c0_3, .slice A0_4 l0_4.length c0_4] 25 (0, 0)) (by (with_reducible repeat first | apply zM | apply zE | apply zF); exact BK184.out) hb); have n1_ := Aside0.mk (below_step (by repeat (first | (with_reducible first | exact HB.out | apply zA | apply zN | apply zD | refine zS ?_ GE184.out) | exact HB.out)) hb); have n2_ := Aside0.mk (hbox); have n3_ := Aside0.mk ((by rw [hg]; exact (below_size (by repeat (first | (with_reducible first | exact HB.out | apply zA | apply zN | apply zD | refine zS ?_ GE184.out) | exact HB.out))) : w.heap.size ≤ gb185)); have n4_ := Aside0.mk ((by rw [hg]; exact (below_size (by repeat (first | (with_reducible first | exact HB.out | apply zA | apply zN | apply zD | refine zS ?_ GE184.out) | exact HB.out))) : w.heap.size ≤ gb185)); have n5_ := Aside0.mk ((by rw [hg]; exact Nat.ne_of_lt (blk_lt (g := gb184) (o := .cells #[.string a0_0, .string a0_1, .string a0_2, .slice A0_3 l0_3.length c0_3, .slice A0_4 l0_4.length c0_4] 25 (0, 0)) (by (with_reducible repeat first | apply zM | apply zE | apply zF); exact BK184.out)) : gb184 ≠ gb185)); have n6_ := Aside0.mk ((by rw [hg]; exact Nat.ne_of_gt (blk_lt (g := gb184) (o := .cells #[.string a0_0, .string a0_1, .string a0_2, .slice A0_3 l0_3.length c0_3, .slice A0_4 l0_4.length c0_4] 25 (0, 0)) (by (with_reducible repeat first | apply zM | apply zE | apply zF); exact BK184.out)) : gb185 ≠ gb184)); clear BK184; clear HB; have BK184 := n0_; have HB := n1_; have BK185 := n2_; have GW185 := n3_; have GE185 := n4_; have NB184_185 := n5_; have NB185_184 := n6_; clear n0_ n1_ n2_ n3_ n4_ n5_ n6_; clear hb hbox hg; have hnb5 := NB184_185.out; have hnc5 := NB185_184.out; have hcz6_0 : w4.cell? ⟨gb184, 0, none⟩ = some (.string a0_0) := (zC BK184.out 0).trans rfl; have hcz6_1 : w4.cell? ⟨gb184, 1, none⟩ = some (.string a0_1) := (zC BK184.out 1).trans rfl; have hcz6_2 : w4.cell? ⟨gb184, 2, none⟩ = some (.string a0_2) := (zC BK184.out 2).trans rfl; have hcz6_3 : w4.cell? ⟨gb184, 3, none⟩ = some (.slice A0_3 l0_3.length c0_3) := (zC BK184.out 3).trans rfl; have hcz6_4 : w4.cell? ⟨gb184, 4, none⟩ = some (.slice A0_4 l0_4.length c0_4) := (zC BK184.out 4).trans rfl; have hfz6_0 := zR BK184.out 0; have hfz6_1 := zR BK184.out 1; have hfz6_2 := zR BK184.out 2; have hfz6_3 := zR BK184.out 3; have hfz6_4 := zR BK184.out 4) | ((with_reducible refine gate_dst (N := 3) rfl ?_); refine box_event ?hg (N := 3) ?hd (cs := #[.string (⟨#[]⟩ : ByteArray), .string (⟨#[]⟩ : ByteArray), .string (⟨#[]⟩ : ByteArray), .slice none 0 0, .slice none 0 0]) (t := 25) ?hr ?_; (case hd => rfl); (case hg => rfl); (case hr => first | (go_simp; done) | (go_simp; rfl)); intro gb186 hg w7 hbox hb; have n0_ := Aside0.mk (blk_below (g := gb184) (o := .cells #[.string a0_0, .string a0_1, .string a0_2, .slice A0_3 l0_3.length c0_3, .slice A0_4 l0_4.length c0_4] 25 (0, 0)) (by (with_reducible repeat first | apply zM | apply zE | apply zF); exact BK184.out) hb); have n1_ := Aside0.mk (blk_below (g := gb185) (o := .cells #[.string (⟨#[]⟩ : ByteArray), .string (⟨#[]⟩ : ByteArray), .string (⟨#[]⟩ : ByteArray), .slice none 0 0, .slice none 0 0] 25 (0, 0)) (by (with_reducible repeat first | apply zM | apply zE | apply zF); exact BK185.out) hb); have n2_ := Aside0.mk (below_step (by repeat (first | (with_reducible first | exact HB.out | apply zA | apply zN | apply zD | refine zS ?_ GE184.out | refine zS ?_ GE185.out) | exact HB.out)) hb); have n3_ := Aside0.mk (hbox); have n4_ := Aside0.mk ((by rw [hg]; exact (below_size (by repeat (first | (with_reducible first | exact HB.out | apply zA | apply zN | apply zD | refine zS ?_ GE184.out | refine zS ?_ GE185.out) | exact HB.out))) : w.heap.size ≤ gb186)); have n5_ := Aside0.mk ((by rw [hg]; exact (below_size (by repeat (first | (with_reducible first | exact HB.out | apply zA | apply zN | apply zD | refine zS ?_ GE184.out | refine zS ?_ GE185.out) | exact HB.out))) : w.heap.size ≤ gb186)); have n6_ := Aside0.mk ((by rw [hg]; exact Nat.ne_of_lt (blk_lt (g := gb184) (o := .cells #[.string a0_0, .string a0_1, .string a0_2, .slice A0_3 l0_3.length c0_3, .slice A0_4 l0_4.length c0_4] 25 (0, 0)) (by (with_reducible repeat first | apply zM | apply zE | apply zF); exact BK184.out)) : gb184 ≠ gb186)); have n7_ := Aside0.mk ((by rw [hg]; exact Nat.ne_of_gt (blk_lt (g := gb184) (o := .cells #[.string a0_0, .string a0_1, .string a0_2, .slice A0_3 l0_3.length c0_3, .slice A0_4 l0_4.length c0_4] 25 (0, 0)) (by (with_reducible repeat first | apply zM | apply zE | apply zF); exact BK184.out)) : gb186 ≠ gb184)); have n8_ := Aside0.mk ((by rw [hg]; exact Nat.ne_of_lt (blk_lt (g := gb185) (o := .cells #[.string (⟨#[]⟩ : ByteArray), .string (⟨#[]⟩ : ByteArray), .string (⟨#[]⟩ : ByteArray), .slice none 0 0, .slice none 0 0] 25 (0, 0)) (by (with_reducible repeat first | apply zM | apply zE | apply zF); exact BK185.out)) : gb185 ≠ gb186)); have n9_ := Aside0.mk ((by rw [hg]; exact Nat.ne_of_gt (blk_lt (g := gb185) (o := .cells #[.string (⟨#[]⟩ : ByteArray), .string (⟨#[]⟩ : ByteArray), .string (⟨#[]⟩ : ByteArray), .slice none 0 0, .slice none 0 0] 25 (0, 0)) (by (with_reducible repeat first | apply zM | apply zE | apply zF); exact BK185.out)) : gb186 ≠ gb185)); clear BK184; clear BK185; clear HB; have BK184 := n0_; have BK185 := n1_; have HB := n2_; have BK186 := n3_; have GW186 := n4_; have GE186 := n5_; have NB184_186 := n6_; have NB186_184 := n7_; have NB185_186 := n8_; have NB186_185 := n9_; clear n0_ n1_ n2_ n3_ n4_ n5_ n6_ n7_ n8_ n9_; clear hb hbox hg; have hnb8 := NB186_184.out; have hnc8 := NB184_186.out; have hnb9 := NB186_185.out; have hnc9 := NB185_186.out; have hcz10_0 : w7.cell? ⟨gb186, 0, none⟩ = some (.string (⟨#[]⟩ : ByteArray)) := (zC BK186.out 0).trans rfl; have hcz10_1 : w7.cell? ⟨gb186, 1, none⟩ = some (.string (⟨#[]⟩ : ByteArray)) := (zC BK186.out 1).trans rfl; have hcz10_2 : w7.cell? ⟨gb186, 2, none⟩ = some (.string (⟨#[]⟩ : ByteArray)) := (zC BK186.out 2).trans rfl; have hcz10_3 : w7.cell? ⟨gb186, 3, none⟩ = some (.slice none 0 0) := (zC BK186.out 3).trans rfl; have hcz10_4 : w7.cell? ⟨gb186, 4, none⟩ = some (.slice none 0 0) := (zC BK186.out 4).trans rfl; have hfz10_0 := zR BK186.out 0; have hfz10_1 := zR BK186.out 1; have hfz10_2 := zR BK186.out 2; have hfz10_3 := zR BK186.out 3; have hfz10_4 := zR BK186.out 4; have hcz11_0 : w7.cell? ⟨gb184, 0, none⟩ = some (.string a0_0) := (zC BK184.out 0).trans rfl; have hcz11_1 : w7.cell? ⟨gb184, 1, none⟩ = some (.string a0_1) := (zC BK184.out 1).trans rfl; have hcz11_2 : w7.cell? ⟨gb184, 2, none⟩ = some (.string a0_2) := (zC BK184.out 2).trans rfl; have hcz11_3 : w7.cell? ⟨gb184, 3, none⟩ = some (.slice A0_3 l0_3.length c0_3) := (zC BK184.out 3).trans rfl; have hcz11_4 : w7.cell? ⟨gb184, 4, none⟩ = some (.slice A0_4 l0_4.length c0_4) := (zC BK184.out 4).trans rfl; have hfz11_0 := zR BK184.out 0; have hfz11_1 := zR BK184.out 1; have hfz11_2 := zR BK184.out 2; have hfz11_3 := zR BK184.out 3; have hfz11_4 := zR BK184.out 4) | ((with_reducible refine gate_callee (f := 32) rfl ?_); refine goesL_ (some 9) rfl rfl Try.func32 (by kernel_rfl) rfl #[.slice A0_3 l0_3.length c0_3] rfl (by (try simp only [List.map_toArray, List.map_cons, List.map_nil]); first | done | rfl | (simp only [List.length_drop, List.length_take]; rfl)) ?_; (with_reducible refine (api_Attr_32.calls _ _ l0_3 t187 _ ?side1 ?side2 A2.out).mono ?_); (case side1 => exact Kd.C_below HR0_3.out (by repeat (first | (with_reducible first | exact HB.out | apply zA | apply zN | apply zD | refine zS ?_ GE184.out | refine zS ?_ GE185.out | refine zS ?_ GE186.out) | exact HB.out))); (case side2 => exact HC0_3.out); rintro e w12 ⟨v188, rfl, ho0, hb⟩; refine ⟨_, rfl, ?_⟩; have n0_ := Aside0.mk (Kd.R_lower ho0 (below_size (by repeat (first | (with_reducible first | exact HB.out | apply zA | apply zN | apply zD | refine zS ?_ GE184.out | refine zS ?_ GE185.out | refine zS ?_ GE186.out) | exact HB.out)))); have n1_ := Aside0.mk (blk_below (g := gb184) (o := .cells #[.string a0_0, .string a0_1, .string a0_2, .slice A0_3 l0_3.length c0_3, .slice A0_4 l0_4.length c0_4] 25 (0, 0)) (by (with_reducible repeat first | apply zM | apply zE | apply zF); refine zG ?_ NB184_186.out _; (with_reducible repeat first | apply zM | apply zE | apply zF); refine zG ?_ NB184_186.out _; (with_reducible repeat first | apply zM | apply zE | apply zF); refine zG ?_ NB184_186.out _; (with_reducible repeat first | apply zM | apply zE | apply zF); refine zG ?_ NB184_186.out _; (with_reducible repeat first | apply zM | apply zE | apply zF); refine zG ?_ NB184_186.out _; (with_reducible repeat first | apply zM | apply zE | apply zF); exact BK184.out) hb); have n2_ := Aside0.mk (blk_below (g := gb185) (o := .cells #[.string (⟨#[]⟩ : ByteArray), .string (⟨#[]⟩ : ByteArray), .string (⟨#[]⟩ : ByteArray), .slice none 0 0, .slice none 0 0] 25 (0, 0)) (by (with_reducible repeat first | apply zM | apply zE | apply zF); refine zG ?_ NB185_186.out _; (with_reducible repeat first | apply zM | apply zE | apply zF); refine zG ?_ NB185_186.out _; (with_reducible repeat first | apply zM | apply zE | apply zF); refine zG ?_ NB185_186.out _; (with_reducible repeat first | apply zM | apply zE | apply zF); refine zG ?_ NB185_186.out _; (with_reducible repeat first | apply zM | apply zE | apply zF); refine zG ?_ NB185_186.out _; (with_reducible repeat first | apply zM | apply zE | apply zF); exact BK185.out) hb); have n3_ := Aside0.mk (blk_below (g := gb186) (o := .cells #[.string a0_0, .string a0_1, .string a0_2, .slice A0_3 l0_3.length c0_3, .slice A0_4 l0_4.length c0_4] 25 (0, 0)) (by (with_reducible repeat first | apply zM | apply zE | apply zF); refine zP (cs := #[.string a0_0, .string a0_1, .string a0_2, .slice A0_3 l0_3.length c0_3, .slice none 0 0]) ?_ 4 _ rfl; (with_reducible repeat first | apply zM | apply zE | apply zF); refine zP (cs := #[.string a0_0, .string a0_1, .string a0_2, .slice none 0 0, .slice none 0 0]) ?_ 3 _ rfl; (with_reducible repeat first | apply zM | apply zE | apply zF); refine zP (cs := #[.string a0_0, .string a0_1, .string (⟨#[]⟩ : ByteArray), .slice none 0 0, .slice none 0 0]) ?_ 2 _ rfl; (with_reducible repeat first | apply zM | apply zE | apply zF); refine zP (cs := #[.string a0_0, .string (⟨#[]⟩ : ByteArray), .string (⟨#[]⟩ : ByteArray), .slice none 0 0, .slice none 0 0]) ?_ 1 _ rfl; (with_reducible repeat first | apply zM | apply zE | apply zF); refine zP (cs := #[.string (⟨#[]⟩ : ByteArray), .string (⟨#[]⟩ : ByteArray), .string (⟨#[]⟩ : ByteArray), .slice none 0 0, .slice none 0 0]) ?_ 0 _ rfl; (with_reducible repeat first | apply zM | apply zE | apply zF); exact BK186.out) hb); have n4_ := Aside0.mk (below_step (by repeat (first | (with_reducible first | exact HB.out | apply zA | apply zN | apply zD | refine zS ?_ GE184.out | refine zS ?_ GE185.out | refine zS ?_ GE186.out) | exact HB.out)) hb); clear BK184; clear BK185; clear BK186; clear HB; have HO189 := n0_; have BK184 := n1_; have BK185 := n2_; have BK186 := n3_; have HB := n4_; clear n0_ n1_ n2_ n3_ n4_; (try clear hb); (try clear hb2); (try clear hk); (try clear hi); (try clear ho0); obtain ⟨Ao13, co13, eo13⟩ := Kd.R_slice HO189.out; subst eo13; have hcz14_0 : w12.cell? ⟨gb186, 0, none⟩ = some (.string a0_0) := (zC BK186.out 0).trans rfl; have hcz14_1 : w12.cell? ⟨gb186, 1, none⟩ = some (.string a0_1) := (zC BK186.out 1).trans rfl; have hcz14_2 : w12.cell? ⟨gb186, 2, none⟩ = some (.string a0_2) := (zC BK186.out 2).trans rfl; have hcz14_3 : w12.cell? ⟨gb186, 3, none⟩ = some (.slice A0_3 l0_3.length c0_3) := (zC BK186.out 3).trans rfl; have hcz14_4 : w12.cell? ⟨gb186, 4, none⟩ = some (.slice A0_4 l0_4.length c0_4) := (zC BK186.out 4).trans rfl; have hfz14_0 := zR BK186.out 0; have hfz14_1 := zR BK186.out 1; have hfz14_2 := zR BK186.out 2; have hfz14_3 := zR BK186.out 3; have hfz14_4 := zR BK186.out 4; have hcz15_0 : w12.cell? ⟨gb184, 0, none⟩ = some (.string a0_0) := (zC BK184.out 0).trans rfl; have hcz15_1 : w12.cell? ⟨gb184, 1, none⟩ = some (.string a0_1) := (zC BK184.out 1).trans rfl; have hcz15_2 : w12.cell? ⟨gb184, 2, none⟩ = some (.string a0_2) := (zC BK184.out 2).trans rfl; have hcz15_3 : w12.cell? ⟨gb184, 3, none⟩ = some (.slice A0_3 l0_3.length c0_3) := (zC BK184.out 3).trans rfl; have hcz15_4 : w12.cell? ⟨gb184, 4, none⟩ = some (.slice A0_4 l0_4.length c0_4) := (zC BK184.out 4).trans rfl; have hfz15_0 := zR BK184.out 0; have hfz15_1 := zR BK184.out 1; have hfz15_2 := zR BK184.out 2; have hfz15_3 := zR BK184.out 3; have hfz15_4 := zR BK184.out 4))
 go_loopg [15] k (fun kq v15 w' => ∃ (x15_1 : Int) (x187004_1 : List (S25)) (u187004 : Value), v15 = .int .i64 x15_1 ∧ Aside0 (vtree_double.l0 kq l0_4 (l0_4.length : Int) x15_1 a0_0 a0_1 a0_2 t187 x187004_1 = some (r1, r2, r3, r4, r5)) ∧ Aside0 (kq ≤ k) ∧ Aside0 (Kd.R k42 42 w' w.heap.size (fun _ => True) (.slice Ao13 t187.length co13) t187) ∧ Aside0 (Kd.R k25 25 w' w.heap.size (fun k_ => some k_ ≠ ((.slice Ao13 t187.length co13) : Value).ownBlock ∧ k_ ≠ gb184 ∧ k_ ≠ gb185 ∧ k_ ≠ gb186) u187004 x187004_1) ∧ Aside0 (w'.heap[gb184]? = some (.cells #[.string a0_0, .string a0_1, .string a0_2, (.slice A0_3 l0_3.length c0_3), (.slice A0_4 l0_4.length c0_4)] 25 (0, 0))) ∧ Aside0 (w'.heap[gb185]? = some (.cells #[.string (⟨#[]⟩ : ByteArray), .string (⟨#[]⟩ : ByteArray), .string (⟨#[]⟩ : ByteArray), (.slice none 0 0), (.slice none 0 0)] 25 (0, 0))) ∧ Aside0 (w'.heap[gb186]? = some (.cells #[.string a0_0, .string a0_1, .string a0_2, (.slice Ao13 t187.length co13), u187004] 25 (0, 0))) ∧ Aside0 (Below w.heap.size w w'))
 case atStart => exact ⟨(0), (([] : List (S25))), (.slice none 0 0), (by first | rfl | (simp; done) | (simp [*]; done)), H', ⟨Nat.le_refl _⟩, ⟨by (with_reducible repeat (first | apply Kd.R_alloc | apply Kd.R_drewN | apply Kd.R_drew)); exact Kd.R_mono (Kd.R_far (p := ⟨gb186, 4, none⟩) (Kd.R_far (p := ⟨gb186, 3, none⟩) (Kd.R_types HO189.out BK186.out (by decide)) (fun _ hk => hk.2) (.slice Ao13 t187.length co13)) (fun _ hk => hk.2) (.slice none 0 0)) (fun _ hk => trivial)⟩, ⟨by first | exact Kd.R_nil _ _ _ _ _ | exact Kd.N_nil _ _ _ _ _ | exact Kd.V_nil _ _ _ _ _ | exact Kd.Q_nil _ _ _ _ _ | exact Kd.S_nil _ _ _ _ _⟩, ⟨by (with_reducible repeat first | apply zM | apply zE | apply zF); refine zG ?_ NB184_186.out _; (with_reducible repeat first | apply zM | apply zE | apply zF); refine zG ?_ NB184_186.out _; (with_reducible repeat first | apply zM | apply zE | apply zF); exact BK184.out⟩, ⟨by (with_reducible repeat first | apply zM | apply zE | apply zF); refine zG ?_ NB185_186.out _; (with_reducible repeat first | apply zM | apply zE | apply zF); refine zG ?_ NB185_186.out _; (with_reducible repeat first | apply zM | apply zE | apply zF); exact BK185.out⟩, ⟨by (with_reducible repeat first | apply zM | apply zE | apply zF); refine zP (cs := #[.string a0_0, .string a0_1, .string a0_2, .slice Ao13 t187.length co13, .slice A0_4 l0_4.length c0_4]) ?_ 4 _ rfl; (with_reducible repeat first | apply zM | apply zE | apply zF); refine zP (cs := #[.string a0_0, .string a0_1, .string a0_2, .slice A0_3 l0_3.length c0_3, .slice A0_4 l0_4.length c0_4]) ?_ 3 _ rfl; (with_reducible repeat first | apply zM | apply zE | apply zF); exact BK186.out⟩, ⟨by repeat (first | (with_reducible first | exact HB.out | apply zA | apply zN | apply zD | refine zS ?_ GE184.out | refine zS ?_ GE185.out | refine zS ?_ GE186.out) | exact HB.out)⟩⟩
 case round =>
  clear H'
  try clear c2
  try clear p2
  try clear c3
  try clear c5
  try clear c8
  try clear c9
  (try clear BK184); (try clear BK185); (try clear BK186)
  obtain ⟨x15_1, x187004_1, u187004, rfl, HA, HK1, HO_187003, HO_187004, BK184, BK185, BK186, HB⟩ := hrel
  cases gk with
  | zero => exact absurd HA.out (by simp [vtree_double.l0])
  | succ k1 =>
   have H := HA.out
   clear HA
   simp only [vtree_double.l0] at H
   by_cases c16 : x15_1 < (l0_4.length : Int)
   ·
    rw [if_pos c16] at H
    have c16b0 : decide (x15_1 < (l0_4.length : Int)) = true := decide_eq_true c16
    clear c16
    by_cases c17 : 0 ≤ x15_1
    ·
     rw [if_pos c17] at H
     have c17b0 : decide (0 ≤ x15_1) = true := decide_eq_true c17
     clear c17
     by_cases c18 : x15_1 < (l0_4.length : Int)
     ·
      rw [if_pos c18] at H
      have c18b0 : decide (x15_1 < (l0_4.length : Int)) = true := decide_eq_true c18
      clear c18
      replace H := Option.bind_eq_some_iff.mp H
      obtain ⟨⟨t192, t193, t194, t195, t198⟩, A190, H⟩ := H
      replace H : (if x187004_1.length < 1466015503701 then (vtree_double.l0 k1 l0_4 (l0_4.length : Int) (wrap64 (x15_1 + 1)) a0_0 a0_1 a0_2 t187 (x187004_1 ++ [(⟨t192, t193, t194, t195, t198⟩ : S25)])) else (none)) = some (r1, r2, r3, r4, r5) := H
      have A19 := Aside0.mk A190
      clear A190
      by_cases c20 : x187004_1.length < 1466015503701
      ·
       rw [if_pos c20] at H
       have LMc20 := Aside0.mk c20
       clear c20
       obtain ⟨y201, hy201⟩ : ∃ y_ : List (S25), y_ = (x187004_1 ++ [(⟨t192, t193, t194, t195, t198⟩ : S25)]) := ⟨_, rfl⟩
       replace H : (vtree_double.l0 k1 l0_4 (l0_4.length : Int) (wrap64 (x15_1 + 1)) a0_0 a0_1 a0_2 t187 y201) = some (r1, r2, r3, r4, r5) := by first | (rw [hy201]; with_reducible exact H) | (have H2_ := (Option.bind_some _ _).symm.trans H; rw [hy201]; with_reducible exact H2_) | (have H2_ := (Option.bind_some _ _).symm.trans H; with_reducible exact H2_) | with_reducible exact H | (rw [hy201]; exact H) | exact H
       have Ny201 := Aside0.mk hy201
       clear hy201
       have H' := Aside0.mk H
       clear H
       have p190 : 0 ≤ (x15_1 : Int) := of_decide_eq_true (by first | (with_reducible assumption) | assumption)
       have q190 : x15_1 < (l0_4.length : Int) := of_decide_eq_true (by first | (with_reducible assumption) | assumption)
       obtain ⟨ad190, A190_3, c190_3, A190_4, c190_4, e190, hx190_0, hx190_1, hx190_2, hx190_3, hx190_4, hl190_3, hi190_3, hl190_4, hi190_4⟩ := at_T25 HR0_4.out x15_1 p190 q190
       cases e190
       replace hx190_0 := (HB.out.cell (World.block_lt_of_cell? w _ hx190_0)).trans hx190_0
       replace hx190_1 := (HB.out.cell (World.block_lt_of_cell? w _ hx190_1)).trans hx190_1
       replace hx190_2 := (HB.out.cell (World.block_lt_of_cell? w _ hx190_2)).trans hx190_2
       replace hx190_3 := (HB.out.cell (World.block_lt_of_cell? w _ hx190_3)).trans hx190_3
       replace hx190_4 := (HB.out.cell (World.block_lt_of_cell? w _ hx190_4)).trans hx190_4
       have HR190_3 := Aside0.mk hi190_3
       have HC190_3 := Aside0.mk hl190_3
       clear hi190_3 hl190_3
       have HR190_4 := Aside0.mk hi190_4
       have HC190_4 := Aside0.mk hl190_4
       clear hi190_4 hl190_4
       replace p190 := eq_true p190
       replace q190 := eq_true q190
       try go_wp2_with (first | ((with_reducible refine gate_dst (N := 5) rfl ?_); refine box_event ?hg (N := 5) ?hd (cs := #[.string (⟨#[]⟩ : ByteArray), .string (⟨#[]⟩ : ByteArray), .string (⟨#[]⟩ : ByteArray), .slice none 0 0, .slice none 0 0]) (t := 25) ?hr ?_; (case hd => rfl); (case hg => rfl); (case hr => first | (go_simp; done) | (go_simp; rfl)); intro gb191 hg w21 hbox hb; have n0_ := Aside0.mk (Kd.R_below (by (with_reducible repeat (first | apply Kd.R_alloc | apply Kd.R_drewN | apply Kd.R_drew)); exact HO_187003.out) hb); have n1_ := Aside0.mk (Kd.R_below (Kd.R_elderB (by (with_reducible repeat (first | apply Kd.R_alloc | apply Kd.R_drewN | apply Kd.R_drew)); exact HO_187004.out) gb191 (Nat.le_of_eq hg.symm)) hb); have n2_ := Aside0.mk (blk_below (g := gb184) (o := .cells #[.string a0_0, .string a0_1, .string a0_2, .slice A0_3 l0_3.length c0_3, .slice (some ad190) l0_4.length c0_4] 25 (0, 0)) (by (with_reducible repeat first | apply zM | apply zE | apply zF); exact BK184.out) hb); have n3_ := Aside0.mk (blk_below (g := gb185) (o := .cells #[.string (⟨#[]⟩ : ByteArray), .string (⟨#[]⟩ : ByteArray), .string (⟨#[]⟩ : ByteArray), .slice none 0 0, .slice none 0 0] 25 (0, 0)) (by (with_reducible repeat first | apply zM | apply zE | apply zF); exact BK185.out) hb); have n4_ := Aside0.mk (blk_below (g := gb186) (o := .cells #[.string a0_0, .string a0_1, .string a0_2, .slice Ao13 t187.length co13, u187004] 25 (0, 0)) (by (with_reducible repeat first | apply zM | apply zE | apply zF); exact BK186.out) hb); have n5_ := Aside0.mk (below_step (by repeat (first | (with_reducible first | exact HB.out | apply zA | apply zN | apply zD | refine zS ?_ GE184.out | refine zS ?_ GE185.out | refine zS ?_ GE186.out) | exact HB.out)) hb); have n6_ := Aside0.mk (hbox); have n7_ := Aside0.mk ((by rw [hg]; exact (below_size (by repeat (first | (with_reducible first | exact HB.out | apply zA | apply zN | apply zD | refine zS ?_ GE184.out | refine zS ?_ GE185.out | refine zS ?_ GE186.out) | exact HB.out))) : w.heap.size ≤ gb191)); have n8_ := Aside0.mk ((by rw [hg]; exact (below_size (by repeat (first | (with_reducible first | exact HB.out | apply zA | apply zN | apply zD | refine zS ?_ GE184.out | refine zS ?_ GE185.out | refine zS ?_ GE186.out) | exact HB.out))) : w.heap.size ≤ gb191)); have n9_ := Aside0.mk ((by rw [hg]; exact Nat.ne_of_lt (blk_lt (g := gb184) (o := .cells #[.string a0_0, .string a0_1, .string a0_2, .slice A0_3 l0_3.length c0_3, .slice (some ad190) l0_4.length c0_4] 25 (0, 0)) (by (with_reducible repeat first | apply zM | apply zE | apply zF); exact BK184.out)) : gb184 ≠ gb191)); have n10_ := Aside0.mk ((by rw [hg]; exact Nat.ne_of_gt (blk_lt (g := gb184) (o := .cells #[.string a0_0, .string a0_1, .string a0_2, .slice A0_3 l0_3.length c0_3, .slice (some ad190) l0_4.length c0_4] 25 (0, 0)) (by (with_reducible repeat first | apply zM | apply zE | apply zF); exact BK184.out)) : gb191 ≠ gb184)); have n11_ := Aside0.mk ((by rw [hg]; exact Nat.ne_of_lt (blk_lt (g := gb185) (o := .cells #[.string (⟨#[]⟩ : ByteArray), .string (⟨#[]⟩ : ByteArray), .string (⟨#[]⟩ : ByteArray), .slice none 0 0, .slice none 0 0] 25 (0, 0)) (by (with_reducible repeat first | apply zM | apply zE | apply zF); exact BK185.out)) : gb185 ≠ gb191)); have n12_ := Aside0.mk ((by rw [hg]; exact Nat.ne_of_gt (blk_lt (g := gb185) (o := .cells #[.string (⟨#[]⟩ : ByteArray), .string (⟨#[]⟩ : ByteArray), .string (⟨#[]⟩ : ByteArray), .slice none 0 0, .slice none 0 0] 25 (0, 0)) (by (with_reducible repeat first | apply zM | apply zE | apply zF); exact BK185.out)) : gb191 ≠ gb185)); have n13_ := Aside0.mk ((by rw [hg]; exact Nat.ne_of_lt (blk_lt (g := gb186) (o := .cells #[.string a0_0, .string a0_1, .string a0_2, .slice Ao13 t187.length co13, u187004] 25 (0, 0)) (by (with_reducible repeat first | apply zM | apply zE | apply zF); exact BK186.out)) : gb186 ≠ gb191)); have n14_ := Aside0.mk ((by rw [hg]; exact Nat.ne_of_gt (blk_lt (g := gb186) (o := .cells #[.string a0_0, .string a0_1, .string a0_2, .slice Ao13 t187.length co13, u187004] 25 (0, 0)) (by (with_reducible repeat first | apply zM | apply zE | apply zF); exact BK186.out)) : gb191 ≠ gb186)); clear HO_187003; clear HO_187004; clear BK184; clear BK185; clear BK186; clear HB; have HO_187003 := n0_; have HO_187004 := n1_; have BK184 := n2_; have BK185 := n3_; have BK186 := n4_; have HB := n5_; have BK191 := n6_; have GW191 := n7_; have GE191 := n8_; have NB184_191 := n9_; have NB191_184 := n10_; have NB185_191 := n11_; have NB191_185 := n12_; have NB186_191 := n13_; have NB191_186 := n14_; clear n0_ n1_ n2_ n3_ n4_ n5_ n6_ n7_ n8_ n9_ n10_ n11_ n12_ n13_ n14_; clear hb hbox hg; have hnb22 := NB191_184.out; have hnc22 := NB184_191.out; have hnb23 := NB191_185.out; have hnc23 := NB185_191.out; have hnb24 := NB191_186.out; have hnc24 := NB186_191.out; have hcz25_0 : w21.cell? ⟨gb191, 0, none⟩ = some (.string (⟨#[]⟩ : ByteArray)) := (zC BK191.out 0).trans rfl; have hcz25_1 : w21.cell? ⟨gb191, 1, none⟩ = some (.string (⟨#[]⟩ : ByteArray)) := (zC BK191.out 1).trans rfl; have hcz25_2 : w21.cell? ⟨gb191, 2, none⟩ = some (.string (⟨#[]⟩ : ByteArray)) := (zC BK191.out 2).trans rfl; have hcz25_3 : w21.cell? ⟨gb191, 3, none⟩ = some (.slice none 0 0) := (zC BK191.out 3).trans rfl; have hcz25_4 : w21.cell? ⟨gb191, 4, none⟩ = some (.slice none 0 0) := (zC BK191.out 4).trans rfl; have hfz25_0 := zR BK191.out 0; have hfz25_1 := zR BK191.out 1; have hfz25_2 := zR BK191.out 2; have hfz25_3 := zR BK191.out 3; have hfz25_4 := zR BK191.out 4))
       have n0_ : Aside0 (Kd.R k42 42 (((((w21.setCell ⟨gb191, 0, none⟩ (.string ((rd_T25 l0_4 x15_1).f0))).setCell ⟨gb191, 1, none⟩ (.string ((rd_T25 l0_4 x15_1).f1))).setCell ⟨gb191, 2, none⟩ (.string ((rd_T25 l0_4 x15_1).f2))).setCell ⟨gb191, 3, none⟩ (.slice A190_3 ((rd_T25 l0_4 x15_1).f3).length c190_3)).setCell ⟨gb191, 4, none⟩ (.slice A190_4 ((rd_T25 l0_4 x15_1).f4).length c190_4)) w.heap.size (fun _ => True) (.slice Ao13 t187.length co13) t187) := ⟨by (with_reducible repeat (first | apply Kd.R_alloc | apply Kd.R_drewN | apply Kd.R_drew)); exact Kd.R_mono (Kd.R_far (p := ⟨gb191, 4, none⟩) (Kd.R_far (p := ⟨gb191, 3, none⟩) (Kd.R_far (p := ⟨gb191, 2, none⟩) (Kd.R_far (p := ⟨gb191, 1, none⟩) (Kd.R_far (p := ⟨gb191, 0, none⟩) (Kd.R_types HO_187003.out BK191.out (by decide)) (fun _ hk => hk.2) (.string ((rd_T25 l0_4 x15_1).f0))) (fun _ hk => hk.2) (.string ((rd_T25 l0_4 x15_1).f1))) (fun _ hk => hk.2) (.string ((rd_T25 l0_4 x15_1).f2))) (fun _ hk => hk.2) (.slice A190_3 ((rd_T25 l0_4 x15_1).f3).length c190_3)) (fun _ hk => hk.2) (.slice A190_4 ((rd_T25 l0_4 x15_1).f4).length c190_4)) (fun _ hk => trivial)⟩
       have n1_ : Aside0 (Kd.R k25 25 (((((w21.setCell ⟨gb191, 0, none⟩ (.string ((rd_T25 l0_4 x15_1).f0))).setCell ⟨gb191, 1, none⟩ (.string ((rd_T25 l0_4 x15_1).f1))).setCell ⟨gb191, 2, none⟩ (.string ((rd_T25 l0_4 x15_1).f2))).setCell ⟨gb191, 3, none⟩ (.slice A190_3 ((rd_T25 l0_4 x15_1).f3).length c190_3)).setCell ⟨gb191, 4, none⟩ (.slice A190_4 ((rd_T25 l0_4 x15_1).f4).length c190_4)) w.heap.size (fun k_ => some k_ ≠ (.slice Ao13 t187.length co13 : Value).ownBlock ∧ k_ ≠ gb184 ∧ k_ ≠ gb185 ∧ k_ ≠ gb186 ∧ k_ ≠ gb191) u187004 x187004_1) := ⟨by (with_reducible repeat (first | apply Kd.R_alloc | apply Kd.R_drewN | apply Kd.R_drew)); exact Kd.R_mono (Kd.R_far (p := ⟨gb191, 4, none⟩) (Kd.R_far (p := ⟨gb191, 3, none⟩) (Kd.R_far (p := ⟨gb191, 2, none⟩) (Kd.R_far (p := ⟨gb191, 1, none⟩) (Kd.R_far (p := ⟨gb191, 0, none⟩) (Kd.R_mono HO_187004.out (fun k_ hk => (⟨hk, hk.2⟩ : _ ∧ k_ ≠ gb191))) (fun _ hk => hk.2) (.string ((rd_T25 l0_4 x15_1).f0))) (fun _ hk => hk.2) (.string ((rd_T25 l0_4 x15_1).f1))) (fun _ hk => hk.2) (.string ((rd_T25 l0_4 x15_1).f2))) (fun _ hk => hk.2) (.slice A190_3 ((rd_T25 l0_4 x15_1).f3).length c190_3)) (fun _ hk => hk.2) (.slice A190_4 ((rd_T25 l0_4 x15_1).f4).length c190_4)) (fun _ hk => ⟨hk.1.1.1, ⟨hk.1.1.2.1, ⟨hk.1.1.2.2.1, ⟨hk.1.1.2.2.2, hk.1.2⟩⟩⟩⟩)⟩
       have n2_ : Aside0 ((((((w21.setCell ⟨gb191, 0, none⟩ (.string ((rd_T25 l0_4 x15_1).f0))).setCell ⟨gb191, 1, none⟩ (.string ((rd_T25 l0_4 x15_1).f1))).setCell ⟨gb191, 2, none⟩ (.string ((rd_T25 l0_4 x15_1).f2))).setCell ⟨gb191, 3, none⟩ (.slice A190_3 ((rd_T25 l0_4 x15_1).f3).length c190_3)).setCell ⟨gb191, 4, none⟩ (.slice A190_4 ((rd_T25 l0_4 x15_1).f4).length c190_4)).heap[gb184]? = some (.cells #[.string a0_0, .string a0_1, .string a0_2, .slice A0_3 l0_3.length c0_3, .slice (some ad190) l0_4.length c0_4] 25 (0, 0))) := ⟨by (with_reducible repeat first | apply zM | apply zE | apply zF); refine zG ?_ NB184_191.out _; (with_reducible repeat first | apply zM | apply zE | apply zF); refine zG ?_ NB184_191.out _; (with_reducible repeat first | apply zM | apply zE | apply zF); refine zG ?_ NB184_191.out _; (with_reducible repeat first | apply zM | apply zE | apply zF); refine zG ?_ NB184_191.out _; (with_reducible repeat first | apply zM | apply zE | apply zF); refine zG ?_ NB184_191.out _; (with_reducible repeat first | apply zM | apply zE | apply zF); exact BK184.out⟩
       have n3_ : Aside0 ((((((w21.setCell ⟨gb191, 0, none⟩ (.string ((rd_T25 l0_4 x15_1).f0))).setCell ⟨gb191, 1, none⟩ (.string ((rd_T25 l0_4 x15_1).f1))).setCell ⟨gb191, 2, none⟩ (.string ((rd_T25 l0_4 x15_1).f2))).setCell ⟨gb191, 3, none⟩ (.slice A190_3 ((rd_T25 l0_4 x15_1).f3).length c190_3)).setCell ⟨gb191, 4, none⟩ (.slice A190_4 ((rd_T25 l0_4 x15_1).f4).length c190_4)).heap[gb185]? = some (.cells #[.string (⟨#[]⟩ : ByteArray), .string (⟨#[]⟩ : ByteArray), .string (⟨#[]⟩ : ByteArray), .slice none 0 0, .slice none 0 0] 25 (0, 0))) := ⟨by (with_reducible repeat first | apply zM | apply zE | apply zF); refine zG ?_ NB185_191.out _; (with_reducible repeat first | apply zM | apply zE | apply zF); refine zG ?_ NB185_191.out _; (with_reducible repeat first | apply zM | apply zE | apply zF); refine zG ?_ NB185_191.out _; (with_reducible repeat first | apply zM | apply zE | apply zF); refine zG ?_ NB185_191.out _; (with_reducible repeat first | apply zM | apply zE | apply zF); refine zG ?_ NB185_191.out _; (with_reducible repeat first | apply zM | apply zE | apply zF); exact BK185.out⟩
       have n4_ : Aside0 ((((((w21.setCell ⟨gb191, 0, none⟩ (.string ((rd_T25 l0_4 x15_1).f0))).setCell ⟨gb191, 1, none⟩ (.string ((rd_T25 l0_4 x15_1).f1))).setCell ⟨gb191, 2, none⟩ (.string ((rd_T25 l0_4 x15_1).f2))).setCell ⟨gb191, 3, none⟩ (.slice A190_3 ((rd_T25 l0_4 x15_1).f3).length c190_3)).setCell ⟨gb191, 4, none⟩ (.slice A190_4 ((rd_T25 l0_4 x15_1).f4).length c190_4)).heap[gb186]? = some (.cells #[.string a0_0, .string a0_1, .string a0_2, .slice Ao13 t187.length co13, u187004] 25 (0, 0))) := ⟨by (with_reducible repeat first | apply zM | apply zE | apply zF); refine zG ?_ NB186_191.out _; (with_reducible repeat first | apply zM | apply zE | apply zF); refine zG ?_ NB186_191.out _; (with_reducible repeat first | apply zM | apply zE | apply zF); refine zG ?_ NB186_191.out _; (with_reducible repeat first | apply zM | apply zE | apply zF); refine zG ?_ NB186_191.out _; (with_reducible repeat first | apply zM | apply zE | apply zF); refine zG ?_ NB186_191.out _; (with_reducible repeat first | apply zM | apply zE | apply zF); exact BK186.out⟩
       have n5_ : Aside0 ((((((w21.setCell ⟨gb191, 0, none⟩ (.string ((rd_T25 l0_4 x15_1).f0))).setCell ⟨gb191, 1, none⟩ (.string ((rd_T25 l0_4 x15_1).f1))).setCell ⟨gb191, 2, none⟩ (.string ((rd_T25 l0_4 x15_1).f2))).setCell ⟨gb191, 3, none⟩ (.slice A190_3 ((rd_T25 l0_4 x15_1).f3).length c190_3)).setCell ⟨gb191, 4, none⟩ (.slice A190_4 ((rd_T25 l0_4 x15_1).f4).length c190_4)).heap[gb191]? = some (.cells #[.string ((rd_T25 l0_4 x15_1).f0), .string ((rd_T25 l0_4 x15_1).f1), .string ((rd_T25 l0_4 x15_1).f2), .slice A190_3 ((rd_T25 l0_4 x15_1).f3).length c190_3, .slice A190_4 ((rd_T25 l0_4 x15_1).f4).length c190_4] 25 (0, 0))) := ⟨by (with_reducible repeat first | apply zM | apply zE | apply zF); refine zP (cs := #[.string ((rd_T25 l0_4 x15_1).f0), .string ((rd_T25 l0_4 x15_1).f1), .string ((rd_T25 l0_4 x15_1).f2), .slice A190_3 ((rd_T25 l0_4 x15_1).f3).length c190_3, .slice none 0 0]) ?_ 4 _ rfl; (with_reducible repeat first | apply zM | apply zE | apply zF); refine zP (cs := #[.string ((rd_T25 l0_4 x15_1).f0), .string ((rd_T25 l0_4 x15_1).f1), .string ((rd_T25 l0_4 x15_1).f2), .slice none 0 0, .slice none 0 0]) ?_ 3 _ rfl; (with_reducible repeat first | apply zM | apply zE | apply zF); refine zP (cs := #[.string ((rd_T25 l0_4 x15_1).f0), .string ((rd_T25 l0_4 x15_1).f1), .string (⟨#[]⟩ : ByteArray), .slice none 0 0, .slice none 0 0]) ?_ 2 _ rfl; (with_reducible repeat first | apply zM | apply zE | apply zF); refine zP (cs := #[.string ((rd_T25 l0_4 x15_1).f0), .string (⟨#[]⟩ : ByteArray), .string (⟨#[]⟩ : ByteArray), .slice none 0 0, .slice none 0 0]) ?_ 1 _ rfl; (with_reducible repeat first | apply zM | apply zE | apply zF); refine zP (cs := #[.string (⟨#[]⟩ : ByteArray), .string (⟨#[]⟩ : ByteArray), .string (⟨#[]⟩ : ByteArray), .slice none 0 0, .slice none 0 0]) ?_ 0 _ rfl; (with_reducible repeat first | apply zM | apply zE | apply zF); exact BK191.out⟩
       have n6_ : Aside0 (Below w.heap.size w (((((w21.setCell ⟨gb191, 0, none⟩ (.string ((rd_T25 l0_4 x15_1).f0))).setCell ⟨gb191, 1, none⟩ (.string ((rd_T25 l0_4 x15_1).f1))).setCell ⟨gb191, 2, none⟩ (.string ((rd_T25 l0_4 x15_1).f2))).setCell ⟨gb191, 3, none⟩ (.slice A190_3 ((rd_T25 l0_4 x15_1).f3).length c190_3)).setCell ⟨gb191, 4, none⟩ (.slice A190_4 ((rd_T25 l0_4 x15_1).f4).length c190_4))) := ⟨by repeat (first | (with_reducible first | exact HB.out | apply zA | apply zN | apply zD | refine zS ?_ GE184.out | refine zS ?_ GE185.out | refine zS ?_ GE186.out | refine zS ?_ GE191.out) | exact HB.out)⟩
       (try clear HO_187003)
       (try clear HO_187004)
       (try clear BK184)
       (try clear BK185)
       (try clear BK186)
       (try clear BK191)
       (try clear HB)
       generalize (((((w21.setCell ⟨gb191, 0, none⟩ (.string ((rd_T25 l0_4 x15_1).f0))).setCell ⟨gb191, 1, none⟩ (.string ((rd_T25 l0_4 x15_1).f1))).setCell ⟨gb191, 2, none⟩ (.string ((rd_T25 l0_4 x15_1).f2))).setCell ⟨gb191, 3, none⟩ (.slice A190_3 ((rd_T25 l0_4 x15_1).f3).length c190_3)).setCell ⟨gb191, 4, none⟩ (.slice A190_4 ((rd_T25 l0_4 x15_1).f4).length c190_4)) = w26 at n0_ n1_ n2_ n3_ n4_ n5_ n6_ ⊢
       have HO_187003 := n0_
       have HO_187004 := n1_
       have BK184 := n2_
       have BK185 := n3_
       have BK186 := n4_
       have BK191 := n5_
       have HB := n6_
       clear n0_ n1_ n2_ n3_ n4_ n5_ n6_
       have n0_ := Aside0.mk (Kd.R_drew HO_187003.out)
       have n1_ := Aside0.mk (Kd.R_drew HO_187004.out)
       have n2_ := Aside0.mk (zE BK184.out)
       have n3_ := Aside0.mk (zE BK185.out)
       have n4_ := Aside0.mk (zE BK186.out)
       have n5_ := Aside0.mk (zE BK191.out)
       have n6_ := Aside0.mk (zD HB.out)
       clear HO_187003
       clear HO_187004
       clear BK184
       clear BK185
       clear BK186
       clear BK191
       clear HB
       have HO_187003 := n0_
       have HO_187004 := n1_
       have BK184 := n2_
       have BK185 := n3_
       have BK186 := n4_
       have BK191 := n5_
       have HB := n6_
       clear n0_ n1_ n2_ n3_ n4_ n5_ n6_
       refine start_ (n := 8) (S := fun w' => w'.cell? ⟨gb186, 0, none⟩ = some (.string a0_0) ∧ w'.cell? ⟨gb186, 1, none⟩ = some (.string a0_1) ∧ w'.cell? ⟨gb186, 2, none⟩ = some (.string a0_2) ∧ w'.cell? ⟨gb186, 3, none⟩ = some (.slice Ao13 t187.length co13) ∧ w'.cell? ⟨gb186, 4, none⟩ = some (u187004) ∧ w'.cell? ⟨gb191, 0, none⟩ = some (.string ((rd_T25 l0_4 x15_1).f0)) ∧ w'.cell? ⟨gb191, 1, none⟩ = some (.string ((rd_T25 l0_4 x15_1).f1)) ∧ w'.cell? ⟨gb191, 2, none⟩ = some (.string ((rd_T25 l0_4 x15_1).f2)) ∧ w'.cell? ⟨gb191, 3, none⟩ = some (.slice A190_3 ((rd_T25 l0_4 x15_1).f3).length c190_3) ∧ w'.cell? ⟨gb191, 4, none⟩ = some (.slice A190_4 ((rd_T25 l0_4 x15_1).f4).length c190_4)) (ds := [7]) #[false, false, false, false, false, false, false, false] (by kernel_rfl) rfl rfl ⟨(zC BK186.out 0).trans rfl, (zC BK186.out 1).trans rfl, (zC BK186.out 2).trans rfl, (zC BK186.out 3).trans rfl, (zC BK186.out 4).trans rfl, (zC BK191.out 0).trans rfl, (zC BK191.out 1).trans rfl, (zC BK191.out 2).trans rfl, (zC BK191.out 3).trans rfl, (zC BK191.out 4).trans rfl⟩ (fun hHeld => ?_); refine with_tabW vtree_double.tab7 vtree_double.bits7 (fun HT_ HW_ => ?_)
       generalize w26.drew = w27 at HO_187003 HO_187004 BK184 BK185 BK186 BK191 HB hHeld ⊢
       refine pure_ (i := 0) (N := some 19) (v := ?_) (a' := ?_) #[true, false, false, false, false, false, false, false] rfl rfl (any_of HT_.out (by kernel_rfl)) (fun _ _ _ h => h) (Or.inl ⟨by rfl, ?_⟩) ?_ ?_
       rotate_left
       ·
        intro w'
        go_simp
        with_reducible rfl
       rotate_left
       ·
        simp only [Act.put, List.setIfInBounds_toArray, List.set_cons_zero, List.set_cons_succ, i64_w, i32_w]
        rfl
       refine take_ (i := 1) (N := some 20) (v := ?_) (a' := ?_) #[true, true, false, false, false, false, false, false] rfl rfl (take_ofW HT_.out HW_.out (by kernel_rfl)) (fun _ _ _ h => h) (Or.inl ⟨by rfl, ?_⟩) hHeld ?_ ?_
       rotate_left
       ·
        rintro w' ⟨s0, s1, s2, s3, s4, s5, s6, s7, s8, s9⟩
        go_simp
        with_reducible rfl
       rotate_left
       ·
        simp only [Act.put, List.setIfInBounds_toArray, List.set_cons_zero, List.set_cons_succ, i64_w, i32_w]
        rfl
       refine take_ (i := 2) (N := some 21) (v := ?_) (a' := ?_) #[true, true, true, false, false, false, false, false] rfl rfl (take_ofW HT_.out HW_.out (by kernel_rfl)) (fun _ _ _ h => h) (Or.inl ⟨by rfl, ?_⟩) hHeld ?_ ?_
       rotate_left
       ·
        rintro w' ⟨s0, s1, s2, s3, s4, s5, s6, s7, s8, s9⟩
        go_simp
        with_reducible rfl
       rotate_left
       ·
        simp only [Act.put, List.setIfInBounds_toArray, List.set_cons_zero, List.set_cons_succ, i64_w, i32_w]
        rfl
       refine one_ (i := 3) (N := some 22) #[true, true, true, true, false, false, false, false] rfl rfl (one_of HT_.out (by kernel_rfl)) (by decide) (fun K hK => ?_)
       refine goes_ Try.func25 (by kernel_rfl) rfl #[.agg #[.string ((rd_T25 l0_4 x15_1).f0), .string ((rd_T25 l0_4 x15_1).f1), .string ((rd_T25 l0_4 x15_1).f2), .slice A190_3 ((rd_T25 l0_4 x15_1).f3).length c190_3, .slice A190_4 ((rd_T25 l0_4 x15_1).f4).length c190_4]] (by rfl) rfl rfl (by (try simp only [List.map_toArray, List.map_cons, List.map_nil]); first | done | rfl | (simp only [List.length_drop, List.length_take]; rfl)) ?_
       with_reducible refine (ih k1 (by have := HK1.out; omega) ((rd_T25 l0_4 x15_1).f0) ((rd_T25 l0_4 x15_1).f1) ((rd_T25 l0_4 x15_1).f2) _ _ ((rd_T25 l0_4 x15_1).f3) _ _ ((rd_T25 l0_4 x15_1).f4) t192 t193 t194 t195 t198 _ ?side1 ?side2 ?side3 ?side4 A19.out).mono ?_
       (case side1 => repeat (first | exact (Kd.C_below HR190_3.out HB.out) | (with_reducible refine Kd.C_alloc ?_ _) | (with_reducible refine Kd.C_drewN ?_ _) | (with_reducible refine Kd.C_drew ?_)))
       (case side2 => exact HC190_3.out)
       (case side3 => repeat (first | exact (Kd.C_below HR190_4.out HB.out) | (with_reducible refine Kd.C_alloc ?_ _) | (with_reducible refine Kd.C_drewN ?_ _) | (with_reducible refine Kd.C_drew ?_)))
       (case side4 => exact HC190_4.out)
       rintro e w28 ⟨v196, v199, rfl, ho0, ho1, hb⟩
       refine ⟨_, rfl, ?_⟩
       have n0_ := Aside0.mk (Kd.R_elder' (by (with_reducible repeat (first | apply Kd.R_alloc | apply Kd.R_drewN | apply Kd.R_drew)); exact HO_187003.out) (Kd.R_base ho0) hb)
       have n1_ := Aside0.mk (Kd.R_mono (Kd.R_told (Kd.R_told (Kd.R_old (by (with_reducible repeat (first | apply Kd.R_alloc | apply Kd.R_drewN | apply Kd.R_drew)); exact HO_187004.out) hb) (Kd.R_base ho0)) (Kd.R_base ho1)) (fun _ h_ => h_.1))
       have n2_ := Aside0.mk (Kd.R_lower (Kd.R_new' ho0 (Kd.R_lt (by (with_reducible repeat (first | apply Kd.R_alloc | apply Kd.R_drewN | apply Kd.R_drew)); exact HO_187003.out))) (below_size (by repeat (first | (with_reducible first | exact HB.out | apply zA | apply zN | apply zD | refine zS ?_ GE184.out | refine zS ?_ GE185.out | refine zS ?_ GE186.out | refine zS ?_ GE191.out) | exact HB.out))))
       have n3_ := Aside0.mk (Kd.R_lower (Kd.R_newB (Kd.R_newB (Kd.R_newB (Kd.R_newB (Kd.R_new' (Kd.R_new' ho1 (Kd.R_lt (by (with_reducible repeat (first | apply Kd.R_alloc | apply Kd.R_drewN | apply Kd.R_drew)); exact HO_187003.out))) (Kd.R_lt (by (with_reducible repeat (first | apply Kd.R_alloc | apply Kd.R_drewN | apply Kd.R_drew)); exact HO_187004.out))) (g := gb184) (o := .cells #[.string a0_0, .string a0_1, .string a0_2, .slice A0_3 l0_3.length c0_3, .slice (some ad190) l0_4.length c0_4] 25 (0, 0)) (by (with_reducible repeat first | apply zM | apply zE | apply zF); exact BK184.out)) (g := gb185) (o := .cells #[.string (⟨#[]⟩ : ByteArray), .string (⟨#[]⟩ : ByteArray), .string (⟨#[]⟩ : ByteArray), .slice none 0 0, .slice none 0 0] 25 (0, 0)) (by (with_reducible repeat first | apply zM | apply zE | apply zF); exact BK185.out)) (g := gb186) (o := .cells #[.string a0_0, .string a0_1, .string a0_2, .slice Ao13 t187.length co13, u187004] 25 (0, 0)) (by (with_reducible repeat first | apply zM | apply zE | apply zF); exact BK186.out)) (g := gb191) (o := .cells #[.string ((rd_T25 l0_4 x15_1).f0), .string ((rd_T25 l0_4 x15_1).f1), .string ((rd_T25 l0_4 x15_1).f2), .slice A190_3 ((rd_T25 l0_4 x15_1).f3).length c190_3, .slice A190_4 ((rd_T25 l0_4 x15_1).f4).length c190_4] 25 (0, 0)) (by (with_reducible repeat first | apply zM | apply zE | apply zF); exact BK191.out)) (below_size (by repeat (first | (with_reducible first | exact HB.out | apply zA | apply zN | apply zD | refine zS ?_ GE184.out | refine zS ?_ GE185.out | refine zS ?_ GE186.out | refine zS ?_ GE191.out) | exact HB.out))))
       have n4_ := Aside0.mk (blk_below (g := gb184) (o := .cells #[.string a0_0, .string a0_1, .string a0_2, .slice A0_3 l0_3.length c0_3, .slice (some ad190) l0_4.length c0_4] 25 (0, 0)) (by (with_reducible repeat first | apply zM | apply zE | apply zF); exact BK184.out) hb)
       have n5_ := Aside0.mk (blk_below (g := gb185) (o := .cells #[.string (⟨#[]⟩ : ByteArray), .string (⟨#[]⟩ : ByteArray), .string (⟨#[]⟩ : ByteArray), .slice none 0 0, .slice none 0 0] 25 (0, 0)) (by (with_reducible repeat first | apply zM | apply zE | apply zF); exact BK185.out) hb)
       have n6_ := Aside0.mk (blk_below (g := gb186) (o := .cells #[.string a0_0, .string a0_1, .string a0_2, .slice Ao13 t187.length co13, u187004] 25 (0, 0)) (by (with_reducible repeat first | apply zM | apply zE | apply zF); exact BK186.out) hb)
       have n7_ := Aside0.mk (blk_below (g := gb191) (o := .cells #[.string ((rd_T25 l0_4 x15_1).f0), .string ((rd_T25 l0_4 x15_1).f1), .string ((rd_T25 l0_4 x15_1).f2), .slice A190_3 ((rd_T25 l0_4 x15_1).f3).length c190_3, .slice A190_4 ((rd_T25 l0_4 x15_1).f4).length c190_4] 25 (0, 0)) (by (with_reducible repeat first | apply zM | apply zE | apply zF); exact BK191.out) hb)
       have n8_ := Aside0.mk (below_step (by repeat (first | (with_reducible first | exact HB.out | apply zA | apply zN | apply zD | refine zS ?_ GE184.out | refine zS ?_ GE185.out | refine zS ?_ GE186.out | refine zS ?_ GE191.out) | exact HB.out)) hb)
       clear HO_187003
       clear HO_187004
       clear BK184
       clear BK185
       clear BK186
       clear BK191
       clear HB
       have HO_187003 := n0_
       have HO_187004 := n1_
       have HO197 := n2_
       have HO200 := n3_
       have BK184 := n4_
       have BK185 := n5_
       have BK186 := n6_
       have BK191 := n7_
       have HB := n8_
       clear n0_ n1_ n2_ n3_ n4_ n5_ n6_ n7_ n8_
       (try clear hb)
       (try clear hb2)
       (try clear hk)
       (try clear hi)
       (try clear ho0)
       (try clear ho1)
       obtain ⟨Ao30, co30, eo30⟩ := Kd.R_slice HO197.out
       (first | subst eo30 | (injection eo30 with f1_ f2_ f3_; have f4_ := f1_.symm; have f5_ := f3_.symm; clear f1_ f2_ f3_; subst f4_; subst f5_))
       obtain ⟨Ao31, co31, eo31⟩ := Kd.R_slice HO200.out
       (first | subst eo31 | (injection eo31 with f1_ f2_ f3_; have f4_ := f1_.symm; have f5_ := f3_.symm; clear f1_ f2_ f3_; subst f4_; subst f5_))
       refine hK.out _ _ ⟨(zC BK186.out 0).trans rfl, (zC BK186.out 1).trans rfl, (zC BK186.out 2).trans rfl, (zC BK186.out 3).trans rfl, (zC BK186.out 4).trans rfl, (zC BK191.out 0).trans rfl, (zC BK191.out 1).trans rfl, (zC BK191.out 2).trans rfl, (zC BK191.out 3).trans rfl, (zC BK191.out 4).trans rfl⟩ (fun hHeld => ?_)
       clear hK K
       refine norm_ (a' := ?_) ?_ ?_
       rotate_left
       ·
        show Act.put _ (some 22) _ = _
        simp only [Act.put, List.setIfInBounds_toArray, List.set_cons_zero, List.set_cons_succ, i64_w, i32_w]
        rfl
       refine one_ (i := 4) (N := some 23) #[true, true, true, true, true, false, false, false] rfl rfl (one_of HT_.out (by kernel_rfl)) (by decide) (fun K hK => ?_)
       refine value_ (w1 := ?_) (v := ?_) (by rfl) rfl ?_ ?_
       rotate_left 2
       ·
        go_simp
        constructor
        ·
         rfl
        ·
         rfl
       refine hK.out _ _ ⟨(zC (zF BK186.out _) 0).trans rfl, (zC (zF BK186.out _) 1).trans rfl, (zC (zF BK186.out _) 2).trans rfl, (zC (zF BK186.out _) 3).trans rfl, (zC (zF BK186.out _) 4).trans rfl, (zC (zF BK191.out _) 0).trans rfl, (zC (zF BK191.out _) 1).trans rfl, (zC (zF BK191.out _) 2).trans rfl, (zC (zF BK191.out _) 3).trans rfl, (zC (zF BK191.out _) 4).trans rfl⟩ (fun hHeld => ?_)
       clear hK K
       refine norm_ (a' := ?_) ?_ ?_
       rotate_left
       ·
        show Act.put _ (some 23) _ = _
        simp only [Act.put, List.setIfInBounds_toArray, List.set_cons_zero, List.set_cons_succ, i64_w, i32_w]
        rfl
       refine one_ (i := 5) (N := some 24) #[true, true, true, true, true, true, false, false] rfl rfl (one_of HT_.out (by kernel_rfl)) (by decide) (fun K hK => ?_)
       refine Kd.R_append_step k25 (w0 := w) w.heap.size (by rfl) (.tmp 20) (.tmp 23) 23 25 (.agg #[(.string ⟨#[]⟩), (.string ⟨#[]⟩), (.string ⟨#[]⟩), (.slice none 0 0), (.slice none 0 0)]) 96 rfl Try.underlying23 info25 rfl (by decide) (by omega) u187004 x187004_1 (⟨t192, t193, t194, t195, t198⟩ : S25) [.string t192, .string t193, .string t194, .slice Ao30 t195.length co30, .slice Ao31 t198.length co31] (fun k_ => some k_ ≠ (.slice Ao13 t187.length co13 : Value).ownBlock ∧ k_ ≠ gb184 ∧ k_ ≠ gb185 ∧ k_ ≠ gb186 ∧ k_ ≠ gb191) (fun k_ => ((fun k_ => some k_ ≠ (.slice Ao13 t187.length co13 : Value).ownBlock ∧ k_ ≠ gb184 ∧ k_ ≠ gb185 ∧ k_ ≠ gb186 ∧ k_ ≠ gb191)) k_ ∧ some k_ ≠ (u187004 : Value).ownBlock) rfl rfl ?aP (fun _ hk => hk) ?aF ?aO ?aB ?aS ?aL ?_
       (case aP => exact k25_mkM _ _ _ (⟨t192, t193, t194, t195, t198⟩ : S25) (Kd.R_mono (Kd.R_types (Kd.R_types (Kd.R_types (Kd.R_types (Kd.R_apart' (HO197.out) (Kd.R_typed HO_187004.out) (by decide)) BK184.out (by decide)) BK185.out (by decide)) BK186.out (by decide)) BK191.out (by decide)) (fun k_ hk => ⟨⟨hk.1.1.1.1.1.2, ⟨hk.1.1.1.2, ⟨hk.1.1.2, ⟨hk.1.2, hk.2⟩⟩⟩⟩, hk.1.1.1.1.2⟩)) (Kd.R_mono (HO200.out) (fun k_ hk => ⟨⟨hk.1.1.1.1.1.2, ⟨hk.1.1.1.2, ⟨hk.1.1.2, ⟨hk.1.2, hk.2⟩⟩⟩⟩, hk.1.1.1.1.2⟩)))
       (case aB => exact (by repeat (first | (with_reducible first | exact HB.out | apply zA | apply zN | apply zD | refine zS ?_ GE184.out | refine zS ?_ GE185.out | refine zS ?_ GE186.out | refine zS ?_ GE191.out) | exact HB.out)))
       (case aF => exact (fun k_ hk => ⟨Kd.fresh' (Kd.R_lt (by (with_reducible repeat (first | apply Kd.R_alloc | apply Kd.R_drewN | apply Kd.R_drew)); exact HO_187003.out)) k_ hk, Kd.freshB (g := gb184) (o := .cells #[.string a0_0, .string a0_1, .string a0_2, .slice A0_3 l0_3.length c0_3, .slice (some ad190) l0_4.length c0_4] 25 (0, 0)) (by (with_reducible repeat first | apply zM | apply zE | apply zF); exact BK184.out) k_ hk, Kd.freshB (g := gb185) (o := .cells #[.string (⟨#[]⟩ : ByteArray), .string (⟨#[]⟩ : ByteArray), .string (⟨#[]⟩ : ByteArray), .slice none 0 0, .slice none 0 0] 25 (0, 0)) (by (with_reducible repeat first | apply zM | apply zE | apply zF); exact BK185.out) k_ hk, Kd.freshB (g := gb186) (o := .cells #[.string a0_0, .string a0_1, .string a0_2, .slice Ao13 t187.length co13, u187004] 25 (0, 0)) (by (with_reducible repeat first | apply zM | apply zE | apply zF); exact BK186.out) k_ hk, Kd.freshB (g := gb191) (o := .cells #[.string ((rd_T25 l0_4 x15_1).f0), .string ((rd_T25 l0_4 x15_1).f1), .string ((rd_T25 l0_4 x15_1).f2), .slice A190_3 ((rd_T25 l0_4 x15_1).f3).length c190_3, .slice A190_4 ((rd_T25 l0_4 x15_1).f4).length c190_4] 25 (0, 0)) (by (with_reducible repeat first | apply zM | apply zE | apply zF); exact BK191.out) k_ hk⟩))
       (case aO => exact (by (with_reducible repeat (first | apply Kd.R_alloc | apply Kd.R_drewN | apply Kd.R_drew)); exact Kd.R_mono HO_187004.out (fun _ hk => ⟨hk.1.1.1, ⟨hk.1.1.2.1, ⟨hk.1.1.2.2.1, ⟨hk.1.1.2.2.2.1, hk.1.1.2.2.2.2⟩⟩⟩⟩)))
       (case aS => exact (below_size (by repeat (first | (with_reducible first | exact HB.out | apply zA | apply zN | apply zD | refine zS ?_ GE184.out | refine zS ?_ GE185.out | refine zS ?_ GE186.out | refine zS ?_ GE191.out) | exact HB.out))))
       (case aL => have := LMc20.out; omega)
       intro v202 w29 ho hb hg hat
       rw [← Ny201.out] at ho
       have n0_ := Aside0.mk (Kd.R_over' (by (with_reducible repeat (first | apply Kd.R_alloc | apply Kd.R_drewN | apply Kd.R_drew)); exact HO_187003.out) (Kd.R_typed (by (with_reducible repeat (first | apply Kd.R_alloc | apply Kd.R_drewN | apply Kd.R_drew)); exact HO_187004.out)) (by decide) hg)
       have n1_ := Aside0.mk (blk_grown (g := gb184) (o := .cells #[.string a0_0, .string a0_1, .string a0_2, .slice A0_3 l0_3.length c0_3, .slice (some ad190) l0_4.length c0_4] 25 (0, 0)) (by (with_reducible repeat first | apply zM | apply zE | apply zF); exact BK184.out) hg (Kd.R_away HO_187004.out (fun _ hk => hk.1.1.2.1)))
       have n2_ := Aside0.mk (blk_grown (g := gb185) (o := .cells #[.string (⟨#[]⟩ : ByteArray), .string (⟨#[]⟩ : ByteArray), .string (⟨#[]⟩ : ByteArray), .slice none 0 0, .slice none 0 0] 25 (0, 0)) (by (with_reducible repeat first | apply zM | apply zE | apply zF); exact BK185.out) hg (Kd.R_away HO_187004.out (fun _ hk => hk.1.1.2.2.1)))
       have n3_ := Aside0.mk (blk_grown (g := gb186) (o := .cells #[.string a0_0, .string a0_1, .string a0_2, .slice Ao13 t187.length co13, u187004] 25 (0, 0)) (by (with_reducible repeat first | apply zM | apply zE | apply zF); exact BK186.out) hg (Kd.R_away HO_187004.out (fun _ hk => hk.1.1.2.2.2.1)))
       have n4_ := Aside0.mk (blk_grown (g := gb191) (o := .cells #[.string ((rd_T25 l0_4 x15_1).f0), .string ((rd_T25 l0_4 x15_1).f1), .string ((rd_T25 l0_4 x15_1).f2), .slice A190_3 ((rd_T25 l0_4 x15_1).f3).length c190_3, .slice A190_4 ((rd_T25 l0_4 x15_1).f4).length c190_4] 25 (0, 0)) (by (with_reducible repeat first | apply zM | apply zE | apply zF); exact BK191.out) hg (Kd.R_away HO_187004.out (fun _ hk => hk.1.1.2.2.2.2)))
       have n5_ := Aside0.mk (hb)
       have n6_ := Aside0.mk (ho)
       clear HO_187003
       clear BK184
       clear BK185
       clear BK186
       clear BK191
       clear HB
       clear HO_187004
       clear HO197
       clear HO200
       have HO_187003 := n0_
       have BK184 := n1_
       have BK185 := n2_
       have BK186 := n3_
       have BK191 := n4_
       have HB := n5_
       have HO203 := n6_
       clear n0_ n1_ n2_ n3_ n4_ n5_ n6_
       clear ho hb hg hat
       obtain ⟨Ao32, co32, eo32⟩ := Kd.R_slice HO203.out
       (first | subst eo32 | (injection eo32 with f1_ f2_ f3_; have f4_ := f1_.symm; have f5_ := f3_.symm; clear f1_ f2_ f3_; subst f4_; subst f5_))
       refine hK.out _ _ ⟨(zC BK186.out 0).trans rfl, (zC BK186.out 1).trans rfl, (zC BK186.out 2).trans rfl, (zC BK186.out 3).trans rfl, (zC BK186.out 4).trans rfl, (zC BK191.out 0).trans rfl, (zC BK191.out 1).trans rfl, (zC BK191.out 2).trans rfl, (zC BK191.out 3).trans rfl, (zC BK191.out 4).trans rfl⟩ (fun hHeld => ?_)
       clear hK K
       refine norm_ (a' := ?_) ?_ ?_
       rotate_left
       ·
        show Act.put _ (some 24) _ = _
        simp only [Act.put, List.setIfInBounds_toArray, List.set_cons_zero, List.set_cons_succ, i64_w, i32_w]
        rfl
       refine pure_ (i := 6) (N := some 25) (v := ?_) (a' := ?_) #[true, true, true, true, true, true, true, false] rfl rfl (any_of HT_.out (by kernel_rfl)) (fun _ _ _ h => h) (Or.inl ⟨by rfl, ?_⟩) ?_ ?_
       rotate_left
       ·
        intro w'
        go_simp
        with_reducible rfl
       rotate_left
       ·
        simp only [Act.put, List.setIfInBounds_toArray, List.set_cons_zero, List.set_cons_succ, i64_w, i32_w]
        rfl
       refine last_ (i := 7) (N := none) #[true, true, true, true, true, true, true, true] rfl rfl (one_of HT_.out (by kernel_rfl)) (by decide) (fun K hK => ?_)
       have hs33 : w29.cell? ⟨gb186, 4, none⟩ = some (u187004) := (zC BK186.out 4).trans rfl
       have hfs33 := zR BK186.out 4
       have hns33_0 := NB184_186.out
       have hns33_1 := NB185_186.out
       have hns33_3 := NB191_186.out
       have hms33_0 := NB186_184.out
       have hms33_1 := NB186_185.out
       have hms33_3 := NB186_191.out
       refine skip_ (w1 := ?_) (by rfl) rfl ?_ ?_
       rotate_left
       ·
        go_simp
        rfl
       refine hK.out _ _ ?_
       clear hK K
       refine done_ (done_of HT_.out (by kernel_rfl)) ?_
       try go_wp2
       go_roundg k1
       case measure => have := HK1.out; omega
       case rel => exact ⟨(wrap64 (x15_1 + 1)), (y201), (.slice Ao32 y201.length co32), (by first | rfl | (simp; done) | (simp [*]; done)), H', ⟨by have := HK1.out; omega⟩, ⟨by (with_reducible repeat (first | apply Kd.R_alloc | apply Kd.R_drewN | apply Kd.R_drew)); exact Kd.R_mono (Kd.R_far (p := ⟨gb186, 4, none⟩) (Kd.R_types HO_187003.out BK186.out (by decide)) (fun _ hk => hk.2) (.slice Ao32 y201.length co32)) (fun _ hk => trivial)⟩, ⟨by (with_reducible repeat (first | apply Kd.R_alloc | apply Kd.R_drewN | apply Kd.R_drew)); exact Kd.R_mono (Kd.R_far (p := ⟨gb186, 4, none⟩) (Kd.R_mono HO203.out (fun k_ hk => (⟨hk, hk.2.2.2.1⟩ : _ ∧ k_ ≠ gb186))) (fun _ hk => hk.2) (.slice Ao32 y201.length co32)) (fun _ hk => ⟨hk.1.1, ⟨hk.1.2.1, ⟨hk.1.2.2.1, hk.1.2.2.2.1⟩⟩⟩)⟩, ⟨by (with_reducible repeat first | apply zM | apply zE | apply zF); refine zG ?_ NB184_186.out _; (with_reducible repeat first | apply zM | apply zE | apply zF); exact BK184.out⟩, ⟨by (with_reducible repeat first | apply zM | apply zE | apply zF); refine zG ?_ NB185_186.out _; (with_reducible repeat first | apply zM | apply zE | apply zF); exact BK185.out⟩, ⟨by (with_reducible repeat first | apply zM | apply zE | apply zF); refine zP (cs := #[.string a0_0, .string a0_1, .string a0_2, .slice Ao13 t187.length co13, u187004]) ?_ 4 _ rfl; (with_reducible repeat first | apply zM | apply zE | apply zF); exact BK186.out⟩, ⟨by repeat (first | (with_reducible first | exact HB.out | apply zA | apply zN | apply zD | refine zS ?_ GE184.out | refine zS ?_ GE185.out | refine zS ?_ GE186.out | refine zS ?_ GE191.out) | exact HB.out)⟩⟩
      ·
       rw [if_neg c20] at H
       exact absurd H (by simp)
     ·
      rw [if_neg c18] at H
      exact absurd H (by simp)
    ·
     rw [if_neg c17] at H
     exact absurd H (by simp)
   ·
    rw [if_neg c16] at H
    have c16b0 : decide (x15_1 < (l0_4.length : Int)) = false := decide_eq_false c16
    clear c16
    simp only [Option.some.injEq, Prod.mk.injEq] at H
    obtain ⟨rfl, rfl, rfl, rfl, rfl⟩ := H
    have hnb34 := NB186_184.out
    have hnc34 := NB184_186.out
    have hnb35 := NB186_185.out
    have hnc35 := NB185_186.out
    have hcz36_0 : wr.cell? ⟨gb186, 0, none⟩ = some (.string a0_0) := (zC BK186.out 0).trans rfl
    have hcz36_1 : wr.cell? ⟨gb186, 1, none⟩ = some (.string a0_1) := (zC BK186.out 1).trans rfl
    have hcz36_2 : wr.cell? ⟨gb186, 2, none⟩ = some (.string a0_2) := (zC BK186.out 2).trans rfl
    have hcz36_3 : wr.cell? ⟨gb186, 3, none⟩ = some (.slice Ao13 t187.length co13) := (zC BK186.out 3).trans rfl
    have hcz36_4 : wr.cell? ⟨gb186, 4, none⟩ = some (u187004) := (zC BK186.out 4).trans rfl
    have hfz36_0 := zR BK186.out 0
    have hfz36_1 := zR BK186.out 1
    have hfz36_2 := zR BK186.out 2
    have hfz36_3 := zR BK186.out 3
    have hfz36_4 := zR BK186.out 4
    have hnb37 := NB185_184.out
    have hnc37 := NB184_185.out
    have hcz38_0 : wr.cell? ⟨gb185, 0, none⟩ = some (.string (⟨#[]⟩ : ByteArray)) := (zC BK185.out 0).trans rfl
    have hcz38_1 : wr.cell? ⟨gb185, 1, none⟩ = some (.string (⟨#[]⟩ : ByteArray)) := (zC BK185.out 1).trans rfl
    have hcz38_2 : wr.cell? ⟨gb185, 2, none⟩ = some (.string (⟨#[]⟩ : ByteArray)) := (zC BK185.out 2).trans rfl
    have hcz38_3 : wr.cell? ⟨gb185, 3, none⟩ = some (.slice none 0 0) := (zC BK185.out 3).trans rfl
    have hcz38_4 : wr.cell? ⟨gb185, 4, none⟩ = some (.slice none 0 0) := (zC BK185.out 4).trans rfl
    have hfz38_0 := zR BK185.out 0
    have hfz38_1 := zR BK185.out 1
    have hfz38_2 := zR BK185.out 2
    have hfz38_3 := zR BK185.out 3
    have hfz38_4 := zR BK185.out 4
    obtain ⟨Ao39, co39, eo39⟩ := Kd.R_slice HO_187004.out
    subst eo39
    go_wp2
    refine bodyPost_ret (results_cell_row rfl _ _ gb185 25 #[.string a0_0, .string a0_1, .string a0_2, .slice Ao13 t187.length co13, .slice Ao39 x187004_1.length co39] (0, 0) _ rfl (by (with_reducible repeat first | apply zM | apply zE | apply zF); refine zP (cs := #[.string a0_0, .string a0_1, .string a0_2, .slice Ao13 t187.length co13, .slice none 0 0]) ?_ 4 _ rfl; (with_reducible repeat first | apply zM | apply zE | apply zF); refine zP (cs := #[.string a0_0, .string a0_1, .string a0_2, .slice none 0 0, .slice none 0 0]) ?_ 3 _ rfl; (with_reducible repeat first | apply zM | apply zE | apply zF); refine zP (cs := #[.string a0_0, .string a0_1, .string (⟨#[]⟩ : ByteArray), .slice none 0 0, .slice none 0 0]) ?_ 2 _ rfl; (with_reducible repeat first | apply zM | apply zE | apply zF); refine zP (cs := #[.string a0_0, .string (⟨#[]⟩ : ByteArray), .string (⟨#[]⟩ : ByteArray), .slice none 0 0, .slice none 0 0]) ?_ 1 _ rfl; (with_reducible repeat first | apply zM | apply zE | apply zF); refine zP (cs := #[.string (⟨#[]⟩ : ByteArray), .string (⟨#[]⟩ : ByteArray), .string (⟨#[]⟩ : ByteArray), .slice none 0 0, .slice none 0 0]) ?_ 0 _ rfl; (with_reducible repeat first | apply zM | apply zE | apply zF); exact BK185.out) Try.underlying25 rfl (by kernel_rfl)) rfl ?_
    exact ⟨_, _, by first | rfl | (simp [errW_none, errW_some] <;> rfl) | (simp [*, errW_none, errW_some] <;> rfl), by (with_reducible repeat (first | apply Kd.R_alloc | apply Kd.R_drewN | apply Kd.R_drew)); exact Kd.R_mono (Kd.R_far (p := ⟨gb185, 4, none⟩) (Kd.R_far (p := ⟨gb185, 3, none⟩) (Kd.R_far (p := ⟨gb185, 2, none⟩) (Kd.R_far (p := ⟨gb185, 1, none⟩) (Kd.R_far (p := ⟨gb185, 0, none⟩) (Kd.R_types HO_187003.out BK185.out (by decide)) (fun _ hk => hk.2) (.string a0_0)) (fun _ hk => hk.2) (.string a0_1)) (fun _ hk => hk.2) (.string a0_2)) (fun _ hk => hk.2) (.slice Ao13 t187.length co13)) (fun _ hk => hk.2) (.slice Ao39 x187004_1.length co39)) (fun _ hk => trivial), by (with_reducible repeat (first | apply Kd.R_alloc | apply Kd.R_drewN | apply Kd.R_drew)); exact Kd.R_mono (Kd.R_far (p := ⟨gb185, 4, none⟩) (Kd.R_far (p := ⟨gb185, 3, none⟩) (Kd.R_far (p := ⟨gb185, 2, none⟩) (Kd.R_far (p := ⟨gb185, 1, none⟩) (Kd.R_far (p := ⟨gb185, 0, none⟩) (Kd.R_mono HO_187004.out (fun k_ hk => (⟨hk, hk.2.2.1⟩ : _ ∧ k_ ≠ gb185))) (fun _ hk => hk.2) (.string a0_0)) (fun _ hk => hk.2) (.string a0_1)) (fun _ hk => hk.2) (.string a0_2)) (fun _ hk => hk.2) (.slice Ao13 t187.length co13)) (fun _ hk => hk.2) (.slice Ao39 x187004_1.length co39)) (fun _ hk => hk.1.1), by repeat (first | (with_reducible first | exact HB.out | apply zA | apply zN | apply zD | refine zS ?_ GE184.out | refine zS ?_ GE185.out | refine zS ?_ GE186.out) | exact HB.out)⟩

-- squeezed
open Go.Proofs.YtafkgjnafddgbaaW.PrintWords renaming below_alloc → zA, pw_below_drewN → zN, below_drew1 → zD, below_set → zS, blk_drewN → zM, blk_drew → zE, blk_alloc → zF, blk_far → zG, blk_put → zP, blk_cell → zC, blk_frozen → zR
/-! ### vtree_Copy: function 16 -/
def vtree_Copy.f (k : Nat) (a0_0 : ByteArray) (a0_1 : ByteArray) (a0_2 : ByteArray) (l0_3 : List (S42)) (l0_4 : List (S25)) : Option (ByteArray × ByteArray × ByteArray × (List (S42)) × (List (S25)) × Bool) := (vtree_check.f k a0_0 a0_1 a0_2 l0_3 l0_4).bind fun bt206 => (if bt206.2.2 = 0 then ((vtree_double.f k a0_0 a0_1 a0_2 l0_3 l0_4).bind fun bt209 => (some (bt209.1, bt209.2.1, bt209.2.2.1, bt209.2.2.2.1, bt209.2.2.2.2, true))) else (some ((⟨#[]⟩ : ByteArray), (⟨#[]⟩ : ByteArray), (⟨#[]⟩ : ByteArray), ([] : List (S42)), ([] : List (S25)), false)))
set_option maxHeartbeats 8000000 in
set_option maxRecDepth 100000 in
theorem vtree_Copy.calls (k : Nat) (a0_0 : ByteArray) (a0_1 : ByteArray) (a0_2 : ByteArray) (A0_3 : Option Addr) (c0_3 : Nat) (l0_3 : List (S42)) (A0_4 : Option Addr) (c0_4 : Nat) (l0_4 : List (S25)) (r1 : ByteArray) (r2 : ByteArray) (r3 : ByteArray) (r4 : List (S42)) (r5 : List (S25)) (r6 : Bool) (w : World) (hr0_3 : Kd.C k42 w A0_3 l0_3.length l0_3) (hc0_3 : l0_3.length ≤ c0_3) (hr0_4 : Kd.C k25 w A0_4 l0_4.length l0_4) (hc0_4 : l0_4.length ≤ c0_4) (h : vtree_Copy.f k a0_0 a0_1 a0_2 l0_3 l0_4 = some (r1, r2, r3, r4, r5, r6)) :
  Calls Try.prog 16 #[.agg #[.string a0_0, .string a0_1, .string a0_2, .slice A0_3 l0_3.length c0_3, .slice A0_4 l0_4.length c0_4]] w fun e w' => ∃ v3_ v4_ : Value, e = .returned (.tuple #[.agg #[.string r1, .string r2, .string r3, v3_, v4_], .bool r6]) ∧ Kd.R k42 42 w' w.heap.size (fun _ => True) v3_ r4 ∧ Kd.R k25 25 w' w.heap.size (fun k_ => some k_ ≠ (v3_ : Value).ownBlock) v4_ r5 ∧ Below w.heap.size w w' := by
 have hu25 := Try.underlying25
 have hfl45_2 : ∀ (v0 v1 v2 : Value) (W : World), (Instr.field 45 (.agg #[v0, v1, v2]) 2).run Try.prog W = .ok v2 W := fun _ _ _ _ => by rfl
 have HR0_3 := Aside0.mk hr0_3
 have HC0_3 := Aside0.mk hc0_3
 clear hr0_3 hc0_3
 have HR0_4 := Aside0.mk hr0_4
 have HC0_4 := Aside0.mk hc0_4
 clear hr0_4 hc0_4
 have HB := Aside0.mk (Below.refl w.heap.size w)
 have H : ((vtree_check.f k a0_0 a0_1 a0_2 l0_3 l0_4).bind fun bt206 => (if bt206.2.2 = 0 then ((vtree_double.f k a0_0 a0_1 a0_2 l0_3 l0_4).bind fun bt209 => (some (bt209.1, bt209.2.1, bt209.2.2.1, bt209.2.2.2.1, bt209.2.2.2.2, true))) else (some ((⟨#[]⟩ : ByteArray), (⟨#[]⟩ : ByteArray), (⟨#[]⟩ : ByteArray), ([] : List (S42)), ([] : List (S25)), false)))) = some (r1, r2, r3, r4, r5, r6) := h
 clear h
 replace H := Option.bind_eq_some_iff.mp H
 obtain ⟨⟨t206, t207, t208⟩, A20, H⟩ := H
 replace H : (if t208 = 0 then ((vtree_double.f k a0_0 a0_1 a0_2 l0_3 l0_4).bind fun bt209 => (some (bt209.1, bt209.2.1, bt209.2.2.1, bt209.2.2.2.1, bt209.2.2.2.2, true))) else (some ((⟨#[]⟩ : ByteArray), (⟨#[]⟩ : ByteArray), (⟨#[]⟩ : ByteArray), ([] : List (S42)), ([] : List (S25)), false))) = some (r1, r2, r3, r4, r5, r6) := H
 have A2 := Aside0.mk A20
 clear A20
 by_cases c3 : t208 = 0
 ·
  rw [if_pos c3] at H
  have c3b0 : (t208 == 0) = true := beq_iff_eq.mpr c3
  have c3b1 : (t208 != 0) = false := bne_eq_false_iff_eq.mpr c3
  clear c3
  replace H := Option.bind_eq_some_iff.mp H
  obtain ⟨⟨t209, t210, t211, t212, t215⟩, A40, H⟩ := H
  replace H : (some (t209, t210, t211, t212, t215, true)) = some (r1, r2, r3, r4, r5, r6) := H
  have A4 := Aside0.mk A40
  clear A40
  simp only [Option.some.injEq, Prod.mk.injEq] at H
  obtain ⟨rfl, rfl, rfl, rfl, rfl, rfl⟩ := H
  go_enter Try.func16, Try.ntmps16
  go_wp2_with (first | ((with_reducible refine gate_dst (N := 1) rfl ?_); refine box_event ?hg (N := 1) ?hd (cs := #[.string a0_0, .string a0_1, .string a0_2, .slice A0_3 l0_3.length c0_3, .slice A0_4 l0_4.length c0_4]) (t := 25) ?hr ?_; (case hd => rfl); (case hg => rfl); (case hr => first | (go_simp; done) | (go_simp; rfl)); intro gb204 hg w5 hbox hb; have n0_ := Aside0.mk (below_step (by repeat (first | (with_reducible first | exact HB.out | apply zA | apply zN | apply zD) | exact HB.out)) hb); have n1_ := Aside0.mk (hbox); have n2_ := Aside0.mk ((by rw [hg]; exact (below_size (by repeat (first | (with_reducible first | exact HB.out | apply zA | apply zN | apply zD) | exact HB.out))) : w.heap.size ≤ gb204)); have n3_ := Aside0.mk ((by rw [hg]; exact (below_size (by repeat (first | (with_reducible first | exact HB.out | apply zA | apply zN | apply zD) | exact HB.out))) : w.heap.size ≤ gb204)); clear HB; have HB := n0_; have BK204 := n1_; have GW204 := n2_; have GE204 := n3_; clear n0_ n1_ n2_ n3_; clear hb hbox hg) | ((with_reducible refine gate_dst (N := 2) rfl ?_); refine box_event ?hg (N := 2) ?hd (cs := #[.string (⟨#[]⟩ : ByteArray), .string (⟨#[]⟩ : ByteArray), .string (⟨#[]⟩ : ByteArray), .slice none 0 0, .slice none 0 0]) (t := 25) ?hr ?_; (case hd => rfl); (case hg => rfl); (case hr => first | (go_simp; done) | (go_simp; rfl)); intro gb205 hg w6 hbox hb; have n0_ := Aside0.mk (blk_below (g := gb204) (o := .cells #[.string a0_0, .string a0_1, .string a0_2, .slice A0_3 l0_3.length c0_3, .slice A0_4 l0_4.length c0_4] 25 (0, 0)) (by (with_reducible repeat first | apply zM | apply zE | apply zF); exact BK204.out) hb); have n1_ := Aside0.mk (below_step (by repeat (first | (with_reducible first | exact HB.out | apply zA | apply zN | apply zD | refine zS ?_ GE204.out) | exact HB.out)) hb); have n2_ := Aside0.mk (hbox); have n3_ := Aside0.mk ((by rw [hg]; exact (below_size (by repeat (first | (with_reducible first | exact HB.out | apply zA | apply zN | apply zD | refine zS ?_ GE204.out) | exact HB.out))) : w.heap.size ≤ gb205)); have n4_ := Aside0.mk ((by rw [hg]; exact (below_size (by repeat (first | (with_reducible first | exact HB.out | apply zA | apply zN | apply zD | refine zS ?_ GE204.out) | exact HB.out))) : w.heap.size ≤ gb205)); have n5_ := Aside0.mk ((by rw [hg]; exact Nat.ne_of_lt (blk_lt (g := gb204) (o := .cells #[.string a0_0, .string a0_1, .string a0_2, .slice A0_3 l0_3.length c0_3, .slice A0_4 l0_4.length c0_4] 25 (0, 0)) (by (with_reducible repeat first | apply zM | apply zE | apply zF); exact BK204.out)) : gb204 ≠ gb205)); have n6_ := Aside0.mk ((by rw [hg]; exact Nat.ne_of_gt (blk_lt (g := gb204) (o := .cells #[.string a0_0, .string a0_1, .string a0_2, .slice A0_3 l0_3.length c0_3, .slice A0_4 l0_4.length c0_4] 25 (0, 0)) (by (with_reducible repeat first | apply zM | apply zE | apply zF); exact BK204.out)) : gb205 ≠ gb204)); clear BK204; clear HB; have BK204 := n0_; have HB := n1_; have BK205 := n2_; have GW205 := n3_; have GE205 := n4_; have NB204_205 := n5_; have NB205_204 := n6_; clear n0_ n1_ n2_ n3_ n4_ n5_ n6_; clear hb hbox hg; have hnb7 := NB204_205.out; have hnc7 := NB205_204.out; have hcz8_0 : w6.cell? ⟨gb204, 0, none⟩ = some (.string a0_0) := (zC BK204.out 0).trans rfl; have hcz8_1 : w6.cell? ⟨gb204, 1, none⟩ = some (.string a0_1) := (zC BK204.out 1).trans rfl; have hcz8_2 : w6.cell? ⟨gb204, 2, none⟩ = some (.string a0_2) := (zC BK204.out 2).trans rfl; have hcz8_3 : w6.cell? ⟨gb204, 3, none⟩ = some (.slice A0_3 l0_3.length c0_3) := (zC BK204.out 3).trans rfl; have hcz8_4 : w6.cell? ⟨gb204, 4, none⟩ = some (.slice A0_4 l0_4.length c0_4) := (zC BK204.out 4).trans rfl; have hfz8_0 := zR BK204.out 0; have hfz8_1 := zR BK204.out 1; have hfz8_2 := zR BK204.out 2; have hfz8_3 := zR BK204.out 3; have hfz8_4 := zR BK204.out 4) | ((with_reducible refine gate_callee (f := 21) rfl ?_); refine goesL_ (some 5) rfl rfl Try.func21 (by kernel_rfl) rfl #[.agg #[.string a0_0, .string a0_1, .string a0_2, .slice A0_3 l0_3.length c0_3, .slice A0_4 l0_4.length c0_4]] rfl (by (try simp only [List.map_toArray, List.map_cons, List.map_nil]); first | done | rfl | (simp only [List.length_drop, List.length_take]; rfl)) ?_; (with_reducible refine (vtree_check.calls k a0_0 a0_1 a0_2 _ _ l0_3 _ _ l0_4 t206 t207 t208 _ ?side1 ?side2 ?side3 ?side4 A2.out).mono ?_); (case side1 => repeat (first | exact (Kd.C_below HR0_3.out HB.out) | (with_reducible refine Kd.C_alloc ?_ _) | (with_reducible refine Kd.C_drewN ?_ _) | (with_reducible refine Kd.C_drew ?_))); (case side2 => exact HC0_3.out); (case side3 => repeat (first | exact (Kd.C_below HR0_4.out HB.out) | (with_reducible refine Kd.C_alloc ?_ _) | (with_reducible refine Kd.C_drewN ?_ _) | (with_reducible refine Kd.C_drew ?_))); (case side4 => exact HC0_4.out); rintro e w9 ⟨rfl, hb⟩; refine ⟨_, rfl, ?_⟩; have n0_ := Aside0.mk (blk_below (g := gb204) (o := .cells #[.string a0_0, .string a0_1, .string a0_2, .slice A0_3 l0_3.length c0_3, .slice A0_4 l0_4.length c0_4] 25 (0, 0)) (by (with_reducible repeat first | apply zM | apply zE | apply zF); exact BK204.out) hb); have n1_ := Aside0.mk (blk_below (g := gb205) (o := .cells #[.string (⟨#[]⟩ : ByteArray), .string (⟨#[]⟩ : ByteArray), .string (⟨#[]⟩ : ByteArray), .slice none 0 0, .slice none 0 0] 25 (0, 0)) (by (with_reducible repeat first | apply zM | apply zE | apply zF); exact BK205.out) hb); have n2_ := Aside0.mk (below_step (by repeat (first | (with_reducible first | exact HB.out | apply zA | apply zN | apply zD | refine zS ?_ GE204.out | refine zS ?_ GE205.out) | exact HB.out)) hb); clear BK204; clear BK205; clear HB; have BK204 := n0_; have BK205 := n1_; have HB := n2_; clear n0_ n1_ n2_; (try clear hb); (try clear hb2); (try clear hk); (try clear hi); have hcz10_0 : w9.cell? ⟨gb204, 0, none⟩ = some (.string a0_0) := (zC BK204.out 0).trans rfl; have hcz10_1 : w9.cell? ⟨gb204, 1, none⟩ = some (.string a0_1) := (zC BK204.out 1).trans rfl; have hcz10_2 : w9.cell? ⟨gb204, 2, none⟩ = some (.string a0_2) := (zC BK204.out 2).trans rfl; have hcz10_3 : w9.cell? ⟨gb204, 3, none⟩ = some (.slice A0_3 l0_3.length c0_3) := (zC BK204.out 3).trans rfl; have hcz10_4 : w9.cell? ⟨gb204, 4, none⟩ = some (.slice A0_4 l0_4.length c0_4) := (zC BK204.out 4).trans rfl; have hfz10_0 := zR BK204.out 0; have hfz10_1 := zR BK204.out 1; have hfz10_2 := zR BK204.out 2; have hfz10_3 := zR BK204.out 3; have hfz10_4 := zR BK204.out 4) | ((with_reducible refine gate_callee (f := 25) rfl ?_); refine goesL_ (some 10) rfl rfl Try.func25 (by kernel_rfl) rfl #[.agg #[.string a0_0, .string a0_1, .string a0_2, .slice A0_3 l0_3.length c0_3, .slice A0_4 l0_4.length c0_4]] rfl (by (try simp only [List.map_toArray, List.map_cons, List.map_nil]); first | done | rfl | (simp only [List.length_drop, List.length_take]; rfl)) ?_; (with_reducible refine (vtree_double.calls k a0_0 a0_1 a0_2 _ _ l0_3 _ _ l0_4 t209 t210 t211 t212 t215 _ ?side1 ?side2 ?side3 ?side4 A4.out).mono ?_); (case side1 => repeat (first | exact (Kd.C_below HR0_3.out HB.out) | (with_reducible refine Kd.C_alloc ?_ _) | (with_reducible refine Kd.C_drewN ?_ _) | (with_reducible refine Kd.C_drew ?_))); (case side2 => exact HC0_3.out); (case side3 => repeat (first | exact (Kd.C_below HR0_4.out HB.out) | (with_reducible refine Kd.C_alloc ?_ _) | (with_reducible refine Kd.C_drewN ?_ _) | (with_reducible refine Kd.C_drew ?_))); (case side4 => exact HC0_4.out); rintro e w11 ⟨v213, v216, rfl, ho0, ho1, hb⟩; refine ⟨_, rfl, ?_⟩; have n0_ := Aside0.mk (Kd.R_lower ho0 (below_size (by repeat (first | (with_reducible first | exact HB.out | apply zA | apply zN | apply zD | refine zS ?_ GE204.out | refine zS ?_ GE205.out) | exact HB.out)))); have n1_ := Aside0.mk (Kd.R_lower (Kd.R_newB (Kd.R_newB ho1 (g := gb204) (o := .cells #[.string a0_0, .string a0_1, .string a0_2, .slice A0_3 l0_3.length c0_3, .slice A0_4 l0_4.length c0_4] 25 (0, 0)) (by (with_reducible repeat first | apply zM | apply zE | apply zF); exact BK204.out)) (g := gb205) (o := .cells #[.string (⟨#[]⟩ : ByteArray), .string (⟨#[]⟩ : ByteArray), .string (⟨#[]⟩ : ByteArray), .slice none 0 0, .slice none 0 0] 25 (0, 0)) (by (with_reducible repeat first | apply zM | apply zE | apply zF); exact BK205.out)) (below_size (by repeat (first | (with_reducible first | exact HB.out | apply zA | apply zN | apply zD | refine zS ?_ GE204.out | refine zS ?_ GE205.out) | exact HB.out)))); have n2_ := Aside0.mk (blk_below (g := gb204) (o := .cells #[.string a0_0, .string a0_1, .string a0_2, .slice A0_3 l0_3.length c0_3, .slice A0_4 l0_4.length c0_4] 25 (0, 0)) (by (with_reducible repeat first | apply zM | apply zE | apply zF); exact BK204.out) hb); have n3_ := Aside0.mk (blk_below (g := gb205) (o := .cells #[.string (⟨#[]⟩ : ByteArray), .string (⟨#[]⟩ : ByteArray), .string (⟨#[]⟩ : ByteArray), .slice none 0 0, .slice none 0 0] 25 (0, 0)) (by (with_reducible repeat first | apply zM | apply zE | apply zF); exact BK205.out) hb); have n4_ := Aside0.mk (below_step (by repeat (first | (with_reducible first | exact HB.out | apply zA | apply zN | apply zD | refine zS ?_ GE204.out | refine zS ?_ GE205.out) | exact HB.out)) hb); clear BK204; clear BK205; clear HB; have HO214 := n0_; have HO217 := n1_; have BK204 := n2_; have BK205 := n3_; have HB := n4_; clear n0_ n1_ n2_ n3_ n4_; (try clear hb); (try clear hb2); (try clear hk); (try clear hi); (try clear ho0); (try clear ho1); have hcz12_0 : w11.cell? ⟨gb205, 0, none⟩ = some (.string (⟨#[]⟩ : ByteArray)) := (zC BK205.out 0).trans rfl; have hcz12_1 : w11.cell? ⟨gb205, 1, none⟩ = some (.string (⟨#[]⟩ : ByteArray)) := (zC BK205.out 1).trans rfl; have hcz12_2 : w11.cell? ⟨gb205, 2, none⟩ = some (.string (⟨#[]⟩ : ByteArray)) := (zC BK205.out 2).trans rfl; have hcz12_3 : w11.cell? ⟨gb205, 3, none⟩ = some (.slice none 0 0) := (zC BK205.out 3).trans rfl; have hcz12_4 : w11.cell? ⟨gb205, 4, none⟩ = some (.slice none 0 0) := (zC BK205.out 4).trans rfl; have hfz12_0 := zR BK205.out 0; have hfz12_1 := zR BK205.out 1; have hfz12_2 := zR BK205.out 2; have hfz12_3 := zR BK205.out 3; have hfz12_4 := zR BK205.out 4; obtain ⟨Ao13, co13, eo13⟩ := Kd.R_slice HO214.out; subst eo13; obtain ⟨Ao14, co14, eo14⟩ := Kd.R_slice HO217.out; subst eo14))
  refine bodyPost_ret (results_ct rfl _ _ gb205 25 #[.string t209, .string t210, .string t211, .slice Ao13 t212.length co13, .slice Ao14 t215.length co14] (0, 0) _ rfl (by (with_reducible repeat first | apply zM | apply zE | apply zF); refine zP (cs := #[.string t209, .string t210, .string t211, .slice Ao13 t212.length co13, .slice none 0 0]) ?_ 4 _ rfl; (with_reducible repeat first | apply zM | apply zE | apply zF); refine zP (cs := #[.string t209, .string t210, .string t211, .slice none 0 0, .slice none 0 0]) ?_ 3 _ rfl; (with_reducible repeat first | apply zM | apply zE | apply zF); refine zP (cs := #[.string t209, .string t210, .string (⟨#[]⟩ : ByteArray), .slice none 0 0, .slice none 0 0]) ?_ 2 _ rfl; (with_reducible repeat first | apply zM | apply zE | apply zF); refine zP (cs := #[.string t209, .string (⟨#[]⟩ : ByteArray), .string (⟨#[]⟩ : ByteArray), .slice none 0 0, .slice none 0 0]) ?_ 1 _ rfl; (with_reducible repeat first | apply zM | apply zE | apply zF); refine zP (cs := #[.string (⟨#[]⟩ : ByteArray), .string (⟨#[]⟩ : ByteArray), .string (⟨#[]⟩ : ByteArray), .slice none 0 0, .slice none 0 0]) ?_ 0 _ rfl; (with_reducible repeat first | apply zM | apply zE | apply zF); exact BK205.out) Try.underlying25 rfl (by kernel_rfl)) rfl ?_
  exact ⟨_, _, by first | rfl | (simp [errW_none, errW_some] <;> rfl) | (simp [*, errW_none, errW_some] <;> rfl), by (with_reducible repeat (first | apply Kd.R_alloc | apply Kd.R_drewN | apply Kd.R_drew)); exact Kd.R_mono (Kd.R_far (p := ⟨gb205, 4, none⟩) (Kd.R_far (p := ⟨gb205, 3, none⟩) (Kd.R_far (p := ⟨gb205, 2, none⟩) (Kd.R_far (p := ⟨gb205, 1, none⟩) (Kd.R_far (p := ⟨gb205, 0, none⟩) (Kd.R_types HO214.out BK205.out (by decide)) (fun _ hk => hk.2) (.string t209)) (fun _ hk => hk.2) (.string t210)) (fun _ hk => hk.2) (.string t211)) (fun _ hk => hk.2) (.slice Ao13 t212.length co13)) (fun _ hk => hk.2) (.slice Ao14 t215.length co14)) (fun _ hk => trivial), by (with_reducible repeat (first | apply Kd.R_alloc | apply Kd.R_drewN | apply Kd.R_drew)); exact Kd.R_mono (Kd.R_far (p := ⟨gb205, 4, none⟩) (Kd.R_far (p := ⟨gb205, 3, none⟩) (Kd.R_far (p := ⟨gb205, 2, none⟩) (Kd.R_far (p := ⟨gb205, 1, none⟩) (Kd.R_far (p := ⟨gb205, 0, none⟩) (Kd.R_mono HO217.out (fun k_ hk => (⟨hk, hk.2⟩ : _ ∧ k_ ≠ gb205))) (fun _ hk => hk.2) (.string t209)) (fun _ hk => hk.2) (.string t210)) (fun _ hk => hk.2) (.string t211)) (fun _ hk => hk.2) (.slice Ao13 t212.length co13)) (fun _ hk => hk.2) (.slice Ao14 t215.length co14)) (fun _ hk => hk.1.1.1), by repeat (first | (with_reducible first | exact HB.out | apply zA | apply zN | apply zD | refine zS ?_ GE204.out | refine zS ?_ GE205.out) | exact HB.out)⟩
 ·
  rw [if_neg c3] at H
  have c3b0 : (t208 == 0) = false := beq_eq_false_iff_ne.mpr c3
  have c3b1 : (t208 != 0) = true := bne_iff_ne.mpr c3
  simp only [Option.some.injEq, Prod.mk.injEq] at H
  obtain ⟨rfl, rfl, rfl, rfl, rfl, rfl⟩ := H
  go_enter Try.func16, Try.ntmps16
  go_wp2_with (first | ((with_reducible refine gate_dst (N := 1) rfl ?_); refine box_event ?hg (N := 1) ?hd (cs := #[.string a0_0, .string a0_1, .string a0_2, .slice A0_3 l0_3.length c0_3, .slice A0_4 l0_4.length c0_4]) (t := 25) ?hr ?_; (case hd => rfl); (case hg => rfl); (case hr => first | (go_simp; done) | (go_simp; rfl)); intro gb204 hg w15 hbox hb; have n0_ := Aside0.mk (below_step (by repeat (first | (with_reducible first | exact HB.out | apply zA | apply zN | apply zD) | exact HB.out)) hb); have n1_ := Aside0.mk (hbox); have n2_ := Aside0.mk ((by rw [hg]; exact (below_size (by repeat (first | (with_reducible first | exact HB.out | apply zA | apply zN | apply zD) | exact HB.out))) : w.heap.size ≤ gb204)); have n3_ := Aside0.mk ((by rw [hg]; exact (below_size (by repeat (first | (with_reducible first | exact HB.out | apply zA | apply zN | apply zD) | exact HB.out))) : w.heap.size ≤ gb204)); clear HB; have HB := n0_; have BK204 := n1_; have GW204 := n2_; have GE204 := n3_; clear n0_ n1_ n2_ n3_; clear hb hbox hg) | ((with_reducible refine gate_dst (N := 2) rfl ?_); refine box_event ?hg (N := 2) ?hd (cs := #[.string (⟨#[]⟩ : ByteArray), .string (⟨#[]⟩ : ByteArray), .string (⟨#[]⟩ : ByteArray), .slice none 0 0, .slice none 0 0]) (t := 25) ?hr ?_; (case hd => rfl); (case hg => rfl); (case hr => first | (go_simp; done) | (go_simp; rfl)); intro gb205 hg w16 hbox hb; have n0_ := Aside0.mk (blk_below (g := gb204) (o := .cells #[.string a0_0, .string a0_1, .string a0_2, .slice A0_3 l0_3.length c0_3, .slice A0_4 l0_4.length c0_4] 25 (0, 0)) (by (with_reducible repeat first | apply zM | apply zE | apply zF); exact BK204.out) hb); have n1_ := Aside0.mk (below_step (by repeat (first | (with_reducible first | exact HB.out | apply zA | apply zN | apply zD | refine zS ?_ GE204.out) | exact HB.out)) hb); have n2_ := Aside0.mk (hbox); have n3_ := Aside0.mk ((by rw [hg]; exact (below_size (by repeat (first | (with_reducible first | exact HB.out | apply zA | apply zN | apply zD | refine zS ?_ GE204.out) | exact HB.out))) : w.heap.size ≤ gb205)); have n4_ := Aside0.mk ((by rw [hg]; exact (below_size (by repeat (first | (with_reducible first | exact HB.out | apply zA | apply zN | apply zD | refine zS ?_ GE204.out) | exact HB.out))) : w.heap.size ≤ gb205)); have n5_ := Aside0.mk ((by rw [hg]; exact Nat.ne_of_lt (blk_lt (g := gb204) (o := .cells #[.string a0_0, .string a0_1, .string a0_2, .slice A0_3 l0_3.length c0_3, .slice A0_4 l0_4.length c0_4] 25 (0, 0)) (by (with_reducible repeat first | apply zM | apply zE | apply zF); exact BK204.out)) : gb204 ≠ gb205)); have n6_ := Aside0.mk ((by rw [hg]; exact Nat.ne_of_gt (blk_lt (g := gb204) (o := .cells #[.string a0_0, .string a0_1, .string a0_2, .slice A0_3 l0_3.length c0_3, .slice A0_4 l0_4.length c0_4] 25 (0, 0)) (by (with_reducible repeat first | apply zM | apply zE | apply zF); exact BK204.out)) : gb205 ≠ gb204)); clear BK204; clear HB; have BK204 := n0_; have HB := n1_; have BK205 := n2_; have GW205 := n3_; have GE205 := n4_; have NB204_205 := n5_; have NB205_204 := n6_; clear n0_ n1_ n2_ n3_ n4_ n5_ n6_; clear hb hbox hg; have hnb17 := NB204_205.out; have hnc17 := NB205_204.out; have hcz18_0 : w16.cell? ⟨gb204, 0, none⟩ = some (.string a0_0) := (zC BK204.out 0).trans rfl; have hcz18_1 : w16.cell? ⟨gb204, 1, none⟩ = some (.string a0_1) := (zC BK204.out 1).trans rfl; have hcz18_2 : w16.cell? ⟨gb204, 2, none⟩ = some (.string a0_2) := (zC BK204.out 2).trans rfl; have hcz18_3 : w16.cell? ⟨gb204, 3, none⟩ = some (.slice A0_3 l0_3.length c0_3) := (zC BK204.out 3).trans rfl; have hcz18_4 : w16.cell? ⟨gb204, 4, none⟩ = some (.slice A0_4 l0_4.length c0_4) := (zC BK204.out 4).trans rfl; have hfz18_0 := zR BK204.out 0; have hfz18_1 := zR BK204.out 1; have hfz18_2 := zR BK204.out 2; have hfz18_3 := zR BK204.out 3; have hfz18_4 := zR BK204.out 4) | ((with_reducible refine gate_callee (f := 21) rfl ?_); refine goesL_ (some 5) rfl rfl Try.func21 (by kernel_rfl) rfl #[.agg #[.string a0_0, .string a0_1, .string a0_2, .slice A0_3 l0_3.length c0_3, .slice A0_4 l0_4.length c0_4]] rfl (by (try simp only [List.map_toArray, List.map_cons, List.map_nil]); first | done | rfl | (simp only [List.length_drop, List.length_take]; rfl)) ?_; (with_reducible refine (vtree_check.calls k a0_0 a0_1 a0_2 _ _ l0_3 _ _ l0_4 t206 t207 t208 _ ?side1 ?side2 ?side3 ?side4 A2.out).mono ?_); (case side1 => repeat (first | exact (Kd.C_below HR0_3.out HB.out) | (with_reducible refine Kd.C_alloc ?_ _) | (with_reducible refine Kd.C_drewN ?_ _) | (with_reducible refine Kd.C_drew ?_))); (case side2 => exact HC0_3.out); (case side3 => repeat (first | exact (Kd.C_below HR0_4.out HB.out) | (with_reducible refine Kd.C_alloc ?_ _) | (with_reducible refine Kd.C_drewN ?_ _) | (with_reducible refine Kd.C_drew ?_))); (case side4 => exact HC0_4.out); rintro e w19 ⟨rfl, hb⟩; refine ⟨_, rfl, ?_⟩; have n0_ := Aside0.mk (blk_below (g := gb204) (o := .cells #[.string a0_0, .string a0_1, .string a0_2, .slice A0_3 l0_3.length c0_3, .slice A0_4 l0_4.length c0_4] 25 (0, 0)) (by (with_reducible repeat first | apply zM | apply zE | apply zF); exact BK204.out) hb); have n1_ := Aside0.mk (blk_below (g := gb205) (o := .cells #[.string (⟨#[]⟩ : ByteArray), .string (⟨#[]⟩ : ByteArray), .string (⟨#[]⟩ : ByteArray), .slice none 0 0, .slice none 0 0] 25 (0, 0)) (by (with_reducible repeat first | apply zM | apply zE | apply zF); exact BK205.out) hb); have n2_ := Aside0.mk (below_step (by repeat (first | (with_reducible first | exact HB.out | apply zA | apply zN | apply zD | refine zS ?_ GE204.out | refine zS ?_ GE205.out) | exact HB.out)) hb); clear BK204; clear BK205; clear HB; have BK204 := n0_; have BK205 := n1_; have HB := n2_; clear n0_ n1_ n2_; (try clear hb); (try clear hb2); (try clear hk); (try clear hi); have hcz20_0 : w19.cell? ⟨gb205, 0, none⟩ = some (.string (⟨#[]⟩ : ByteArray)) := (zC BK205.out 0).trans rfl; have hcz20_1 : w19.cell? ⟨gb205, 1, none⟩ = some (.string (⟨#[]⟩ : ByteArray)) := (zC BK205.out 1).trans rfl; have hcz20_2 : w19.cell? ⟨gb205, 2, none⟩ = some (.string (⟨#[]⟩ : ByteArray)) := (zC BK205.out 2).trans rfl; have hcz20_3 : w19.cell? ⟨gb205, 3, none⟩ = some (.slice none 0 0) := (zC BK205.out 3).trans rfl; have hcz20_4 : w19.cell? ⟨gb205, 4, none⟩ = some (.slice none 0 0) := (zC BK205.out 4).trans rfl; have hfz20_0 := zR BK205.out 0; have hfz20_1 := zR BK205.out 1; have hfz20_2 := zR BK205.out 2; have hfz20_3 := zR BK205.out 3; have hfz20_4 := zR BK205.out 4))
  refine bodyPost_ret (results_ct rfl _ _ gb205 25 #[.string (⟨#[]⟩ : ByteArray), .string (⟨#[]⟩ : ByteArray), .string (⟨#[]⟩ : ByteArray), .slice none 0 0, .slice none 0 0] (0, 0) _ rfl (by (with_reducible repeat first | apply zM | apply zE | apply zF); refine zP (cs := #[.string (⟨#[]⟩ : ByteArray), .string (⟨#[]⟩ : ByteArray), .string (⟨#[]⟩ : ByteArray), .slice none 0 0, .slice none 0 0]) ?_ 4 _ rfl; (with_reducible repeat first | apply zM | apply zE | apply zF); refine zP (cs := #[.string (⟨#[]⟩ : ByteArray), .string (⟨#[]⟩ : ByteArray), .string (⟨#[]⟩ : ByteArray), .slice none 0 0, .slice none 0 0]) ?_ 3 _ rfl; (with_reducible repeat first | apply zM | apply zE | apply zF); refine zP (cs := #[.string (⟨#[]⟩ : ByteArray), .string (⟨#[]⟩ : ByteArray), .string (⟨#[]⟩ : ByteArray), .slice none 0 0, .slice none 0 0]) ?_ 2 _ rfl; (with_reducible repeat first | apply zM | apply zE | apply zF); refine zP (cs := #[.string (⟨#[]⟩ : ByteArray), .string (⟨#[]⟩ : ByteArray), .string (⟨#[]⟩ : ByteArray), .slice none 0 0, .slice none 0 0]) ?_ 1 _ rfl; (with_reducible repeat first | apply zM | apply zE | apply zF); refine zP (cs := #[.string (⟨#[]⟩ : ByteArray), .string (⟨#[]⟩ : ByteArray), .string (⟨#[]⟩ : ByteArray), .slice none 0 0, .slice none 0 0]) ?_ 0 _ rfl; (with_reducible repeat first | apply zM | apply zE | apply zF); exact BK205.out) Try.underlying25 rfl (by kernel_rfl)) rfl ?_
  exact ⟨_, _, by first | rfl | (simp [errW_none, errW_some] <;> rfl) | (simp [*, errW_none, errW_some] <;> rfl), by first | exact Kd.R_nil _ _ _ _ _ | exact Kd.N_nil _ _ _ _ _ | exact Kd.V_nil _ _ _ _ _ | exact Kd.Q_nil _ _ _ _ _ | exact Kd.S_nil _ _ _ _ _, by first | exact Kd.R_nil _ _ _ _ _ | exact Kd.N_nil _ _ _ _ _ | exact Kd.V_nil _ _ _ _ _ | exact Kd.Q_nil _ _ _ _ _ | exact Kd.S_nil _ _ _ _ _, by repeat (first | (with_reducible first | exact HB.out | apply zA | apply zN | apply zD | refine zS ?_ GE204.out | refine zS ?_ GE205.out) | exact HB.out)⟩

-- squeezed
-- NOT PRINTED: function 34 (api_Node)

open Go.Proofs.YtafkgjnafddgbaaW.PrintWords renaming below_alloc → zA, pw_below_drewN → zN, below_drew1 → zD, below_set → zS, blk_drewN → zM, blk_drew → zE, blk_alloc → zF, blk_far → zG, blk_put → zP, blk_cell → zC, blk_frozen → zR
/-! ### vtree_Same: function 17 -/
def vtree_Same.f (k : Nat) (a0_0 : ByteArray) (a0_1 : ByteArray) (a0_2 : ByteArray) (l0_3 : List (S42)) (l0_4 : List (S25)) (a1_0 : ByteArray) (a1_1 : ByteArray) (a1_2 : ByteArray) (l1_3 : List (S42)) (l1_4 : List (S25)) : Option (Bool) := (vtree_check.f k a0_0 a0_1 a0_2 l0_3 l0_4).bind fun bt220 => (if bt220.2.2 = 0 then ((vtree_check.f k a1_0 a1_1 a1_2 l1_3 l1_4).bind fun bt223 => (if bt223.2.2 = 0 then ((vtree_alike.f k a0_0 a0_1 a0_2 l0_3 l0_4 a1_0 a1_1 a1_2 l1_3 l1_4).bind fun t226 => (some t226)) else (some false))) else (some false))
set_option maxHeartbeats 8000000 in
set_option maxRecDepth 100000 in
theorem vtree_Same.calls (k : Nat) (a0_0 : ByteArray) (a0_1 : ByteArray) (a0_2 : ByteArray) (A0_3 : Option Addr) (c0_3 : Nat) (l0_3 : List (S42)) (A0_4 : Option Addr) (c0_4 : Nat) (l0_4 : List (S25)) (a1_0 : ByteArray) (a1_1 : ByteArray) (a1_2 : ByteArray) (A1_3 : Option Addr) (c1_3 : Nat) (l1_3 : List (S42)) (A1_4 : Option Addr) (c1_4 : Nat) (l1_4 : List (S25)) (r : Bool) (w : World) (hr0_3 : Kd.C k42 w A0_3 l0_3.length l0_3) (hc0_3 : l0_3.length ≤ c0_3) (hr0_4 : Kd.C k25 w A0_4 l0_4.length l0_4) (hc0_4 : l0_4.length ≤ c0_4) (hr1_3 : Kd.C k42 w A1_3 l1_3.length l1_3) (hc1_3 : l1_3.length ≤ c1_3) (hr1_4 : Kd.C k25 w A1_4 l1_4.length l1_4) (hc1_4 : l1_4.length ≤ c1_4) (h : vtree_Same.f k a0_0 a0_1 a0_2 l0_3 l0_4 a1_0 a1_1 a1_2 l1_3 l1_4 = some r) :
  Calls Try.prog 17 #[.agg #[.string a0_0, .string a0_1, .string a0_2, .slice A0_3 l0_3.length c0_3, .slice A0_4 l0_4.length c0_4], .agg #[.string a1_0, .string a1_1, .string a1_2, .slice A1_3 l1_3.length c1_3, .slice A1_4 l1_4.length c1_4]] w fun e w' => e = .returned (.bool r) ∧ Below w.heap.size w w' := by
 have hu25 := Try.underlying25
 have hfl45_2 : ∀ (v0 v1 v2 : Value) (W : World), (Instr.field 45 (.agg #[v0, v1, v2]) 2).run Try.prog W = .ok v2 W := fun _ _ _ _ => by rfl
 have HR0_3 := Aside0.mk hr0_3
 have HC0_3 := Aside0.mk hc0_3
 clear hr0_3 hc0_3
 have HR0_4 := Aside0.mk hr0_4
 have HC0_4 := Aside0.mk hc0_4
 clear hr0_4 hc0_4
 have HR1_3 := Aside0.mk hr1_3
 have HC1_3 := Aside0.mk hc1_3
 clear hr1_3 hc1_3
 have HR1_4 := Aside0.mk hr1_4
 have HC1_4 := Aside0.mk hc1_4
 clear hr1_4 hc1_4
 have HB := Aside0.mk (Below.refl w.heap.size w)
 have H : ((vtree_check.f k a0_0 a0_1 a0_2 l0_3 l0_4).bind fun bt220 => (if bt220.2.2 = 0 then ((vtree_check.f k a1_0 a1_1 a1_2 l1_3 l1_4).bind fun bt223 => (if bt223.2.2 = 0 then ((vtree_alike.f k a0_0 a0_1 a0_2 l0_3 l0_4 a1_0 a1_1 a1_2 l1_3 l1_4).bind fun t226 => (some t226)) else (some false))) else (some false))) = some r := h
 clear h
 replace H := Option.bind_eq_some_iff.mp H
 obtain ⟨⟨t220, t221, t222⟩, A30, H⟩ := H
 replace H : (if t222 = 0 then ((vtree_check.f k a1_0 a1_1 a1_2 l1_3 l1_4).bind fun bt223 => (if bt223.2.2 = 0 then ((vtree_alike.f k a0_0 a0_1 a0_2 l0_3 l0_4 a1_0 a1_1 a1_2 l1_3 l1_4).bind fun t226 => (some t226)) else (some false))) else (some false)) = some r := H
 have A3 := Aside0.mk A30
 clear A30
 by_cases c4 : t222 = 0
 ·
  rw [if_pos c4] at H
  have c4b0 : (t222 == 0) = true := beq_iff_eq.mpr c4
  have c4b1 : (t222 != 0) = false := bne_eq_false_iff_eq.mpr c4
  clear c4
  replace H := Option.bind_eq_some_iff.mp H
  obtain ⟨⟨t223, t224, t225⟩, A50, H⟩ := H
  replace H : (if t225 = 0 then ((vtree_alike.f k a0_0 a0_1 a0_2 l0_3 l0_4 a1_0 a1_1 a1_2 l1_3 l1_4).bind fun t226 => (some t226)) else (some false)) = some r := H
  have A5 := Aside0.mk A50
  clear A50
  by_cases c6 : t225 = 0
  ·
   rw [if_pos c6] at H
   have c6b0 : (t225 == 0) = true := beq_iff_eq.mpr c6
   have c6b1 : (t225 != 0) = false := bne_eq_false_iff_eq.mpr c6
   clear c6
   replace H := Option.bind_eq_some_iff.mp H
   obtain ⟨t226, A70, H⟩ := H
   replace H : (some t226) = some r := H
   have A7 := Aside0.mk A70
   clear A70
   obtain rfl := Option.some.inj H
   go_enter Try.func17, Try.ntmps17
   go_wp2_with (first | ((with_reducible refine gate_dst (N := 2) rfl ?_); refine box_event ?hg (N := 2) ?hd (cs := #[.string a0_0, .string a0_1, .string a0_2, .slice A0_3 l0_3.length c0_3, .slice A0_4 l0_4.length c0_4]) (t := 25) ?hr ?_; (case hd => rfl); (case hg => rfl); (case hr => first | (go_simp; done) | (go_simp; rfl)); intro gb218 hg w8 hbox hb; have n0_ := Aside0.mk (below_step (by repeat (first | (with_reducible first | exact HB.out | apply zA | apply zN | apply zD) | exact HB.out)) hb); have n1_ := Aside0.mk (hbox); have n2_ := Aside0.mk ((by rw [hg]; exact (below_size (by repeat (first | (with_reducible first | exact HB.out | apply zA | apply zN | apply zD) | exact HB.out))) : w.heap.size ≤ gb218)); have n3_ := Aside0.mk ((by rw [hg]; exact (below_size (by repeat (first | (with_reducible first | exact HB.out | apply zA | apply zN | apply zD) | exact HB.out))) : w.heap.size ≤ gb218)); clear HB; have HB := n0_; have BK218 := n1_; have GW218 := n2_; have GE218 := n3_; clear n0_ n1_ n2_ n3_; clear hb hbox hg) | ((with_reducible refine gate_dst (N := 3) rfl ?_); refine box_event ?hg (N := 3) ?hd (cs := #[.string a1_0, .string a1_1, .string a1_2, .slice A1_3 l1_3.length c1_3, .slice A1_4 l1_4.length c1_4]) (t := 25) ?hr ?_; (case hd => rfl); (case hg => rfl); (case hr => first | (go_simp; done) | (go_simp; rfl)); intro gb219 hg w9 hbox hb; have n0_ := Aside0.mk (blk_below (g := gb218) (o := .cells #[.string a0_0, .string a0_1, .string a0_2, .slice A0_3 l0_3.length c0_3, .slice A0_4 l0_4.length c0_4] 25 (0, 0)) (by (with_reducible repeat first | apply zM | apply zE | apply zF); exact BK218.out) hb); have n1_ := Aside0.mk (below_step (by repeat (first | (with_reducible first | exact HB.out | apply zA | apply zN | apply zD | refine zS ?_ GE218.out) | exact HB.out)) hb); have n2_ := Aside0.mk (hbox); have n3_ := Aside0.mk ((by rw [hg]; exact (below_size (by repeat (first | (with_reducible first | exact HB.out | apply zA | apply zN | apply zD | refine zS ?_ GE218.out) | exact HB.out))) : w.heap.size ≤ gb219)); have n4_ := Aside0.mk ((by rw [hg]; exact (below_size (by repeat (first | (with_reducible first | exact HB.out | apply zA | apply zN | apply zD | refine zS ?_ GE218.out) | exact HB.out))) : w.heap.size ≤ gb219)); have n5_ := Aside0.mk ((by rw [hg]; exact Nat.ne_of_lt (blk_lt (g := gb218) (o := .cells #[.string a0_0, .string a0_1, .string a0_2, .slice A0_3 l0_3.length c0_3, .slice A0_4 l0_4.length c0_4] 25 (0, 0)) (by (with_reducible repeat first | apply zM | apply zE | apply zF); exact BK218.out)) : gb218 ≠ gb219)); have n6_ := Aside0.mk ((by rw [hg]; exact Nat.ne_of_gt (blk_lt (g := gb218) (o := .cells #[.string a0_0, .string a0_1, .string a0_2, .slice A0_3 l0_3.length c0_3, .slice A0_4 l0_4.length c0_4] 25 (0, 0)) (by (with_reducible repeat first | apply zM | apply zE | apply zF); exact BK218.out)) : gb219 ≠ gb218)); clear BK218; clear HB; have BK218 := n0_; have HB := n1_; have BK219 := n2_; have GW219 := n3_; have GE219 := n4_; have NB218_219 := n5_; have NB219_218 := n6_; clear n0_ n1_ n2_ n3_ n4_ n5_ n6_; clear hb hbox hg; have hnb10 := NB218_219.out; have hnc10 := NB219_218.out; have hcz11_0 : w9.cell? ⟨gb218, 0, none⟩ = some (.string a0_0) := (zC BK218.out 0).trans rfl; have hcz11_1 : w9.cell? ⟨gb218, 1, none⟩ = some (.string a0_1) := (zC BK218.out 1).trans rfl; have hcz11_2 : w9.cell? ⟨gb218, 2, none⟩ = some (.string a0_2) := (zC BK218.out 2).trans rfl; have hcz11_3 : w9.cell? ⟨gb218, 3, none⟩ = some (.slice A0_3 l0_3.length c0_3) := (zC BK218.out 3).trans rfl; have hcz11_4 : w9.cell? ⟨gb218, 4, none⟩ = some (.slice A0_4 l0_4.length c0_4) := (zC BK218.out 4).trans rfl; have hfz11_0 := zR BK218.out 0; have hfz11_1 := zR BK218.out 1; have hfz11_2 := zR BK218.out 2; have hfz11_3 := zR BK218.out 3; have hfz11_4 := zR BK218.out 4) | ((with_reducible refine gate_callee (f := 21) rfl ?_); refine goesL_ (some 6) rfl rfl Try.func21 (by kernel_rfl) rfl #[.agg #[.string a0_0, .string a0_1, .string a0_2, .slice A0_3 l0_3.length c0_3, .slice A0_4 l0_4.length c0_4]] rfl (by (try simp only [List.map_toArray, List.map_cons, List.map_nil]); first | done | rfl | (simp only [List.length_drop, List.length_take]; rfl)) ?_; (with_reducible refine (vtree_check.calls k a0_0 a0_1 a0_2 _ _ l0_3 _ _ l0_4 t220 t221 t222 _ ?side1 ?side2 ?side3 ?side4 A3.out).mono ?_); (case side1 => repeat (first | exact (Kd.C_below HR0_3.out HB.out) | (with_reducible refine Kd.C_alloc ?_ _) | (with_reducible refine Kd.C_drewN ?_ _) | (with_reducible refine Kd.C_drew ?_))); (case side2 => exact HC0_3.out); (case side3 => repeat (first | exact (Kd.C_below HR0_4.out HB.out) | (with_reducible refine Kd.C_alloc ?_ _) | (with_reducible refine Kd.C_drewN ?_ _) | (with_reducible refine Kd.C_drew ?_))); (case side4 => exact HC0_4.out); rintro e w12 ⟨rfl, hb⟩; refine ⟨_, rfl, ?_⟩; have n0_ := Aside0.mk (blk_below (g := gb218) (o := .cells #[.string a0_0, .string a0_1, .string a0_2, .slice A0_3 l0_3.length c0_3, .slice A0_4 l0_4.length c0_4] 25 (0, 0)) (by (with_reducible repeat first | apply zM | apply zE | apply zF); exact BK218.out) hb); have n1_ := Aside0.mk (blk_below (g := gb219) (o := .cells #[.string a1_0, .string a1_1, .string a1_2, .slice A1_3 l1_3.length c1_3, .slice A1_4 l1_4.length c1_4] 25 (0, 0)) (by (with_reducible repeat first | apply zM | apply zE | apply zF); exact BK219.out) hb); have n2_ := Aside0.mk (below_step (by repeat (first | (with_reducible first | exact HB.out | apply zA | apply zN | apply zD | refine zS ?_ GE218.out | refine zS ?_ GE219.out) | exact HB.out)) hb); clear BK218; clear BK219; clear HB; have BK218 := n0_; have BK219 := n1_; have HB := n2_; clear n0_ n1_ n2_; (try clear hb); (try clear hb2); (try clear hk); (try clear hi); have hcz13_0 : w12.cell? ⟨gb219, 0, none⟩ = some (.string a1_0) := (zC BK219.out 0).trans rfl; have hcz13_1 : w12.cell? ⟨gb219, 1, none⟩ = some (.string a1_1) := (zC BK219.out 1).trans rfl; have hcz13_2 : w12.cell? ⟨gb219, 2, none⟩ = some (.string a1_2) := (zC BK219.out 2).trans rfl; have hcz13_3 : w12.cell? ⟨gb219, 3, none⟩ = some (.slice A1_3 l1_3.length c1_3) := (zC BK219.out 3).trans rfl; have hcz13_4 : w12.cell? ⟨gb219, 4, none⟩ = some (.slice A1_4 l1_4.length c1_4) := (zC BK219.out 4).trans rfl; have hfz13_0 := zR BK219.out 0; have hfz13_1 := zR BK219.out 1; have hfz13_2 := zR BK219.out 2; have hfz13_3 := zR BK219.out 3; have hfz13_4 := zR BK219.out 4) | (go_at_call 21; (with_reducible refine (vtree_check.calls k a1_0 a1_1 a1_2 _ _ l1_3 _ _ l1_4 t223 t224 t225 _ ?side1 ?side2 ?side3 ?side4 A5.out).mono ?_); (case side1 => repeat (first | exact (Kd.C_below HR1_3.out HB.out) | (with_reducible refine Kd.C_alloc ?_ _) | (with_reducible refine Kd.C_drewN ?_ _) | (with_reducible refine Kd.C_drew ?_))); (case side2 => exact HC1_3.out); (case side3 => repeat (first | exact (Kd.C_below HR1_4.out HB.out) | (with_reducible refine Kd.C_alloc ?_ _) | (with_reducible refine Kd.C_drewN ?_ _) | (with_reducible refine Kd.C_drew ?_))); (case side4 => exact HC1_4.out); rintro e w14 ⟨rfl, hb⟩; have n0_ := Aside0.mk (blk_below (g := gb218) (o := .cells #[.string a0_0, .string a0_1, .string a0_2, .slice A0_3 l0_3.length c0_3, .slice A0_4 l0_4.length c0_4] 25 (0, 0)) (by (with_reducible repeat first | apply zM | apply zE | apply zF); exact BK218.out) hb); have n1_ := Aside0.mk (blk_below (g := gb219) (o := .cells #[.string a1_0, .string a1_1, .string a1_2, .slice A1_3 l1_3.length c1_3, .slice A1_4 l1_4.length c1_4] 25 (0, 0)) (by (with_reducible repeat first | apply zM | apply zE | apply zF); exact BK219.out) hb); have n2_ := Aside0.mk (below_step (by repeat (first | (with_reducible first | exact HB.out | apply zA | apply zN | apply zD | refine zS ?_ GE218.out | refine zS ?_ GE219.out) | exact HB.out)) hb); clear BK218; clear BK219; clear HB; have BK218 := n0_; have BK219 := n1_; have HB := n2_; clear n0_ n1_ n2_; (try clear hb); (try clear hb2); (try clear hk); (try clear hi); have hcz15_0 : w14.cell? ⟨gb218, 0, none⟩ = some (.string a0_0) := (zC BK218.out 0).trans rfl; have hcz15_1 : w14.cell? ⟨gb218, 1, none⟩ = some (.string a0_1) := (zC BK218.out 1).trans rfl; have hcz15_2 : w14.cell? ⟨gb218, 2, none⟩ = some (.string a0_2) := (zC BK218.out 2).trans rfl; have hcz15_3 : w14.cell? ⟨gb218, 3, none⟩ = some (.slice A0_3 l0_3.length c0_3) := (zC BK218.out 3).trans rfl; have hcz15_4 : w14.cell? ⟨gb218, 4, none⟩ = some (.slice A0_4 l0_4.length c0_4) := (zC BK218.out 4).trans rfl; have hfz15_0 := zR BK218.out 0; have hfz15_1 := zR BK218.out 1; have hfz15_2 := zR BK218.out 2; have hfz15_3 := zR BK218.out 3; have hfz15_4 := zR BK218.out 4; have hcz16_0 : w14.cell? ⟨gb219, 0, none⟩ = some (.string a1_0) := (zC BK219.out 0).trans rfl; have hcz16_1 : w14.cell? ⟨gb219, 1, none⟩ = some (.string a1_1) := (zC BK219.out 1).trans rfl; have hcz16_2 : w14.cell? ⟨gb219, 2, none⟩ = some (.string a1_2) := (zC BK219.out 2).trans rfl; have hcz16_3 : w14.cell? ⟨gb219, 3, none⟩ = some (.slice A1_3 l1_3.length c1_3) := (zC BK219.out 3).trans rfl; have hcz16_4 : w14.cell? ⟨gb219, 4, none⟩ = some (.slice A1_4 l1_4.length c1_4) := (zC BK219.out 4).trans rfl; have hfz16_0 := zR BK219.out 0; have hfz16_1 := zR BK219.out 1; have hfz16_2 := zR BK219.out 2; have hfz16_3 := zR BK219.out 3; have hfz16_4 := zR BK219.out 4) | (go_at_call 26; (with_reducible refine (vtree_alike.calls k a0_0 a0_1 a0_2 _ _ l0_3 _ _ l0_4 a1_0 a1_1 a1_2 _ _ l1_3 _ _ l1_4 t226 _ ?side1 ?side2 ?side3 ?side4 ?side5 ?side6 ?side7 ?side8 A7.out).mono ?_); (case side1 => repeat (first | exact (Kd.C_below HR0_3.out HB.out) | (with_reducible refine Kd.C_alloc ?_ _) | (with_reducible refine Kd.C_drewN ?_ _) | (with_reducible refine Kd.C_drew ?_))); (case side2 => exact HC0_3.out); (case side3 => repeat (first | exact (Kd.C_below HR0_4.out HB.out) | (with_reducible refine Kd.C_alloc ?_ _) | (with_reducible refine Kd.C_drewN ?_ _) | (with_reducible refine Kd.C_drew ?_))); (case side4 => exact HC0_4.out); (case side5 => repeat (first | exact (Kd.C_below HR1_3.out HB.out) | (with_reducible refine Kd.C_alloc ?_ _) | (with_reducible refine Kd.C_drewN ?_ _) | (with_reducible refine Kd.C_drew ?_))); (case side6 => exact HC1_3.out); (case side7 => repeat (first | exact (Kd.C_below HR1_4.out HB.out) | (with_reducible refine Kd.C_alloc ?_ _) | (with_reducible refine Kd.C_drewN ?_ _) | (with_reducible refine Kd.C_drew ?_))); (case side8 => exact HC1_4.out); rintro e w17 ⟨rfl, hb⟩; have n0_ := Aside0.mk (blk_below (g := gb218) (o := .cells #[.string a0_0, .string a0_1, .string a0_2, .slice A0_3 l0_3.length c0_3, .slice A0_4 l0_4.length c0_4] 25 (0, 0)) (by (with_reducible repeat first | apply zM | apply zE | apply zF); exact BK218.out) hb); have n1_ := Aside0.mk (blk_below (g := gb219) (o := .cells #[.string a1_0, .string a1_1, .string a1_2, .slice A1_3 l1_3.length c1_3, .slice A1_4 l1_4.length c1_4] 25 (0, 0)) (by (with_reducible repeat first | apply zM | apply zE | apply zF); exact BK219.out) hb); have n2_ := Aside0.mk (below_step (by repeat (first | (with_reducible first | exact HB.out | apply zA | apply zN | apply zD | refine zS ?_ GE218.out | refine zS ?_ GE219.out) | exact HB.out)) hb); clear BK218; clear BK219; clear HB; have BK218 := n0_; have BK219 := n1_; have HB := n2_; clear n0_ n1_ n2_; (try clear hb); (try clear hb2); (try clear hk); (try clear hi)))
   go_ret
   exact ⟨by first | rfl | (simp [errW_none, errW_some] <;> rfl) | (simp [*, errW_none, errW_some] <;> rfl), by repeat (first | (with_reducible first | exact HB.out | apply zA | apply zN | apply zD | refine zS ?_ GE218.out | refine zS ?_ GE219.out) | exact HB.out)⟩
  ·
   rw [if_neg c6] at H
   have c6b0 : (t225 == 0) = false := beq_eq_false_iff_ne.mpr c6
   have c6b1 : (t225 != 0) = true := bne_iff_ne.mpr c6
   obtain rfl := Option.some.inj H
   go_enter Try.func17, Try.ntmps17
   go_wp2_with (first | ((with_reducible refine gate_dst (N := 2) rfl ?_); refine box_event ?hg (N := 2) ?hd (cs := #[.string a0_0, .string a0_1, .string a0_2, .slice A0_3 l0_3.length c0_3, .slice A0_4 l0_4.length c0_4]) (t := 25) ?hr ?_; (case hd => rfl); (case hg => rfl); (case hr => first | (go_simp; done) | (go_simp; rfl)); intro gb218 hg w18 hbox hb; have n0_ := Aside0.mk (below_step (by repeat (first | (with_reducible first | exact HB.out | apply zA | apply zN | apply zD) | exact HB.out)) hb); have n1_ := Aside0.mk (hbox); have n2_ := Aside0.mk ((by rw [hg]; exact (below_size (by repeat (first | (with_reducible first | exact HB.out | apply zA | apply zN | apply zD) | exact HB.out))) : w.heap.size ≤ gb218)); have n3_ := Aside0.mk ((by rw [hg]; exact (below_size (by repeat (first | (with_reducible first | exact HB.out | apply zA | apply zN | apply zD) | exact HB.out))) : w.heap.size ≤ gb218)); clear HB; have HB := n0_; have BK218 := n1_; have GW218 := n2_; have GE218 := n3_; clear n0_ n1_ n2_ n3_; clear hb hbox hg) | ((with_reducible refine gate_dst (N := 3) rfl ?_); refine box_event ?hg (N := 3) ?hd (cs := #[.string a1_0, .string a1_1, .string a1_2, .slice A1_3 l1_3.length c1_3, .slice A1_4 l1_4.length c1_4]) (t := 25) ?hr ?_; (case hd => rfl); (case hg => rfl); (case hr => first | (go_simp; done) | (go_simp; rfl)); intro gb219 hg w19 hbox hb; have n0_ := Aside0.mk (blk_below (g := gb218) (o := .cells #[.string a0_0, .string a0_1, .string a0_2, .slice A0_3 l0_3.length c0_3, .slice A0_4 l0_4.length c0_4] 25 (0, 0)) (by (with_reducible repeat first | apply zM | apply zE | apply zF); exact BK218.out) hb); have n1_ := Aside0.mk (below_step (by repeat (first | (with_reducible first | exact HB.out | apply zA | apply zN | apply zD | refine zS ?_ GE218.out) | exact HB.out)) hb); have n2_ := Aside0.mk (hbox); have n3_ := Aside0.mk ((by rw [hg]; exact (below_size (by repeat (first | (with_reducible first | exact HB.out | apply zA | apply zN | apply zD | refine zS ?_ GE218.out) | exact HB.out))) : w.heap.size ≤ gb219)); have n4_ := Aside0.mk ((by rw [hg]; exact (below_size (by repeat (first | (with_reducible first | exact HB.out | apply zA | apply zN | apply zD | refine zS ?_ GE218.out) | exact HB.out))) : w.heap.size ≤ gb219)); have n5_ := Aside0.mk ((by rw [hg]; exact Nat.ne_of_lt (blk_lt (g := gb218) (o := .cells #[.string a0_0, .string a0_1, .string a0_2, .slice A0_3 l0_3.length c0_3, .slice A0_4 l0_4.length c0_4] 25 (0, 0)) (by (with_reducible repeat first | apply zM | apply zE | apply zF); exact BK218.out)) : gb218 ≠ gb219)); have n6_ := Aside0.mk ((by rw [hg]; exact Nat.ne_of_gt (blk_lt (g := gb218) (o := .cells #[.string a0_0, .string a0_1, .string a0_2, .slice A0_3 l0_3.length c0_3, .slice A0_4 l0_4.length c0_4] 25 (0, 0)) (by (with_reducible repeat first | apply zM | apply zE | apply zF); exact BK218.out)) : gb219 ≠ gb218)); clear BK218; clear HB; have BK218 := n0_; have HB := n1_; have BK219 := n2_; have GW219 := n3_; have GE219 := n4_; have NB218_219 := n5_; have NB219_218 := n6_; clear n0_ n1_ n2_ n3_ n4_ n5_ n6_; clear hb hbox hg; have hnb20 := NB218_219.out; have hnc20 := NB219_218.out; have hcz21_0 : w19.cell? ⟨gb218, 0, none⟩ = some (.string a0_0) := (zC BK218.out 0).trans rfl; have hcz21_1 : w19.cell? ⟨gb218, 1, none⟩ = some (.string a0_1) := (zC BK218.out 1).trans rfl; have hcz21_2 : w19.cell? ⟨gb218, 2, none⟩ = some (.string a0_2) := (zC BK218.out 2).trans rfl; have hcz21_3 : w19.cell? ⟨gb218, 3, none⟩ = some (.slice A0_3 l0_3.length c0_3) := (zC BK218.out 3).trans rfl; have hcz21_4 : w19.cell? ⟨gb218, 4, none⟩ = some (.slice A0_4 l0_4.length c0_4) := (zC BK218.out 4).trans rfl; have hfz21_0 := zR BK218.out 0; have hfz21_1 := zR BK218.out 1; have hfz21_2 := zR BK218.out 2; have hfz21_3 := zR BK218.out 3; have hfz21_4 := zR BK218.out 4) | ((with_reducible refine gate_callee (f := 21) rfl ?_); refine goesL_ (some 6) rfl rfl Try.func21 (by kernel_rfl) rfl #[.agg #[.string a0_0, .string a0_1, .string a0_2, .slice A0_3 l0_3.length c0_3, .slice A0_4 l0_4.length c0_4]] rfl (by (try simp only [List.map_toArray, List.map_cons, List.map_nil]); first | done | rfl | (simp only [List.length_drop, List.length_take]; rfl)) ?_; (with_reducible refine (vtree_check.calls k a0_0 a0_1 a0_2 _ _ l0_3 _ _ l0_4 t220 t221 t222 _ ?side1 ?side2 ?side3 ?side4 A3.out).mono ?_); (case side1 => repeat (first | exact (Kd.C_below HR0_3.out HB.out) | (with_reducible refine Kd.C_alloc ?_ _) | (with_reducible refine Kd.C_drewN ?_ _) | (with_reducible refine Kd.C_drew ?_))); (case side2 => exact HC0_3.out); (case side3 => repeat (first | exact (Kd.C_below HR0_4.out HB.out) | (with_reducible refine Kd.C_alloc ?_ _) | (with_reducible refine Kd.C_drewN ?_ _) | (with_reducible refine Kd.C_drew ?_))); (case side4 => exact HC0_4.out); rintro e w22 ⟨rfl, hb⟩; refine ⟨_, rfl, ?_⟩; have n0_ := Aside0.mk (blk_below (g := gb218) (o := .cells #[.string a0_0, .string a0_1, .string a0_2, .slice A0_3 l0_3.length c0_3, .slice A0_4 l0_4.length c0_4] 25 (0, 0)) (by (with_reducible repeat first | apply zM | apply zE | apply zF); exact BK218.out) hb); have n1_ := Aside0.mk (blk_below (g := gb219) (o := .cells #[.string a1_0, .string a1_1, .string a1_2, .slice A1_3 l1_3.length c1_3, .slice A1_4 l1_4.length c1_4] 25 (0, 0)) (by (with_reducible repeat first | apply zM | apply zE | apply zF); exact BK219.out) hb); have n2_ := Aside0.mk (below_step (by repeat (first | (with_reducible first | exact HB.out | apply zA | apply zN | apply zD | refine zS ?_ GE218.out | refine zS ?_ GE219.out) | exact HB.out)) hb); clear BK218; clear BK219; clear HB; have BK218 := n0_; have BK219 := n1_; have HB := n2_; clear n0_ n1_ n2_; (try clear hb); (try clear hb2); (try clear hk); (try clear hi); have hcz23_0 : w22.cell? ⟨gb219, 0, none⟩ = some (.string a1_0) := (zC BK219.out 0).trans rfl; have hcz23_1 : w22.cell? ⟨gb219, 1, none⟩ = some (.string a1_1) := (zC BK219.out 1).trans rfl; have hcz23_2 : w22.cell? ⟨gb219, 2, none⟩ = some (.string a1_2) := (zC BK219.out 2).trans rfl; have hcz23_3 : w22.cell? ⟨gb219, 3, none⟩ = some (.slice A1_3 l1_3.length c1_3) := (zC BK219.out 3).trans rfl; have hcz23_4 : w22.cell? ⟨gb219, 4, none⟩ = some (.slice A1_4 l1_4.length c1_4) := (zC BK219.out 4).trans rfl; have hfz23_0 := zR BK219.out 0; have hfz23_1 := zR BK219.out 1; have hfz23_2 := zR BK219.out 2; have hfz23_3 := zR BK219.out 3; have hfz23_4 := zR BK219.out 4) | (go_at_call 21; (with_reducible refine (vtree_check.calls k a1_0 a1_1 a1_2 _ _ l1_3 _ _ l1_4 t223 t224 t225 _ ?side1 ?side2 ?side3 ?side4 A5.out).mono ?_); (case side1 => repeat (first | exact (Kd.C_below HR1_3.out HB.out) | (with_reducible refine Kd.C_alloc ?_ _) | (with_reducible refine Kd.C_drewN ?_ _) | (with_reducible refine Kd.C_drew ?_))); (case side2 => exact HC1_3.out); (case side3 => repeat (first | exact (Kd.C_below HR1_4.out HB.out) | (with_reducible refine Kd.C_alloc ?_ _) | (with_reducible refine Kd.C_drewN ?_ _) | (with_reducible refine Kd.C_drew ?_))); (case side4 => exact HC1_4.out); rintro e w24 ⟨rfl, hb⟩; have n0_ := Aside0.mk (blk_below (g := gb218) (o := .cells #[.string a0_0, .string a0_1, .string a0_2, .slice A0_3 l0_3.length c0_3, .slice A0_4 l0_4.length c0_4] 25 (0, 0)) (by (with_reducible repeat first | apply zM | apply zE | apply zF); exact BK218.out) hb); have n1_ := Aside0.mk (blk_below (g := gb219) (o := .cells #[.string a1_0, .string a1_1, .string a1_2, .slice A1_3 l1_3.length c1_3, .slice A1_4 l1_4.length c1_4] 25 (0, 0)) (by (with_reducible repeat first | apply zM | apply zE | apply zF); exact BK219.out) hb); have n2_ := Aside0.mk (below_step (by repeat (first | (with_reducible first | exact HB.out | apply zA | apply zN | apply zD | refine zS ?_ GE218.out | refine zS ?_ GE219.out) | exact HB.out)) hb); clear BK218; clear BK219; clear HB; have BK218 := n0_; have BK219 := n1_; have HB := n2_; clear n0_ n1_ n2_; (try clear hb); (try clear hb2); (try clear hk); (try clear hi)))
   go_ret
   exact ⟨by first | rfl | (simp [errW_none, errW_some] <;> rfl) | (simp [*, errW_none, errW_some] <;> rfl), by repeat (first | (with_reducible first | exact HB.out | apply zA | apply zN | apply zD | refine zS ?_ GE218.out | refine zS ?_ GE219.out) | exact HB.out)⟩
 ·
  rw [if_neg c4] at H
  have c4b0 : (t222 == 0) = false := beq_eq_false_iff_ne.mpr c4
  have c4b1 : (t222 != 0) = true := bne_iff_ne.mpr c4
  obtain rfl := Option.some.inj H
  go_enter Try.func17, Try.ntmps17
  go_wp2_with (first | ((with_reducible refine gate_dst (N := 2) rfl ?_); refine box_event ?hg (N := 2) ?hd (cs := #[.string a0_0, .string a0_1, .string a0_2, .slice A0_3 l0_3.length c0_3, .slice A0_4 l0_4.length c0_4]) (t := 25) ?hr ?_; (case hd => rfl); (case hg => rfl); (case hr => first | (go_simp; done) | (go_simp; rfl)); intro gb218 hg w25 hbox hb; have n0_ := Aside0.mk (below_step (by repeat (first | (with_reducible first | exact HB.out | apply zA | apply zN | apply zD) | exact HB.out)) hb); have n1_ := Aside0.mk (hbox); have n2_ := Aside0.mk ((by rw [hg]; exact (below_size (by repeat (first | (with_reducible first | exact HB.out | apply zA | apply zN | apply zD) | exact HB.out))) : w.heap.size ≤ gb218)); have n3_ := Aside0.mk ((by rw [hg]; exact (below_size (by repeat (first | (with_reducible first | exact HB.out | apply zA | apply zN | apply zD) | exact HB.out))) : w.heap.size ≤ gb218)); clear HB; have HB := n0_; have BK218 := n1_; have GW218 := n2_; have GE218 := n3_; clear n0_ n1_ n2_ n3_; clear hb hbox hg) | ((with_reducible refine gate_dst (N := 3) rfl ?_); refine box_event ?hg (N := 3) ?hd (cs := #[.string a1_0, .string a1_1, .string a1_2, .slice A1_3 l1_3.length c1_3, .slice A1_4 l1_4.length c1_4]) (t := 25) ?hr ?_; (case hd => rfl); (case hg => rfl); (case hr => first | (go_simp; done) | (go_simp; rfl)); intro gb219 hg w26 hbox hb; have n0_ := Aside0.mk (blk_below (g := gb218) (o := .cells #[.string a0_0, .string a0_1, .string a0_2, .slice A0_3 l0_3.length c0_3, .slice A0_4 l0_4.length c0_4] 25 (0, 0)) (by (with_reducible repeat first | apply zM | apply zE | apply zF); exact BK218.out) hb); have n1_ := Aside0.mk (below_step (by repeat (first | (with_reducible first | exact HB.out | apply zA | apply zN | apply zD | refine zS ?_ GE218.out) | exact HB.out)) hb); have n2_ := Aside0.mk (hbox); have n3_ := Aside0.mk ((by rw [hg]; exact (below_size (by repeat (first | (with_reducible first | exact HB.out | apply zA | apply zN | apply zD | refine zS ?_ GE218.out) | exact HB.out))) : w.heap.size ≤ gb219)); have n4_ := Aside0.mk ((by rw [hg]; exact (below_size (by repeat (first | (with_reducible first | exact HB.out | apply zA | apply zN | apply zD | refine zS ?_ GE218.out) | exact HB.out))) : w.heap.size ≤ gb219)); have n5_ := Aside0.mk ((by rw [hg]; exact Nat.ne_of_lt (blk_lt (g := gb218) (o := .cells #[.string a0_0, .string a0_1, .string a0_2, .slice A0_3 l0_3.length c0_3, .slice A0_4 l0_4.length c0_4] 25 (0, 0)) (by (with_reducible repeat first | apply zM | apply zE | apply zF); exact BK218.out)) : gb218 ≠ gb219)); have n6_ := Aside0.mk ((by rw [hg]; exact Nat.ne_of_gt (blk_lt (g := gb218) (o := .cells #[.string a0_0, .string a0_1, .string a0_2, .slice A0_3 l0_3.length c0_3, .slice A0_4 l0_4.length c0_4] 25 (0, 0)) (by (with_reducible repeat first | apply zM | apply zE | apply zF); exact BK218.out)) : gb219 ≠ gb218)); clear BK218; clear HB; have BK218 := n0_; have HB := n1_; have BK219 := n2_; have GW219 := n3_; have GE219 := n4_; have NB218_219 := n5_; have NB219_218 := n6_; clear n0_ n1_ n2_ n3_ n4_ n5_ n6_; clear hb hbox hg; have hnb27 := NB218_219.out; have hnc27 := NB219_218.out; have hcz28_0 : w26.cell? ⟨gb218, 0, none⟩ = some (.string a0_0) := (zC BK218.out 0).trans rfl; have hcz28_1 : w26.cell? ⟨gb218, 1, none⟩ = some (.string a0_1) := (zC BK218.out 1).trans rfl; have hcz28_2 : w26.cell? ⟨gb218, 2, none⟩ = some (.string a0_2) := (zC BK218.out 2).trans rfl; have hcz28_3 : w26.cell? ⟨gb218, 3, none⟩ = some (.slice A0_3 l0_3.length c0_3) := (zC BK218.out 3).trans rfl; have hcz28_4 : w26.cell? ⟨gb218, 4, none⟩ = some (.slice A0_4 l0_4.length c0_4) := (zC BK218.out 4).trans rfl; have hfz28_0 := zR BK218.out 0; have hfz28_1 := zR BK218.out 1; have hfz28_2 := zR BK218.out 2; have hfz28_3 := zR BK218.out 3; have hfz28_4 := zR BK218.out 4) | ((with_reducible refine gate_callee (f := 21) rfl ?_); refine goesL_ (some 6) rfl rfl Try.func21 (by kernel_rfl) rfl #[.agg #[.string a0_0, .string a0_1, .string a0_2, .slice A0_3 l0_3.length c0_3, .slice A0_4 l0_4.length c0_4]] rfl (by (try simp only [List.map_toArray, List.map_cons, List.map_nil]); first | done | rfl | (simp only [List.length_drop, List.length_take]; rfl)) ?_; (with_reducible refine (vtree_check.calls k a0_0 a0_1 a0_2 _ _ l0_3 _ _ l0_4 t220 t221 t222 _ ?side1 ?side2 ?side3 ?side4 A3.out).mono ?_); (case side1 => repeat (first | exact (Kd.C_below HR0_3.out HB.out) | (with_reducible refine Kd.C_alloc ?_ _) | (with_reducible refine Kd.C_drewN ?_ _) | (with_reducible refine Kd.C_drew ?_))); (case side2 => exact HC0_3.out); (case side3 => repeat (first | exact (Kd.C_below HR0_4.out HB.out) | (with_reducible refine Kd.C_alloc ?_ _) | (with_reducible refine Kd.C_drewN ?_ _) | (with_reducible refine Kd.C_drew ?_))); (case side4 => exact HC0_4.out); rintro e w29 ⟨rfl, hb⟩; refine ⟨_, rfl, ?_⟩; have n0_ := Aside0.mk (blk_below (g := gb218) (o := .cells #[.string a0_0, .string a0_1, .string a0_2, .slice A0_3 l0_3.length c0_3, .slice A0_4 l0_4.length c0_4] 25 (0, 0)) (by (with_reducible repeat first | apply zM | apply zE | apply zF); exact BK218.out) hb); have n1_ := Aside0.mk (blk_below (g := gb219) (o := .cells #[.string a1_0, .string a1_1, .string a1_2, .slice A1_3 l1_3.length c1_3, .slice A1_4 l1_4.length c1_4] 25 (0, 0)) (by (with_reducible repeat first | apply zM | apply zE | apply zF); exact BK219.out) hb); have n2_ := Aside0.mk (below_step (by repeat (first | (with_reducible first | exact HB.out | apply zA | apply zN | apply zD | refine zS ?_ GE218.out | refine zS ?_ GE219.out) | exact HB.out)) hb); clear BK218; clear BK219; clear HB; have BK218 := n0_; have BK219 := n1_; have HB := n2_; clear n0_ n1_ n2_; (try clear hb); (try clear hb2); (try clear hk); (try clear hi)))
  go_ret
  exact ⟨by first | rfl | (simp [errW_none, errW_some] <;> rfl) | (simp [*, errW_none, errW_some] <;> rfl), by repeat (first | (with_reducible first | exact HB.out | apply zA | apply zN | apply zD | refine zS ?_ GE218.out | refine zS ?_ GE219.out) | exact HB.out)⟩

-- squeezed
/-! ### tendrilplain_Attrs: function 27 -/
def tendrilplain_Attrs.l0 : Nat → List (S42) → List (S42) → Int → Int → Option (Bool)
  | 0, _, _, _, _ => none
  | k + 1, x0, x1, x12, x13 => if x13 < x12 then (if 0 ≤ x13 then (if x13 < (x0.length : Int) then (if x13 < (x1.length : Int) then (if (!((((rd_T42 x0 x13).f0).toList) == (((rd_T42 x1 x13).f0).toList)) || (!((((rd_T42 x0 x13).f1).toList) == (((rd_T42 x1 x13).f1).toList)))) = true then (some false) else (tendrilplain_Attrs.l0 k x0 x1 x12 (wrap64 (x13 + 1)))) else (none)) else (none)) else (none)) else (some true)
def tendrilplain_Attrs.f (k : Nat) (l0 : List (S42)) (l1 : List (S42)) : Option (Bool) := if (l0.length : Int) = (l1.length : Int) then (tendrilplain_Attrs.l0 k l0 l1 (l0.length : Int) 0) else (some false)
set_option maxHeartbeats 8000000 in
set_option maxRecDepth 100000 in
theorem tendrilplain_Attrs.calls (k : Nat) (A0 : Option Addr) (c0 : Nat) (l0 : List (S42)) (A1 : Option Addr) (c1 : Nat) (l1 : List (S42)) (r : Bool) (w : World) (hr0 : Kd.C k42 w A0 l0.length l0) (hc0 : l0.length ≤ c0) (hr1 : Kd.C k42 w A1 l1.length l1) (hc1 : l1.length ≤ c1) (h : tendrilplain_Attrs.f k l0 l1 = some r) :
    Calls Try.prog 27 #[.slice A0 l0.length c0, .slice A1 l1.length c1] w fun e w' => e = .returned (.bool r) ∧ Drawn0 w w' := by
  have hu42 := Try.underlying42
  have HR0 := Aside0.mk hr0
  have HC0 := Aside0.mk hc0
  clear hr0 hc0
  have HR1 := Aside0.mk hr1
  have HC1 := Aside0.mk hc1
  clear hr1 hc1
  have H : (if (l0.length : Int) = (l1.length : Int) then (tendrilplain_Attrs.l0 k l0 l1 (l0.length : Int) 0) else (some false)) = some r := h
  clear h
  by_cases c3 : (l0.length : Int) = (l1.length : Int)
  · rw [if_pos c3] at H
    have c3b0 : ((l0.length : Int) == (l1.length : Int)) = true := beq_iff_eq.mpr c3
    have c3b1 : ((l0.length : Int) != (l1.length : Int)) = false := bne_eq_false_iff_eq.mpr c3
    have c3b2 : (l0.length == l1.length) = true := by first | simpa using c3 | (simp at c3 ⊢; omega)
    clear c3
    have H' := Aside0.mk H
    clear H
    go_enter Try.func27, Try.ntmps27
    go_wp2
    repeat (go_quiet (fail); try go_wp2)
    go_loopg [13] k (fun kq v13 w' => ∃ (x13_1 : Int), v13 = .int .i64 x13_1 ∧ Aside0 (tendrilplain_Attrs.l0 kq l0 l1 (l0.length : Int) x13_1 = some r) ∧ Aside0 (kq ≤ k) ∧ Drawn0 w w')
    case atStart => exact ⟨(0), (by first | rfl | (simp; done) | (simp [*]; done)), H', ⟨Nat.le_refl _⟩, by repeat (first | exact Drawn0.refl _ | apply Drawn0.step)⟩
    case round =>
      clear H'
      try clear c1
      try clear c2
      try clear p2
      try clear c3
      try clear c3b0
      try clear c3b1
      try clear c3b2
      obtain ⟨x13_1, rfl, HA, HK1, ⟨m1, rfl⟩⟩ := hrel
      cases gk with
      | zero => exact absurd HA.out (by simp [tendrilplain_Attrs.l0])
      | succ k1 =>
        have H := HA.out
        clear HA
        simp only [tendrilplain_Attrs.l0] at H
        by_cases c4 : x13_1 < (l0.length : Int)
        · rw [if_pos c4] at H
          have c4b0 : decide (x13_1 < (l0.length : Int)) = true := decide_eq_true c4
          clear c4
          by_cases c5 : 0 ≤ x13_1
          · rw [if_pos c5] at H
            have c5b0 : decide (0 ≤ x13_1) = true := decide_eq_true c5
            clear c5
            by_cases c6 : x13_1 < (l0.length : Int)
            · rw [if_pos c6] at H
              have c6b0 : decide (x13_1 < (l0.length : Int)) = true := decide_eq_true c6
              clear c6
              by_cases c7 : x13_1 < (l1.length : Int)
              · rw [if_pos c7] at H
                have c7b0 : decide (x13_1 < (l1.length : Int)) = true := decide_eq_true c7
                clear c7
                by_cases c8 : (!((((rd_T42 l0 x13_1).f0).toList) == (((rd_T42 l1 x13_1).f0).toList)) || (!((((rd_T42 l0 x13_1).f1).toList) == (((rd_T42 l1 x13_1).f1).toList)))) = true
                · rw [if_pos c8] at H
                  have c8b0 : (!((((rd_T42 l0 x13_1).f0).toList) == (((rd_T42 l1 x13_1).f0).toList)) || (!((((rd_T42 l0 x13_1).f1).toList) == (((rd_T42 l1 x13_1).f1).toList)))) = true := c8
                  clear c8
                  obtain rfl := Option.some.inj H
                  have p227 : 0 ≤ (x13_1 : Int) := of_decide_eq_true (by first | (with_reducible assumption) | assumption)
                  have q227 : x13_1 < (l0.length : Int) := of_decide_eq_true (by first | (with_reducible assumption) | assumption)
                  obtain ⟨ad227, e227, hx227_0, hx227_1⟩ := at_T42 HR0.out x13_1 p227 q227
                  cases e227
                  replace p227 := eq_true p227
                  replace q227 := eq_true q227
                  have p228 : 0 ≤ (x13_1 : Int) := of_decide_eq_true (by first | (with_reducible assumption) | assumption)
                  have q228 : x13_1 < (l1.length : Int) := of_decide_eq_true (by first | (with_reducible assumption) | assumption)
                  obtain ⟨ad228, e228, hx228_0, hx228_1⟩ := at_T42 HR1.out x13_1 p228 q228
                  cases e228
                  replace p228 := eq_true p228
                  replace q228 := eq_true q228
                  go_wp2
                  repeat (go_quiet (fail); try go_wp2)
                  go_ret
                  exact ⟨by first | rfl | (simp; done) | (simp [*]; done), by repeat (first | exact Drawn0.refl _ | apply Drawn0.step)⟩
                · rw [if_neg c8] at H
                  have c8b0 : (!((((rd_T42 l0 x13_1).f0).toList) == (((rd_T42 l1 x13_1).f0).toList)) || (!((((rd_T42 l0 x13_1).f1).toList) == (((rd_T42 l1 x13_1).f1).toList)))) = false := by simpa using c8
                  clear c8
                  have H' := Aside0.mk H
                  clear H
                  have p227 : 0 ≤ (x13_1 : Int) := of_decide_eq_true (by first | (with_reducible assumption) | assumption)
                  have q227 : x13_1 < (l0.length : Int) := of_decide_eq_true (by first | (with_reducible assumption) | assumption)
                  obtain ⟨ad227, e227, hx227_0, hx227_1⟩ := at_T42 HR0.out x13_1 p227 q227
                  cases e227
                  replace p227 := eq_true p227
                  replace q227 := eq_true q227
                  have p228 : 0 ≤ (x13_1 : Int) := of_decide_eq_true (by first | (with_reducible assumption) | assumption)
                  have q228 : x13_1 < (l1.length : Int) := of_decide_eq_true (by first | (with_reducible assumption) | assumption)
                  obtain ⟨ad228, e228, hx228_0, hx228_1⟩ := at_T42 HR1.out x13_1 p228 q228
                  cases e228
                  replace p228 := eq_true p228
                  replace q228 := eq_true q228
                  go_wp2
                  repeat (go_quiet (fail); try go_wp2)
                  go_roundg k1
                  case measure => have := HK1.out; omega
                  case rel => exact ⟨(wrap64 (x13_1 + 1)), (by first | rfl | (simp; done) | (simp [*]; done)), H', ⟨by have := HK1.out; omega⟩, by repeat (first | exact Drawn0.refl _ | apply Drawn0.step)⟩
              · rw [if_neg c7] at H
                exact absurd H (by simp)
            · rw [if_neg c6] at H
              exact absurd H (by simp)
          · rw [if_neg c5] at H
            exact absurd H (by simp)
        · rw [if_neg c4] at H
          have c4b0 : decide (x13_1 < (l0.length : Int)) = false := decide_eq_false c4
          clear c4
          obtain rfl := Option.some.inj H
          go_wp2
          repeat (go_quiet (fail); try go_wp2)
          go_ret
          exact ⟨by first | rfl | (simp; done) | (simp [*]; done), by repeat (first | exact Drawn0.refl _ | apply Drawn0.step)⟩
  · rw [if_neg c3] at H
    have c3b0 : ((l0.length : Int) == (l1.length : Int)) = false := beq_eq_false_iff_ne.mpr c3
    have c3b1 : ((l0.length : Int) != (l1.length : Int)) = true := bne_iff_ne.mpr c3
    have c3b2 : (l0.length == l1.length) = false := by first | simpa using c3 | (simp at c3 ⊢; omega)
    obtain rfl := Option.some.inj H
    go_enter Try.func27, Try.ntmps27
    go_wp2
    repeat (go_quiet (fail); try go_wp2)
    go_ret
    exact ⟨by first | rfl | (simp; done) | (simp [*]; done), by repeat (first | exact Drawn0.refl _ | apply Drawn0.step)⟩

end Go.Proofs.Ytafkgjnafddgbaa.G
