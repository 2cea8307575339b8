/- What the claim LawAdiffBack rests on, part 3 of 6: the kit's words, the printed walks, the walks by hand, the plain laws. -/
import Derived.Test.YtmpdbblljofjfaaB0
import Derived.Test.YtmpdbblljofjfaaB1
import Derived.Test.YtmpdbblljofjfaaB2
import Derived.Sort.Walk0
namespace Go.Proofs.Ytmpdbblljofjfaa.G
open Go.RowKit Go.Proofs.YtmpdbblljofjfaaW.PrintWords Go.Proofs.YtmpdbblljofjfaaW.PrintLast Go.Proofs.YtmpdbblljofjfaaW.PrintMore
attribute [local go_sem] max2_int min2_int max_two min_two max_three min_three max_four min_four
set_option linter.unusedVariables false
set_option linter.unusedSimpArgs false
attribute [local go_sem high] eqA31
def adiff_Do.l0 : Nat → List (S43) → List (S31) → Int → Int → Option ((List (S43)))
 | 0, _, _, _, _ => none
 | k + 1, x5, x10, x11, x12 => if x12 < x11 then (if 0 ≤ x12 then (if x12 < (x10.length : Int) then (if (rd_T31 x10 x12).f2 = true then ((attrs_Without.f x5 ((rd_T31 x10 x12).f0)).bind fun bt123 => (adiff_Do.l0 k bt123.1 x10 x11 (wrap64 (x12 + 1)))) else ((attrs_With.f k x5 ((rd_T31 x10 x12).f0) ((rd_T31 x10 x12).f1)).bind fun t127 => (adiff_Do.l0 k t127 x10 x11 (wrap64 (x12 + 1))))) else (none)) else (none)) else (some x5)
def adiff_Do.f (k : Nat) (l0 : List (S43)) (l1 : List (S31)) : Option ((List (S43))) := (api_Attr_20.f l0).bind fun t118 => (adiff_Do.l0 k t118 l1 (l1.length : Int) 0)
theorem adiff_Do.mono_l : ∀ k, (∀ y0 y1 y2 y3, LeO (adiff_Do.l0 k y0 y1 y2 y3) (adiff_Do.l0 (k + 1) y0 y1 y2 y3))
 | 0 => fun _ _ _ _ r h => by simp [adiff_Do.l0] at h
 | k + 1 => by
  have ih0 := adiff_Do.mono_l k
  ·
   intro y0 y1 y2 y3
   unfold adiff_Do.l0
   with_reducible repeat' first | exact ih0 _ _ _ _ | exact attrs_With.mono _ _ _ _ | exact LeO.refl _ | exact LeO.none _ | refine LeO.ite ?_ ?_ | refine LeO.bind ?_ (fun _ => ?_)
theorem adiff_Do.mono : ∀ a0 a1 k, LeO (adiff_Do.f k a0 a1) (adiff_Do.f (k + 1) a0 a1) := by
 intro a0 a1 k
 have ih0 := adiff_Do.mono_l k
 unfold adiff_Do.f
 with_reducible repeat' first | exact ih0 _ _ _ _ | exact attrs_With.mono _ _ _ _ | exact LeO.refl _ | exact LeO.none _ | refine LeO.ite ?_ ?_ | refine LeO.bind ?_ (fun _ => ?_)
set_option maxHeartbeats 8000000 in
set_option maxRecDepth 100000 in
theorem adiff_Do.calls (k : Nat) (A0 : Option Addr) (c0 : Nat) (l0 : List (S43)) (A1 : Option Addr) (c1 : Nat) (l1 : List (S31)) (r : List (S43)) (w : World) (hr0 : Kd.C k43 w A0 l0.length l0) (hc0 : l0.length ≤ c0) (hr1 : Kd.C k31 w A1 l1.length l1) (hc1 : l1.length ≤ c1) (h : adiff_Do.f k l0 l1 = some r) :
  Calls Try.prog 13 #[.slice A0 l0.length c0, .slice A1 l1.length c1] w fun e w' => ∃ v0_ : Value, e = .returned (v0_) ∧ Kd.R k43 43 w' w.heap.size (fun _ => True) v0_ r ∧ Below w.heap.size w w' := by
 have hu31 := Try.underlying31
 have HR0 := zk hr0
 have HC0 := zk hc0
 clear hr0 hc0
 have HR1 := zk hr1
 have HC1 := zk hc1
 clear hr1 hc1
 have HB := zk (Below.refl w.heap.size w)
 have H : ((api_Attr_20.f l0).bind fun t118 => (adiff_Do.l0 k t118 l1 (l1.length : Int) 0)) = some r := h
 clear h
 replace H := Option.bind_eq_some_iff.mp H
 obtain ⟨t118, A30, H⟩ := H
 replace H : (adiff_Do.l0 k t118 l1 (l1.length : Int) 0) = some r := H
 have A3 := zk A30
 clear A30
 have H' := zk H
 clear H
 go_enter Try.func13, Try.ntmps13
 go_wp2_with (first | ((with_reducible refine zgk (f := 20) rfl ?_); refine zgl (some 9) rfl rfl Try.func20 (by kernel_rfl) rfl #[.slice A0 l0.length c0] rfl (by (try simp only [List.map_toArray, List.map_cons, List.map_nil]); first | done | rfl | (simp only [List.length_drop, List.length_take]; rfl)) ?_; (with_reducible refine (api_Attr_20.calls _ _ l0 t118 _ ?side1 ?side2 A3.out).mono ?_); (case side1 => repeat (first | exact HR0.out | (with_reducible refine Kd.C_alloc ?_ _) | (with_reducible refine Kd.C_drewN ?_ _) | (with_reducible refine Kd.C_drew ?_))); (case side2 => exact HC0.out); rintro e w4 ⟨v119, rfl, ho0, hb⟩; refine ⟨_, rfl, ?_⟩; have n0_ := zk (Kd.R_lower ho0 (zq (by with_reducible repeat first | exact HB.out | apply zA | apply zN | apply zD))); have n1_ := zk (zs (by with_reducible repeat first | exact HB.out | apply zA | apply zN | apply zD) hb); clear HB; have HO120 := n0_; have HB := n1_; clear n0_ n1_; (try clear hb); (try clear hb2); (try clear hk); (try clear hi); (try clear ho0)))
 go_loopg [5, 12] k (fun kq v5 v12 w' => ∃ (x5_1 : List (S43)) (x12_1 : Int), v12 = .int .i64 x12_1 ∧ Aside0 (adiff_Do.l0 kq x5_1 l1 (l1.length : Int) x12_1 = some r) ∧ Aside0 (kq ≤ k) ∧ Aside0 (Kd.R k43 43 w' w.heap.size (fun _ => True) v5 x5_1) ∧ Aside0 (Below w.heap.size w w'))
 case atStart => exact ⟨(t118), (0), (by first | rfl | (simp; done) | (simp [*]; done)), H', ⟨Nat.le_refl _⟩, ⟨by (with_reducible repeat (first | apply Kd.R_alloc | apply Kd.R_drewN | apply Kd.R_drew)); exact HO120.out⟩, ⟨by with_reducible repeat first | exact HB.out | apply zA | apply zN | apply zD⟩⟩
 case round =>
  clear H'; (try clear c1); (try clear c2); (try clear p2); obtain ⟨x5_1, x12_1, rfl, HA, HK1, HO_5, HB⟩ := hrel
  cases gk with
  | zero => exact absurd HA.out (by simp [adiff_Do.l0])
  | succ k1 =>
   have H := HA.out; clear HA; simp only [adiff_Do.l0] at H
   by_cases c5 : x12_1 < (l1.length : Int)
   ·
    rw [if_pos c5] at H; have c5b0 : decide (x12_1 < (l1.length : Int)) = true := decide_eq_true c5; clear c5
    by_cases c6 : 0 ≤ x12_1
    ·
     rw [if_pos c6] at H; have c6b0 : decide (0 ≤ x12_1) = true := decide_eq_true c6; clear c6
     by_cases c7 : x12_1 < (l1.length : Int)
     ·
      rw [if_pos c7] at H; have c7b0 : decide (x12_1 < (l1.length : Int)) = true := decide_eq_true c7; clear c7; obtain ⟨bq8, hbq8⟩ : ∃ b_ : Bool, b_ = ((rd_T31 l1 x12_1).f2) := ⟨_, rfl⟩
      replace H : (if bq8 = true then ((attrs_Without.f x5_1 ((rd_T31 l1 x12_1).f0)).bind fun bt123 => (adiff_Do.l0 k1 bt123.1 l1 (l1.length : Int) (wrap64 (x12_1 + 1)))) else ((attrs_With.f k1 x5_1 ((rd_T31 l1 x12_1).f0) ((rd_T31 l1 x12_1).f1)).bind fun t127 => (adiff_Do.l0 k1 t127 l1 (l1.length : Int) (wrap64 (x12_1 + 1))))) = some r := by rw [← hbq8] at H; exact H
      have Nbq8 := zk hbq8; clear hbq8
      by_cases c9 : bq8 = true
      ·
       subst c9
       have H1 : ((attrs_Without.f x5_1 ((rd_T31 l1 x12_1).f0)).bind fun bt123 => (adiff_Do.l0 k1 bt123.1 l1 (l1.length : Int) (wrap64 (x12_1 + 1)))) = some r := by rw [if_pos rfl] at H; exact H
       clear H; have H := H1; clear H1; replace H := Option.bind_eq_some_iff.mp H; obtain ⟨⟨t123, t124⟩, A100, H⟩ := H; replace H : (adiff_Do.l0 k1 t123 l1 (l1.length : Int) (wrap64 (x12_1 + 1))) = some r := H; have A10 := zk A100; clear A100; have H' := zk H; clear H; have p121 : 0 ≤ (x12_1 : Int) := zo (by assumption); have q121 : x12_1 < (l1.length : Int) := zo (by assumption); obtain ⟨ad121, e121, hx121_0, hx121_1, hx121_2⟩ := at_T31 HR1.out x12_1 p121 q121
       (try rw [← Nbq8.out] at hx121_2)
       cases e121; replace hx121_0 := zB HB hx121_0; replace hx121_1 := zB HB hx121_1; replace hx121_2 := zB HB hx121_2; replace p121 := eq_true p121; replace q121 := eq_true q121
       go_wp2_with (first | ((with_reducible refine zgd (N := 7) rfl ?_); refine zb ?hg (N := 7) ?hd (cs := #[.string ⟨#[]⟩, .string ⟨#[]⟩, .bool false]) (t := 31) ?hr ?_; (case hd => rfl); (case hg => rfl); (case hr => go_simp; first | done | rfl); intro gb122 hg w11 hbox hb; have n0_ := zk (Kd.R_below (by (with_reducible repeat (first | apply Kd.R_alloc | apply Kd.R_drewN | apply Kd.R_drew)); exact HO_5.out) hb); have n1_ := zk (zs (by with_reducible repeat first | exact HB.out | apply zA | apply zN | apply zD) hb); have n2_ := zk (hbox); have n3_ := zk ((by rw [hg]; exact (zq (by with_reducible repeat first | exact HB.out | apply zA | apply zN | apply zD)) : w.heap.size ≤ gb122)); have n4_ := n3_; clear HO_5; clear HB; have HO_5 := n0_; have HB := n1_; have BK122 := n2_; have GW122 := n3_; have GE122 := n4_; clear n0_ n1_ n2_ n3_ n4_; clear hb hbox hg; obtain ⟨hcz12_0, hcz12_1, hcz12_2, hfz12_0, hfz12_1, hfz12_2⟩ := zc3 BK122.out; obtain ⟨Ao13, co13, eo13⟩ := Kd.R_slice HO_5.out; subst eo13) | ((with_reducible refine zgk (f := 21) rfl ?_); refine zgl (some 22) rfl rfl Try.func21 (by kernel_rfl) rfl #[.slice Ao13 x5_1.length co13, .string ((rd_T31 l1 x12_1).f0)] rfl (by (try simp only [List.map_toArray, List.map_cons, List.map_nil]); first | done | rfl | (simp only [List.length_drop, List.length_take]; rfl)) ?_; (with_reducible refine (attrs_Without.calls _ _ x5_1 ((rd_T31 l1 x12_1).f0) t123 t124 _ ?side1 ?side2 A10.out).mono ?_); (case side1 => refine (Kd.R_reads' (e := 43) (base := w.heap.size) (ok := fun k_ => True) (n := x5_1.length) (c := co13) ?_).2.2; exact (by (with_reducible repeat (first | apply Kd.R_alloc | apply Kd.R_drewN | apply Kd.R_drew)); exact (Kd.R_mono (Kd.R_far (p := ⟨gb122, 2, none⟩) (Kd.R_far (p := ⟨gb122, 1, none⟩) (Kd.R_far (p := ⟨gb122, 0, none⟩) (Kd.R_types HO_5.out BK122.out (by decide)) (fun _ hk => hk.2) (.string ((rd_T31 l1 x12_1).f0))) (fun _ hk => hk.2) (.string ((rd_T31 l1 x12_1).f1))) (fun _ hk => hk.2) (.bool true)) (fun _ h_ => h_.1)))); (case side2 => exact (Kd.R_reads' HO_5.out).2.1); rintro e w14 ⟨v125, rfl, ho0, hb⟩; refine ⟨_, rfl, ?_⟩; have n0_ := zk (Kd.R_elder' (by (with_reducible repeat (first | apply Kd.R_alloc | apply Kd.R_drewN | apply Kd.R_drew)); exact (Kd.R_mono (Kd.R_far (p := ⟨gb122, 2, none⟩) (Kd.R_far (p := ⟨gb122, 1, none⟩) (Kd.R_far (p := ⟨gb122, 0, none⟩) (Kd.R_types HO_5.out BK122.out (by decide)) (fun _ hk => hk.2) (.string ((rd_T31 l1 x12_1).f0))) (fun _ hk => hk.2) (.string ((rd_T31 l1 x12_1).f1))) (fun _ hk => hk.2) (.bool true)) (fun _ h_ => h_.1))) (Kd.R_base ho0) hb); have n1_ := zk (Kd.R_lower (Kd.R_new' ho0 (Kd.R_lt (by (with_reducible repeat (first | apply Kd.R_alloc | apply Kd.R_drewN | apply Kd.R_drew)); exact (Kd.R_mono (Kd.R_far (p := ⟨gb122, 2, none⟩) (Kd.R_far (p := ⟨gb122, 1, none⟩) (Kd.R_far (p := ⟨gb122, 0, none⟩) (Kd.R_types HO_5.out BK122.out (by decide)) (fun _ hk => hk.2) (.string ((rd_T31 l1 x12_1).f0))) (fun _ hk => hk.2) (.string ((rd_T31 l1 x12_1).f1))) (fun _ hk => hk.2) (.bool true)) (fun _ h_ => h_.1))))) (zq (by with_reducible repeat first | exact HB.out | apply zA | apply zN | apply zD | refine zS ?_ GE122.out))); have n2_ := zk (blk_below (g := gb122) (o := .cells #[.string ((rd_T31 l1 x12_1).f0), .string ((rd_T31 l1 x12_1).f1), .bool true] 31 (0, 0)) (by (with_reducible repeat first | apply zM | apply zE | apply zF); refine zP (cs := #[.string ((rd_T31 l1 x12_1).f0), .string ((rd_T31 l1 x12_1).f1), .bool false]) ?_ 2 _ rfl; (with_reducible repeat first | apply zM | apply zE | apply zF); refine zP (cs := #[.string ((rd_T31 l1 x12_1).f0), .string ⟨#[]⟩, .bool false]) ?_ 1 _ rfl; (with_reducible repeat first | apply zM | apply zE | apply zF); refine zP (cs := #[.string ⟨#[]⟩, .string ⟨#[]⟩, .bool false]) ?_ 0 _ rfl; (with_reducible repeat first | apply zM | apply zE | apply zF); exact BK122.out) hb); have n3_ := zk (zs (by with_reducible repeat first | exact HB.out | apply zA | apply zN | apply zD | refine zS ?_ GE122.out) hb); clear HO_5; clear BK122; clear HB; have HO_5 := n0_; have HO126 := n1_; have BK122 := n2_; have HB := n3_; clear n0_ n1_ n2_ n3_; (try clear hb); (try clear hb2); (try clear hk); (try clear hi); (try clear ho0)))
       go_roundg k1
       case measure => have := HK1.out; omega
       case rel => exact ⟨(t123), (wrap64 (x12_1 + 1)), (by first | rfl | (simp; done) | (simp [*]; done)), H', ⟨by have := HK1.out; omega⟩, ⟨by (with_reducible repeat (first | apply Kd.R_alloc | apply Kd.R_drewN | apply Kd.R_drew)); exact Kd.R_mono HO126.out (fun _ hk => trivial)⟩, ⟨by with_reducible repeat first | exact HB.out | apply zA | apply zN | apply zD | refine zS ?_ GE122.out⟩⟩
      ·
       replace c9 := Bool.eq_false_iff.mpr c9; subst c9
       have H1 : ((attrs_With.f k1 x5_1 ((rd_T31 l1 x12_1).f0) ((rd_T31 l1 x12_1).f1)).bind fun t127 => (adiff_Do.l0 k1 t127 l1 (l1.length : Int) (wrap64 (x12_1 + 1)))) = some r := by rw [if_neg (show ¬ (false = true) by decide)] at H; exact H
       clear H; have H := H1; clear H1; replace H := Option.bind_eq_some_iff.mp H; obtain ⟨t127, A150, H⟩ := H; replace H : (adiff_Do.l0 k1 t127 l1 (l1.length : Int) (wrap64 (x12_1 + 1))) = some r := H; have A15 := zk A150; clear A150; have H' := zk H; clear H; have p121 : 0 ≤ (x12_1 : Int) := zo (by assumption); have q121 : x12_1 < (l1.length : Int) := zo (by assumption); obtain ⟨ad121, e121, hx121_0, hx121_1, hx121_2⟩ := at_T31 HR1.out x12_1 p121 q121
       (try rw [← Nbq8.out] at hx121_2)
       cases e121; replace hx121_0 := zB HB hx121_0; replace hx121_1 := zB HB hx121_1; replace hx121_2 := zB HB hx121_2; replace p121 := eq_true p121; replace q121 := eq_true q121
       go_wp2_with (first | ((with_reducible refine zgd (N := 7) rfl ?_); refine zb ?hg (N := 7) ?hd (cs := #[.string ⟨#[]⟩, .string ⟨#[]⟩, .bool false]) (t := 31) ?hr ?_; (case hd => rfl); (case hg => rfl); (case hr => go_simp; first | done | rfl); intro gb122 hg w16 hbox hb; have n0_ := zk (Kd.R_below (by (with_reducible repeat (first | apply Kd.R_alloc | apply Kd.R_drewN | apply Kd.R_drew)); exact HO_5.out) hb); have n1_ := zk (zs (by with_reducible repeat first | exact HB.out | apply zA | apply zN | apply zD) hb); have n2_ := zk (hbox); have n3_ := zk ((by rw [hg]; exact (zq (by with_reducible repeat first | exact HB.out | apply zA | apply zN | apply zD)) : w.heap.size ≤ gb122)); have n4_ := n3_; clear HO_5; clear HB; have HO_5 := n0_; have HB := n1_; have BK122 := n2_; have GW122 := n3_; have GE122 := n4_; clear n0_ n1_ n2_ n3_ n4_; clear hb hbox hg; obtain ⟨hcz17_0, hcz17_1, hcz17_2, hfz17_0, hfz17_1, hfz17_2⟩ := zc3 BK122.out; obtain ⟨Ao18, co18, eo18⟩ := Kd.R_slice HO_5.out; subst eo18) | ((with_reducible refine zgk (f := 22) rfl ?_); refine zgl (some 30) rfl rfl Try.func22 (by kernel_rfl) rfl #[.slice Ao18 x5_1.length co18, .string ((rd_T31 l1 x12_1).f0), .string ((rd_T31 l1 x12_1).f1)] rfl (by (try simp only [List.map_toArray, List.map_cons, List.map_nil]); first | done | rfl | (simp only [List.length_drop, List.length_take]; rfl)) ?_; (with_reducible refine (attrs_With.calls k1 _ _ x5_1 ((rd_T31 l1 x12_1).f0) ((rd_T31 l1 x12_1).f1) t127 _ ?side1 ?side2 A15.out).mono ?_); (case side1 => refine (Kd.R_reads' (e := 43) (base := w.heap.size) (ok := fun k_ => True) (n := x5_1.length) (c := co18) ?_).2.2; exact (by (with_reducible repeat (first | apply Kd.R_alloc | apply Kd.R_drewN | apply Kd.R_drew)); exact (Kd.R_mono (Kd.R_far (p := ⟨gb122, 2, none⟩) (Kd.R_far (p := ⟨gb122, 1, none⟩) (Kd.R_far (p := ⟨gb122, 0, none⟩) (Kd.R_types HO_5.out BK122.out (by decide)) (fun _ hk => hk.2) (.string ((rd_T31 l1 x12_1).f0))) (fun _ hk => hk.2) (.string ((rd_T31 l1 x12_1).f1))) (fun _ hk => hk.2) (.bool false)) (fun _ h_ => h_.1)))); (case side2 => exact (Kd.R_reads' HO_5.out).2.1); rintro e w19 ⟨v128, rfl, ho0, hb⟩; refine ⟨_, rfl, ?_⟩; have n0_ := zk (Kd.R_elder' (by (with_reducible repeat (first | apply Kd.R_alloc | apply Kd.R_drewN | apply Kd.R_drew)); exact (Kd.R_mono (Kd.R_far (p := ⟨gb122, 2, none⟩) (Kd.R_far (p := ⟨gb122, 1, none⟩) (Kd.R_far (p := ⟨gb122, 0, none⟩) (Kd.R_types HO_5.out BK122.out (by decide)) (fun _ hk => hk.2) (.string ((rd_T31 l1 x12_1).f0))) (fun _ hk => hk.2) (.string ((rd_T31 l1 x12_1).f1))) (fun _ hk => hk.2) (.bool false)) (fun _ h_ => h_.1))) (Kd.R_base ho0) hb); have n1_ := zk (Kd.R_lower (Kd.R_new' ho0 (Kd.R_lt (by (with_reducible repeat (first | apply Kd.R_alloc | apply Kd.R_drewN | apply Kd.R_drew)); exact (Kd.R_mono (Kd.R_far (p := ⟨gb122, 2, none⟩) (Kd.R_far (p := ⟨gb122, 1, none⟩) (Kd.R_far (p := ⟨gb122, 0, none⟩) (Kd.R_types HO_5.out BK122.out (by decide)) (fun _ hk => hk.2) (.string ((rd_T31 l1 x12_1).f0))) (fun _ hk => hk.2) (.string ((rd_T31 l1 x12_1).f1))) (fun _ hk => hk.2) (.bool false)) (fun _ h_ => h_.1))))) (zq (by with_reducible repeat first | exact HB.out | apply zA | apply zN | apply zD | refine zS ?_ GE122.out))); have n2_ := zk (blk_below (g := gb122) (o := .cells #[.string ((rd_T31 l1 x12_1).f0), .string ((rd_T31 l1 x12_1).f1), .bool false] 31 (0, 0)) (by (with_reducible repeat first | apply zM | apply zE | apply zF); refine zP (cs := #[.string ((rd_T31 l1 x12_1).f0), .string ((rd_T31 l1 x12_1).f1), .bool false]) ?_ 2 _ rfl; (with_reducible repeat first | apply zM | apply zE | apply zF); refine zP (cs := #[.string ((rd_T31 l1 x12_1).f0), .string ⟨#[]⟩, .bool false]) ?_ 1 _ rfl; (with_reducible repeat first | apply zM | apply zE | apply zF); refine zP (cs := #[.string ⟨#[]⟩, .string ⟨#[]⟩, .bool false]) ?_ 0 _ rfl; (with_reducible repeat first | apply zM | apply zE | apply zF); exact BK122.out) hb); have n3_ := zk (zs (by with_reducible repeat first | exact HB.out | apply zA | apply zN | apply zD | refine zS ?_ GE122.out) hb); clear HO_5; clear BK122; clear HB; have HO_5 := n0_; have HO129 := n1_; have BK122 := n2_; have HB := n3_; clear n0_ n1_ n2_ n3_; (try clear hb); (try clear hb2); (try clear hk); (try clear hi); (try clear ho0)))
       go_roundg k1
       case measure => have := HK1.out; omega
       case rel => exact ⟨(t127), (wrap64 (x12_1 + 1)), (by first | rfl | (simp; done) | (simp [*]; done)), H', ⟨by have := HK1.out; omega⟩, ⟨by (with_reducible repeat (first | apply Kd.R_alloc | apply Kd.R_drewN | apply Kd.R_drew)); exact Kd.R_mono HO129.out (fun _ hk => trivial)⟩, ⟨by with_reducible repeat first | exact HB.out | apply zA | apply zN | apply zD | refine zS ?_ GE122.out⟩⟩
     ·
      rw [if_neg c7] at H; exact absurd H (by simp)
    ·
     rw [if_neg c6] at H; exact absurd H (by simp)
   ·
    rw [if_neg c5] at H; have c5b0 : decide (x12_1 < (l1.length : Int)) = false := decide_eq_false c5; clear c5; obtain rfl := Option.some.inj H; go_wp2; go_ret; exact ⟨_, by first | rfl | (simp [wN, wS] <;> rfl) | (simp [*, wN, wS] <;> rfl), by (with_reducible repeat (first | apply Kd.R_alloc | apply Kd.R_drewN | apply Kd.R_drew)); exact HO_5.out, by with_reducible repeat first | exact HB.out | apply zA | apply zN | apply zD⟩
def lw_same.f (k : Nat)  : Option (Bool) := (some (([(⟨(⟨#[97]⟩ : ByteArray), (⟨#[49]⟩ : ByteArray)⟩ : S43), (⟨(⟨#[98]⟩ : ByteArray), (⟨#[50]⟩ : ByteArray)⟩ : S43)] : List (S43)) : List (S43))).bind fun y130 => ((some (([(⟨(⟨#[98]⟩ : ByteArray), (⟨#[51]⟩ : ByteArray)⟩ : S43), (⟨(⟨#[99]⟩ : ByteArray), (⟨#[52]⟩ : ByteArray)⟩ : S43)] : List (S43)) : List (S43))).bind fun y133 => ((adiff_Of.f y130 y133).bind fun t136 => (if (t136.length : Int) = 3 then (if 0 < (t136.length : Int) then (if ((((rd_T31 t136 0).f0).toList) == ([97] : List UInt8) && ((((rd_T31 t136 0).f1).toList) == ([] : List UInt8) && (((rd_T31 t136 0).f2)))) = true then (if 1 < (t136.length : Int) then (if ((rd_T31 t136 1).f1).toList = ([51] : List UInt8) then (if 2 < (t136.length : Int) then (if ((rd_T31 t136 2).f0).toList = ([99] : List UInt8) then ((adiff_Names.f y130 y133).bind fun t142 => (if t142 = 3 then ((adiff_Do.f k y130 t136).bind fun t143 => ((pl_Attrs.f k t143 y133).bind fun t146 => (some t146))) else (some false))) else (some false)) else (none)) else (some false)) else (none)) else (some false)) else (none)) else (some false))))
theorem lw_same.mono : ∀ k, LeO (lw_same.f k ) (lw_same.f (k + 1) ) := by
 intro  k
 unfold lw_same.f
 with_reducible repeat' first | exact adiff_Do.mono _ _ _ | exact pl_Attrs.mono _ _ _ | exact LeO.refl _ | exact LeO.none _ | refine LeO.ite ?_ ?_ | refine LeO.bind ?_ (fun _ => ?_)
set_option maxHeartbeats 8000000 in
set_option maxRecDepth 100000 in
theorem lw_same.calls (k : Nat)  (r : Bool) (w : World) (h : lw_same.f k  = some r) :
  Calls Try.prog 7 #[] w fun e w' => e = .returned (.bool r) ∧ Below w.heap.size w w' := by
 have hu43 := Try.underlying43
 have hu31 := Try.underlying31
 have HB := zk (Below.refl w.heap.size w)
 have H : ((some (([(⟨(⟨#[97]⟩ : ByteArray), (⟨#[49]⟩ : ByteArray)⟩ : S43), (⟨(⟨#[98]⟩ : ByteArray), (⟨#[50]⟩ : ByteArray)⟩ : S43)] : List (S43)) : List (S43))).bind fun y130 => ((some (([(⟨(⟨#[98]⟩ : ByteArray), (⟨#[51]⟩ : ByteArray)⟩ : S43), (⟨(⟨#[99]⟩ : ByteArray), (⟨#[52]⟩ : ByteArray)⟩ : S43)] : List (S43)) : List (S43))).bind fun y133 => ((adiff_Of.f y130 y133).bind fun t136 => (if (t136.length : Int) = 3 then (if 0 < (t136.length : Int) then (if ((((rd_T31 t136 0).f0).toList) == ([97] : List UInt8) && ((((rd_T31 t136 0).f1).toList) == ([] : List UInt8) && (((rd_T31 t136 0).f2)))) = true then (if 1 < (t136.length : Int) then (if ((rd_T31 t136 1).f1).toList = ([51] : List UInt8) then (if 2 < (t136.length : Int) then (if ((rd_T31 t136 2).f0).toList = ([99] : List UInt8) then ((adiff_Names.f y130 y133).bind fun t142 => (if t142 = 3 then ((adiff_Do.f k y130 t136).bind fun t143 => ((pl_Attrs.f k t143 y133).bind fun t146 => (some t146))) else (some false))) else (some false)) else (none)) else (some false)) else (none)) else (some false)) else (none)) else (some false))))) = some r := h
 clear h
 obtain ⟨y130, hy130⟩ : ∃ y_ : List (S43), y_ = (([(⟨(⟨#[97]⟩ : ByteArray), (⟨#[49]⟩ : ByteArray)⟩ : S43), (⟨(⟨#[98]⟩ : ByteArray), (⟨#[50]⟩ : ByteArray)⟩ : S43)] : List (S43))) := ⟨_, rfl⟩
 replace H : ((some (([(⟨(⟨#[98]⟩ : ByteArray), (⟨#[51]⟩ : ByteArray)⟩ : S43), (⟨(⟨#[99]⟩ : ByteArray), (⟨#[52]⟩ : ByteArray)⟩ : S43)] : List (S43)) : List (S43))).bind fun y133 => ((adiff_Of.f y130 y133).bind fun t136 => (if (t136.length : Int) = 3 then (if 0 < (t136.length : Int) then (if ((((rd_T31 t136 0).f0).toList) == ([97] : List UInt8) && ((((rd_T31 t136 0).f1).toList) == ([] : List UInt8) && (((rd_T31 t136 0).f2)))) = true then (if 1 < (t136.length : Int) then (if ((rd_T31 t136 1).f1).toList = ([51] : List UInt8) then (if 2 < (t136.length : Int) then (if ((rd_T31 t136 2).f0).toList = ([99] : List UInt8) then ((adiff_Names.f y130 y133).bind fun t142 => (if t142 = 3 then ((adiff_Do.f k y130 t136).bind fun t143 => ((pl_Attrs.f k t143 y133).bind fun t146 => (some t146))) else (some false))) else (some false)) else (none)) else (some false)) else (none)) else (some false)) else (none)) else (some false)))) = some r := by first | (rw [hy130]; with_reducible exact H) | (have H2_ := (Option.bind_some _ _).symm.trans H; rw [hy130]; with_reducible exact H2_) | (have H2_ := (Option.bind_some _ _).symm.trans H; with_reducible exact H2_) | with_reducible exact H | (rw [hy130]; exact H) | exact H
 have Ny130 := zk hy130
 clear hy130
 obtain ⟨y133, hy133⟩ : ∃ y_ : List (S43), y_ = (([(⟨(⟨#[98]⟩ : ByteArray), (⟨#[51]⟩ : ByteArray)⟩ : S43), (⟨(⟨#[99]⟩ : ByteArray), (⟨#[52]⟩ : ByteArray)⟩ : S43)] : List (S43))) := ⟨_, rfl⟩
 replace H : ((adiff_Of.f y130 y133).bind fun t136 => (if (t136.length : Int) = 3 then (if 0 < (t136.length : Int) then (if ((((rd_T31 t136 0).f0).toList) == ([97] : List UInt8) && ((((rd_T31 t136 0).f1).toList) == ([] : List UInt8) && (((rd_T31 t136 0).f2)))) = true then (if 1 < (t136.length : Int) then (if ((rd_T31 t136 1).f1).toList = ([51] : List UInt8) then (if 2 < (t136.length : Int) then (if ((rd_T31 t136 2).f0).toList = ([99] : List UInt8) then ((adiff_Names.f y130 y133).bind fun t142 => (if t142 = 3 then ((adiff_Do.f k y130 t136).bind fun t143 => ((pl_Attrs.f k t143 y133).bind fun t146 => (some t146))) else (some false))) else (some false)) else (none)) else (some false)) else (none)) else (some false)) else (none)) else (some false))) = some r := by first | (rw [hy133]; with_reducible exact H) | (have H2_ := (Option.bind_some _ _).symm.trans H; rw [hy133]; with_reducible exact H2_) | (have H2_ := (Option.bind_some _ _).symm.trans H; with_reducible exact H2_) | with_reducible exact H | (rw [hy133]; exact H) | exact H
 have Ny133 := zk hy133
 clear hy133
 replace H := Option.bind_eq_some_iff.mp H
 obtain ⟨t136, A10, H⟩ := H
 replace H : (if (t136.length : Int) = 3 then (if 0 < (t136.length : Int) then (if ((((rd_T31 t136 0).f0).toList) == ([97] : List UInt8) && ((((rd_T31 t136 0).f1).toList) == ([] : List UInt8) && (((rd_T31 t136 0).f2)))) = true then (if 1 < (t136.length : Int) then (if ((rd_T31 t136 1).f1).toList = ([51] : List UInt8) then (if 2 < (t136.length : Int) then (if ((rd_T31 t136 2).f0).toList = ([99] : List UInt8) then ((adiff_Names.f y130 y133).bind fun t142 => (if t142 = 3 then ((adiff_Do.f k y130 t136).bind fun t143 => ((pl_Attrs.f k t143 y133).bind fun t146 => (some t146))) else (some false))) else (some false)) else (none)) else (some false)) else (none)) else (some false)) else (none)) else (some false)) = some r := H
 have A1 := zk A10
 clear A10
 by_cases c2 : (t136.length : Int) = 3
 ·
  rw [if_pos c2] at H; have c2b0 := beq_iff_eq.mpr c2; have c2b1 := bne_eq_false_iff_eq.mpr c2; clear c2
  by_cases c3 : 0 < (t136.length : Int)
  ·
   rw [if_pos c3] at H; have c3b0 : decide (0 < (t136.length : Int)) = true := decide_eq_true c3; have c3b1 : decide (0 < t136.length) = true := decide_eq_true (by omega); clear c3
   by_cases c4 : ((((rd_T31 t136 0).f0).toList) == ([97] : List UInt8) && ((((rd_T31 t136 0).f1).toList) == ([] : List UInt8) && (((rd_T31 t136 0).f2)))) = true
   ·
    rw [if_pos c4] at H; have c4b0 : ((((rd_T31 t136 0).f0).toList) == ([97] : List UInt8) && ((((rd_T31 t136 0).f1).toList) == ([] : List UInt8) && (((rd_T31 t136 0).f2)))) = true := c4
    have c4b9 : (((rd_T31 t136 0).f0).toList == ([97] : List UInt8) && (((rd_T31 t136 0).f1).toList.isEmpty && ((rd_T31 t136 0).f2))) = true := by simpa using c4b0
    (try (have c4b1 : decide ((((rd_T31 t136 0).f0).toList) = ([97] : List UInt8) && ((((rd_T31 t136 0).f1).toList) == ([] : List UInt8) && (((rd_T31 t136 0).f2)))) = true := by simpa using c4))
    (try (have c4b2 : ((((rd_T31 t136 0).f0).toList) == ([97] : List UInt8) && ((((rd_T31 t136 0).f1).toList) == ([] : List UInt8) && (((rd_T31 t136 0).f2)))) = true := by simpa using c4))
    clear c4
    by_cases c5 : 1 < (t136.length : Int)
    ·
     rw [if_pos c5] at H; have c5b0 : decide (1 < (t136.length : Int)) = true := decide_eq_true c5; have c5b1 : decide (1 < t136.length) = true := decide_eq_true (by omega); clear c5
     by_cases c6 : ((rd_T31 t136 1).f1).toList = ([51] : List UInt8)
     ·
      rw [if_pos c6] at H; have c6b0 : (((rd_T31 t136 1).f1).toList == ([51] : List UInt8)) = true := beq_iff_eq.mpr c6; have c6b1 : (((rd_T31 t136 1).f1).toList != ([51] : List UInt8)) = false := bne_eq_false_iff_eq.mpr c6; clear c6
      by_cases c7 : 2 < (t136.length : Int)
      ·
       rw [if_pos c7] at H; have c7b0 : decide (2 < (t136.length : Int)) = true := decide_eq_true c7; have c7b1 : decide (2 < t136.length) = true := decide_eq_true (by omega); clear c7
       by_cases c8 : ((rd_T31 t136 2).f0).toList = ([99] : List UInt8)
       ·
        rw [if_pos c8] at H; have c8b0 := beq_iff_eq.mpr c8; have c8b1 := bne_eq_false_iff_eq.mpr c8; clear c8; replace H := Option.bind_eq_some_iff.mp H; obtain ⟨t142, A90, H⟩ := H; replace H : (if t142 = 3 then ((adiff_Do.f k y130 t136).bind fun t143 => ((pl_Attrs.f k t143 y133).bind fun t146 => (some t146))) else (some false)) = some r := H; have A9 := zk A90; clear A90
        by_cases c10 : t142 = 3
        ·
         rw [if_pos c10] at H; have c10b0 := beq_iff_eq.mpr c10; have c10b1 := bne_eq_false_iff_eq.mpr c10; clear c10; replace H := Option.bind_eq_some_iff.mp H; obtain ⟨t143, A110, H⟩ := H; replace H : ((pl_Attrs.f k t143 y133).bind fun t146 => (some t146)) = some r := H; have A11 := zk A110; clear A110; replace H := Option.bind_eq_some_iff.mp H; obtain ⟨t146, A120, H⟩ := H; replace H : (some t146) = some r := H; have A12 := zk A120; clear A120; obtain rfl := Option.some.inj H
         go_enter Try.func7, Try.ntmps7
         go_wp2_with (first | ((with_reducible refine zgd (N := 6) rfl ?_); refine Kd.R_lit k43 _ 43 ?hg (N := 6) ?hd (xs := ([(⟨(⟨#[97]⟩ : ByteArray), (⟨#[49]⟩ : ByteArray)⟩ : S43), (⟨(⟨#[98]⟩ : ByteArray), (⟨#[50]⟩ : ByteArray)⟩ : S43)] : List (S43))) (inner := [.string (⟨#[97]⟩ : ByteArray), .string (⟨#[49]⟩ : ByteArray), .string (⟨#[98]⟩ : ByteArray), .string (⟨#[50]⟩ : ByteArray)]) (ok := fun _ => True) (okp := fun _ => True) ?hr ?hp (fun _ hk => hk) trivial (Below.refl _ _) (Nat.le_refl _) (by simp) ?_; (case hd => rfl); (case hg => rfl); (case hr => go_simp; first | done | rfl); (case hp => exact (Reps.c2 (show Kd.M k43 _ _ _ (⟨(⟨#[97]⟩ : ByteArray), (⟨#[49]⟩ : ByteArray)⟩ : S43) [.string (⟨#[97]⟩ : ByteArray), .string (⟨#[49]⟩ : ByteArray)] from (k43_mkM _ _ _ (⟨(⟨#[97]⟩ : ByteArray), (⟨#[49]⟩ : ByteArray)⟩ : S43) )) (Reps.c2 (show Kd.M k43 _ _ _ (⟨(⟨#[98]⟩ : ByteArray), (⟨#[50]⟩ : ByteArray)⟩ : S43) [.string (⟨#[98]⟩ : ByteArray), .string (⟨#[50]⟩ : ByteArray)] from (k43_mkM _ _ _ (⟨(⟨#[98]⟩ : ByteArray), (⟨#[50]⟩ : ByteArray)⟩ : S43) )) (Reps.none _ _)))); intro v131 w13 ho14 hb hg_ hnew_; clear hg_ hnew_; (first | rw [← Ny130.out] at ho14 | (simp only [Int.reduceToNat] at ho14; rw [← Ny130.out] at ho14)); have n0_ := zk (Kd.R_lower ho14 (zq (by with_reducible repeat first | exact HB.out | apply zA | apply zN | apply zD))); have n1_ := zk (zs (by with_reducible repeat first | exact HB.out | apply zA | apply zN | apply zD) hb); clear HB; have HO132 := n0_; have HB := n1_; clear n0_ n1_; clear hb ho14) | ((with_reducible refine zgd (N := 9) rfl ?_); refine Kd.R_lit k43 _ 43 ?hg (N := 9) ?hd (xs := ([(⟨(⟨#[98]⟩ : ByteArray), (⟨#[51]⟩ : ByteArray)⟩ : S43), (⟨(⟨#[99]⟩ : ByteArray), (⟨#[52]⟩ : ByteArray)⟩ : S43)] : List (S43))) (inner := [.string (⟨#[98]⟩ : ByteArray), .string (⟨#[51]⟩ : ByteArray), .string (⟨#[99]⟩ : ByteArray), .string (⟨#[52]⟩ : ByteArray)]) (ok := fun _ => True) (okp := fun _ => True) ?hr ?hp (fun _ hk => hk) trivial (Below.refl _ _) (Nat.le_refl _) (by simp) ?_; (case hd => rfl); (case hg => rfl); (case hr => go_simp; first | done | rfl); (case hp => exact (Reps.c2 (show Kd.M k43 _ _ _ (⟨(⟨#[98]⟩ : ByteArray), (⟨#[51]⟩ : ByteArray)⟩ : S43) [.string (⟨#[98]⟩ : ByteArray), .string (⟨#[51]⟩ : ByteArray)] from (k43_mkM _ _ _ (⟨(⟨#[98]⟩ : ByteArray), (⟨#[51]⟩ : ByteArray)⟩ : S43) )) (Reps.c2 (show Kd.M k43 _ _ _ (⟨(⟨#[99]⟩ : ByteArray), (⟨#[52]⟩ : ByteArray)⟩ : S43) [.string (⟨#[99]⟩ : ByteArray), .string (⟨#[52]⟩ : ByteArray)] from (k43_mkM _ _ _ (⟨(⟨#[99]⟩ : ByteArray), (⟨#[52]⟩ : ByteArray)⟩ : S43) )) (Reps.none _ _)))); intro v134 w15 ho16 hb hg_ hnew_; clear hg_ hnew_; (first | rw [← Ny133.out] at ho16 | (simp only [Int.reduceToNat] at ho16; rw [← Ny133.out] at ho16)); have n0_ := zk (Kd.R_elder' (by (with_reducible repeat (first | apply Kd.R_alloc | apply Kd.R_drewN | apply Kd.R_drew)); exact HO132.out) (Kd.R_base ho16) hb); have n1_ := zk (Kd.R_lower (Kd.R_new' ho16 (Kd.R_lt (by (with_reducible repeat (first | apply Kd.R_alloc | apply Kd.R_drewN | apply Kd.R_drew)); exact HO132.out))) (zq (by with_reducible repeat first | exact HB.out | apply zA | apply zN | apply zD))); have n2_ := zk (zs (by with_reducible repeat first | exact HB.out | apply zA | apply zN | apply zD) hb); clear HO132; clear HB; have HO132 := n0_; have HO135 := n1_; have HB := n2_; clear n0_ n1_ n2_; clear hb ho16; obtain ⟨Ao17, co17, eo17⟩ := Kd.R_slice HO132.out; subst eo17; obtain ⟨Ao18, co18, eo18⟩ := Kd.R_slice HO135.out; subst eo18) | ((with_reducible refine zgk (f := 8) rfl ?_); refine zgl (some 12) rfl rfl Try.func8 (by kernel_rfl) rfl #[.slice Ao17 y130.length co17, .slice Ao18 y133.length co18] rfl (by (try simp only [List.map_toArray, List.map_cons, List.map_nil]); first | done | rfl | (simp only [List.length_drop, List.length_take]; rfl)) ?_; (with_reducible refine (adiff_Of.calls _ _ y130 _ _ y133 t136 _ ?side1 ?side2 ?side3 ?side4 A1.out).mono ?_); (case side1 => repeat (first | exact (Kd.R_reads' HO132.out).2.2 | (with_reducible refine Kd.C_alloc ?_ _) | (with_reducible refine Kd.C_drewN ?_ _) | (with_reducible refine Kd.C_drew ?_))); (case side2 => exact (Kd.R_reads' HO132.out).2.1); (case side3 => repeat (first | exact (Kd.R_reads' HO135.out).2.2 | (with_reducible refine Kd.C_alloc ?_ _) | (with_reducible refine Kd.C_drewN ?_ _) | (with_reducible refine Kd.C_drew ?_))); (case side4 => exact (Kd.R_reads' HO135.out).2.1); rintro e w19 ⟨v137, rfl, ho0, hb⟩; refine ⟨_, rfl, ?_⟩; have n0_ := zk (Kd.R_below (by (with_reducible repeat (first | apply Kd.R_alloc | apply Kd.R_drewN | apply Kd.R_drew)); exact HO132.out) hb); have n1_ := zk (Kd.R_below (by (with_reducible repeat (first | apply Kd.R_alloc | apply Kd.R_drewN | apply Kd.R_drew)); exact HO135.out) hb); have n2_ := zk (Kd.R_lower ho0 (zq (by with_reducible repeat first | exact HB.out | apply zA | apply zN | apply zD))); have n3_ := zk (zs (by with_reducible repeat first | exact HB.out | apply zA | apply zN | apply zD) hb); clear HO132; clear HO135; clear HB; have HO132 := n0_; have HO135 := n1_; have HO138 := n2_; have HB := n3_; clear n0_ n1_ n2_ n3_; (try clear hb); (try clear hb2); (try clear hk); (try clear hi); (try clear ho0); obtain ⟨Ao20, co20, eo20⟩ := Kd.R_slice HO138.out; subst eo20; have p139 : 0 ≤ (0 : Int) := (by omega); have q139 : 0 < (t136.length : Int) := zo (by assumption); obtain ⟨ad139, e139, hx139_0, hx139_1, hx139_2⟩ := at_T31 (Kd.R_reads' HO138.out).2.2 0 p139 q139; cases e139; have qi139 : (0 < t136.length) = True := eq_true (by omega); (try rw [show ((0 : Int)).toNat = 0 from rfl] at hx139_0); (try rw [show 0 * 3 = 0 from rfl] at hx139_0); (try rw [Addr.add_zero'] at hx139_0); (try rw [show ((0 : Int)).toNat = 0 from rfl] at hx139_1); (try rw [show 0 * 3 = 0 from rfl] at hx139_1); (try rw [Addr.add_zero'] at hx139_1); (try rw [show ((0 : Int)).toNat = 0 from rfl] at hx139_2); (try rw [show 0 * 3 = 0 from rfl] at hx139_2); (try rw [Addr.add_zero'] at hx139_2); replace p139 := eq_true p139; replace q139 := eq_true q139; have p140 : 0 ≤ (1 : Int) := (by omega); have q140 : 1 < (t136.length : Int) := zo (by assumption); obtain ⟨ad140, e140, hx140_0, hx140_1, hx140_2⟩ := at_T31 (Kd.R_reads' HO138.out).2.2 1 p140 q140; obtain rfl : ad139 = ad140 := (by injection e140); (try simp only [show (1 : Int).toNat = 1 from rfl, Nat.reduceMul, Nat.reduceEqDiff, Go.Addr.add, ↓reduceIte] at hx140_0); (try simp only [show (1 : Int).toNat = 1 from rfl, Nat.reduceMul, Nat.reduceEqDiff, Go.Addr.add, ↓reduceIte] at hx140_1); (try simp only [show (1 : Int).toNat = 1 from rfl, Nat.reduceMul, Nat.reduceEqDiff, Go.Addr.add, ↓reduceIte] at hx140_2); have qi140 : (1 < t136.length) = True := eq_true (by omega); (try rw [show ((1 : Int)).toNat = 1 from rfl] at hx140_0); (try rw [show 1 * 3 = 3 from rfl] at hx140_0); (try rw [show ((1 : Int)).toNat = 1 from rfl] at hx140_1); (try rw [show 1 * 3 = 3 from rfl] at hx140_1); (try rw [show ((1 : Int)).toNat = 1 from rfl] at hx140_2); (try rw [show 1 * 3 = 3 from rfl] at hx140_2); replace p140 := eq_true p140; replace q140 := eq_true q140; have p141 : 0 ≤ (2 : Int) := (by omega); have q141 : 2 < (t136.length : Int) := zo (by assumption); obtain ⟨ad141, e141, hx141_0, hx141_1, hx141_2⟩ := at_T31 (Kd.R_reads' HO138.out).2.2 2 p141 q141; obtain rfl : ad139 = ad141 := (by injection e141); (try simp only [show (2 : Int).toNat = 2 from rfl, Nat.reduceMul, Nat.reduceEqDiff, Go.Addr.add, ↓reduceIte] at hx141_0); (try simp only [show (2 : Int).toNat = 2 from rfl, Nat.reduceMul, Nat.reduceEqDiff, Go.Addr.add, ↓reduceIte] at hx141_1); (try simp only [show (2 : Int).toNat = 2 from rfl, Nat.reduceMul, Nat.reduceEqDiff, Go.Addr.add, ↓reduceIte] at hx141_2); have qi141 : (2 < t136.length) = True := eq_true (by omega); (try rw [show ((2 : Int)).toNat = 2 from rfl] at hx141_0); (try rw [show 2 * 3 = 6 from rfl] at hx141_0); (try rw [show ((2 : Int)).toNat = 2 from rfl] at hx141_1); (try rw [show 2 * 3 = 6 from rfl] at hx141_1); (try rw [show ((2 : Int)).toNat = 2 from rfl] at hx141_2); (try rw [show 2 * 3 = 6 from rfl] at hx141_2); replace p141 := eq_true p141; replace q141 := eq_true q141) | (go_at_call 10; (with_reducible refine (adiff_Names.calls _ _ y130 _ _ y133 t142 _ ?side1 ?side2 ?side3 ?side4 A9.out).mono ?_); (case side1 => repeat (first | exact (Kd.R_reads' HO132.out).2.2 | (with_reducible refine Kd.C_alloc ?_ _) | (with_reducible refine Kd.C_drewN ?_ _) | (with_reducible refine Kd.C_drew ?_))); (case side2 => exact (Kd.R_reads' HO132.out).2.1); (case side3 => repeat (first | exact (Kd.R_reads' HO135.out).2.2 | (with_reducible refine Kd.C_alloc ?_ _) | (with_reducible refine Kd.C_drewN ?_ _) | (with_reducible refine Kd.C_drew ?_))); (case side4 => exact (Kd.R_reads' HO135.out).2.1); rintro e w21 ⟨rfl, hb⟩; have n0_ := zk (Kd.R_below (by (with_reducible repeat (first | apply Kd.R_alloc | apply Kd.R_drewN | apply Kd.R_drew)); exact HO132.out) hb); have n1_ := zk (Kd.R_below (by (with_reducible repeat (first | apply Kd.R_alloc | apply Kd.R_drewN | apply Kd.R_drew)); exact HO135.out) hb); have n2_ := zk (Kd.R_below (by (with_reducible repeat (first | apply Kd.R_alloc | apply Kd.R_drewN | apply Kd.R_drew)); exact HO138.out) hb); have n3_ := zk (zs (by with_reducible repeat first | exact HB.out | apply zA | apply zN | apply zD) hb); clear HO132; clear HO135; clear HO138; clear HB; have HO132 := n0_; have HO135 := n1_; have HO138 := n2_; have HB := n3_; clear n0_ n1_ n2_ n3_; (try clear hb); (try clear hb2); (try clear hk); (try clear hi)) | (go_at_call 13; (with_reducible refine (adiff_Do.calls k _ _ y130 _ _ t136 t143 _ ?side1 ?side2 ?side3 ?side4 A11.out).mono ?_); (case side1 => repeat (first | exact (Kd.R_reads' HO132.out).2.2 | (with_reducible refine Kd.C_alloc ?_ _) | (with_reducible refine Kd.C_drewN ?_ _) | (with_reducible refine Kd.C_drew ?_))); (case side2 => exact (Kd.R_reads' HO132.out).2.1); (case side3 => repeat (first | exact (Kd.R_reads' HO138.out).2.2 | (with_reducible refine Kd.C_alloc ?_ _) | (with_reducible refine Kd.C_drewN ?_ _) | (with_reducible refine Kd.C_drew ?_))); (case side4 => exact (Kd.R_reads' HO138.out).2.1); rintro e w22 ⟨v144, rfl, ho0, hb⟩; have n0_ := zk (Kd.R_elder' (by (with_reducible repeat (first | apply Kd.R_alloc | apply Kd.R_drewN | apply Kd.R_drew)); exact HO132.out) (Kd.R_base ho0) hb); have n1_ := zk (Kd.R_elder' (by (with_reducible repeat (first | apply Kd.R_alloc | apply Kd.R_drewN | apply Kd.R_drew)); exact HO135.out) (Kd.R_base ho0) hb); have n2_ := zk (Kd.R_below (by (with_reducible repeat (first | apply Kd.R_alloc | apply Kd.R_drewN | apply Kd.R_drew)); exact HO138.out) hb); have n3_ := zk (Kd.R_lower (Kd.R_new' (Kd.R_new' ho0 (Kd.R_lt (by (with_reducible repeat (first | apply Kd.R_alloc | apply Kd.R_drewN | apply Kd.R_drew)); exact HO132.out))) (Kd.R_lt (by (with_reducible repeat (first | apply Kd.R_alloc | apply Kd.R_drewN | apply Kd.R_drew)); exact HO135.out))) (zq (by with_reducible repeat first | exact HB.out | apply zA | apply zN | apply zD))); have n4_ := zk (zs (by with_reducible repeat first | exact HB.out | apply zA | apply zN | apply zD) hb); clear HO132; clear HO135; clear HO138; clear HB; have HO132 := n0_; have HO135 := n1_; have HO138 := n2_; have HO145 := n3_; have HB := n4_; clear n0_ n1_ n2_ n3_ n4_; (try clear hb); (try clear hb2); (try clear hk); (try clear hi); (try clear ho0); obtain ⟨Ao23, co23, eo23⟩ := Kd.R_slice HO145.out; subst eo23) | (go_at_call 12; (with_reducible refine (pl_Attrs.calls k _ _ t143 _ _ y133 t146 _ ?side1 ?side2 ?side3 ?side4 A12.out).mono ?_); (case side1 => repeat (first | exact (Kd.R_reads' HO145.out).2.2 | (with_reducible refine Kd.C_alloc ?_ _) | (with_reducible refine Kd.C_drewN ?_ _) | (with_reducible refine Kd.C_drew ?_))); (case side2 => exact (Kd.R_reads' HO145.out).2.1); (case side3 => repeat (first | exact (Kd.R_reads' HO135.out).2.2 | (with_reducible refine Kd.C_alloc ?_ _) | (with_reducible refine Kd.C_drewN ?_ _) | (with_reducible refine Kd.C_drew ?_))); (case side4 => exact (Kd.R_reads' HO135.out).2.1); rintro e w' ⟨rfl, ⟨nd, rfl⟩⟩))
         go_ret; exact ⟨by first | rfl | (simp [wN, wS] <;> rfl) | (simp [*, wN, wS] <;> rfl), by with_reducible repeat first | exact HB.out | apply zA | apply zN | apply zD⟩
        ·
         rw [if_neg c10] at H; have c10b0 := beq_eq_false_iff_ne.mpr c10; have c10b1 := bne_iff_ne.mpr c10; obtain rfl := Option.some.inj H
         go_enter Try.func7, Try.ntmps7
         go_wp2_with (first | ((with_reducible refine zgd (N := 6) rfl ?_); refine Kd.R_lit k43 _ 43 ?hg (N := 6) ?hd (xs := ([(⟨(⟨#[97]⟩ : ByteArray), (⟨#[49]⟩ : ByteArray)⟩ : S43), (⟨(⟨#[98]⟩ : ByteArray), (⟨#[50]⟩ : ByteArray)⟩ : S43)] : List (S43))) (inner := [.string (⟨#[97]⟩ : ByteArray), .string (⟨#[49]⟩ : ByteArray), .string (⟨#[98]⟩ : ByteArray), .string (⟨#[50]⟩ : ByteArray)]) (ok := fun _ => True) (okp := fun _ => True) ?hr ?hp (fun _ hk => hk) trivial (Below.refl _ _) (Nat.le_refl _) (by simp) ?_; (case hd => rfl); (case hg => rfl); (case hr => go_simp; first | done | rfl); (case hp => exact (Reps.c2 (show Kd.M k43 _ _ _ (⟨(⟨#[97]⟩ : ByteArray), (⟨#[49]⟩ : ByteArray)⟩ : S43) [.string (⟨#[97]⟩ : ByteArray), .string (⟨#[49]⟩ : ByteArray)] from (k43_mkM _ _ _ (⟨(⟨#[97]⟩ : ByteArray), (⟨#[49]⟩ : ByteArray)⟩ : S43) )) (Reps.c2 (show Kd.M k43 _ _ _ (⟨(⟨#[98]⟩ : ByteArray), (⟨#[50]⟩ : ByteArray)⟩ : S43) [.string (⟨#[98]⟩ : ByteArray), .string (⟨#[50]⟩ : ByteArray)] from (k43_mkM _ _ _ (⟨(⟨#[98]⟩ : ByteArray), (⟨#[50]⟩ : ByteArray)⟩ : S43) )) (Reps.none _ _)))); intro v131 w24 ho25 hb hg_ hnew_; clear hg_ hnew_; (first | rw [← Ny130.out] at ho25 | (simp only [Int.reduceToNat] at ho25; rw [← Ny130.out] at ho25)); have n0_ := zk (Kd.R_lower ho25 (zq (by with_reducible repeat first | exact HB.out | apply zA | apply zN | apply zD))); have n1_ := zk (zs (by with_reducible repeat first | exact HB.out | apply zA | apply zN | apply zD) hb); clear HB; have HO132 := n0_; have HB := n1_; clear n0_ n1_; clear hb ho25) | ((with_reducible refine zgd (N := 9) rfl ?_); refine Kd.R_lit k43 _ 43 ?hg (N := 9) ?hd (xs := ([(⟨(⟨#[98]⟩ : ByteArray), (⟨#[51]⟩ : ByteArray)⟩ : S43), (⟨(⟨#[99]⟩ : ByteArray), (⟨#[52]⟩ : ByteArray)⟩ : S43)] : List (S43))) (inner := [.string (⟨#[98]⟩ : ByteArray), .string (⟨#[51]⟩ : ByteArray), .string (⟨#[99]⟩ : ByteArray), .string (⟨#[52]⟩ : ByteArray)]) (ok := fun _ => True) (okp := fun _ => True) ?hr ?hp (fun _ hk => hk) trivial (Below.refl _ _) (Nat.le_refl _) (by simp) ?_; (case hd => rfl); (case hg => rfl); (case hr => go_simp; first | done | rfl); (case hp => exact (Reps.c2 (show Kd.M k43 _ _ _ (⟨(⟨#[98]⟩ : ByteArray), (⟨#[51]⟩ : ByteArray)⟩ : S43) [.string (⟨#[98]⟩ : ByteArray), .string (⟨#[51]⟩ : ByteArray)] from (k43_mkM _ _ _ (⟨(⟨#[98]⟩ : ByteArray), (⟨#[51]⟩ : ByteArray)⟩ : S43) )) (Reps.c2 (show Kd.M k43 _ _ _ (⟨(⟨#[99]⟩ : ByteArray), (⟨#[52]⟩ : ByteArray)⟩ : S43) [.string (⟨#[99]⟩ : ByteArray), .string (⟨#[52]⟩ : ByteArray)] from (k43_mkM _ _ _ (⟨(⟨#[99]⟩ : ByteArray), (⟨#[52]⟩ : ByteArray)⟩ : S43) )) (Reps.none _ _)))); intro v134 w26 ho27 hb hg_ hnew_; clear hg_ hnew_; (first | rw [← Ny133.out] at ho27 | (simp only [Int.reduceToNat] at ho27; rw [← Ny133.out] at ho27)); have n0_ := zk (Kd.R_elder' (by (with_reducible repeat (first | apply Kd.R_alloc | apply Kd.R_drewN | apply Kd.R_drew)); exact HO132.out) (Kd.R_base ho27) hb); have n1_ := zk (Kd.R_lower (Kd.R_new' ho27 (Kd.R_lt (by (with_reducible repeat (first | apply Kd.R_alloc | apply Kd.R_drewN | apply Kd.R_drew)); exact HO132.out))) (zq (by with_reducible repeat first | exact HB.out | apply zA | apply zN | apply zD))); have n2_ := zk (zs (by with_reducible repeat first | exact HB.out | apply zA | apply zN | apply zD) hb); clear HO132; clear HB; have HO132 := n0_; have HO135 := n1_; have HB := n2_; clear n0_ n1_ n2_; clear hb ho27; obtain ⟨Ao28, co28, eo28⟩ := Kd.R_slice HO132.out; subst eo28; obtain ⟨Ao29, co29, eo29⟩ := Kd.R_slice HO135.out; subst eo29) | ((with_reducible refine zgk (f := 8) rfl ?_); refine zgl (some 12) rfl rfl Try.func8 (by kernel_rfl) rfl #[.slice Ao28 y130.length co28, .slice Ao29 y133.length co29] rfl (by (try simp only [List.map_toArray, List.map_cons, List.map_nil]); first | done | rfl | (simp only [List.length_drop, List.length_take]; rfl)) ?_; (with_reducible refine (adiff_Of.calls _ _ y130 _ _ y133 t136 _ ?side1 ?side2 ?side3 ?side4 A1.out).mono ?_); (case side1 => repeat (first | exact (Kd.R_reads' HO132.out).2.2 | (with_reducible refine Kd.C_alloc ?_ _) | (with_reducible refine Kd.C_drewN ?_ _) | (with_reducible refine Kd.C_drew ?_))); (case side2 => exact (Kd.R_reads' HO132.out).2.1); (case side3 => repeat (first | exact (Kd.R_reads' HO135.out).2.2 | (with_reducible refine Kd.C_alloc ?_ _) | (with_reducible refine Kd.C_drewN ?_ _) | (with_reducible refine Kd.C_drew ?_))); (case side4 => exact (Kd.R_reads' HO135.out).2.1); rintro e w30 ⟨v137, rfl, ho0, hb⟩; refine ⟨_, rfl, ?_⟩; have n0_ := zk (Kd.R_below (by (with_reducible repeat (first | apply Kd.R_alloc | apply Kd.R_drewN | apply Kd.R_drew)); exact HO132.out) hb); have n1_ := zk (Kd.R_below (by (with_reducible repeat (first | apply Kd.R_alloc | apply Kd.R_drewN | apply Kd.R_drew)); exact HO135.out) hb); have n2_ := zk (Kd.R_lower ho0 (zq (by with_reducible repeat first | exact HB.out | apply zA | apply zN | apply zD))); have n3_ := zk (zs (by with_reducible repeat first | exact HB.out | apply zA | apply zN | apply zD) hb); clear HO132; clear HO135; clear HB; have HO132 := n0_; have HO135 := n1_; have HO138 := n2_; have HB := n3_; clear n0_ n1_ n2_ n3_; (try clear hb); (try clear hb2); (try clear hk); (try clear hi); (try clear ho0); obtain ⟨Ao31, co31, eo31⟩ := Kd.R_slice HO138.out; subst eo31; have p139 : 0 ≤ (0 : Int) := (by omega); have q139 : 0 < (t136.length : Int) := zo (by assumption); obtain ⟨ad139, e139, hx139_0, hx139_1, hx139_2⟩ := at_T31 (Kd.R_reads' HO138.out).2.2 0 p139 q139; cases e139; have qi139 : (0 < t136.length) = True := eq_true (by omega); (try rw [show ((0 : Int)).toNat = 0 from rfl] at hx139_0); (try rw [show 0 * 3 = 0 from rfl] at hx139_0); (try rw [Addr.add_zero'] at hx139_0); (try rw [show ((0 : Int)).toNat = 0 from rfl] at hx139_1); (try rw [show 0 * 3 = 0 from rfl] at hx139_1); (try rw [Addr.add_zero'] at hx139_1); (try rw [show ((0 : Int)).toNat = 0 from rfl] at hx139_2); (try rw [show 0 * 3 = 0 from rfl] at hx139_2); (try rw [Addr.add_zero'] at hx139_2); replace p139 := eq_true p139; replace q139 := eq_true q139; have p140 : 0 ≤ (1 : Int) := (by omega); have q140 : 1 < (t136.length : Int) := zo (by assumption); obtain ⟨ad140, e140, hx140_0, hx140_1, hx140_2⟩ := at_T31 (Kd.R_reads' HO138.out).2.2 1 p140 q140; obtain rfl : ad139 = ad140 := (by injection e140); (try simp only [show (1 : Int).toNat = 1 from rfl, Nat.reduceMul, Nat.reduceEqDiff, Go.Addr.add, ↓reduceIte] at hx140_0); (try simp only [show (1 : Int).toNat = 1 from rfl, Nat.reduceMul, Nat.reduceEqDiff, Go.Addr.add, ↓reduceIte] at hx140_1); (try simp only [show (1 : Int).toNat = 1 from rfl, Nat.reduceMul, Nat.reduceEqDiff, Go.Addr.add, ↓reduceIte] at hx140_2); have qi140 : (1 < t136.length) = True := eq_true (by omega); (try rw [show ((1 : Int)).toNat = 1 from rfl] at hx140_0); (try rw [show 1 * 3 = 3 from rfl] at hx140_0); (try rw [show ((1 : Int)).toNat = 1 from rfl] at hx140_1); (try rw [show 1 * 3 = 3 from rfl] at hx140_1); (try rw [show ((1 : Int)).toNat = 1 from rfl] at hx140_2); (try rw [show 1 * 3 = 3 from rfl] at hx140_2); replace p140 := eq_true p140; replace q140 := eq_true q140; have p141 : 0 ≤ (2 : Int) := (by omega); have q141 : 2 < (t136.length : Int) := zo (by assumption); obtain ⟨ad141, e141, hx141_0, hx141_1, hx141_2⟩ := at_T31 (Kd.R_reads' HO138.out).2.2 2 p141 q141; obtain rfl : ad139 = ad141 := (by injection e141); (try simp only [show (2 : Int).toNat = 2 from rfl, Nat.reduceMul, Nat.reduceEqDiff, Go.Addr.add, ↓reduceIte] at hx141_0); (try simp only [show (2 : Int).toNat = 2 from rfl, Nat.reduceMul, Nat.reduceEqDiff, Go.Addr.add, ↓reduceIte] at hx141_1); (try simp only [show (2 : Int).toNat = 2 from rfl, Nat.reduceMul, Nat.reduceEqDiff, Go.Addr.add, ↓reduceIte] at hx141_2); have qi141 : (2 < t136.length) = True := eq_true (by omega); (try rw [show ((2 : Int)).toNat = 2 from rfl] at hx141_0); (try rw [show 2 * 3 = 6 from rfl] at hx141_0); (try rw [show ((2 : Int)).toNat = 2 from rfl] at hx141_1); (try rw [show 2 * 3 = 6 from rfl] at hx141_1); (try rw [show ((2 : Int)).toNat = 2 from rfl] at hx141_2); (try rw [show 2 * 3 = 6 from rfl] at hx141_2); replace p141 := eq_true p141; replace q141 := eq_true q141) | (go_at_call 10; (with_reducible refine (adiff_Names.calls _ _ y130 _ _ y133 t142 _ ?side1 ?side2 ?side3 ?side4 A9.out).mono ?_); (case side1 => repeat (first | exact (Kd.R_reads' HO132.out).2.2 | (with_reducible refine Kd.C_alloc ?_ _) | (with_reducible refine Kd.C_drewN ?_ _) | (with_reducible refine Kd.C_drew ?_))); (case side2 => exact (Kd.R_reads' HO132.out).2.1); (case side3 => repeat (first | exact (Kd.R_reads' HO135.out).2.2 | (with_reducible refine Kd.C_alloc ?_ _) | (with_reducible refine Kd.C_drewN ?_ _) | (with_reducible refine Kd.C_drew ?_))); (case side4 => exact (Kd.R_reads' HO135.out).2.1); rintro e w32 ⟨rfl, hb⟩; have n0_ := zk (Kd.R_below (by (with_reducible repeat (first | apply Kd.R_alloc | apply Kd.R_drewN | apply Kd.R_drew)); exact HO132.out) hb); have n1_ := zk (Kd.R_below (by (with_reducible repeat (first | apply Kd.R_alloc | apply Kd.R_drewN | apply Kd.R_drew)); exact HO135.out) hb); have n2_ := zk (Kd.R_below (by (with_reducible repeat (first | apply Kd.R_alloc | apply Kd.R_drewN | apply Kd.R_drew)); exact HO138.out) hb); have n3_ := zk (zs (by with_reducible repeat first | exact HB.out | apply zA | apply zN | apply zD) hb); clear HO132; clear HO135; clear HO138; clear HB; have HO132 := n0_; have HO135 := n1_; have HO138 := n2_; have HB := n3_; clear n0_ n1_ n2_ n3_; (try clear hb); (try clear hb2); (try clear hk); (try clear hi)))
         go_ret; exact ⟨by first | rfl | (simp [wN, wS] <;> rfl) | (simp [*, wN, wS] <;> rfl), by with_reducible repeat first | exact HB.out | apply zA | apply zN | apply zD⟩
       ·
        rw [if_neg c8] at H; have c8b0 := beq_eq_false_iff_ne.mpr c8; have c8b1 := bne_iff_ne.mpr c8; obtain rfl := Option.some.inj H
        go_enter Try.func7, Try.ntmps7
        go_wp2_with (first | ((with_reducible refine zgd (N := 6) rfl ?_); refine Kd.R_lit k43 _ 43 ?hg (N := 6) ?hd (xs := ([(⟨(⟨#[97]⟩ : ByteArray), (⟨#[49]⟩ : ByteArray)⟩ : S43), (⟨(⟨#[98]⟩ : ByteArray), (⟨#[50]⟩ : ByteArray)⟩ : S43)] : List (S43))) (inner := [.string (⟨#[97]⟩ : ByteArray), .string (⟨#[49]⟩ : ByteArray), .string (⟨#[98]⟩ : ByteArray), .string (⟨#[50]⟩ : ByteArray)]) (ok := fun _ => True) (okp := fun _ => True) ?hr ?hp (fun _ hk => hk) trivial (Below.refl _ _) (Nat.le_refl _) (by simp) ?_; (case hd => rfl); (case hg => rfl); (case hr => go_simp; first | done | rfl); (case hp => exact (Reps.c2 (show Kd.M k43 _ _ _ (⟨(⟨#[97]⟩ : ByteArray), (⟨#[49]⟩ : ByteArray)⟩ : S43) [.string (⟨#[97]⟩ : ByteArray), .string (⟨#[49]⟩ : ByteArray)] from (k43_mkM _ _ _ (⟨(⟨#[97]⟩ : ByteArray), (⟨#[49]⟩ : ByteArray)⟩ : S43) )) (Reps.c2 (show Kd.M k43 _ _ _ (⟨(⟨#[98]⟩ : ByteArray), (⟨#[50]⟩ : ByteArray)⟩ : S43) [.string (⟨#[98]⟩ : ByteArray), .string (⟨#[50]⟩ : ByteArray)] from (k43_mkM _ _ _ (⟨(⟨#[98]⟩ : ByteArray), (⟨#[50]⟩ : ByteArray)⟩ : S43) )) (Reps.none _ _)))); intro v131 w33 ho34 hb hg_ hnew_; clear hg_ hnew_; (first | rw [← Ny130.out] at ho34 | (simp only [Int.reduceToNat] at ho34; rw [← Ny130.out] at ho34)); have n0_ := zk (Kd.R_lower ho34 (zq (by with_reducible repeat first | exact HB.out | apply zA | apply zN | apply zD))); have n1_ := zk (zs (by with_reducible repeat first | exact HB.out | apply zA | apply zN | apply zD) hb); clear HB; have HO132 := n0_; have HB := n1_; clear n0_ n1_; clear hb ho34) | ((with_reducible refine zgd (N := 9) rfl ?_); refine Kd.R_lit k43 _ 43 ?hg (N := 9) ?hd (xs := ([(⟨(⟨#[98]⟩ : ByteArray), (⟨#[51]⟩ : ByteArray)⟩ : S43), (⟨(⟨#[99]⟩ : ByteArray), (⟨#[52]⟩ : ByteArray)⟩ : S43)] : List (S43))) (inner := [.string (⟨#[98]⟩ : ByteArray), .string (⟨#[51]⟩ : ByteArray), .string (⟨#[99]⟩ : ByteArray), .string (⟨#[52]⟩ : ByteArray)]) (ok := fun _ => True) (okp := fun _ => True) ?hr ?hp (fun _ hk => hk) trivial (Below.refl _ _) (Nat.le_refl _) (by simp) ?_; (case hd => rfl); (case hg => rfl); (case hr => go_simp; first | done | rfl); (case hp => exact (Reps.c2 (show Kd.M k43 _ _ _ (⟨(⟨#[98]⟩ : ByteArray), (⟨#[51]⟩ : ByteArray)⟩ : S43) [.string (⟨#[98]⟩ : ByteArray), .string (⟨#[51]⟩ : ByteArray)] from (k43_mkM _ _ _ (⟨(⟨#[98]⟩ : ByteArray), (⟨#[51]⟩ : ByteArray)⟩ : S43) )) (Reps.c2 (show Kd.M k43 _ _ _ (⟨(⟨#[99]⟩ : ByteArray), (⟨#[52]⟩ : ByteArray)⟩ : S43) [.string (⟨#[99]⟩ : ByteArray), .string (⟨#[52]⟩ : ByteArray)] from (k43_mkM _ _ _ (⟨(⟨#[99]⟩ : ByteArray), (⟨#[52]⟩ : ByteArray)⟩ : S43) )) (Reps.none _ _)))); intro v134 w35 ho36 hb hg_ hnew_; clear hg_ hnew_; (first | rw [← Ny133.out] at ho36 | (simp only [Int.reduceToNat] at ho36; rw [← Ny133.out] at ho36)); have n0_ := zk (Kd.R_elder' (by (with_reducible repeat (first | apply Kd.R_alloc | apply Kd.R_drewN | apply Kd.R_drew)); exact HO132.out) (Kd.R_base ho36) hb); have n1_ := zk (Kd.R_lower (Kd.R_new' ho36 (Kd.R_lt (by (with_reducible repeat (first | apply Kd.R_alloc | apply Kd.R_drewN | apply Kd.R_drew)); exact HO132.out))) (zq (by with_reducible repeat first | exact HB.out | apply zA | apply zN | apply zD))); have n2_ := zk (zs (by with_reducible repeat first | exact HB.out | apply zA | apply zN | apply zD) hb); clear HO132; clear HB; have HO132 := n0_; have HO135 := n1_; have HB := n2_; clear n0_ n1_ n2_; clear hb ho36; obtain ⟨Ao37, co37, eo37⟩ := Kd.R_slice HO132.out; subst eo37; obtain ⟨Ao38, co38, eo38⟩ := Kd.R_slice HO135.out; subst eo38) | ((with_reducible refine zgk (f := 8) rfl ?_); refine zgl (some 12) rfl rfl Try.func8 (by kernel_rfl) rfl #[.slice Ao37 y130.length co37, .slice Ao38 y133.length co38] rfl (by (try simp only [List.map_toArray, List.map_cons, List.map_nil]); first | done | rfl | (simp only [List.length_drop, List.length_take]; rfl)) ?_; (with_reducible refine (adiff_Of.calls _ _ y130 _ _ y133 t136 _ ?side1 ?side2 ?side3 ?side4 A1.out).mono ?_); (case side1 => repeat (first | exact (Kd.R_reads' HO132.out).2.2 | (with_reducible refine Kd.C_alloc ?_ _) | (with_reducible refine Kd.C_drewN ?_ _) | (with_reducible refine Kd.C_drew ?_))); (case side2 => exact (Kd.R_reads' HO132.out).2.1); (case side3 => repeat (first | exact (Kd.R_reads' HO135.out).2.2 | (with_reducible refine Kd.C_alloc ?_ _) | (with_reducible refine Kd.C_drewN ?_ _) | (with_reducible refine Kd.C_drew ?_))); (case side4 => exact (Kd.R_reads' HO135.out).2.1); rintro e w39 ⟨v137, rfl, ho0, hb⟩; refine ⟨_, rfl, ?_⟩; have n0_ := zk (Kd.R_below (by (with_reducible repeat (first | apply Kd.R_alloc | apply Kd.R_drewN | apply Kd.R_drew)); exact HO132.out) hb); have n1_ := zk (Kd.R_below (by (with_reducible repeat (first | apply Kd.R_alloc | apply Kd.R_drewN | apply Kd.R_drew)); exact HO135.out) hb); have n2_ := zk (Kd.R_lower ho0 (zq (by with_reducible repeat first | exact HB.out | apply zA | apply zN | apply zD))); have n3_ := zk (zs (by with_reducible repeat first | exact HB.out | apply zA | apply zN | apply zD) hb); clear HO132; clear HO135; clear HB; have HO132 := n0_; have HO135 := n1_; have HO138 := n2_; have HB := n3_; clear n0_ n1_ n2_ n3_; (try clear hb); (try clear hb2); (try clear hk); (try clear hi); (try clear ho0); obtain ⟨Ao40, co40, eo40⟩ := Kd.R_slice HO138.out; subst eo40; have p139 : 0 ≤ (0 : Int) := (by omega); have q139 : 0 < (t136.length : Int) := zo (by assumption); obtain ⟨ad139, e139, hx139_0, hx139_1, hx139_2⟩ := at_T31 (Kd.R_reads' HO138.out).2.2 0 p139 q139; cases e139; have qi139 : (0 < t136.length) = True := eq_true (by omega); (try rw [show ((0 : Int)).toNat = 0 from rfl] at hx139_0); (try rw [show 0 * 3 = 0 from rfl] at hx139_0); (try rw [Addr.add_zero'] at hx139_0); (try rw [show ((0 : Int)).toNat = 0 from rfl] at hx139_1); (try rw [show 0 * 3 = 0 from rfl] at hx139_1); (try rw [Addr.add_zero'] at hx139_1); (try rw [show ((0 : Int)).toNat = 0 from rfl] at hx139_2); (try rw [show 0 * 3 = 0 from rfl] at hx139_2); (try rw [Addr.add_zero'] at hx139_2); replace p139 := eq_true p139; replace q139 := eq_true q139; have p140 : 0 ≤ (1 : Int) := (by omega); have q140 : 1 < (t136.length : Int) := zo (by assumption); obtain ⟨ad140, e140, hx140_0, hx140_1, hx140_2⟩ := at_T31 (Kd.R_reads' HO138.out).2.2 1 p140 q140; obtain rfl : ad139 = ad140 := (by injection e140); (try simp only [show (1 : Int).toNat = 1 from rfl, Nat.reduceMul, Nat.reduceEqDiff, Go.Addr.add, ↓reduceIte] at hx140_0); (try simp only [show (1 : Int).toNat = 1 from rfl, Nat.reduceMul, Nat.reduceEqDiff, Go.Addr.add, ↓reduceIte] at hx140_1); (try simp only [show (1 : Int).toNat = 1 from rfl, Nat.reduceMul, Nat.reduceEqDiff, Go.Addr.add, ↓reduceIte] at hx140_2); have qi140 : (1 < t136.length) = True := eq_true (by omega); (try rw [show ((1 : Int)).toNat = 1 from rfl] at hx140_0); (try rw [show 1 * 3 = 3 from rfl] at hx140_0); (try rw [show ((1 : Int)).toNat = 1 from rfl] at hx140_1); (try rw [show 1 * 3 = 3 from rfl] at hx140_1); (try rw [show ((1 : Int)).toNat = 1 from rfl] at hx140_2); (try rw [show 1 * 3 = 3 from rfl] at hx140_2); replace p140 := eq_true p140; replace q140 := eq_true q140; have p141 : 0 ≤ (2 : Int) := (by omega); have q141 : 2 < (t136.length : Int) := zo (by assumption); obtain ⟨ad141, e141, hx141_0, hx141_1, hx141_2⟩ := at_T31 (Kd.R_reads' HO138.out).2.2 2 p141 q141; obtain rfl : ad139 = ad141 := (by injection e141); (try simp only [show (2 : Int).toNat = 2 from rfl, Nat.reduceMul, Nat.reduceEqDiff, Go.Addr.add, ↓reduceIte] at hx141_0); (try simp only [show (2 : Int).toNat = 2 from rfl, Nat.reduceMul, Nat.reduceEqDiff, Go.Addr.add, ↓reduceIte] at hx141_1); (try simp only [show (2 : Int).toNat = 2 from rfl, Nat.reduceMul, Nat.reduceEqDiff, Go.Addr.add, ↓reduceIte] at hx141_2); have qi141 : (2 < t136.length) = True := eq_true (by omega); (try rw [show ((2 : Int)).toNat = 2 from rfl] at hx141_0); (try rw [show 2 * 3 = 6 from rfl] at hx141_0); (try rw [show ((2 : Int)).toNat = 2 from rfl] at hx141_1); (try rw [show 2 * 3 = 6 from rfl] at hx141_1); (try rw [show ((2 : Int)).toNat = 2 from rfl] at hx141_2); (try rw [show 2 * 3 = 6 from rfl] at hx141_2); replace p141 := eq_true p141; replace q141 := eq_true q141))
        go_ret; exact ⟨by first | rfl | (simp [wN, wS] <;> rfl) | (simp [*, wN, wS] <;> rfl), by with_reducible repeat first | exact HB.out | apply zA | apply zN | apply zD⟩
      ·
       rw [if_neg c7] at H; exact absurd H (by simp)
     ·
      rw [if_neg c6] at H; have c6b0 : (((rd_T31 t136 1).f1).toList == ([51] : List UInt8)) = false := beq_eq_false_iff_ne.mpr c6; have c6b1 : (((rd_T31 t136 1).f1).toList != ([51] : List UInt8)) = true := bne_iff_ne.mpr c6; obtain rfl := Option.some.inj H
      go_enter Try.func7, Try.ntmps7
      go_wp2_with (first | ((with_reducible refine zgd (N := 6) rfl ?_); refine Kd.R_lit k43 _ 43 ?hg (N := 6) ?hd (xs := ([(⟨(⟨#[97]⟩ : ByteArray), (⟨#[49]⟩ : ByteArray)⟩ : S43), (⟨(⟨#[98]⟩ : ByteArray), (⟨#[50]⟩ : ByteArray)⟩ : S43)] : List (S43))) (inner := [.string (⟨#[97]⟩ : ByteArray), .string (⟨#[49]⟩ : ByteArray), .string (⟨#[98]⟩ : ByteArray), .string (⟨#[50]⟩ : ByteArray)]) (ok := fun _ => True) (okp := fun _ => True) ?hr ?hp (fun _ hk => hk) trivial (Below.refl _ _) (Nat.le_refl _) (by simp) ?_; (case hd => rfl); (case hg => rfl); (case hr => go_simp; first | done | rfl); (case hp => exact (Reps.c2 (show Kd.M k43 _ _ _ (⟨(⟨#[97]⟩ : ByteArray), (⟨#[49]⟩ : ByteArray)⟩ : S43) [.string (⟨#[97]⟩ : ByteArray), .string (⟨#[49]⟩ : ByteArray)] from (k43_mkM _ _ _ (⟨(⟨#[97]⟩ : ByteArray), (⟨#[49]⟩ : ByteArray)⟩ : S43) )) (Reps.c2 (show Kd.M k43 _ _ _ (⟨(⟨#[98]⟩ : ByteArray), (⟨#[50]⟩ : ByteArray)⟩ : S43) [.string (⟨#[98]⟩ : ByteArray), .string (⟨#[50]⟩ : ByteArray)] from (k43_mkM _ _ _ (⟨(⟨#[98]⟩ : ByteArray), (⟨#[50]⟩ : ByteArray)⟩ : S43) )) (Reps.none _ _)))); intro v131 w41 ho42 hb hg_ hnew_; clear hg_ hnew_; (first | rw [← Ny130.out] at ho42 | (simp only [Int.reduceToNat] at ho42; rw [← Ny130.out] at ho42)); have n0_ := zk (Kd.R_lower ho42 (zq (by with_reducible repeat first | exact HB.out | apply zA | apply zN | apply zD))); have n1_ := zk (zs (by with_reducible repeat first | exact HB.out | apply zA | apply zN | apply zD) hb); clear HB; have HO132 := n0_; have HB := n1_; clear n0_ n1_; clear hb ho42) | ((with_reducible refine zgd (N := 9) rfl ?_); refine Kd.R_lit k43 _ 43 ?hg (N := 9) ?hd (xs := ([(⟨(⟨#[98]⟩ : ByteArray), (⟨#[51]⟩ : ByteArray)⟩ : S43), (⟨(⟨#[99]⟩ : ByteArray), (⟨#[52]⟩ : ByteArray)⟩ : S43)] : List (S43))) (inner := [.string (⟨#[98]⟩ : ByteArray), .string (⟨#[51]⟩ : ByteArray), .string (⟨#[99]⟩ : ByteArray), .string (⟨#[52]⟩ : ByteArray)]) (ok := fun _ => True) (okp := fun _ => True) ?hr ?hp (fun _ hk => hk) trivial (Below.refl _ _) (Nat.le_refl _) (by simp) ?_; (case hd => rfl); (case hg => rfl); (case hr => go_simp; first | done | rfl); (case hp => exact (Reps.c2 (show Kd.M k43 _ _ _ (⟨(⟨#[98]⟩ : ByteArray), (⟨#[51]⟩ : ByteArray)⟩ : S43) [.string (⟨#[98]⟩ : ByteArray), .string (⟨#[51]⟩ : ByteArray)] from (k43_mkM _ _ _ (⟨(⟨#[98]⟩ : ByteArray), (⟨#[51]⟩ : ByteArray)⟩ : S43) )) (Reps.c2 (show Kd.M k43 _ _ _ (⟨(⟨#[99]⟩ : ByteArray), (⟨#[52]⟩ : ByteArray)⟩ : S43) [.string (⟨#[99]⟩ : ByteArray), .string (⟨#[52]⟩ : ByteArray)] from (k43_mkM _ _ _ (⟨(⟨#[99]⟩ : ByteArray), (⟨#[52]⟩ : ByteArray)⟩ : S43) )) (Reps.none _ _)))); intro v134 w43 ho44 hb hg_ hnew_; clear hg_ hnew_; (first | rw [← Ny133.out] at ho44 | (simp only [Int.reduceToNat] at ho44; rw [← Ny133.out] at ho44)); have n0_ := zk (Kd.R_elder' (by (with_reducible repeat (first | apply Kd.R_alloc | apply Kd.R_drewN | apply Kd.R_drew)); exact HO132.out) (Kd.R_base ho44) hb); have n1_ := zk (Kd.R_lower (Kd.R_new' ho44 (Kd.R_lt (by (with_reducible repeat (first | apply Kd.R_alloc | apply Kd.R_drewN | apply Kd.R_drew)); exact HO132.out))) (zq (by with_reducible repeat first | exact HB.out | apply zA | apply zN | apply zD))); have n2_ := zk (zs (by with_reducible repeat first | exact HB.out | apply zA | apply zN | apply zD) hb); clear HO132; clear HB; have HO132 := n0_; have HO135 := n1_; have HB := n2_; clear n0_ n1_ n2_; clear hb ho44; obtain ⟨Ao45, co45, eo45⟩ := Kd.R_slice HO132.out; subst eo45; obtain ⟨Ao46, co46, eo46⟩ := Kd.R_slice HO135.out; subst eo46) | ((with_reducible refine zgk (f := 8) rfl ?_); refine zgl (some 12) rfl rfl Try.func8 (by kernel_rfl) rfl #[.slice Ao45 y130.length co45, .slice Ao46 y133.length co46] rfl (by (try simp only [List.map_toArray, List.map_cons, List.map_nil]); first | done | rfl | (simp only [List.length_drop, List.length_take]; rfl)) ?_; (with_reducible refine (adiff_Of.calls _ _ y130 _ _ y133 t136 _ ?side1 ?side2 ?side3 ?side4 A1.out).mono ?_); (case side1 => repeat (first | exact (Kd.R_reads' HO132.out).2.2 | (with_reducible refine Kd.C_alloc ?_ _) | (with_reducible refine Kd.C_drewN ?_ _) | (with_reducible refine Kd.C_drew ?_))); (case side2 => exact (Kd.R_reads' HO132.out).2.1); (case side3 => repeat (first | exact (Kd.R_reads' HO135.out).2.2 | (with_reducible refine Kd.C_alloc ?_ _) | (with_reducible refine Kd.C_drewN ?_ _) | (with_reducible refine Kd.C_drew ?_))); (case side4 => exact (Kd.R_reads' HO135.out).2.1); rintro e w47 ⟨v137, rfl, ho0, hb⟩; refine ⟨_, rfl, ?_⟩; have n0_ := zk (Kd.R_below (by (with_reducible repeat (first | apply Kd.R_alloc | apply Kd.R_drewN | apply Kd.R_drew)); exact HO132.out) hb); have n1_ := zk (Kd.R_below (by (with_reducible repeat (first | apply Kd.R_alloc | apply Kd.R_drewN | apply Kd.R_drew)); exact HO135.out) hb); have n2_ := zk (Kd.R_lower ho0 (zq (by with_reducible repeat first | exact HB.out | apply zA | apply zN | apply zD))); have n3_ := zk (zs (by with_reducible repeat first | exact HB.out | apply zA | apply zN | apply zD) hb); clear HO132; clear HO135; clear HB; have HO132 := n0_; have HO135 := n1_; have HO138 := n2_; have HB := n3_; clear n0_ n1_ n2_ n3_; (try clear hb); (try clear hb2); (try clear hk); (try clear hi); (try clear ho0); obtain ⟨Ao48, co48, eo48⟩ := Kd.R_slice HO138.out; subst eo48; have p139 : 0 ≤ (0 : Int) := (by omega); have q139 : 0 < (t136.length : Int) := zo (by assumption); obtain ⟨ad139, e139, hx139_0, hx139_1, hx139_2⟩ := at_T31 (Kd.R_reads' HO138.out).2.2 0 p139 q139; cases e139; have qi139 : (0 < t136.length) = True := eq_true (by omega); (try rw [show ((0 : Int)).toNat = 0 from rfl] at hx139_0); (try rw [show 0 * 3 = 0 from rfl] at hx139_0); (try rw [Addr.add_zero'] at hx139_0); (try rw [show ((0 : Int)).toNat = 0 from rfl] at hx139_1); (try rw [show 0 * 3 = 0 from rfl] at hx139_1); (try rw [Addr.add_zero'] at hx139_1); (try rw [show ((0 : Int)).toNat = 0 from rfl] at hx139_2); (try rw [show 0 * 3 = 0 from rfl] at hx139_2); (try rw [Addr.add_zero'] at hx139_2); replace p139 := eq_true p139; replace q139 := eq_true q139; have p140 : 0 ≤ (1 : Int) := (by omega); have q140 : 1 < (t136.length : Int) := zo (by assumption); obtain ⟨ad140, e140, hx140_0, hx140_1, hx140_2⟩ := at_T31 (Kd.R_reads' HO138.out).2.2 1 p140 q140; obtain rfl : ad139 = ad140 := (by injection e140); (try simp only [show (1 : Int).toNat = 1 from rfl, Nat.reduceMul, Nat.reduceEqDiff, Go.Addr.add, ↓reduceIte] at hx140_0); (try simp only [show (1 : Int).toNat = 1 from rfl, Nat.reduceMul, Nat.reduceEqDiff, Go.Addr.add, ↓reduceIte] at hx140_1); (try simp only [show (1 : Int).toNat = 1 from rfl, Nat.reduceMul, Nat.reduceEqDiff, Go.Addr.add, ↓reduceIte] at hx140_2); have qi140 : (1 < t136.length) = True := eq_true (by omega); (try rw [show ((1 : Int)).toNat = 1 from rfl] at hx140_0); (try rw [show 1 * 3 = 3 from rfl] at hx140_0); (try rw [show ((1 : Int)).toNat = 1 from rfl] at hx140_1); (try rw [show 1 * 3 = 3 from rfl] at hx140_1); (try rw [show ((1 : Int)).toNat = 1 from rfl] at hx140_2); (try rw [show 1 * 3 = 3 from rfl] at hx140_2); replace p140 := eq_true p140; replace q140 := eq_true q140))
      go_ret; exact ⟨by first | rfl | (simp [wN, wS] <;> rfl) | (simp [*, wN, wS] <;> rfl), by with_reducible repeat first | exact HB.out | apply zA | apply zN | apply zD⟩
    ·
     rw [if_neg c5] at H; exact absurd H (by simp)
   ·
    rw [if_neg c4] at H
    have c4b0 : ((((rd_T31 t136 0).f0).toList) == ([97] : List UInt8) && ((((rd_T31 t136 0).f1).toList) == ([] : List UInt8) && (((rd_T31 t136 0).f2)))) = false := by simpa using c4
    have c4b9 : (((rd_T31 t136 0).f0).toList == ([97] : List UInt8) && (((rd_T31 t136 0).f1).toList.isEmpty && ((rd_T31 t136 0).f2))) = false := by simpa using c4b0
    (try (have c4b1 : decide ((((rd_T31 t136 0).f0).toList) = ([97] : List UInt8) && ((((rd_T31 t136 0).f1).toList) == ([] : List UInt8) && (((rd_T31 t136 0).f2)))) = false := by simpa using c4))
    (try (have c4b2 : ((((rd_T31 t136 0).f0).toList) == ([97] : List UInt8) && ((((rd_T31 t136 0).f1).toList) == ([] : List UInt8) && (((rd_T31 t136 0).f2)))) = false := by simpa using c4))
    (try (have c4b3 : ¬ ((((rd_T31 t136 0).f0).toList) = ([97] : List UInt8) && ((((rd_T31 t136 0).f1).toList) == ([] : List UInt8) && (((rd_T31 t136 0).f2)))) := by simpa using c4))
    clear c4; obtain rfl := Option.some.inj H
    go_enter Try.func7, Try.ntmps7
    go_wp2_with (first | ((with_reducible refine zgd (N := 6) rfl ?_); refine Kd.R_lit k43 _ 43 ?hg (N := 6) ?hd (xs := ([(⟨(⟨#[97]⟩ : ByteArray), (⟨#[49]⟩ : ByteArray)⟩ : S43), (⟨(⟨#[98]⟩ : ByteArray), (⟨#[50]⟩ : ByteArray)⟩ : S43)] : List (S43))) (inner := [.string (⟨#[97]⟩ : ByteArray), .string (⟨#[49]⟩ : ByteArray), .string (⟨#[98]⟩ : ByteArray), .string (⟨#[50]⟩ : ByteArray)]) (ok := fun _ => True) (okp := fun _ => True) ?hr ?hp (fun _ hk => hk) trivial (Below.refl _ _) (Nat.le_refl _) (by simp) ?_; (case hd => rfl); (case hg => rfl); (case hr => go_simp; first | done | rfl); (case hp => exact (Reps.c2 (show Kd.M k43 _ _ _ (⟨(⟨#[97]⟩ : ByteArray), (⟨#[49]⟩ : ByteArray)⟩ : S43) [.string (⟨#[97]⟩ : ByteArray), .string (⟨#[49]⟩ : ByteArray)] from (k43_mkM _ _ _ (⟨(⟨#[97]⟩ : ByteArray), (⟨#[49]⟩ : ByteArray)⟩ : S43) )) (Reps.c2 (show Kd.M k43 _ _ _ (⟨(⟨#[98]⟩ : ByteArray), (⟨#[50]⟩ : ByteArray)⟩ : S43) [.string (⟨#[98]⟩ : ByteArray), .string (⟨#[50]⟩ : ByteArray)] from (k43_mkM _ _ _ (⟨(⟨#[98]⟩ : ByteArray), (⟨#[50]⟩ : ByteArray)⟩ : S43) )) (Reps.none _ _)))); intro v131 w49 ho50 hb hg_ hnew_; clear hg_ hnew_; (first | rw [← Ny130.out] at ho50 | (simp only [Int.reduceToNat] at ho50; rw [← Ny130.out] at ho50)); have n0_ := zk (Kd.R_lower ho50 (zq (by with_reducible repeat first | exact HB.out | apply zA | apply zN | apply zD))); have n1_ := zk (zs (by with_reducible repeat first | exact HB.out | apply zA | apply zN | apply zD) hb); clear HB; have HO132 := n0_; have HB := n1_; clear n0_ n1_; clear hb ho50) | ((with_reducible refine zgd (N := 9) rfl ?_); refine Kd.R_lit k43 _ 43 ?hg (N := 9) ?hd (xs := ([(⟨(⟨#[98]⟩ : ByteArray), (⟨#[51]⟩ : ByteArray)⟩ : S43), (⟨(⟨#[99]⟩ : ByteArray), (⟨#[52]⟩ : ByteArray)⟩ : S43)] : List (S43))) (inner := [.string (⟨#[98]⟩ : ByteArray), .string (⟨#[51]⟩ : ByteArray), .string (⟨#[99]⟩ : ByteArray), .string (⟨#[52]⟩ : ByteArray)]) (ok := fun _ => True) (okp := fun _ => True) ?hr ?hp (fun _ hk => hk) trivial (Below.refl _ _) (Nat.le_refl _) (by simp) ?_; (case hd => rfl); (case hg => rfl); (case hr => go_simp; first | done | rfl); (case hp => exact (Reps.c2 (show Kd.M k43 _ _ _ (⟨(⟨#[98]⟩ : ByteArray), (⟨#[51]⟩ : ByteArray)⟩ : S43) [.string (⟨#[98]⟩ : ByteArray), .string (⟨#[51]⟩ : ByteArray)] from (k43_mkM _ _ _ (⟨(⟨#[98]⟩ : ByteArray), (⟨#[51]⟩ : ByteArray)⟩ : S43) )) (Reps.c2 (show Kd.M k43 _ _ _ (⟨(⟨#[99]⟩ : ByteArray), (⟨#[52]⟩ : ByteArray)⟩ : S43) [.string (⟨#[99]⟩ : ByteArray), .string (⟨#[52]⟩ : ByteArray)] from (k43_mkM _ _ _ (⟨(⟨#[99]⟩ : ByteArray), (⟨#[52]⟩ : ByteArray)⟩ : S43) )) (Reps.none _ _)))); intro v134 w51 ho52 hb hg_ hnew_; clear hg_ hnew_; (first | rw [← Ny133.out] at ho52 | (simp only [Int.reduceToNat] at ho52; rw [← Ny133.out] at ho52)); have n0_ := zk (Kd.R_elder' (by (with_reducible repeat (first | apply Kd.R_alloc | apply Kd.R_drewN | apply Kd.R_drew)); exact HO132.out) (Kd.R_base ho52) hb); have n1_ := zk (Kd.R_lower (Kd.R_new' ho52 (Kd.R_lt (by (with_reducible repeat (first | apply Kd.R_alloc | apply Kd.R_drewN | apply Kd.R_drew)); exact HO132.out))) (zq (by with_reducible repeat first | exact HB.out | apply zA | apply zN | apply zD))); have n2_ := zk (zs (by with_reducible repeat first | exact HB.out | apply zA | apply zN | apply zD) hb); clear HO132; clear HB; have HO132 := n0_; have HO135 := n1_; have HB := n2_; clear n0_ n1_ n2_; clear hb ho52; obtain ⟨Ao53, co53, eo53⟩ := Kd.R_slice HO132.out; subst eo53; obtain ⟨Ao54, co54, eo54⟩ := Kd.R_slice HO135.out; subst eo54) | ((with_reducible refine zgk (f := 8) rfl ?_); refine zgl (some 12) rfl rfl Try.func8 (by kernel_rfl) rfl #[.slice Ao53 y130.length co53, .slice Ao54 y133.length co54] rfl (by (try simp only [List.map_toArray, List.map_cons, List.map_nil]); first | done | rfl | (simp only [List.length_drop, List.length_take]; rfl)) ?_; (with_reducible refine (adiff_Of.calls _ _ y130 _ _ y133 t136 _ ?side1 ?side2 ?side3 ?side4 A1.out).mono ?_); (case side1 => repeat (first | exact (Kd.R_reads' HO132.out).2.2 | (with_reducible refine Kd.C_alloc ?_ _) | (with_reducible refine Kd.C_drewN ?_ _) | (with_reducible refine Kd.C_drew ?_))); (case side2 => exact (Kd.R_reads' HO132.out).2.1); (case side3 => repeat (first | exact (Kd.R_reads' HO135.out).2.2 | (with_reducible refine Kd.C_alloc ?_ _) | (with_reducible refine Kd.C_drewN ?_ _) | (with_reducible refine Kd.C_drew ?_))); (case side4 => exact (Kd.R_reads' HO135.out).2.1); rintro e w55 ⟨v137, rfl, ho0, hb⟩; refine ⟨_, rfl, ?_⟩; have n0_ := zk (Kd.R_below (by (with_reducible repeat (first | apply Kd.R_alloc | apply Kd.R_drewN | apply Kd.R_drew)); exact HO132.out) hb); have n1_ := zk (Kd.R_below (by (with_reducible repeat (first | apply Kd.R_alloc | apply Kd.R_drewN | apply Kd.R_drew)); exact HO135.out) hb); have n2_ := zk (Kd.R_lower ho0 (zq (by with_reducible repeat first | exact HB.out | apply zA | apply zN | apply zD))); have n3_ := zk (zs (by with_reducible repeat first | exact HB.out | apply zA | apply zN | apply zD) hb); clear HO132; clear HO135; clear HB; have HO132 := n0_; have HO135 := n1_; have HO138 := n2_; have HB := n3_; clear n0_ n1_ n2_ n3_; (try clear hb); (try clear hb2); (try clear hk); (try clear hi); (try clear ho0); obtain ⟨Ao56, co56, eo56⟩ := Kd.R_slice HO138.out; subst eo56; have p139 : 0 ≤ (0 : Int) := (by omega); have q139 : 0 < (t136.length : Int) := zo (by assumption); obtain ⟨ad139, e139, hx139_0, hx139_1, hx139_2⟩ := at_T31 (Kd.R_reads' HO138.out).2.2 0 p139 q139; cases e139; have qi139 : (0 < t136.length) = True := eq_true (by omega); (try rw [show ((0 : Int)).toNat = 0 from rfl] at hx139_0); (try rw [show 0 * 3 = 0 from rfl] at hx139_0); (try rw [Addr.add_zero'] at hx139_0); (try rw [show ((0 : Int)).toNat = 0 from rfl] at hx139_1); (try rw [show 0 * 3 = 0 from rfl] at hx139_1); (try rw [Addr.add_zero'] at hx139_1); (try rw [show ((0 : Int)).toNat = 0 from rfl] at hx139_2); (try rw [show 0 * 3 = 0 from rfl] at hx139_2); (try rw [Addr.add_zero'] at hx139_2); replace p139 := eq_true p139; replace q139 := eq_true q139))
    go_ret; exact ⟨by first | rfl | (simp [wN, wS] <;> rfl) | (simp [*, wN, wS] <;> rfl), by with_reducible repeat first | exact HB.out | apply zA | apply zN | apply zD⟩
  ·
   rw [if_neg c3] at H; exact absurd H (by simp)
 ·
  rw [if_neg c2] at H; have c2b0 := beq_eq_false_iff_ne.mpr c2; have c2b1 := bne_iff_ne.mpr c2; obtain rfl := Option.some.inj H
  go_enter Try.func7, Try.ntmps7
  go_wp2_with (first | ((with_reducible refine zgd (N := 6) rfl ?_); refine Kd.R_lit k43 _ 43 ?hg (N := 6) ?hd (xs := ([(⟨(⟨#[97]⟩ : ByteArray), (⟨#[49]⟩ : ByteArray)⟩ : S43), (⟨(⟨#[98]⟩ : ByteArray), (⟨#[50]⟩ : ByteArray)⟩ : S43)] : List (S43))) (inner := [.string (⟨#[97]⟩ : ByteArray), .string (⟨#[49]⟩ : ByteArray), .string (⟨#[98]⟩ : ByteArray), .string (⟨#[50]⟩ : ByteArray)]) (ok := fun _ => True) (okp := fun _ => True) ?hr ?hp (fun _ hk => hk) trivial (Below.refl _ _) (Nat.le_refl _) (by simp) ?_; (case hd => rfl); (case hg => rfl); (case hr => go_simp; first | done | rfl); (case hp => exact (Reps.c2 (show Kd.M k43 _ _ _ (⟨(⟨#[97]⟩ : ByteArray), (⟨#[49]⟩ : ByteArray)⟩ : S43) [.string (⟨#[97]⟩ : ByteArray), .string (⟨#[49]⟩ : ByteArray)] from (k43_mkM _ _ _ (⟨(⟨#[97]⟩ : ByteArray), (⟨#[49]⟩ : ByteArray)⟩ : S43) )) (Reps.c2 (show Kd.M k43 _ _ _ (⟨(⟨#[98]⟩ : ByteArray), (⟨#[50]⟩ : ByteArray)⟩ : S43) [.string (⟨#[98]⟩ : ByteArray), .string (⟨#[50]⟩ : ByteArray)] from (k43_mkM _ _ _ (⟨(⟨#[98]⟩ : ByteArray), (⟨#[50]⟩ : ByteArray)⟩ : S43) )) (Reps.none _ _)))); intro v131 w57 ho58 hb hg_ hnew_; clear hg_ hnew_; (first | rw [← Ny130.out] at ho58 | (simp only [Int.reduceToNat] at ho58; rw [← Ny130.out] at ho58)); have n0_ := zk (Kd.R_lower ho58 (zq (by with_reducible repeat first | exact HB.out | apply zA | apply zN | apply zD))); have n1_ := zk (zs (by with_reducible repeat first | exact HB.out | apply zA | apply zN | apply zD) hb); clear HB; have HO132 := n0_; have HB := n1_; clear n0_ n1_; clear hb ho58) | ((with_reducible refine zgd (N := 9) rfl ?_); refine Kd.R_lit k43 _ 43 ?hg (N := 9) ?hd (xs := ([(⟨(⟨#[98]⟩ : ByteArray), (⟨#[51]⟩ : ByteArray)⟩ : S43), (⟨(⟨#[99]⟩ : ByteArray), (⟨#[52]⟩ : ByteArray)⟩ : S43)] : List (S43))) (inner := [.string (⟨#[98]⟩ : ByteArray), .string (⟨#[51]⟩ : ByteArray), .string (⟨#[99]⟩ : ByteArray), .string (⟨#[52]⟩ : ByteArray)]) (ok := fun _ => True) (okp := fun _ => True) ?hr ?hp (fun _ hk => hk) trivial (Below.refl _ _) (Nat.le_refl _) (by simp) ?_; (case hd => rfl); (case hg => rfl); (case hr => go_simp; first | done | rfl); (case hp => exact (Reps.c2 (show Kd.M k43 _ _ _ (⟨(⟨#[98]⟩ : ByteArray), (⟨#[51]⟩ : ByteArray)⟩ : S43) [.string (⟨#[98]⟩ : ByteArray), .string (⟨#[51]⟩ : ByteArray)] from (k43_mkM _ _ _ (⟨(⟨#[98]⟩ : ByteArray), (⟨#[51]⟩ : ByteArray)⟩ : S43) )) (Reps.c2 (show Kd.M k43 _ _ _ (⟨(⟨#[99]⟩ : ByteArray), (⟨#[52]⟩ : ByteArray)⟩ : S43) [.string (⟨#[99]⟩ : ByteArray), .string (⟨#[52]⟩ : ByteArray)] from (k43_mkM _ _ _ (⟨(⟨#[99]⟩ : ByteArray), (⟨#[52]⟩ : ByteArray)⟩ : S43) )) (Reps.none _ _)))); intro v134 w59 ho60 hb hg_ hnew_; clear hg_ hnew_; (first | rw [← Ny133.out] at ho60 | (simp only [Int.reduceToNat] at ho60; rw [← Ny133.out] at ho60)); have n0_ := zk (Kd.R_elder' (by (with_reducible repeat (first | apply Kd.R_alloc | apply Kd.R_drewN | apply Kd.R_drew)); exact HO132.out) (Kd.R_base ho60) hb); have n1_ := zk (Kd.R_lower (Kd.R_new' ho60 (Kd.R_lt (by (with_reducible repeat (first | apply Kd.R_alloc | apply Kd.R_drewN | apply Kd.R_drew)); exact HO132.out))) (zq (by with_reducible repeat first | exact HB.out | apply zA | apply zN | apply zD))); have n2_ := zk (zs (by with_reducible repeat first | exact HB.out | apply zA | apply zN | apply zD) hb); clear HO132; clear HB; have HO132 := n0_; have HO135 := n1_; have HB := n2_; clear n0_ n1_ n2_; clear hb ho60; obtain ⟨Ao61, co61, eo61⟩ := Kd.R_slice HO132.out; subst eo61; obtain ⟨Ao62, co62, eo62⟩ := Kd.R_slice HO135.out; subst eo62) | ((with_reducible refine zgk (f := 8) rfl ?_); refine zgl (some 12) rfl rfl Try.func8 (by kernel_rfl) rfl #[.slice Ao61 y130.length co61, .slice Ao62 y133.length co62] rfl (by (try simp only [List.map_toArray, List.map_cons, List.map_nil]); first | done | rfl | (simp only [List.length_drop, List.length_take]; rfl)) ?_; (with_reducible refine (adiff_Of.calls _ _ y130 _ _ y133 t136 _ ?side1 ?side2 ?side3 ?side4 A1.out).mono ?_); (case side1 => repeat (first | exact (Kd.R_reads' HO132.out).2.2 | (with_reducible refine Kd.C_alloc ?_ _) | (with_reducible refine Kd.C_drewN ?_ _) | (with_reducible refine Kd.C_drew ?_))); (case side2 => exact (Kd.R_reads' HO132.out).2.1); (case side3 => repeat (first | exact (Kd.R_reads' HO135.out).2.2 | (with_reducible refine Kd.C_alloc ?_ _) | (with_reducible refine Kd.C_drewN ?_ _) | (with_reducible refine Kd.C_drew ?_))); (case side4 => exact (Kd.R_reads' HO135.out).2.1); rintro e w63 ⟨v137, rfl, ho0, hb⟩; refine ⟨_, rfl, ?_⟩; have n0_ := zk (Kd.R_below (by (with_reducible repeat (first | apply Kd.R_alloc | apply Kd.R_drewN | apply Kd.R_drew)); exact HO132.out) hb); have n1_ := zk (Kd.R_below (by (with_reducible repeat (first | apply Kd.R_alloc | apply Kd.R_drewN | apply Kd.R_drew)); exact HO135.out) hb); have n2_ := zk (Kd.R_lower ho0 (zq (by with_reducible repeat first | exact HB.out | apply zA | apply zN | apply zD))); have n3_ := zk (zs (by with_reducible repeat first | exact HB.out | apply zA | apply zN | apply zD) hb); clear HO132; clear HO135; clear HB; have HO132 := n0_; have HO135 := n1_; have HO138 := n2_; have HB := n3_; clear n0_ n1_ n2_ n3_; (try clear hb); (try clear hb2); (try clear hk); (try clear hi); (try clear ho0); obtain ⟨Ao64, co64, eo64⟩ := Kd.R_slice HO138.out; subst eo64))
  go_ret; exact ⟨by first | rfl | (simp [wN, wS] <;> rfl) | (simp [*, wN, wS] <;> rfl), by with_reducible repeat first | exact HB.out | apply zA | apply zN | apply zD⟩
def r09_Find.l0 : Nat → List (S43) → ByteArray → Int → Int → Option (Int)
  | 0, _, _, _, _ => none
  | k + 1, x0, x1, x7, x8 => if x8 < x7 then (if 0 ≤ x8 then (if x8 < (x0.length : Int) then (if ((rd_T43 x0 x8).f0).toList = x1.toList then (some x8) else (r09_Find.l0 k x0 x1 x7 (wrap64 (x8 + 1)))) else (none)) else (none)) else (some (-1))
def r09_Find.f (k : Nat) (l0 : List (S43)) (a1 : ByteArray) : Option (Int) := r09_Find.l0 k l0 a1 (l0.length : Int) 0
set_option maxHeartbeats 8000000 in
set_option maxRecDepth 100000 in
theorem r09_Find.calls (k : Nat) (A0 : Option Addr) (c0 : Nat) (l0 : List (S43)) (a1 : ByteArray) (r : Int) (w : World) (hr0 : Kd.C k43 w A0 l0.length l0) (hc0 : l0.length ≤ c0) (h : r09_Find.f k l0 a1 = some r) :
    Calls Try.prog 26 #[.slice A0 l0.length c0, .string a1] w fun e w' => e = .returned (.int .i64 r) ∧ Drawn0 w w' := by
  have HR0 := zk hr0; have HC0 := zk hc0; clear hr0 hc0; have H : (r09_Find.l0 k l0 a1 (l0.length : Int) 0) = some r := h; clear h; have H' := zk H; clear H
  go_enter Try.func26, Try.ntmps26
  go_wp2
  go_loopg [8] k (fun kq v8 w' => ∃ (x8_1 : Int), v8 = .int .i64 x8_1 ∧ Aside0 (r09_Find.l0 kq l0 a1 (l0.length : Int) x8_1 = some r) ∧ Aside0 (kq ≤ k) ∧ Drawn0 w w')
  case atStart => exact ⟨(0), (by first | rfl | (simp; done) | (simp [*]; done)), H', ⟨Nat.le_refl _⟩, by repeat (first | exact Drawn0.refl _ | apply Drawn0.step)⟩
  case round =>
    clear H'; (try clear c2); (try clear p2); obtain ⟨x8_1, rfl, HA, HK1, ⟨m1, rfl⟩⟩ := hrel
    cases gk with
    | zero => exact absurd HA.out (by simp [r09_Find.l0])
    | succ k1 =>
      have H := HA.out; clear HA; simp only [r09_Find.l0] at H
      by_cases c3 : x8_1 < (l0.length : Int)
      · rw [if_pos c3] at H
        have c3b0 : decide (x8_1 < (l0.length : Int)) = true := decide_eq_true c3
        clear c3
        by_cases c4 : 0 ≤ x8_1
        · rw [if_pos c4] at H
          have c4b0 : decide (0 ≤ x8_1) = true := decide_eq_true c4
          clear c4
          by_cases c5 : x8_1 < (l0.length : Int)
          · rw [if_pos c5] at H
            have c5b0 : decide (x8_1 < (l0.length : Int)) = true := decide_eq_true c5
            clear c5
            by_cases c6 : ((rd_T43 l0 x8_1).f0).toList = a1.toList
            · rw [if_pos c6] at H
              have c6b0 : (((rd_T43 l0 x8_1).f0).toList == a1.toList) = true := beq_iff_eq.mpr c6
              have c6b1 : (((rd_T43 l0 x8_1).f0).toList != a1.toList) = false := bne_eq_false_iff_eq.mpr c6
              clear c6
              obtain rfl := Option.some.inj H
              have p147 : 0 ≤ (x8_1 : Int) := zo (by assumption)
              have q147 : x8_1 < (l0.length : Int) := zo (by assumption)
              obtain ⟨ad147, e147, hx147_0, hx147_1⟩ := at_T43 HR0.out x8_1 p147 q147
              cases e147
              replace p147 := eq_true p147
              replace q147 := eq_true q147
              go_wp2
              go_ret
              exact ⟨by first | rfl | (simp; done) | (simp [*]; done), by repeat (first | exact Drawn0.refl _ | apply Drawn0.step)⟩
            · rw [if_neg c6] at H
              have c6b0 : (((rd_T43 l0 x8_1).f0).toList == a1.toList) = false := beq_eq_false_iff_ne.mpr c6
              have c6b1 : (((rd_T43 l0 x8_1).f0).toList != a1.toList) = true := bne_iff_ne.mpr c6
              have H' := zk H
              clear H
              have p147 : 0 ≤ (x8_1 : Int) := zo (by assumption)
              have q147 : x8_1 < (l0.length : Int) := zo (by assumption)
              obtain ⟨ad147, e147, hx147_0, hx147_1⟩ := at_T43 HR0.out x8_1 p147 q147
              cases e147
              replace p147 := eq_true p147
              replace q147 := eq_true q147
              go_wp2
              go_roundg k1
              case measure => have := HK1.out; omega
              case rel => exact ⟨(wrap64 (x8_1 + 1)), (by first | rfl | (simp; done) | (simp [*]; done)), H', ⟨by have := HK1.out; omega⟩, by repeat (first | exact Drawn0.refl _ | apply Drawn0.step)⟩
          · rw [if_neg c5] at H
            exact absurd H (by simp)
        · rw [if_neg c4] at H
          exact absurd H (by simp)
      · rw [if_neg c3] at H
        have c3b0 : decide (x8_1 < (l0.length : Int)) = false := decide_eq_false c3; clear c3; obtain rfl := Option.some.inj H; go_wp2; go_ret; exact ⟨by first | rfl | (simp; done) | (simp [*]; done), by repeat (first | exact Drawn0.refl _ | apply Drawn0.step)⟩
mutual
def r02_Compare.l0 : Nat → ByteArray → ByteArray → Int → Option (Int)
  | 0, _, _, _ => none
  | k + 1, x0, x1, x5 => if x5 < (x0.size : Int) then (r02_Compare.j1 k x0 x1 x5 (decide (x5 < (x1.size : Int)))) else (r02_Compare.j1 k x0 x1 x5 false)
def r02_Compare.j1 : Nat → ByteArray → ByteArray → Int → Bool → Option (Int)
  | 0, _, _, _, _ => none
  | k + 1, x0, x1, x5, x15 => if x15 = true then (if 0 ≤ x5 then (if x5 < (x0.size : Int) then (if x5 < (x1.size : Int) then (if (bt x0 x5) < (bt x1 x5) then (some (-1)) else (if (bt x0 x5) > (bt x1 x5) then (some 1) else (r02_Compare.l0 k x0 x1 (wrap64 (x5 + 1))))) else (none)) else (none)) else (none)) else (if (x0.size : Int) < (x1.size : Int) then (some (-1)) else (if (x0.size : Int) > (x1.size : Int) then (some 1) else (some 0)))
end
def r02_Compare.f (k : Nat) (a0 : ByteArray) (a1 : ByteArray) : Option (Int) := r02_Compare.l0 k a0 a1 0
set_option maxHeartbeats 8000000 in
set_option maxRecDepth 100000 in
theorem r02_Compare.calls (k : Nat) (a0 : ByteArray) (a1 : ByteArray) (r : Int) (w : World) (h : r02_Compare.f k a0 a1 = some r) :
    Calls Try.prog 27 #[.string a0, .string a1] w fun e w' => e = .returned (.int .i64 r) ∧ Drawn0 w w' := by
  have H : (r02_Compare.l0 k a0 a1 0) = some r := h; clear h; have H' := zk H; clear H
  go_enter Try.func27, Try.ntmps27
  go_wp2
  repeat (go_quiet (fail); try go_wp2)
  go_loopg [5] k (fun kq v5 w' => ∃ (x5_1 : Int), v5 = .int .i64 x5_1 ∧ Aside0 (r02_Compare.l0 kq a0 a1 x5_1 = some r) ∧ Aside0 (kq ≤ k) ∧ Drawn0 w w')
  case atStart => exact ⟨(0), (by first | rfl | (simp; done) | (simp [*]; done)), H', ⟨Nat.le_refl _⟩, by repeat (first | exact Drawn0.refl _ | apply Drawn0.step)⟩
  case round =>
    clear H'; (try clear c2); (try clear p2); obtain ⟨x5_1, rfl, HA, HK1, ⟨m1, rfl⟩⟩ := hrel
    cases gk with
    | zero => exact absurd HA.out (by simp [r02_Compare.l0])
    | succ k1 =>
      have H := HA.out; clear HA; simp only [r02_Compare.l0] at H; have HC3 := zk H; clear H
      go_upto_region 2 with (fail)
      repeat (go_quiet (fail); go_upto_region 2 with (fail))
      go_cut [15] (fun v15 wc => ∃ (kq : Nat) (x15_2 : Bool), v15 = .bool x15_2 ∧ Aside0 (r02_Compare.j1 kq a0 a1 x5_1 x15_2 = some r) ∧ Aside0 (kq ≤ k1) ∧ Drawn0 w wc)
      case first =>
        have H := HC3.out; clear HC3
        by_cases c4 : x5_1 < (a0.size : Int)
        · rw [if_pos c4] at H
          have c4b0 : decide (x5_1 < (a0.size : Int)) = true := decide_eq_true c4
          clear c4
          (first | rw [c4b0] | (simp only [i64_w, i32_w]; rw [c4b0]) | skip)
          have H' := zk H
          clear H
          go_wp2
          repeat (go_quiet (fail); try go_wp2)
          go_meet
          case rel => exact ⟨_, (decide (x5_1 < (a1.size : Int))), (by first | rfl | (simp; done) | (simp [*]; done)), H', ⟨by have := HK1.out; first | omega | exact Nat.le_refl _⟩, by repeat (first | exact Drawn0.refl _ | apply Drawn0.step)⟩
        · rw [if_neg c4] at H
          have c4b0 : decide (x5_1 < (a0.size : Int)) = false := decide_eq_false c4
          clear c4
          (first | rw [c4b0] | (simp only [i64_w, i32_w]; rw [c4b0]) | skip)
          have H' := zk H
          clear H
          go_wp2
          repeat (go_quiet (fail); try go_wp2)
          go_meet
          case rel => exact ⟨_, (false), (by first | rfl | (simp; done) | (simp [*]; done)), H', ⟨by have := HK1.out; first | omega | exact Nat.le_refl _⟩, by repeat (first | exact Drawn0.refl _ | apply Drawn0.step)⟩
      case rest =>
        clear HC3; (try clear c2); (try clear p2); (try clear c4); (try clear c4b0); (try clear p2); obtain ⟨kq, x15_2, rfl, HA, HJ2, ⟨mc2, rfl⟩⟩ := hcut
        cases kq with
        | zero => exact absurd HA.out (by simp [r02_Compare.j1])
        | succ kj2 =>
          have H := HA.out; clear HA; simp only [r02_Compare.j1] at H
          by_cases c5 : x15_2 = true
          · subst c5
            have H1 : (if 0 ≤ x5_1 then (if x5_1 < (a0.size : Int) then (if x5_1 < (a1.size : Int) then (if (bt a0 x5_1) < (bt a1 x5_1) then (some (-1)) else (if (bt a0 x5_1) > (bt a1 x5_1) then (some 1) else (r02_Compare.l0 kj2 a0 a1 (wrap64 (x5_1 + 1))))) else (none)) else (none)) else (none)) = some r := by rw [if_pos rfl] at H; exact H
            clear H
            have H := H1
            clear H1
            by_cases c6 : 0 ≤ x5_1
            · rw [if_pos c6] at H
              have c6b0 : decide (0 ≤ x5_1) = true := decide_eq_true c6
              clear c6
              by_cases c7 : x5_1 < (a0.size : Int)
              · rw [if_pos c7] at H
                have c7b0 : decide (x5_1 < (a0.size : Int)) = true := decide_eq_true c7
                clear c7
                by_cases c9 : x5_1 < (a1.size : Int)
                · rw [if_pos c9] at H
                  have c9b0 : decide (x5_1 < (a1.size : Int)) = true := decide_eq_true c9
                  clear c9
                  by_cases c11 : (bt a0 x5_1) < (bt a1 x5_1)
                  · rw [if_pos c11] at H
                    have c11b0 := decide_eq_true c11
                    clear c11
                    obtain rfl := Option.some.inj H
                    have p8 : 0 ≤ (x5_1 : Int) := zo (by assumption)
                    have q8 : x5_1 < (a0.size : Int) := zo (by assumption)
                    have hx8 := bt_at a0 x5_1
                    replace p8 := eq_true p8
                    replace q8 := eq_true q8
                    have p10 : 0 ≤ (x5_1 : Int) := zo (by assumption)
                    have q10 : x5_1 < (a1.size : Int) := zo (by assumption)
                    have hx10 := bt_at a1 x5_1
                    replace p10 := eq_true p10
                    replace q10 := eq_true q10
                    go_wp2
                    repeat (go_quiet (fail); try go_wp2)
                    go_ret
                    exact ⟨by first | rfl | (simp; done) | (simp [*]; done), by repeat (first | exact Drawn0.refl _ | apply Drawn0.step)⟩
                  · rw [if_neg c11] at H
                    have c11b0 := decide_eq_false c11
                    clear c11
                    by_cases c14 : (bt a0 x5_1) > (bt a1 x5_1)
                    · rw [if_pos c14] at H
                      have c14b0 : decide ((bt a1 x5_1) < (bt a0 x5_1)) = true := decide_eq_true c14
                      clear c14
                      obtain rfl := Option.some.inj H
                      have p8 : 0 ≤ (x5_1 : Int) := zo (by assumption)
                      have q8 : x5_1 < (a0.size : Int) := zo (by assumption)
                      have hx8 := bt_at a0 x5_1
                      replace p8 := eq_true p8
                      replace q8 := eq_true q8
                      have p10 : 0 ≤ (x5_1 : Int) := zo (by assumption)
                      have q10 : x5_1 < (a1.size : Int) := zo (by assumption)
                      have hx10 := bt_at a1 x5_1
                      replace p10 := eq_true p10
                      replace q10 := eq_true q10
                      have p12 : 0 ≤ (x5_1 : Int) := zo (by assumption)
                      have q12 : x5_1 < (a0.size : Int) := zo (by assumption)
                      have hx12 := bt_at a0 x5_1
                      replace p12 := eq_true p12
                      replace q12 := eq_true q12
                      have p13 : 0 ≤ (x5_1 : Int) := zo (by assumption)
                      have q13 : x5_1 < (a1.size : Int) := zo (by assumption)
                      have hx13 := bt_at a1 x5_1
                      replace p13 := eq_true p13
                      replace q13 := eq_true q13
                      go_wp2
                      repeat (go_quiet (fail); try go_wp2)
                      go_ret
                      exact ⟨by first | rfl | (simp; done) | (simp [*]; done), by repeat (first | exact Drawn0.refl _ | apply Drawn0.step)⟩
                    · rw [if_neg c14] at H
                      have c14b0 : decide ((bt a1 x5_1) < (bt a0 x5_1)) = false := decide_eq_false c14
                      clear c14
                      have H' := zk H
                      clear H
                      have p8 : 0 ≤ (x5_1 : Int) := zo (by assumption)
                      have q8 : x5_1 < (a0.size : Int) := zo (by assumption)
                      have hx8 := bt_at a0 x5_1
                      replace p8 := eq_true p8
                      replace q8 := eq_true q8
                      have p10 : 0 ≤ (x5_1 : Int) := zo (by assumption)
                      have q10 : x5_1 < (a1.size : Int) := zo (by assumption)
                      have hx10 := bt_at a1 x5_1
                      replace p10 := eq_true p10
                      replace q10 := eq_true q10
                      have p12 : 0 ≤ (x5_1 : Int) := zo (by assumption)
                      have q12 : x5_1 < (a0.size : Int) := zo (by assumption)
                      have hx12 := bt_at a0 x5_1
                      replace p12 := eq_true p12
                      replace q12 := eq_true q12
                      have p13 : 0 ≤ (x5_1 : Int) := zo (by assumption)
                      have q13 : x5_1 < (a1.size : Int) := zo (by assumption)
                      have hx13 := bt_at a1 x5_1
                      replace p13 := eq_true p13
                      replace q13 := eq_true q13
                      go_wp2
                      repeat (go_quiet (fail); try go_wp2)
                      go_roundg kj2
                      case measure => have := HK1.out; have := HJ2.out; omega
                      case rel => exact ⟨(wrap64 (x5_1 + 1)), (by first | rfl | (simp; done) | (simp [*]; done)), H', ⟨by have := HK1.out; have := HJ2.out; omega⟩, by repeat (first | exact Drawn0.refl _ | apply Drawn0.step)⟩
                · rw [if_neg c9] at H
                  exact absurd H (by simp)
              · rw [if_neg c7] at H
                exact absurd H (by simp)
            · rw [if_neg c6] at H
              exact absurd H (by simp)
          · replace c5 := Bool.eq_false_iff.mpr c5
            subst c5
            have H1 : (if (a0.size : Int) < (a1.size : Int) then (some (-1)) else (if (a0.size : Int) > (a1.size : Int) then (some 1) else (some 0))) = some r := by rw [if_neg (show ¬ (false = true) by decide)] at H; exact H
            clear H
            have H := H1
            clear H1
            by_cases c15 : (a0.size : Int) < (a1.size : Int)
            · rw [if_pos c15] at H
              have c15b0 := decide_eq_true c15
              have c15b1 : decide (a0.size < a1.size) = true := decide_eq_true (Int.ofNat_lt.mp c15)
              clear c15
              obtain rfl := Option.some.inj H
              go_wp2
              repeat (go_quiet (fail); try go_wp2)
              go_ret
              exact ⟨by first | rfl | (simp; done) | (simp [*]; done), by repeat (first | exact Drawn0.refl _ | apply Drawn0.step)⟩
            · rw [if_neg c15] at H
              have c15b0 := decide_eq_false c15
              have c15b1 : decide (a0.size < a1.size) = false := decide_eq_false (fun h => c15 (Int.ofNat_lt.mpr h))
              clear c15
              by_cases c16 : (a0.size : Int) > (a1.size : Int)
              · rw [if_pos c16] at H
                have c16b0 : decide ((a1.size : Int) < (a0.size : Int)) = true := decide_eq_true c16
                have c16b1 : decide (a1.size < a0.size) = true := decide_eq_true (Int.ofNat_lt.mp c16)
                clear c16
                obtain rfl := Option.some.inj H
                go_wp2
                repeat (go_quiet (fail); try go_wp2)
                go_ret
                exact ⟨by first | rfl | (simp; done) | (simp [*]; done), by repeat (first | exact Drawn0.refl _ | apply Drawn0.step)⟩
              · rw [if_neg c16] at H
                have c16b0 : decide ((a1.size : Int) < (a0.size : Int)) = false := decide_eq_false c16
                have c16b1 : decide (a1.size < a0.size) = false := decide_eq_false (fun h => c16 (Int.ofNat_lt.mpr h))
                clear c16
                obtain rfl := Option.some.inj H
                go_wp2
                repeat (go_quiet (fail); try go_wp2)
                go_ret
                exact ⟨by first | rfl | (simp; done) | (simp [*]; done), by repeat (first | exact Drawn0.refl _ | apply Drawn0.step)⟩
end Go.Proofs.Ytmpdbblljofjfaa.G
namespace Go.Proofs.Ytmpdbblljofjfaa.G
open List renaming setIfInBounds_toArray → zt, set_cons_zero → zu, set_cons_succ → zv
open Bool renaming true → T, false → F
open Go.RowKit Go.Proofs.YtmpdbblljofjfaaW.PrintWords Go.Proofs.YtmpdbblljofjfaaW.PrintLast Go.Proofs.YtmpdbblljofjfaaW.PrintMore
attribute [local go_sem] max2_int min2_int max_two min_two max_three min_three max_four min_four
set_option linter.unusedVariables false
set_option linter.unusedSimpArgs false
mutual
def r09_With.j1 : Nat → List (S43) → ByteArray → ByteArray → Int → Int → Option ((List (S43)))
 | 0, _, _, _, _, _ => none
 | k + 1, x0, x1, x2, x7, x8 => r09_With.l1 k x0 x1 x2 x7 x8 ([] : List (S43)) (x0.length : Int) 0
def r09_With.l1 : Nat → List (S43) → ByteArray → ByteArray → Int → Int → List (S43) → Int → Int → Option ((List (S43)))
 | 0, _, _, _, _, _, _, _, _ => none
 | k + 1, x0, x1, x2, x7, x8, x9, x32, x33 => if x33 < x32 then (if x7 < 0 then (r09_With.j3 k x0 x1 x2 x7 x8 x9 x33 x32 x33 (x33 == x8)) else (r09_With.j3 k x0 x1 x2 x7 x8 x9 x33 x32 x33 false)) else (if x7 < 0 then (if x8 = (x0.length : Int) then (if x9.length < 4398046511104 then (some (x9 ++ [(⟨x1, x2⟩ : S43)])) else (none)) else (some x9)) else (some x9))
def r09_With.j3 : Nat → List (S43) → ByteArray → ByteArray → Int → Int → List (S43) → Int → Int → Int → Bool → Option ((List (S43)))
 | 0, _, _, _, _, _, _, _, _, _, _ => none
 | k + 1, x0, x1, x2, x7, x8, x9, x10, x32, x33, x42 => if x42 = true then (if x9.length < 4398046511104 then ((some (x9 ++ [(⟨x1, x2⟩ : S43)] : List (S43))).bind fun y154 => (if 0 ≤ x10 then (if x10 < (x0.length : Int) then (if x10 = x7 then (if y154.length < 4398046511104 then (r09_With.l1 k x0 x1 x2 x7 x8 (y154 ++ [(⟨(rd_T43 x0 x10).f0, x2⟩ : S43)]) x32 (wrap64 (x33 + 1))) else (none)) else (if y154.length < 4398046511104 then (r09_With.l1 k x0 x1 x2 x7 x8 (y154 ++ [(⟨(rd_T43 x0 x10).f0, (rd_T43 x0 x10).f1⟩ : S43)]) x32 (wrap64 (x33 + 1))) else (none))) else (none)) else (none))) else (none)) else (if 0 ≤ x10 then (if x10 < (x0.length : Int) then (if x10 = x7 then (if x9.length < 4398046511104 then (r09_With.l1 k x0 x1 x2 x7 x8 (x9 ++ [(⟨(rd_T43 x0 x10).f0, x2⟩ : S43)]) x32 (wrap64 (x33 + 1))) else (none)) else (if x9.length < 4398046511104 then (r09_With.l1 k x0 x1 x2 x7 x8 (x9 ++ [(⟨(rd_T43 x0 x10).f0, (rd_T43 x0 x10).f1⟩ : S43)]) x32 (wrap64 (x33 + 1))) else (none))) else (none)) else (none))
def r09_With.l0 : Nat → List (S43) → ByteArray → ByteArray → Int → Int → Option ((List (S43)))
 | 0, _, _, _, _, _ => none
 | k + 1, x0, x1, x2, x7, x8 => if x8 < (x0.length : Int) then (if 0 ≤ x8 then ((r02_Compare.f k ((rd_T43 x0 x8).f0) x1).bind fun t150 => (if t150 ≤ 0 then (r09_With.l0 k x0 x1 x2 x7 (wrap64 (x8 + 1))) else (r09_With.j1 k x0 x1 x2 x7 x8))) else (none)) else (r09_With.j1 k x0 x1 x2 x7 x8)
end
def r09_With.f (k : Nat) (l0 : List (S43)) (a1 : ByteArray) (a2 : ByteArray) : Option ((List (S43))) := (r09_Find.f k l0 a1).bind fun t148 => (r09_With.l0 k l0 a1 a2 t148 0)
set_option maxHeartbeats 8000000 in
set_option maxRecDepth 100000 in
theorem r09_With.calls (k : Nat) (A0 : Option Addr) (c0 : Nat) (l0 : List (S43)) (a1 : ByteArray) (a2 : ByteArray) (r : List (S43)) (w : World) (hr0 : Kd.C k43 w A0 l0.length l0) (hc0 : l0.length ≤ c0) (h : r09_With.f k l0 a1 a2 = some r) :
  Calls Try.prog 19 #[.slice A0 l0.length c0, .string a1, .string a2] w fun e w' => ∃ v0_ : Value, e = .returned (v0_) ∧ Kd.R k43 43 w' w.heap.size (fun _ => True) v0_ r ∧ Below w.heap.size w w' := by
 have hu43 := Try.underlying43
 have HR0 := zk hr0
 have HC0 := zk hc0
 clear hr0 hc0
 have HB := zk (Below.refl w.heap.size w)
 have H : ((r09_Find.f k l0 a1).bind fun t148 => (r09_With.l0 k l0 a1 a2 t148 0)) = some r := h
 clear h
 replace H := Option.bind_eq_some_iff.mp H
 obtain ⟨t148, A40, H⟩ := H
 replace H : (r09_With.l0 k l0 a1 a2 t148 0) = some r := H
 have A4 := zk A40
 clear A40
 have HC5 := zk H
 clear H
 go_enter Try.func19, Try.ntmps19
 go_upto_block 0 with (first | ((with_reducible refine zgk (f := 26) rfl ?_); refine zgl (some 14) rfl rfl Try.func26 (by kernel_rfl) rfl #[.slice A0 l0.length c0, .string a1] rfl (by (try simp only [List.map_toArray, List.map_cons, List.map_nil]); first | done | rfl | (simp only [List.length_drop, List.length_take]; rfl)) ?_; (with_reducible refine (r09_Find.calls k _ _ l0 a1 t148 _ ?side1 ?side2 A4.out).mono ?_); (case side1 => repeat (first | exact HR0.out | (with_reducible refine Kd.C_alloc ?_ _) | (with_reducible refine Kd.C_drewN ?_ _) | (with_reducible refine Kd.C_drew ?_))); (case side2 => exact HC0.out); rintro e w' ⟨rfl, ⟨nd, rfl⟩⟩; refine ⟨_, rfl, ?_⟩))
 (try simp only [Act.put, zt, zu, zv])
 go_cut [8] (fun v8 wc => ∃ (kq : Nat) (x8_4 : Int), v8 = .int .i64 x8_4 ∧ Aside0 (r09_With.j1 kq l0 a1 a2 t148 x8_4 = some r) ∧ Aside0 (kq ≤ k) ∧ Aside0 (Below w.heap.size w wc))
 case first =>
  have H := HC5.out; clear HC5; have H' := zk H; clear H; go_wp2
  go_loopg [8] k (fun kq v8 w' => ∃ (x8_1 : Int), v8 = .int .i64 x8_1 ∧ Aside0 (r09_With.l0 kq l0 a1 a2 t148 x8_1 = some r) ∧ Aside0 (kq ≤ k) ∧ Aside0 (Below w.heap.size w w'))
  case atStart => exact ⟨(0), (by first | rfl | (simp; done) | (simp [*]; done)), H', ⟨Nat.le_refl _⟩, ⟨by with_reducible repeat first | exact HB.out | apply zA | apply zN | apply zD⟩⟩
  case round =>
   clear H'; (try clear c1); (try clear c2); (try clear p2); obtain ⟨x8_1, rfl, HA, HK1, HB⟩ := hrel
   cases gk with
   | zero => exact absurd HA.out (by simp [r09_With.l0])
   | succ k1 =>
    have H := HA.out; clear HA; simp only [r09_With.l0] at H
    by_cases c6 : x8_1 < (l0.length : Int)
    ·
     rw [if_pos c6] at H; have c6b0 := decide_eq_true c6; clear c6
     (first | rw [c6b0] | (simp only [i64_w, i32_w]; rw [c6b0]) | skip)
     by_cases c7 : 0 ≤ x8_1
     ·
      rw [if_pos c7] at H; have c7b0 := decide_eq_true c7; clear c7; replace H := Option.bind_eq_some_iff.mp H; obtain ⟨t150, A80, H⟩ := H; replace H : (if t150 ≤ 0 then (r09_With.l0 k1 l0 a1 a2 t148 (wrap64 (x8_1 + 1))) else (r09_With.j1 k1 l0 a1 a2 t148 x8_1)) = some r := H; have A8 := zk A80; clear A80
      by_cases c9 : t150 ≤ 0
      ·
       rw [if_pos c9] at H; have c9b0 := decide_eq_true c9; clear c9; have H' := zk H; clear H; have p149 : 0 ≤ (x8_1 : Int) := zo (by assumption); have q149 : x8_1 < (l0.length : Int) := zo (by assumption); obtain ⟨ad149, e149, hx149_0, hx149_1⟩ := at_T43 HR0.out x8_1 p149 q149; cases e149; replace hx149_0 := zB HB hx149_0; replace hx149_1 := zB HB hx149_1; replace p149 := eq_true p149; replace q149 := eq_true q149
       go_wp2_with (first | (go_at_call 27; (with_reducible refine (r02_Compare.calls k1 ((rd_T43 l0 x8_1).f0) a1 t150 _ A8.out).mono ?_); rintro e w' ⟨rfl, ⟨nd, rfl⟩⟩))
       go_roundg k1
       case measure => have := HK1.out; omega
       case rel => exact ⟨(wrap64 (x8_1 + 1)), (by first | rfl | (simp; done) | (simp [*]; done)), H', ⟨by have := HK1.out; omega⟩, ⟨by with_reducible repeat first | exact HB.out | apply zA | apply zN | apply zD⟩⟩
      ·
       rw [if_neg c9] at H; have c9b0 := decide_eq_false c9; clear c9; have H' := zk H; clear H; have p149 : 0 ≤ (x8_1 : Int) := zo (by assumption); have q149 : x8_1 < (l0.length : Int) := zo (by assumption); obtain ⟨ad149, e149, hx149_0, hx149_1⟩ := at_T43 HR0.out x8_1 p149 q149; cases e149; replace hx149_0 := zB HB hx149_0; replace hx149_1 := zB HB hx149_1; replace p149 := eq_true p149; replace q149 := eq_true q149
       go_wp2_with (first | (go_at_call 27; (with_reducible refine (r02_Compare.calls k1 ((rd_T43 l0 x8_1).f0) a1 t150 _ A8.out).mono ?_); rintro e w' ⟨rfl, ⟨nd, rfl⟩⟩))
       go_meet
       case rel => exact ⟨_, (x8_1), (by first | rfl | (simp; done) | (simp [*]; done)), H', ⟨by have := HK1.out; first | omega | exact Nat.le_refl _⟩, ⟨by with_reducible repeat first | exact HB.out | apply zA | apply zN | apply zD⟩⟩
     ·
      rw [if_neg c7] at H; exact absurd H (by simp)
    ·
     rw [if_neg c6] at H; have c6b0 := decide_eq_false c6; clear c6
     (first | rw [c6b0] | (simp only [i64_w, i32_w]; rw [c6b0]) | skip)
     have H' := zk H; clear H; go_wp2
     go_meet
     case rel => exact ⟨_, (x8_1), (by first | rfl | (simp; done) | (simp [*]; done)), H', ⟨by have := HK1.out; first | omega | exact Nat.le_refl _⟩, ⟨by with_reducible repeat first | exact HB.out | apply zA | apply zN | apply zD⟩⟩
 case rest =>
  clear HC5; (try clear c1); (try clear p1); (try clear q1); (try clear hx1); (try clear c2); (try clear p2); (try clear c6); (try clear c6b0); (try clear p6); (try clear c7); (try clear c7b0); (try clear c9); (try clear c9b0); (try clear hx149_0); (try clear hx149_1); (try clear p149); (try clear p2); (try clear q149); obtain ⟨kq, x8_4, rfl, HA, HJ4, HB⟩ := hcut
  cases kq with
  | zero => exact absurd HA.out (by simp [r09_With.j1])
  | succ kj4 =>
   have H := HA.out; clear HA; simp only [r09_With.j1] at H; have H' := zk H; clear H; go_wp2
   go_loopg [9, 33] kj4 (fun kq v9 v33 w' => ∃ (x9_2 : List (S43)) (x33_2 : Int), v33 = .int .i64 x33_2 ∧ Aside0 (r09_With.l1 kq l0 a1 a2 t148 x8_4 x9_2 (l0.length : Int) x33_2 = some r) ∧ Aside0 (kq ≤ kj4) ∧ Aside0 (Kd.R k43 43 w' w.heap.size (fun _ => True) v9 x9_2) ∧ Aside0 (Below w.heap.size w w'))
   case atStart => exact ⟨(([] : List (S43))), (0), (by first | rfl | (simp; done) | (simp [*]; done)), H', ⟨Nat.le_refl _⟩, ⟨by first | exact Kd.R_nil _ _ _ _ _ | exact Kd.N_nil _ _ _ _ _ | exact Kd.V_nil _ _ _ _ _ | exact Kd.Q_nil _ _ _ _ _ | exact Kd.S_nil _ _ _ _ _⟩, ⟨by with_reducible repeat first | exact HB.out | apply zA | apply zN | apply zD⟩⟩
   case round =>
    clear H'; (try clear c1); (try clear p1); (try clear q1); (try clear hx1); (try clear c2); (try clear p2); (try clear c6); (try clear c6b0); (try clear p6); (try clear c7); (try clear c7b0); (try clear c9); (try clear c9b0); (try clear hx149_0); (try clear hx149_1); (try clear p1); (try clear p149); (try clear p2); (try clear p6); (try clear q1); (try clear q149); obtain ⟨x9_2, x33_2, rfl, HA, HK2, HO_9, HB⟩ := hrel
    cases gk with
    | zero => exact absurd HA.out (by simp [r09_With.l1])
    | succ k2 =>
     have H := HA.out; clear HA; simp only [r09_With.l1] at H
     by_cases c10 : x33_2 < (l0.length : Int)
     ·
      rw [if_pos c10] at H; have c10b0 := decide_eq_true c10; clear c10; have HC11 := zk H; clear H
      go_upto_region 9 with (fail)
      go_cut [42] (fun v42 wc => ∃ (kq : Nat) (x42_10 : Bool), v42 = .bool x42_10 ∧ Aside0 (r09_With.j3 kq l0 a1 a2 t148 x8_4 x9_2 x33_2 (l0.length : Int) x33_2 x42_10 = some r) ∧ Aside0 (kq ≤ k2) ∧ Aside0 (Kd.R k43 43 wc w.heap.size (fun _ => True) u9 x9_2) ∧ Aside0 (Below w.heap.size w wc))
      case first =>
       have H := HC11.out; clear HC11
       by_cases c12 : t148 < 0
       ·
        rw [if_pos c12] at H; have c12b0 := decide_eq_true c12; clear c12
        (first | rw [c12b0] | (simp only [i64_w, i32_w]; rw [c12b0]) | skip)
        have H' := zk H; clear H; go_wp2
        go_meet
        case rel => exact ⟨_, ((x33_2 == x8_4)), (by first | rfl | (simp; done) | (simp [*]; done)), H', ⟨by have := HJ4.out; have := HK2.out; first | omega | exact Nat.le_refl _⟩, ⟨by (with_reducible repeat (first | apply Kd.R_alloc | apply Kd.R_drewN | apply Kd.R_drew)); exact HO_9.out⟩, ⟨by with_reducible repeat first | exact HB.out | apply zA | apply zN | apply zD⟩⟩
       ·
        rw [if_neg c12] at H; have c12b0 := decide_eq_false c12; clear c12
        (first | rw [c12b0] | (simp only [i64_w, i32_w]; rw [c12b0]) | skip)
        have H' := zk H; clear H; go_wp2
        go_meet
        case rel => exact ⟨_, (false), (by first | rfl | (simp; done) | (simp [*]; done)), H', ⟨by have := HJ4.out; have := HK2.out; first | omega | exact Nat.le_refl _⟩, ⟨by (with_reducible repeat (first | apply Kd.R_alloc | apply Kd.R_drewN | apply Kd.R_drew)); exact HO_9.out⟩, ⟨by with_reducible repeat first | exact HB.out | apply zA | apply zN | apply zD⟩⟩
      case rest =>
       clear HC11; (try clear c1); (try clear p1); (try clear q1); (try clear hx1); (try clear c2); (try clear p2); (try clear c6); (try clear c6b0); (try clear p6); (try clear c7); (try clear c7b0); (try clear c9); (try clear c9b0); (try clear c10); (try clear c10b0); (try clear c12); (try clear c12b0); (try clear hx149_0); (try clear hx149_1); (try clear p1); (try clear p149); (try clear p2); (try clear p6); (try clear q1); (try clear q149); obtain ⟨kq, x42_10, rfl, HA, HJ10, HO_9, HB⟩ := hcut
       cases kq with
       | zero => exact absurd HA.out (by simp [r09_With.j3])
       | succ kj10 =>
        have H := HA.out; clear HA; simp only [r09_With.j3] at H
        by_cases c13 : x42_10 = true
        ·
         subst c13
         have H1 : (if x9_2.length < 4398046511104 then ((some (x9_2 ++ [(⟨a1, a2⟩ : S43)] : List (S43))).bind fun y154 => (if 0 ≤ x33_2 then (if x33_2 < (l0.length : Int) then (if x33_2 = t148 then (if y154.length < 4398046511104 then (r09_With.l1 kj10 l0 a1 a2 t148 x8_4 (y154 ++ [(⟨(rd_T43 l0 x33_2).f0, a2⟩ : S43)]) (l0.length : Int) (wrap64 (x33_2 + 1))) else (none)) else (if y154.length < 4398046511104 then (r09_With.l1 kj10 l0 a1 a2 t148 x8_4 (y154 ++ [(⟨(rd_T43 l0 x33_2).f0, (rd_T43 l0 x33_2).f1⟩ : S43)]) (l0.length : Int) (wrap64 (x33_2 + 1))) else (none))) else (none)) else (none))) else (none)) = some r := by rw [if_pos rfl] at H; exact H
         clear H; have H := H1; clear H1
         by_cases c14 : x9_2.length < 4398046511104
         ·
          rw [if_pos c14] at H; have LMc14 := zk c14; clear c14; obtain ⟨y154, hy154⟩ : ∃ y_ : List (S43), y_ = (x9_2 ++ [(⟨a1, a2⟩ : S43)]) := ⟨_, rfl⟩
          replace H : (if 0 ≤ x33_2 then (if x33_2 < (l0.length : Int) then (if x33_2 = t148 then (if y154.length < 4398046511104 then (r09_With.l1 kj10 l0 a1 a2 t148 x8_4 (y154 ++ [(⟨(rd_T43 l0 x33_2).f0, a2⟩ : S43)]) (l0.length : Int) (wrap64 (x33_2 + 1))) else (none)) else (if y154.length < 4398046511104 then (r09_With.l1 kj10 l0 a1 a2 t148 x8_4 (y154 ++ [(⟨(rd_T43 l0 x33_2).f0, (rd_T43 l0 x33_2).f1⟩ : S43)]) (l0.length : Int) (wrap64 (x33_2 + 1))) else (none))) else (none)) else (none)) = some r := by first | (rw [hy154]; with_reducible exact H) | (have H2_ := (Option.bind_some _ _).symm.trans H; rw [hy154]; with_reducible exact H2_) | (have H2_ := (Option.bind_some _ _).symm.trans H; with_reducible exact H2_) | with_reducible exact H | (rw [hy154]; exact H) | exact H
          have Ny154 := zk hy154; clear hy154
          by_cases c15 : 0 ≤ x33_2
          ·
           rw [if_pos c15] at H; have c15b0 := decide_eq_true c15; clear c15
           by_cases c16 : x33_2 < (l0.length : Int)
           ·
            rw [if_pos c16] at H; have c16b0 := decide_eq_true c16; clear c16
            by_cases c17 : x33_2 = t148
            ·
             rw [if_pos c17] at H; have c17b0 := beq_iff_eq.mpr c17; have c17b1 := bne_eq_false_iff_eq.mpr c17; clear c17
             by_cases c18 : y154.length < 4398046511104
             ·
              rw [if_pos c18] at H; have LMc18 := zk c18; clear c18; obtain ⟨y159, hy159⟩ : ∃ y_ : List (S43), y_ = (y154 ++ [(⟨(rd_T43 l0 x33_2).f0, a2⟩ : S43)]) := ⟨_, rfl⟩
              replace H : (r09_With.l1 kj10 l0 a1 a2 t148 x8_4 y159 (l0.length : Int) (wrap64 (x33_2 + 1))) = some r := by first | (rw [hy159]; with_reducible exact H) | (have H2_ := (Option.bind_some _ _).symm.trans H; rw [hy159]; with_reducible exact H2_) | (have H2_ := (Option.bind_some _ _).symm.trans H; with_reducible exact H2_) | with_reducible exact H | (rw [hy159]; exact H) | exact H
              have Ny159 := zk hy159; clear hy159; have H' := zk H; clear H
              go_wp2_with (first | ((with_reducible refine zgn (b := .append) (xs := #[.tmp 43, .tmp 47]) rfl ?_); (try (refine zgg (by rfl) ?_; dsimp only)); at_builtin; refine Kd.R_append k43 (w0 := w) w.heap.size rfl (.tmp 43) (.tmp 47) 22 43 (.agg #[(.string ⟨#[]⟩), (.string ⟨#[]⟩)]) 32 rfl Try.underlying22 info43 rfl (by decide) (by omega) u9 x9_2 (⟨a1, a2⟩ : S43) [.string a1, .string a2] (fun _ => True) (fun _ => False) rfl rfl ?aP (fun _ hk => hk.elim) ?aF ?aO ?aB ?aS ?aL ?_; (case aP => exact k43_mkM _ _ _ (⟨a1, a2⟩ : S43)); (case aB => exact (by with_reducible repeat first | exact HB.out | apply zA | apply zN | apply zD)); (case aF => exact (fun _ _ => trivial)); (case aO => exact (by (with_reducible repeat (first | apply Kd.R_alloc | apply Kd.R_drewN | apply Kd.R_drew)); exact HO_9.out)); (case aS => exact (zq (by with_reducible repeat first | exact HB.out | apply zA | apply zN | apply zD))); (case aL => have := LMc14.out; omega); intro v155 w19 ho hb hg hat; rw [← Ny154.out] at ho; have n0_ := zk (hb); have n1_ := zk (ho); clear HB; clear HO_9; have HB := n0_; have HO156 := n1_; clear n0_ n1_; clear ho hb hg hat; have p157 : 0 ≤ (x33_2 : Int) := zo (by assumption); have q157 : x33_2 < (l0.length : Int) := zo (by assumption); obtain ⟨ad157, e157, hx157_0, hx157_1⟩ := at_T43 HR0.out x33_2 p157 q157; cases e157; replace hx157_0 := zB HB hx157_0; replace hx157_1 := zB HB hx157_1; replace p157 := eq_true p157; replace q157 := eq_true q157) | ((with_reducible refine zgd (N := 11) rfl ?_); (try (refine zgg (by rfl) ?_; dsimp only)); refine zb ?hg (N := 11) ?hd (cs := #[.string ⟨#[]⟩, .string ⟨#[]⟩]) (t := 43) ?hr ?_; (case hd => rfl); (case hg => rfl); (case hr => go_simp; first | done | rfl); intro gb158 hg w20 hbox hb; have n0_ := zk (Kd.R_below (Kd.R_elderB (by (with_reducible repeat (first | apply Kd.R_alloc | apply Kd.R_drewN | apply Kd.R_drew)); exact HO156.out) gb158 (Nat.le_of_eq hg.symm)) hb); have n1_ := zk (zs (by with_reducible repeat first | exact HB.out | apply zA | apply zN | apply zD) hb); have n2_ := zk (hbox); have n3_ := zk ((by rw [hg]; exact (zq (by with_reducible repeat first | exact HB.out | apply zA | apply zN | apply zD)) : w.heap.size ≤ gb158)); have n4_ := n3_; clear HO156; clear HB; have HO156 := n0_; have HB := n1_; have BK158 := n2_; have GW158 := n3_; have GE158 := n4_; clear n0_ n1_ n2_ n3_ n4_; clear hb hbox hg; obtain ⟨hcz21_0, hcz21_1, hfz21_0, hfz21_1⟩ := zc2 BK158.out) | ((with_reducible refine zgn (b := .append) (xs := #[.tmp 58, .tmp 60]) rfl ?_); (try (refine zgg (by rfl) ?_; dsimp only)); at_builtin; refine Kd.R_append k43 (w0 := w) w.heap.size rfl (.tmp 58) (.tmp 60) 22 43 (.agg #[(.string ⟨#[]⟩), (.string ⟨#[]⟩)]) 32 rfl Try.underlying22 info43 rfl (by decide) (by omega) v155 y154 (⟨(rd_T43 l0 x33_2).f0, a2⟩ : S43) [.string ((rd_T43 l0 x33_2).f0), .string a2] (fun k_ => k_ ≠ gb158) (fun _ => False) rfl (by first | (go_simp; done) | (go_simp; rfl)) ?aP (fun _ hk => hk.elim) ?aF ?aO ?aB ?aS ?aL ?_; (case aP => exact k43_mkM _ _ _ (⟨(rd_T43 l0 x33_2).f0, a2⟩ : S43)); (case aB => exact (by with_reducible repeat first | exact HB.out | apply zA | apply zN | apply zD | refine zS ?_ GE158.out)); (case aF => exact (fun k_ hk => Kd.freshB (g := gb158) (o := .cells #[.string ((rd_T43 l0 x33_2).f0), .string a2] 43 (0, 0)) (by (with_reducible repeat first | apply zM | apply zE | apply zF); refine zP (cs := #[.string ((rd_T43 l0 x33_2).f0), .string ((rd_T43 l0 x33_2).f1)]) ?_ 1 _ rfl; (with_reducible repeat first | apply zM | apply zE | apply zF); refine zP (cs := #[.string ((rd_T43 l0 x33_2).f0), .string ⟨#[]⟩]) ?_ 1 _ rfl; (with_reducible repeat first | apply zM | apply zE | apply zF); refine zP (cs := #[.string ⟨#[]⟩, .string ⟨#[]⟩]) ?_ 0 _ rfl; (with_reducible repeat first | apply zM | apply zE | apply zF); exact BK158.out) k_ hk)); (case aO => exact (by (with_reducible repeat (first | apply Kd.R_alloc | apply Kd.R_drewN | apply Kd.R_drew)); exact Kd.R_mono (Kd.R_far (p := ⟨gb158, 1, none⟩) (Kd.R_far (p := ⟨gb158, 1, none⟩) (Kd.R_far (p := ⟨gb158, 0, none⟩) (Kd.R_mono HO156.out (fun k_ hk => (⟨hk, hk.2⟩ : _ ∧ k_ ≠ gb158))) (fun _ hk => hk.2) (.string ((rd_T43 l0 x33_2).f0))) (fun _ hk => hk.2) (.string ((rd_T43 l0 x33_2).f1))) (fun _ hk => hk.2) (.string a2)) (fun _ hk => hk.1.2))); (case aS => exact (zq (by with_reducible repeat first | exact HB.out | apply zA | apply zN | apply zD | refine zS ?_ GE158.out))); (case aL => have := LMc18.out; omega); intro v160 w22 ho hb hg hat; rw [← Ny159.out] at ho; have n0_ := zk (blk_grown (g := gb158) (o := .cells #[.string ((rd_T43 l0 x33_2).f0), .string a2] 43 (0, 0)) (by (with_reducible repeat first | apply zM | apply zE | apply zF); refine zP (cs := #[.string ((rd_T43 l0 x33_2).f0), .string ((rd_T43 l0 x33_2).f1)]) ?_ 1 _ rfl; (with_reducible repeat first | apply zM | apply zE | apply zF); refine zP (cs := #[.string ((rd_T43 l0 x33_2).f0), .string ⟨#[]⟩]) ?_ 1 _ rfl; (with_reducible repeat first | apply zM | apply zE | apply zF); refine zP (cs := #[.string ⟨#[]⟩, .string ⟨#[]⟩]) ?_ 0 _ rfl; (with_reducible repeat first | apply zM | apply zE | apply zF); exact BK158.out) hg (Kd.R_away HO156.out (fun _ hk => hk.2))); have n1_ := zk (hb); have n2_ := zk (ho); clear BK158; clear HB; clear HO156; have BK158 := n0_; have HB := n1_; have HO161 := n2_; clear n0_ n1_ n2_; clear ho hb hg hat))
              go_roundg kj10
              case measure => have := HJ4.out; have := HK2.out; have := HJ10.out; omega
              case rel => exact ⟨(y159), (wrap64 (x33_2 + 1)), (by first | rfl | (simp; done) | (simp [*]; done)), H', ⟨by have := HJ4.out; have := HK2.out; have := HJ10.out; omega⟩, ⟨by (with_reducible repeat (first | apply Kd.R_alloc | apply Kd.R_drewN | apply Kd.R_drew)); exact Kd.R_mono HO161.out (fun _ hk => trivial)⟩, ⟨by with_reducible repeat first | exact HB.out | apply zA | apply zN | apply zD | refine zS ?_ GE158.out⟩⟩
             ·
              rw [if_neg c18] at H; exact absurd H (by simp)
            ·
             rw [if_neg c17] at H; have c17b0 := beq_eq_false_iff_ne.mpr c17; have c17b1 := bne_iff_ne.mpr c17
             by_cases c23 : y154.length < 4398046511104
             ·
              rw [if_pos c23] at H; have LMc23 := zk c23; clear c23; obtain ⟨y162, hy162⟩ : ∃ y_ : List (S43), y_ = (y154 ++ [(⟨(rd_T43 l0 x33_2).f0, (rd_T43 l0 x33_2).f1⟩ : S43)]) := ⟨_, rfl⟩
              replace H : (r09_With.l1 kj10 l0 a1 a2 t148 x8_4 y162 (l0.length : Int) (wrap64 (x33_2 + 1))) = some r := by first | (rw [hy162]; with_reducible exact H) | (have H2_ := (Option.bind_some _ _).symm.trans H; rw [hy162]; with_reducible exact H2_) | (have H2_ := (Option.bind_some _ _).symm.trans H; with_reducible exact H2_) | with_reducible exact H | (rw [hy162]; exact H) | exact H
              have Ny162 := zk hy162; clear hy162; have H' := zk H; clear H
              go_wp2_with (first | ((with_reducible refine zgn (b := .append) (xs := #[.tmp 43, .tmp 47]) rfl ?_); (try (refine zgg (by rfl) ?_; dsimp only)); at_builtin; refine Kd.R_append k43 (w0 := w) w.heap.size rfl (.tmp 43) (.tmp 47) 22 43 (.agg #[(.string ⟨#[]⟩), (.string ⟨#[]⟩)]) 32 rfl Try.underlying22 info43 rfl (by decide) (by omega) u9 x9_2 (⟨a1, a2⟩ : S43) [.string a1, .string a2] (fun _ => True) (fun _ => False) rfl rfl ?aP (fun _ hk => hk.elim) ?aF ?aO ?aB ?aS ?aL ?_; (case aP => exact k43_mkM _ _ _ (⟨a1, a2⟩ : S43)); (case aB => exact (by with_reducible repeat first | exact HB.out | apply zA | apply zN | apply zD)); (case aF => exact (fun _ _ => trivial)); (case aO => exact (by (with_reducible repeat (first | apply Kd.R_alloc | apply Kd.R_drewN | apply Kd.R_drew)); exact HO_9.out)); (case aS => exact (zq (by with_reducible repeat first | exact HB.out | apply zA | apply zN | apply zD))); (case aL => have := LMc14.out; omega); intro v155 w24 ho hb hg hat; rw [← Ny154.out] at ho; have n0_ := zk (hb); have n1_ := zk (ho); clear HB; clear HO_9; have HB := n0_; have HO156 := n1_; clear n0_ n1_; clear ho hb hg hat; have p157 : 0 ≤ (x33_2 : Int) := zo (by assumption); have q157 : x33_2 < (l0.length : Int) := zo (by assumption); obtain ⟨ad157, e157, hx157_0, hx157_1⟩ := at_T43 HR0.out x33_2 p157 q157; cases e157; replace hx157_0 := zB HB hx157_0; replace hx157_1 := zB HB hx157_1; replace p157 := eq_true p157; replace q157 := eq_true q157) | ((with_reducible refine zgd (N := 11) rfl ?_); (try (refine zgg (by rfl) ?_; dsimp only)); refine zb ?hg (N := 11) ?hd (cs := #[.string ⟨#[]⟩, .string ⟨#[]⟩]) (t := 43) ?hr ?_; (case hd => rfl); (case hg => rfl); (case hr => go_simp; first | done | rfl); intro gb158 hg w25 hbox hb; have n0_ := zk (Kd.R_below (Kd.R_elderB (by (with_reducible repeat (first | apply Kd.R_alloc | apply Kd.R_drewN | apply Kd.R_drew)); exact HO156.out) gb158 (Nat.le_of_eq hg.symm)) hb); have n1_ := zk (zs (by with_reducible repeat first | exact HB.out | apply zA | apply zN | apply zD) hb); have n2_ := zk (hbox); have n3_ := zk ((by rw [hg]; exact (zq (by with_reducible repeat first | exact HB.out | apply zA | apply zN | apply zD)) : w.heap.size ≤ gb158)); have n4_ := n3_; clear HO156; clear HB; have HO156 := n0_; have HB := n1_; have BK158 := n2_; have GW158 := n3_; have GE158 := n4_; clear n0_ n1_ n2_ n3_ n4_; clear hb hbox hg; obtain ⟨hcz26_0, hcz26_1, hfz26_0, hfz26_1⟩ := zc2 BK158.out) | ((with_reducible refine zgn (b := .append) (xs := #[.tmp 58, .tmp 60]) rfl ?_); (try (refine zgg (by rfl) ?_; dsimp only)); at_builtin; refine Kd.R_append k43 (w0 := w) w.heap.size rfl (.tmp 58) (.tmp 60) 22 43 (.agg #[(.string ⟨#[]⟩), (.string ⟨#[]⟩)]) 32 rfl Try.underlying22 info43 rfl (by decide) (by omega) v155 y154 (⟨(rd_T43 l0 x33_2).f0, (rd_T43 l0 x33_2).f1⟩ : S43) [.string ((rd_T43 l0 x33_2).f0), .string ((rd_T43 l0 x33_2).f1)] (fun k_ => k_ ≠ gb158) (fun _ => False) rfl (by first | (go_simp; done) | (go_simp; rfl)) ?aP (fun _ hk => hk.elim) ?aF ?aO ?aB ?aS ?aL ?_; (case aP => exact k43_mkM _ _ _ (⟨(rd_T43 l0 x33_2).f0, (rd_T43 l0 x33_2).f1⟩ : S43)); (case aB => exact (by with_reducible repeat first | exact HB.out | apply zA | apply zN | apply zD | refine zS ?_ GE158.out)); (case aF => exact (fun k_ hk => Kd.freshB (g := gb158) (o := .cells #[.string ((rd_T43 l0 x33_2).f0), .string ((rd_T43 l0 x33_2).f1)] 43 (0, 0)) (by (with_reducible repeat first | apply zM | apply zE | apply zF); refine zP (cs := #[.string ((rd_T43 l0 x33_2).f0), .string ⟨#[]⟩]) ?_ 1 _ rfl; (with_reducible repeat first | apply zM | apply zE | apply zF); refine zP (cs := #[.string ⟨#[]⟩, .string ⟨#[]⟩]) ?_ 0 _ rfl; (with_reducible repeat first | apply zM | apply zE | apply zF); exact BK158.out) k_ hk)); (case aO => exact (by (with_reducible repeat (first | apply Kd.R_alloc | apply Kd.R_drewN | apply Kd.R_drew)); exact Kd.R_mono (Kd.R_far (p := ⟨gb158, 1, none⟩) (Kd.R_far (p := ⟨gb158, 0, none⟩) (Kd.R_mono HO156.out (fun k_ hk => (⟨hk, hk.2⟩ : _ ∧ k_ ≠ gb158))) (fun _ hk => hk.2) (.string ((rd_T43 l0 x33_2).f0))) (fun _ hk => hk.2) (.string ((rd_T43 l0 x33_2).f1))) (fun _ hk => hk.1.2))); (case aS => exact (zq (by with_reducible repeat first | exact HB.out | apply zA | apply zN | apply zD | refine zS ?_ GE158.out))); (case aL => have := LMc23.out; omega); intro v163 w27 ho hb hg hat; rw [← Ny162.out] at ho; have n0_ := zk (blk_grown (g := gb158) (o := .cells #[.string ((rd_T43 l0 x33_2).f0), .string ((rd_T43 l0 x33_2).f1)] 43 (0, 0)) (by (with_reducible repeat first | apply zM | apply zE | apply zF); refine zP (cs := #[.string ((rd_T43 l0 x33_2).f0), .string ⟨#[]⟩]) ?_ 1 _ rfl; (with_reducible repeat first | apply zM | apply zE | apply zF); refine zP (cs := #[.string ⟨#[]⟩, .string ⟨#[]⟩]) ?_ 0 _ rfl; (with_reducible repeat first | apply zM | apply zE | apply zF); exact BK158.out) hg (Kd.R_away HO156.out (fun _ hk => hk.2))); have n1_ := zk (hb); have n2_ := zk (ho); clear BK158; clear HB; clear HO156; have BK158 := n0_; have HB := n1_; have HO164 := n2_; clear n0_ n1_ n2_; clear ho hb hg hat))
              go_roundg kj10
              case measure => have := HJ4.out; have := HK2.out; have := HJ10.out; omega
              case rel => exact ⟨(y162), (wrap64 (x33_2 + 1)), (by first | rfl | (simp; done) | (simp [*]; done)), H', ⟨by have := HJ4.out; have := HK2.out; have := HJ10.out; omega⟩, ⟨by (with_reducible repeat (first | apply Kd.R_alloc | apply Kd.R_drewN | apply Kd.R_drew)); exact Kd.R_mono HO164.out (fun _ hk => trivial)⟩, ⟨by with_reducible repeat first | exact HB.out | apply zA | apply zN | apply zD | refine zS ?_ GE158.out⟩⟩
             ·
              rw [if_neg c23] at H; exact absurd H (by simp)
           ·
            rw [if_neg c16] at H; exact absurd H (by simp)
          ·
           rw [if_neg c15] at H; exact absurd H (by simp)
         ·
          rw [if_neg c14] at H; exact absurd H (by simp)
        ·
         replace c13 := Bool.eq_false_iff.mpr c13; subst c13
         have H1 : (if 0 ≤ x33_2 then (if x33_2 < (l0.length : Int) then (if x33_2 = t148 then (if x9_2.length < 4398046511104 then (r09_With.l1 kj10 l0 a1 a2 t148 x8_4 (x9_2 ++ [(⟨(rd_T43 l0 x33_2).f0, a2⟩ : S43)]) (l0.length : Int) (wrap64 (x33_2 + 1))) else (none)) else (if x9_2.length < 4398046511104 then (r09_With.l1 kj10 l0 a1 a2 t148 x8_4 (x9_2 ++ [(⟨(rd_T43 l0 x33_2).f0, (rd_T43 l0 x33_2).f1⟩ : S43)]) (l0.length : Int) (wrap64 (x33_2 + 1))) else (none))) else (none)) else (none)) = some r := by rw [if_neg (show ¬ (false = true) by decide)] at H; exact H
         clear H; have H := H1; clear H1
         by_cases c28 : 0 ≤ x33_2
         ·
          rw [if_pos c28] at H; have c28b0 := decide_eq_true c28; clear c28
          by_cases c29 : x33_2 < (l0.length : Int)
          ·
           rw [if_pos c29] at H; have c29b0 := decide_eq_true c29; clear c29
           by_cases c30 : x33_2 = t148
           ·
            rw [if_pos c30] at H; have c30b0 := beq_iff_eq.mpr c30; have c30b1 := bne_eq_false_iff_eq.mpr c30; clear c30
            by_cases c31 : x9_2.length < 4398046511104
            ·
             rw [if_pos c31] at H; have LMc31 := zk c31; clear c31; obtain ⟨y167, hy167⟩ : ∃ y_ : List (S43), y_ = (x9_2 ++ [(⟨(rd_T43 l0 x33_2).f0, a2⟩ : S43)]) := ⟨_, rfl⟩
             replace H : (r09_With.l1 kj10 l0 a1 a2 t148 x8_4 y167 (l0.length : Int) (wrap64 (x33_2 + 1))) = some r := by first | (rw [hy167]; with_reducible exact H) | (have H2_ := (Option.bind_some _ _).symm.trans H; rw [hy167]; with_reducible exact H2_) | (have H2_ := (Option.bind_some _ _).symm.trans H; with_reducible exact H2_) | with_reducible exact H | (rw [hy167]; exact H) | exact H
             have Ny167 := zk hy167; clear hy167; have H' := zk H; clear H; have p165 : 0 ≤ (x33_2 : Int) := zo (by assumption); have q165 : x33_2 < (l0.length : Int) := zo (by assumption); obtain ⟨ad165, e165, hx165_0, hx165_1⟩ := at_T43 HR0.out x33_2 p165 q165; cases e165; replace hx165_0 := zB HB hx165_0; replace hx165_1 := zB HB hx165_1; replace p165 := eq_true p165; replace q165 := eq_true q165
             go_wp2_with (first | ((with_reducible refine zgd (N := 11) rfl ?_); (try (refine zgg (by rfl) ?_; dsimp only)); refine zb ?hg (N := 11) ?hd (cs := #[.string ⟨#[]⟩, .string ⟨#[]⟩]) (t := 43) ?hr ?_; (case hd => rfl); (case hg => rfl); (case hr => go_simp; first | done | rfl); intro gb166 hg w32 hbox hb; have n0_ := zk (Kd.R_below (Kd.R_elderB (by (with_reducible repeat (first | apply Kd.R_alloc | apply Kd.R_drewN | apply Kd.R_drew)); exact HO_9.out) gb166 (Nat.le_of_eq hg.symm)) hb); have n1_ := zk (zs (by with_reducible repeat first | exact HB.out | apply zA | apply zN | apply zD) hb); have n2_ := zk (hbox); have n3_ := zk ((by rw [hg]; exact (zq (by with_reducible repeat first | exact HB.out | apply zA | apply zN | apply zD)) : w.heap.size ≤ gb166)); have n4_ := n3_; clear HO_9; clear HB; have HO_9 := n0_; have HB := n1_; have BK166 := n2_; have GW166 := n3_; have GE166 := n4_; clear n0_ n1_ n2_ n3_ n4_; clear hb hbox hg; obtain ⟨hcz33_0, hcz33_1, hfz33_0, hfz33_1⟩ := zc2 BK166.out) | ((with_reducible refine zgn (b := .append) (xs := #[.tmp 58, .tmp 60]) rfl ?_); (try (refine zgg (by rfl) ?_; dsimp only)); at_builtin; refine Kd.R_append k43 (w0 := w) w.heap.size rfl (.tmp 58) (.tmp 60) 22 43 (.agg #[(.string ⟨#[]⟩), (.string ⟨#[]⟩)]) 32 rfl Try.underlying22 info43 rfl (by decide) (by omega) u9 x9_2 (⟨(rd_T43 l0 x33_2).f0, a2⟩ : S43) [.string ((rd_T43 l0 x33_2).f0), .string a2] (fun k_ => k_ ≠ gb166) (fun _ => False) rfl (by first | (go_simp; done) | (go_simp; rfl)) ?aP (fun _ hk => hk.elim) ?aF ?aO ?aB ?aS ?aL ?_; (case aP => exact k43_mkM _ _ _ (⟨(rd_T43 l0 x33_2).f0, a2⟩ : S43)); (case aB => exact (by with_reducible repeat first | exact HB.out | apply zA | apply zN | apply zD | refine zS ?_ GE166.out)); (case aF => exact (fun k_ hk => Kd.freshB (g := gb166) (o := .cells #[.string ((rd_T43 l0 x33_2).f0), .string a2] 43 (0, 0)) (by (with_reducible repeat first | apply zM | apply zE | apply zF); refine zP (cs := #[.string ((rd_T43 l0 x33_2).f0), .string ((rd_T43 l0 x33_2).f1)]) ?_ 1 _ rfl; (with_reducible repeat first | apply zM | apply zE | apply zF); refine zP (cs := #[.string ((rd_T43 l0 x33_2).f0), .string ⟨#[]⟩]) ?_ 1 _ rfl; (with_reducible repeat first | apply zM | apply zE | apply zF); refine zP (cs := #[.string ⟨#[]⟩, .string ⟨#[]⟩]) ?_ 0 _ rfl; (with_reducible repeat first | apply zM | apply zE | apply zF); exact BK166.out) k_ hk)); (case aO => exact (by (with_reducible repeat (first | apply Kd.R_alloc | apply Kd.R_drewN | apply Kd.R_drew)); exact Kd.R_mono (Kd.R_far (p := ⟨gb166, 1, none⟩) (Kd.R_far (p := ⟨gb166, 1, none⟩) (Kd.R_far (p := ⟨gb166, 0, none⟩) (Kd.R_mono HO_9.out (fun k_ hk => (⟨hk, hk.2⟩ : _ ∧ k_ ≠ gb166))) (fun _ hk => hk.2) (.string ((rd_T43 l0 x33_2).f0))) (fun _ hk => hk.2) (.string ((rd_T43 l0 x33_2).f1))) (fun _ hk => hk.2) (.string a2)) (fun _ hk => hk.1.2))); (case aS => exact (zq (by with_reducible repeat first | exact HB.out | apply zA | apply zN | apply zD | refine zS ?_ GE166.out))); (case aL => have := LMc31.out; omega); intro v168 w34 ho hb hg hat; rw [← Ny167.out] at ho; have n0_ := zk (blk_grown (g := gb166) (o := .cells #[.string ((rd_T43 l0 x33_2).f0), .string a2] 43 (0, 0)) (by (with_reducible repeat first | apply zM | apply zE | apply zF); refine zP (cs := #[.string ((rd_T43 l0 x33_2).f0), .string ((rd_T43 l0 x33_2).f1)]) ?_ 1 _ rfl; (with_reducible repeat first | apply zM | apply zE | apply zF); refine zP (cs := #[.string ((rd_T43 l0 x33_2).f0), .string ⟨#[]⟩]) ?_ 1 _ rfl; (with_reducible repeat first | apply zM | apply zE | apply zF); refine zP (cs := #[.string ⟨#[]⟩, .string ⟨#[]⟩]) ?_ 0 _ rfl; (with_reducible repeat first | apply zM | apply zE | apply zF); exact BK166.out) hg (Kd.R_away HO_9.out (fun _ hk => hk.2))); have n1_ := zk (hb); have n2_ := zk (ho); clear BK166; clear HB; clear HO_9; have BK166 := n0_; have HB := n1_; have HO169 := n2_; clear n0_ n1_ n2_; clear ho hb hg hat))
             go_roundg kj10
             case measure => have := HJ4.out; have := HK2.out; have := HJ10.out; omega
             case rel => exact ⟨(y167), (wrap64 (x33_2 + 1)), (by first | rfl | (simp; done) | (simp [*]; done)), H', ⟨by have := HJ4.out; have := HK2.out; have := HJ10.out; omega⟩, ⟨by (with_reducible repeat (first | apply Kd.R_alloc | apply Kd.R_drewN | apply Kd.R_drew)); exact Kd.R_mono HO169.out (fun _ hk => trivial)⟩, ⟨by with_reducible repeat first | exact HB.out | apply zA | apply zN | apply zD | refine zS ?_ GE166.out⟩⟩
            ·
             rw [if_neg c31] at H; exact absurd H (by simp)
           ·
            rw [if_neg c30] at H; have c30b0 := beq_eq_false_iff_ne.mpr c30; have c30b1 := bne_iff_ne.mpr c30
            by_cases c35 : x9_2.length < 4398046511104
            ·
             rw [if_pos c35] at H; have LMc35 := zk c35; clear c35; obtain ⟨y170, hy170⟩ : ∃ y_ : List (S43), y_ = (x9_2 ++ [(⟨(rd_T43 l0 x33_2).f0, (rd_T43 l0 x33_2).f1⟩ : S43)]) := ⟨_, rfl⟩
             replace H : (r09_With.l1 kj10 l0 a1 a2 t148 x8_4 y170 (l0.length : Int) (wrap64 (x33_2 + 1))) = some r := by first | (rw [hy170]; with_reducible exact H) | (have H2_ := (Option.bind_some _ _).symm.trans H; rw [hy170]; with_reducible exact H2_) | (have H2_ := (Option.bind_some _ _).symm.trans H; with_reducible exact H2_) | with_reducible exact H | (rw [hy170]; exact H) | exact H
             have Ny170 := zk hy170; clear hy170; have H' := zk H; clear H; have p165 : 0 ≤ (x33_2 : Int) := zo (by assumption); have q165 : x33_2 < (l0.length : Int) := zo (by assumption); obtain ⟨ad165, e165, hx165_0, hx165_1⟩ := at_T43 HR0.out x33_2 p165 q165; cases e165; replace hx165_0 := zB HB hx165_0; replace hx165_1 := zB HB hx165_1; replace p165 := eq_true p165; replace q165 := eq_true q165
             go_wp2_with (first | ((with_reducible refine zgd (N := 11) rfl ?_); (try (refine zgg (by rfl) ?_; dsimp only)); refine zb ?hg (N := 11) ?hd (cs := #[.string ⟨#[]⟩, .string ⟨#[]⟩]) (t := 43) ?hr ?_; (case hd => rfl); (case hg => rfl); (case hr => go_simp; first | done | rfl); intro gb166 hg w36 hbox hb; have n0_ := zk (Kd.R_below (Kd.R_elderB (by (with_reducible repeat (first | apply Kd.R_alloc | apply Kd.R_drewN | apply Kd.R_drew)); exact HO_9.out) gb166 (Nat.le_of_eq hg.symm)) hb); have n1_ := zk (zs (by with_reducible repeat first | exact HB.out | apply zA | apply zN | apply zD) hb); have n2_ := zk (hbox); have n3_ := zk ((by rw [hg]; exact (zq (by with_reducible repeat first | exact HB.out | apply zA | apply zN | apply zD)) : w.heap.size ≤ gb166)); have n4_ := n3_; clear HO_9; clear HB; have HO_9 := n0_; have HB := n1_; have BK166 := n2_; have GW166 := n3_; have GE166 := n4_; clear n0_ n1_ n2_ n3_ n4_; clear hb hbox hg; obtain ⟨hcz37_0, hcz37_1, hfz37_0, hfz37_1⟩ := zc2 BK166.out) | ((with_reducible refine zgn (b := .append) (xs := #[.tmp 58, .tmp 60]) rfl ?_); (try (refine zgg (by rfl) ?_; dsimp only)); at_builtin; refine Kd.R_append k43 (w0 := w) w.heap.size rfl (.tmp 58) (.tmp 60) 22 43 (.agg #[(.string ⟨#[]⟩), (.string ⟨#[]⟩)]) 32 rfl Try.underlying22 info43 rfl (by decide) (by omega) u9 x9_2 (⟨(rd_T43 l0 x33_2).f0, (rd_T43 l0 x33_2).f1⟩ : S43) [.string ((rd_T43 l0 x33_2).f0), .string ((rd_T43 l0 x33_2).f1)] (fun k_ => k_ ≠ gb166) (fun _ => False) rfl (by first | (go_simp; done) | (go_simp; rfl)) ?aP (fun _ hk => hk.elim) ?aF ?aO ?aB ?aS ?aL ?_; (case aP => exact k43_mkM _ _ _ (⟨(rd_T43 l0 x33_2).f0, (rd_T43 l0 x33_2).f1⟩ : S43)); (case aB => exact (by with_reducible repeat first | exact HB.out | apply zA | apply zN | apply zD | refine zS ?_ GE166.out)); (case aF => exact (fun k_ hk => Kd.freshB (g := gb166) (o := .cells #[.string ((rd_T43 l0 x33_2).f0), .string ((rd_T43 l0 x33_2).f1)] 43 (0, 0)) (by (with_reducible repeat first | apply zM | apply zE | apply zF); refine zP (cs := #[.string ((rd_T43 l0 x33_2).f0), .string ⟨#[]⟩]) ?_ 1 _ rfl; (with_reducible repeat first | apply zM | apply zE | apply zF); refine zP (cs := #[.string ⟨#[]⟩, .string ⟨#[]⟩]) ?_ 0 _ rfl; (with_reducible repeat first | apply zM | apply zE | apply zF); exact BK166.out) k_ hk)); (case aO => exact (by (with_reducible repeat (first | apply Kd.R_alloc | apply Kd.R_drewN | apply Kd.R_drew)); exact Kd.R_mono (Kd.R_far (p := ⟨gb166, 1, none⟩) (Kd.R_far (p := ⟨gb166, 0, none⟩) (Kd.R_mono HO_9.out (fun k_ hk => (⟨hk, hk.2⟩ : _ ∧ k_ ≠ gb166))) (fun _ hk => hk.2) (.string ((rd_T43 l0 x33_2).f0))) (fun _ hk => hk.2) (.string ((rd_T43 l0 x33_2).f1))) (fun _ hk => hk.1.2))); (case aS => exact (zq (by with_reducible repeat first | exact HB.out | apply zA | apply zN | apply zD | refine zS ?_ GE166.out))); (case aL => have := LMc35.out; omega); intro v171 w38 ho hb hg hat; rw [← Ny170.out] at ho; have n0_ := zk (blk_grown (g := gb166) (o := .cells #[.string ((rd_T43 l0 x33_2).f0), .string ((rd_T43 l0 x33_2).f1)] 43 (0, 0)) (by (with_reducible repeat first | apply zM | apply zE | apply zF); refine zP (cs := #[.string ((rd_T43 l0 x33_2).f0), .string ⟨#[]⟩]) ?_ 1 _ rfl; (with_reducible repeat first | apply zM | apply zE | apply zF); refine zP (cs := #[.string ⟨#[]⟩, .string ⟨#[]⟩]) ?_ 0 _ rfl; (with_reducible repeat first | apply zM | apply zE | apply zF); exact BK166.out) hg (Kd.R_away HO_9.out (fun _ hk => hk.2))); have n1_ := zk (hb); have n2_ := zk (ho); clear BK166; clear HB; clear HO_9; have BK166 := n0_; have HB := n1_; have HO172 := n2_; clear n0_ n1_ n2_; clear ho hb hg hat))
             go_roundg kj10
             case measure => have := HJ4.out; have := HK2.out; have := HJ10.out; omega
             case rel => exact ⟨(y170), (wrap64 (x33_2 + 1)), (by first | rfl | (simp; done) | (simp [*]; done)), H', ⟨by have := HJ4.out; have := HK2.out; have := HJ10.out; omega⟩, ⟨by (with_reducible repeat (first | apply Kd.R_alloc | apply Kd.R_drewN | apply Kd.R_drew)); exact Kd.R_mono HO172.out (fun _ hk => trivial)⟩, ⟨by with_reducible repeat first | exact HB.out | apply zA | apply zN | apply zD | refine zS ?_ GE166.out⟩⟩
            ·
             rw [if_neg c35] at H; exact absurd H (by simp)
          ·
           rw [if_neg c29] at H; exact absurd H (by simp)
         ·
          rw [if_neg c28] at H; exact absurd H (by simp)
     ·
      rw [if_neg c10] at H; have c10b0 := decide_eq_false c10; clear c10
      by_cases c39 : t148 < 0
      ·
       rw [if_pos c39] at H; have c39b0 := decide_eq_true c39; clear c39
       by_cases c40 : x8_4 = (l0.length : Int)
       ·
        rw [if_pos c40] at H; have c40b0 := beq_iff_eq.mpr c40; have c40b1 := bne_eq_false_iff_eq.mpr c40; clear c40
        by_cases c41 : x9_2.length < 4398046511104
        ·
         rw [if_pos c41] at H; have LMc41 := zk c41; clear c41; obtain ⟨y151, hy151⟩ : ∃ y_ : List (S43), y_ = (x9_2 ++ [(⟨a1, a2⟩ : S43)]) := ⟨_, rfl⟩
         replace H : (some y151) = some r := by first | (rw [hy151]; with_reducible exact H) | (have H2_ := (Option.bind_some _ _).symm.trans H; rw [hy151]; with_reducible exact H2_) | (have H2_ := (Option.bind_some _ _).symm.trans H; with_reducible exact H2_) | with_reducible exact H | (rw [hy151]; exact H) | exact H
         have Ny151 := zk hy151; clear hy151; obtain rfl := Option.some.inj H
         go_wp2_with (first | ((with_reducible refine zgn (b := .append) (xs := #[.tmp 71, .tmp 75]) rfl ?_); (try (refine zgg (by rfl) ?_; dsimp only)); at_builtin; refine Kd.R_append k43 (w0 := w) w.heap.size rfl (.tmp 71) (.tmp 75) 22 43 (.agg #[(.string ⟨#[]⟩), (.string ⟨#[]⟩)]) 32 rfl Try.underlying22 info43 rfl (by decide) (by omega) u9 x9_2 (⟨a1, a2⟩ : S43) [.string a1, .string a2] (fun _ => True) (fun _ => False) rfl rfl ?aP (fun _ hk => hk.elim) ?aF ?aO ?aB ?aS ?aL ?_; (case aP => exact k43_mkM _ _ _ (⟨a1, a2⟩ : S43)); (case aB => exact (by with_reducible repeat first | exact HB.out | apply zA | apply zN | apply zD)); (case aF => exact (fun _ _ => trivial)); (case aO => exact (by (with_reducible repeat (first | apply Kd.R_alloc | apply Kd.R_drewN | apply Kd.R_drew)); exact HO_9.out)); (case aS => exact (zq (by with_reducible repeat first | exact HB.out | apply zA | apply zN | apply zD))); (case aL => have := LMc41.out; omega); intro v152 w42 ho hb hg hat; rw [← Ny151.out] at ho; have n0_ := zk (hb); have n1_ := zk (ho); clear HB; clear HO_9; have HB := n0_; have HO153 := n1_; clear n0_ n1_; clear ho hb hg hat))
         go_ret; exact ⟨_, by first | rfl | (simp [wN, wS] <;> rfl) | (simp [*, wN, wS] <;> rfl), by (with_reducible repeat (first | apply Kd.R_alloc | apply Kd.R_drewN | apply Kd.R_drew)); exact HO153.out, by with_reducible repeat first | exact HB.out | apply zA | apply zN | apply zD⟩
        ·
         rw [if_neg c41] at H; exact absurd H (by simp)
       ·
        rw [if_neg c40] at H; have c40b0 := beq_eq_false_iff_ne.mpr c40; have c40b1 := bne_iff_ne.mpr c40; obtain rfl := Option.some.inj H; go_wp2; go_ret; exact ⟨_, by first | rfl | (simp [wN, wS] <;> rfl) | (simp [*, wN, wS] <;> rfl), by (with_reducible repeat (first | apply Kd.R_alloc | apply Kd.R_drewN | apply Kd.R_drew)); exact HO_9.out, by with_reducible repeat first | exact HB.out | apply zA | apply zN | apply zD⟩
      ·
       rw [if_neg c39] at H; have c39b0 := decide_eq_false c39; clear c39; obtain rfl := Option.some.inj H; go_wp2; go_ret; exact ⟨_, by first | rfl | (simp [wN, wS] <;> rfl) | (simp [*, wN, wS] <;> rfl), by (with_reducible repeat (first | apply Kd.R_alloc | apply Kd.R_drewN | apply Kd.R_drew)); exact HO_9.out, by with_reducible repeat first | exact HB.out | apply zA | apply zN | apply zD⟩
def r09_Norm.l0 : Nat → List (S43) → List (S43) → Int → Int → Option ((List (S43)))
  | 0, _, _, _, _ => none
  | k + 1, x0, x3, x6, x7 => if x7 < x6 then (if 0 ≤ x7 then (if x7 < (x0.length : Int) then ((r09_With.f k x3 ((rd_T43 x0 x7).f0) ((rd_T43 x0 x7).f1)).bind fun t175 => (r09_Norm.l0 k x0 t175 x6 (wrap64 (x7 + 1)))) else (none)) else (none)) else (some x3)
def r09_Norm.f (k : Nat) (l0 : List (S43)) : Option ((List (S43))) := r09_Norm.l0 k l0 ([] : List (S43)) (l0.length : Int) 0
def r09_Norm.T5 : Bool × List (List Nat × List Nat) := (true, [([], []), ([], []), ([], []), ([1, 2], [1, 2]), ([3], [3]), ([4], [4]), ([], []), ([], []), ([6, 7], [6, 7]), ([8], [8]), ([9], [9]), ([0, 5, 10], [0, 5, 10]), ([11, 11, 0, 1, 2, 3, 4, 5, 6, 7, 8, 9, 10, 11], [0, 11])])
def r09_Norm.B5 : List Nat := [0, 0, 0, 6, 14, 30, 0, 0, 192, 448, 960, 2047, 4095]
theorem r09_Norm.tab5 : rtab .any (opsOf Try.f11 5) = r09_Norm.T5 := by kernel_rfl
theorem r09_Norm.bits5 : waitsOk r09_Norm.T5.2 r09_Norm.B5 = true := by kernel_rfl
set_option maxHeartbeats 8000000 in
set_option maxRecDepth 100000 in
theorem r09_Norm.calls (k : Nat) (A0 : Option Addr) (c0 : Nat) (l0 : List (S43)) (r : List (S43)) (w : World) (hr0 : Kd.C k43 w A0 l0.length l0) (hc0 : l0.length ≤ c0) (h : r09_Norm.f k l0 = some r) :
    Calls Try.prog 11 #[.slice A0 l0.length c0] w fun e w' => ∃ v0_ : Value, e = .returned (v0_) ∧ Kd.R k43 43 w' w.heap.size (fun _ => True) v0_ r ∧ Below w.heap.size w w' := by
  have HR0 := zk hr0; have HC0 := zk hc0; clear hr0 hc0; have HB := zk (Below.refl w.heap.size w); have H : (r09_Norm.l0 k l0 ([] : List (S43)) (l0.length : Int) 0) = some r := h; clear h; have H' := zk H; clear H
  go_enter Try.func11, Try.ntmps11
  go_wp2
  go_loopg [3, 7] k (fun kq v3 v7 w' => ∃ (x3_1 : List (S43)) (x7_1 : Int), v7 = .int .i64 x7_1 ∧ Aside0 (r09_Norm.l0 kq l0 x3_1 (l0.length : Int) x7_1 = some r) ∧ Aside0 (kq ≤ k) ∧ Aside0 (Kd.R k43 43 w' w.heap.size (fun _ => True) v3 x3_1) ∧ Aside0 (Below w.heap.size w w'))
  case atStart => exact ⟨(([] : List (S43))), (0), (by first | rfl | (simp; done) | (simp [*]; done)), H', ⟨Nat.le_refl _⟩, ⟨by first | exact Kd.R_nil _ _ _ _ _ | exact Kd.N_nil _ _ _ _ _ | exact Kd.V_nil _ _ _ _ _ | exact Kd.Q_nil _ _ _ _ _ | exact Kd.S_nil _ _ _ _ _⟩, ⟨by with_reducible repeat first | exact HB.out | apply zA | apply zN | apply zD⟩⟩
  case round =>
    clear H'; (try clear c1); obtain ⟨x3_1, x7_1, rfl, HA, HK1, HO_3, HB⟩ := hrel
    cases gk with
    | zero => exact absurd HA.out (by simp [r09_Norm.l0])
    | succ k1 =>
      have H := HA.out; clear HA; simp only [r09_Norm.l0] at H
      by_cases c2 : x7_1 < (l0.length : Int)
      · rw [if_pos c2] at H
        have c2b0 := decide_eq_true c2
        clear c2
        by_cases c3 : 0 ≤ x7_1
        · rw [if_pos c3] at H
          have c3b0 := decide_eq_true c3
          clear c3
          by_cases c4 : x7_1 < (l0.length : Int)
          · rw [if_pos c4] at H
            have c4b0 := decide_eq_true c4
            clear c4
            replace H := Option.bind_eq_some_iff.mp H
            obtain ⟨t175, A50, H⟩ := H
            replace H : (r09_Norm.l0 k1 l0 t175 (l0.length : Int) (wrap64 (x7_1 + 1))) = some r := H
            have A5 := zk A50
            clear A50
            have H' := zk H
            clear H
            try go_wp2
            have n0_ := zk (Kd.R_drew HO_3.out)
            have n1_ := zk (zD HB.out)
            clear HO_3
            clear HB
            have HO_3 := n0_
            have HB := n1_
            clear n0_ n1_
            have p173 : 0 ≤ (x7_1 : Int) := zo (by assumption)
            have q173 : x7_1 < (l0.length : Int) := zo (by assumption)
            obtain ⟨ad173, e173, hx173_0, hx173_1⟩ := at_T43 HR0.out x7_1 p173 q173
            have hw173_1 := hx173_1
            have hw173_0 := hx173_0
            cases e173
            replace hx173_0 := zB HB hx173_0
            replace hx173_1 := zB HB hx173_1
            replace p173 := eq_true p173
            replace q173 := eq_true q173
            have p174 : 0 ≤ (x7_1 : Int) := zo (by assumption)
            have q174 : x7_1 < (l0.length : Int) := zo (by assumption)
            obtain ⟨ad174, e174, hx174_0, hx174_1⟩ := at_T43 HR0.out x7_1 p174 q174
            have hw174_1 := hx174_1
            have hw174_0 := hx174_0
            obtain rfl : ad173 = ad174 := (by injection e174)
            replace hx174_0 := zB HB hx174_0
            replace hx174_1 := zB HB hx174_1
            replace p174 := eq_true p174
            replace q174 := eq_true q174
            obtain ⟨Ao7, co7, eo7⟩ := Kd.R_slice HO_3.out
            (first | subst eo7 | (injection eo7 with f1_ f2_ f3_; have f4_ := f1_.symm; have f5_ := f3_.symm; clear f1_ f2_ f3_; subst f4_; subst f5_))
            refine start_ (n := 13) (S := fun w' => w'.cell? (ad173.add ((x7_1).toNat * 2)) = some (.string ((rd_T43 l0 x7_1).f0)) ∧ w'.cell? ⟨(ad173.add ((x7_1).toNat * 2)).block, (ad173.add ((x7_1).toNat * 2)).off + 1, none⟩ = some (.string ((rd_T43 l0 x7_1).f1)) ∧ w'.cell? (ad173.add ((x7_1).toNat * 2)) = some (.string ((rd_T43 l0 x7_1).f0)) ∧ w'.cell? ⟨(ad173.add ((x7_1).toNat * 2)).block, (ad173.add ((x7_1).toNat * 2)).off + 1, none⟩ = some (.string ((rd_T43 l0 x7_1).f1))) (ds := []) #[F,F,F,F,F,F,F,F,F,F,F,F,F] (by kernel_rfl) rfl rfl ⟨(zB HB hw173_0), (zB HB hw173_1), (zB HB hw174_0), (zB HB hw174_1)⟩ (fun hHeld => ?_); refine with_tabW r09_Norm.tab5 r09_Norm.bits5 (fun HT_ HW_ => ?_)
            generalize wr.drew = w6 at HO_3 HB hx173_0 hx173_1 hx174_0 hx174_1 hHeld ⊢
            refine pure_ (i := 0) (N := some 10) (v := ?_) (a' := ?_) #[T,F,F,F,F,F,F,F,F,F,F,F,F] rfl rfl (any_of HT_.out (by kernel_rfl)) (fun _ _ _ h => h) (Or.inl ⟨by rfl, ?_⟩) ?_ ?_
            rotate_left
            · intro w'
              go_simp
              with_reducible rfl
            rotate_left
            · simp only [Act.put, zt, zu, zv, i64_w, i32_w]
              rfl
            refine pure_ (i := 1) (N := some 11) (v := ?_) (a' := ?_) #[T,T,F,F,F,F,F,F,F,F,F,F,F] rfl rfl (any_of HT_.out (by kernel_rfl)) (fun _ _ _ h => h) (Or.inl ⟨by rfl, ?_⟩) ?_ ?_
            rotate_left
            · intro w'
              go_simp
              with_reducible rfl
            rotate_left
            · simp only [Act.put, zt, zu, zv, i64_w, i32_w]
              rfl
            refine pure_ (i := 2) (N := some 12) (v := ?_) (a' := ?_) #[T,T,T,F,F,F,F,F,F,F,F,F,F] rfl rfl (any_of HT_.out (by kernel_rfl)) (fun _ _ _ h => h) (Or.inl ⟨by rfl, ?_⟩) ?_ ?_
            rotate_left
            · intro w'
              go_simp
              with_reducible rfl
            rotate_left
            · simp only [Act.put, zt, zu, zv, i64_w, i32_w]
              rfl
            refine pure_ (i := 3) (N := some 13) (v := ?_) (a' := ?_) #[T,T,T,T,F,F,F,F,F,F,F,F,F] rfl rfl (any_of HT_.out (by kernel_rfl)) (fun _ _ _ h => h) (Or.inl ⟨by rfl, ?_⟩) ?_ ?_
            rotate_left
            · intro w'
              go_simp
              with_reducible rfl
            rotate_left
            · simp only [Act.put, zt, zu, zv, i64_w, i32_w]
              rfl
            refine pure_ (i := 4) (N := some 14) (v := ?_) (a' := ?_) #[T,T,T,T,T,F,F,F,F,F,F,F,F] rfl rfl (any_of HT_.out (by kernel_rfl)) (fun _ _ _ h => h) (Or.inl ⟨by rfl, ?_⟩) ?_ ?_
            rotate_left
            · intro w'
              go_simp
              with_reducible rfl
            rotate_left
            · simp only [Act.put, zt, zu, zv, i64_w, i32_w]
              rfl
            refine pure_ (i := 6) (N := some 16) (v := ?_) (a' := ?_) #[T,T,T,T,T,F,T,F,F,F,F,F,F] rfl rfl (any_of HT_.out (by kernel_rfl)) (fun _ _ _ h => h) (Or.inl ⟨by rfl, ?_⟩) ?_ ?_
            rotate_left
            · intro w'
              go_simp
              with_reducible rfl
            rotate_left
            · simp only [Act.put, zt, zu, zv, i64_w, i32_w]
              rfl
            refine pure_ (i := 7) (N := some 17) (v := ?_) (a' := ?_) #[T,T,T,T,T,F,T,T,F,F,F,F,F] rfl rfl (any_of HT_.out (by kernel_rfl)) (fun _ _ _ h => h) (Or.inl ⟨by rfl, ?_⟩) ?_ ?_
            rotate_left
            · intro w'
              go_simp
              with_reducible rfl
            rotate_left
            · simp only [Act.put, zt, zu, zv, i64_w, i32_w]
              rfl
            refine pure_ (i := 8) (N := some 18) (v := ?_) (a' := ?_) #[T,T,T,T,T,F,T,T,T,F,F,F,F] rfl rfl (any_of HT_.out (by kernel_rfl)) (fun _ _ _ h => h) (Or.inl ⟨by rfl, ?_⟩) ?_ ?_
            rotate_left
            · intro w'
              go_simp
              with_reducible rfl
            rotate_left
            · simp only [Act.put, zt, zu, zv, i64_w, i32_w]
              rfl
            refine pure_ (i := 9) (N := some 19) (v := ?_) (a' := ?_) #[T,T,T,T,T,F,T,T,T,T,F,F,F] rfl rfl (any_of HT_.out (by kernel_rfl)) (fun _ _ _ h => h) (Or.inl ⟨by rfl, ?_⟩) ?_ ?_
            rotate_left
            · intro w'
              go_simp
              with_reducible rfl
            rotate_left
            · simp only [Act.put, zt, zu, zv, i64_w, i32_w]
              rfl
            refine take_ (i := 5) (N := some 15) (v := ?_) (a' := ?_) #[T,T,T,T,T,T,T,T,T,T,F,F,F] rfl rfl (take_ofW HT_.out HW_.out (by kernel_rfl)) (fun _ _ _ h => h) (Or.inl ⟨by rfl, ?_⟩) hHeld ?_ ?_
            rotate_left
            · rintro w' ⟨s0, s1, s2, s3⟩
              go_simp
              with_reducible rfl
            rotate_left
            · simp only [Act.put, zt, zu, zv, i64_w, i32_w]
              rfl
            refine take_ (i := 10) (N := some 20) (v := ?_) (a' := ?_) #[T,T,T,T,T,T,T,T,T,T,T,F,F] rfl rfl (take_ofW HT_.out HW_.out (by kernel_rfl)) (fun _ _ _ h => h) (Or.inl ⟨by rfl, ?_⟩) hHeld ?_ ?_
            rotate_left
            · rintro w' ⟨s0, s1, s2, s3⟩
              go_simp
              with_reducible rfl
            rotate_left
            · simp only [Act.put, zt, zu, zv, i64_w, i32_w]
              rfl
            refine one_ (i := 11) (N := some 21) #[T,T,T,T,T,T,T,T,T,T,T,T,F] rfl rfl (one_of HT_.out (by kernel_rfl)) (by decide) (fun K hK => ?_)
            refine goes_ Try.func19 (by kernel_rfl) rfl #[.slice Ao7 x3_1.length co7, .string ((rd_T43 l0 x7_1).f0), .string ((rd_T43 l0 x7_1).f1)] (by rfl) rfl rfl (by (try simp only [List.map_toArray, List.map_cons, List.map_nil]); first | done | rfl | (simp only [List.length_drop, List.length_take]; rfl)) ?_
            with_reducible refine (r09_With.calls k1 _ _ x3_1 ((rd_T43 l0 x7_1).f0) ((rd_T43 l0 x7_1).f1) t175 _ ?side1 ?side2 A5.out).mono ?_
            (case side1 => repeat (first | exact (Kd.R_reads' HO_3.out).2.2 | (with_reducible refine Kd.C_alloc ?_ _) | (with_reducible refine Kd.C_drewN ?_ _) | (with_reducible refine Kd.C_drew ?_)))
            (case side2 => exact (Kd.R_reads' HO_3.out).2.1)
            rintro e w8 ⟨v176, rfl, ho0, hb⟩
            refine ⟨_, rfl, ?_⟩
            have n0_ := zk (Kd.R_elder' (by (with_reducible repeat (first | apply Kd.R_alloc | apply Kd.R_drewN | apply Kd.R_drew)); exact HO_3.out) (Kd.R_base ho0) hb)
            have n1_ := zk (Kd.R_lower (Kd.R_new' ho0 (Kd.R_lt (by (with_reducible repeat (first | apply Kd.R_alloc | apply Kd.R_drewN | apply Kd.R_drew)); exact HO_3.out))) (zq (by with_reducible repeat first | exact HB.out | apply zA | apply zN | apply zD)))
            have n2_ := zk (zs (by with_reducible repeat first | exact HB.out | apply zA | apply zN | apply zD) hb)
            clear HO_3
            clear HB
            have HO_3 := n0_
            have HO177 := n1_
            have HB := n2_
            clear n0_ n1_ n2_
            (try clear hb)
            (try clear hb2)
            (try clear hk)
            (try clear hi)
            (try clear ho0)
            refine hK.out _ _ ⟨(zB HB hw173_0), (zB HB hw173_1), (zB HB hw174_0), (zB HB hw174_1)⟩ (fun hHeld => ?_)
            clear hK K
            refine norm_ (a' := ?_) ?_ ?_
            rotate_left
            · show Act.put _ (some 21) _ = _
              simp only [Act.put, zt, zu, zv, i64_w, i32_w]
              rfl
            refine pure_ (i := 12) (N := some 3) (v := ?_) (a' := ?_) #[T,T,T,T,T,T,T,T,T,T,T,T,T] rfl rfl (any_of HT_.out (by kernel_rfl)) (fun _ _ _ h => h) (Or.inl ⟨by rfl, ?_⟩) ?_ ?_
            rotate_left
            · intro w'
              go_simp
              with_reducible rfl
            rotate_left
            · simp only [Act.put, zt, zu, zv, i64_w, i32_w]
              rfl
            refine done_ (done_of HT_.out (by kernel_rfl)) ?_
            try go_wp2
            go_roundg k1
            case measure => have := HK1.out; omega
            case rel => exact ⟨(t175), (wrap64 (x7_1 + 1)), (by first | rfl | (simp; done) | (simp [*]; done)), H', ⟨by have := HK1.out; omega⟩, ⟨by (with_reducible repeat (first | apply Kd.R_alloc | apply Kd.R_drewN | apply Kd.R_drew)); exact Kd.R_mono HO177.out (fun _ hk => trivial)⟩, ⟨by with_reducible repeat first | exact HB.out | apply zA | apply zN | apply zD⟩⟩
          · rw [if_neg c4] at H
            exact absurd H (by simp)
        · rw [if_neg c3] at H
          exact absurd H (by simp)
      · rw [if_neg c2] at H
        have c2b0 := decide_eq_false c2; clear c2; obtain rfl := Option.some.inj H; go_wp2; go_ret; exact ⟨_, by first | rfl | (simp [wN, wS] <;> rfl) | (simp [*, wN, wS] <;> rfl), by (with_reducible repeat (first | apply Kd.R_alloc | apply Kd.R_drewN | apply Kd.R_drew)); exact HO_3.out, by with_reducible repeat first | exact HB.out | apply zA | apply zN | apply zD⟩
def lw_AdiffBack.j0 : Nat → List (S43) → List (S43) → Bool → Option (Bool)
 | 0, _, _, _ => none
 | k + 1, x0, x1, x12 => if x12 = true then ((lw_same.f k).bind fun t228 => (some t228)) else ((r09_Norm.f k x0).bind fun t229 => ((r09_Norm.f k x1).bind fun t232 => ((adiff_Of.f t229 t232).bind fun t235 => ((adiff_Do.f k t229 t235).bind fun t238 => ((pl_Attrs.f k t238 t232).bind fun t241 => (if t241 = true then ((adiff_Of.f t229 t229).bind fun t242 => (if (t242.length : Int) = 0 then ((adiff_Names.f t232 t229).bind fun t245 => ((adiff_Names.f t229 t232).bind fun t246 => (if t245 = t246 then ((lw_same.f k).bind fun t247 => (some t247)) else (some false)))) else (some false))) else (some false)))))))
def lw_AdiffBack.f (k : Nat) (l0 : List (S43)) (l1 : List (S43)) : Option (Bool) := (lw_heavy.f k l0).bind fun t226 => (if t226 = true then (lw_AdiffBack.j0 k l0 l1 true) else ((lw_heavy.f k l1).bind fun t227 => (lw_AdiffBack.j0 k l0 l1 t227)))
set_option maxHeartbeats 8000000 in
set_option maxRecDepth 100000 in
theorem lw_AdiffBack.calls (k : Nat) (A0 : Option Addr) (c0 : Nat) (l0 : List (S43)) (A1 : Option Addr) (c1 : Nat) (l1 : List (S43)) (r : Bool) (w : World) (hr0 : Kd.C k43 w A0 l0.length l0) (hc0 : l0.length ≤ c0) (hr1 : Kd.C k43 w A1 l1.length l1) (hc1 : l1.length ≤ c1) (h : lw_AdiffBack.f k l0 l1 = some r) :
  Calls Try.prog 4 #[.slice A0 l0.length c0, .slice A1 l1.length c1] w fun e w' => e = .returned (.bool r) ∧ Below w.heap.size w w' := by
 have HR0 := zk hr0
 have HC0 := zk hc0
 clear hr0 hc0
 have HR1 := zk hr1
 have HC1 := zk hc1
 clear hr1 hc1
 have HB := zk (Below.refl w.heap.size w)
 have H : ((lw_heavy.f k l0).bind fun t226 => (if t226 = true then (lw_AdiffBack.j0 k l0 l1 true) else ((lw_heavy.f k l1).bind fun t227 => (lw_AdiffBack.j0 k l0 l1 t227)))) = some r := h
 clear h
 have HC3 := zk H
 clear H
 go_enter Try.func4, Try.ntmps4
 go_upto_region 1 with (fail)
 go_cut [12] (fun v12 wc => ∃ (kq : Nat) (x12_2 : Bool), v12 = .bool x12_2 ∧ Aside0 (lw_AdiffBack.j0 kq l0 l1 x12_2 = some r) ∧ Aside0 (kq ≤ k) ∧ Aside0 (Below w.heap.size w wc))
 case first =>
  have H := HC3.out; clear HC3; replace H := Option.bind_eq_some_iff.mp H; obtain ⟨t226, A40, H⟩ := H; replace H : (if t226 = true then (lw_AdiffBack.j0 k l0 l1 true) else ((lw_heavy.f k l1).bind fun t227 => (lw_AdiffBack.j0 k l0 l1 t227))) = some r := H; have A4 := zk A40; clear A40
  by_cases c5 : t226 = true
  ·
   subst c5
   have H1 : (lw_AdiffBack.j0 k l0 l1 true) = some r := by rw [if_pos rfl] at H; exact H
   clear H; have H := H1; clear H1; have H' := zk H; clear H
   go_wp2_with (first | ((with_reducible refine zgk (f := 6) rfl ?_); refine zgl (some 8) rfl rfl Try.func6 (by kernel_rfl) rfl #[.slice A0 l0.length c0] rfl (by (try simp only [List.map_toArray, List.map_cons, List.map_nil]); first | done | rfl | (simp only [List.length_drop, List.length_take]; rfl)) ?_; (with_reducible refine (lw_heavy.calls k (fun k_ => k_ < w.heap.size) _ _ l0 true _ ?side1 A4.out).mono ?_); (case side1 => exact Kd.V_mk HC0.out (Kd.F_below (Kd.C_F k43_heap HR0.out) (by with_reducible repeat first | exact HB.out | apply zA | apply zN | apply zD))); rintro e w6 ⟨rfl, hb⟩; refine ⟨_, rfl, ?_⟩; have n0_ := zk (zs (by with_reducible repeat first | exact HB.out | apply zA | apply zN | apply zD) hb); clear HB; have HB := n0_; clear n0_; (try clear hb); (try clear hb2); (try clear hk); (try clear hi)))
   go_meet
   case rel => exact ⟨_, (true), (by first | rfl | (simp; done) | (simp [*]; done)), H', ⟨by first | omega | exact Nat.le_refl _⟩, ⟨by with_reducible repeat first | exact HB.out | apply zA | apply zN | apply zD⟩⟩
  ·
   replace c5 := Bool.eq_false_iff.mpr c5; subst c5
   have H1 : ((lw_heavy.f k l1).bind fun t227 => (lw_AdiffBack.j0 k l0 l1 t227)) = some r := by rw [if_neg (show ¬ (false = true) by decide)] at H; exact H
   clear H; have H := H1; clear H1; replace H := Option.bind_eq_some_iff.mp H; obtain ⟨t227, A70, H⟩ := H; replace H : (lw_AdiffBack.j0 k l0 l1 t227) = some r := H; have A7 := zk A70; clear A70; have H' := zk H; clear H
   go_wp2_with (first | ((with_reducible refine zgk (f := 6) rfl ?_); refine zgl (some 8) rfl rfl Try.func6 (by kernel_rfl) rfl #[.slice A0 l0.length c0] rfl (by (try simp only [List.map_toArray, List.map_cons, List.map_nil]); first | done | rfl | (simp only [List.length_drop, List.length_take]; rfl)) ?_; (with_reducible refine (lw_heavy.calls k (fun k_ => k_ < w.heap.size) _ _ l0 false _ ?side1 A4.out).mono ?_); (case side1 => exact Kd.V_mk HC0.out (Kd.F_below (Kd.C_F k43_heap HR0.out) (by with_reducible repeat first | exact HB.out | apply zA | apply zN | apply zD))); rintro e w8 ⟨rfl, hb⟩; refine ⟨_, rfl, ?_⟩; have n0_ := zk (zs (by with_reducible repeat first | exact HB.out | apply zA | apply zN | apply zD) hb); clear HB; have HB := n0_; clear n0_; (try clear hb); (try clear hb2); (try clear hk); (try clear hi)) | (go_at_call 6; (with_reducible refine (lw_heavy.calls k (fun k_ => k_ < w.heap.size) _ _ l1 t227 _ ?side1 A7.out).mono ?_); (case side1 => exact Kd.V_mk HC1.out (Kd.F_below (Kd.C_F k43_heap HR1.out) (by with_reducible repeat first | exact HB.out | apply zA | apply zN | apply zD))); rintro e w9 ⟨rfl, hb⟩; have n0_ := zk (zs (by with_reducible repeat first | exact HB.out | apply zA | apply zN | apply zD) hb); clear HB; have HB := n0_; clear n0_; (try clear hb); (try clear hb2); (try clear hk); (try clear hi)))
   go_meet
   case rel => exact ⟨_, (t227), (by first | rfl | (simp; done) | (simp [*]; done)), H', ⟨by first | omega | exact Nat.le_refl _⟩, ⟨by with_reducible repeat first | exact HB.out | apply zA | apply zN | apply zD⟩⟩
 case rest =>
  clear HC3; (try clear c1); (try clear p2); (try clear c4); (try clear c5); (try clear c6); obtain ⟨kq, x12_2, rfl, HA, HJ2, HB⟩ := hcut
  cases kq with
  | zero => exact absurd HA.out (by simp [lw_AdiffBack.j0])
  | succ kj2 =>
   have H := HA.out; clear HA; simp only [lw_AdiffBack.j0] at H
   by_cases c10 : x12_2 = true
   ·
    subst c10
    have H1 : ((lw_same.f kj2).bind fun t228 => (some t228)) = some r := by rw [if_pos rfl] at H; exact H
    clear H; have H := H1; clear H1; replace H := Option.bind_eq_some_iff.mp H; obtain ⟨t228, A110, H⟩ := H; replace H : (some t228) = some r := H; have A11 := zk A110; clear A110; obtain rfl := Option.some.inj H
    go_wp2_with (first | ((with_reducible refine zgk (f := 7) rfl ?_); refine zgl (some 13) rfl rfl Try.func7 (by kernel_rfl) rfl #[] rfl (by (try simp only [List.map_toArray, List.map_cons, List.map_nil]); first | done | rfl | (simp only [List.length_drop, List.length_take]; rfl)) ?_; (with_reducible refine (lw_same.calls kj2  t228 _ A11.out).mono ?_); rintro e w12 ⟨rfl, hb⟩; refine ⟨_, rfl, ?_⟩; have n0_ := zk (zs (by with_reducible repeat first | exact HB.out | apply zA | apply zN | apply zD) hb); clear HB; have HB := n0_; clear n0_; (try clear hb); (try clear hb2); (try clear hk); (try clear hi)))
    go_ret; exact ⟨by first | rfl | (simp [wN, wS] <;> rfl) | (simp [*, wN, wS] <;> rfl), by with_reducible repeat first | exact HB.out | apply zA | apply zN | apply zD⟩
   ·
    replace c10 := Bool.eq_false_iff.mpr c10; subst c10
    have H1 : ((r09_Norm.f kj2 l0).bind fun t229 => ((r09_Norm.f kj2 l1).bind fun t232 => ((adiff_Of.f t229 t232).bind fun t235 => ((adiff_Do.f kj2 t229 t235).bind fun t238 => ((pl_Attrs.f kj2 t238 t232).bind fun t241 => (if t241 = true then ((adiff_Of.f t229 t229).bind fun t242 => (if (t242.length : Int) = 0 then ((adiff_Names.f t232 t229).bind fun t245 => ((adiff_Names.f t229 t232).bind fun t246 => (if t245 = t246 then ((lw_same.f kj2).bind fun t247 => (some t247)) else (some false)))) else (some false))) else (some false))))))) = some r := by rw [if_neg (show ¬ (false = true) by decide)] at H; exact H
    clear H; have H := H1; clear H1; replace H := Option.bind_eq_some_iff.mp H; obtain ⟨t229, A130, H⟩ := H; replace H : ((r09_Norm.f kj2 l1).bind fun t232 => ((adiff_Of.f t229 t232).bind fun t235 => ((adiff_Do.f kj2 t229 t235).bind fun t238 => ((pl_Attrs.f kj2 t238 t232).bind fun t241 => (if t241 = true then ((adiff_Of.f t229 t229).bind fun t242 => (if (t242.length : Int) = 0 then ((adiff_Names.f t232 t229).bind fun t245 => ((adiff_Names.f t229 t232).bind fun t246 => (if t245 = t246 then ((lw_same.f kj2).bind fun t247 => (some t247)) else (some false)))) else (some false))) else (some false)))))) = some r := H; have A13 := zk A130; clear A130; replace H := Option.bind_eq_some_iff.mp H; obtain ⟨t232, A140, H⟩ := H; replace H : ((adiff_Of.f t229 t232).bind fun t235 => ((adiff_Do.f kj2 t229 t235).bind fun t238 => ((pl_Attrs.f kj2 t238 t232).bind fun t241 => (if t241 = true then ((adiff_Of.f t229 t229).bind fun t242 => (if (t242.length : Int) = 0 then ((adiff_Names.f t232 t229).bind fun t245 => ((adiff_Names.f t229 t232).bind fun t246 => (if t245 = t246 then ((lw_same.f kj2).bind fun t247 => (some t247)) else (some false)))) else (some false))) else (some false))))) = some r := H; have A14 := zk A140; clear A140; replace H := Option.bind_eq_some_iff.mp H; obtain ⟨t235, A150, H⟩ := H; replace H : ((adiff_Do.f kj2 t229 t235).bind fun t238 => ((pl_Attrs.f kj2 t238 t232).bind fun t241 => (if t241 = true then ((adiff_Of.f t229 t229).bind fun t242 => (if (t242.length : Int) = 0 then ((adiff_Names.f t232 t229).bind fun t245 => ((adiff_Names.f t229 t232).bind fun t246 => (if t245 = t246 then ((lw_same.f kj2).bind fun t247 => (some t247)) else (some false)))) else (some false))) else (some false)))) = some r := H; have A15 := zk A150; clear A150; replace H := Option.bind_eq_some_iff.mp H; obtain ⟨t238, A160, H⟩ := H; replace H : ((pl_Attrs.f kj2 t238 t232).bind fun t241 => (if t241 = true then ((adiff_Of.f t229 t229).bind fun t242 => (if (t242.length : Int) = 0 then ((adiff_Names.f t232 t229).bind fun t245 => ((adiff_Names.f t229 t232).bind fun t246 => (if t245 = t246 then ((lw_same.f kj2).bind fun t247 => (some t247)) else (some false)))) else (some false))) else (some false))) = some r := H; have A16 := zk A160; clear A160; replace H := Option.bind_eq_some_iff.mp H; obtain ⟨t241, A170, H⟩ := H; replace H : (if t241 = true then ((adiff_Of.f t229 t229).bind fun t242 => (if (t242.length : Int) = 0 then ((adiff_Names.f t232 t229).bind fun t245 => ((adiff_Names.f t229 t232).bind fun t246 => (if t245 = t246 then ((lw_same.f kj2).bind fun t247 => (some t247)) else (some false)))) else (some false))) else (some false)) = some r := H; have A17 := zk A170; clear A170
    by_cases c18 : t241 = true
    ·
     subst c18
     have H1 : ((adiff_Of.f t229 t229).bind fun t242 => (if (t242.length : Int) = 0 then ((adiff_Names.f t232 t229).bind fun t245 => ((adiff_Names.f t229 t232).bind fun t246 => (if t245 = t246 then ((lw_same.f kj2).bind fun t247 => (some t247)) else (some false)))) else (some false))) = some r := by rw [if_pos rfl] at H; exact H
     clear H; have H := H1; clear H1; replace H := Option.bind_eq_some_iff.mp H; obtain ⟨t242, A190, H⟩ := H; replace H : (if (t242.length : Int) = 0 then ((adiff_Names.f t232 t229).bind fun t245 => ((adiff_Names.f t229 t232).bind fun t246 => (if t245 = t246 then ((lw_same.f kj2).bind fun t247 => (some t247)) else (some false)))) else (some false)) = some r := H; have A19 := zk A190; clear A190
     by_cases c20 : (t242.length : Int) = 0
     ·
      rw [if_pos c20] at H; have c20b0 := beq_iff_eq.mpr c20; have c20b1 := bne_eq_false_iff_eq.mpr c20; clear c20; replace H := Option.bind_eq_some_iff.mp H; obtain ⟨t245, A210, H⟩ := H; replace H : ((adiff_Names.f t229 t232).bind fun t246 => (if t245 = t246 then ((lw_same.f kj2).bind fun t247 => (some t247)) else (some false))) = some r := H; have A21 := zk A210; clear A210; replace H := Option.bind_eq_some_iff.mp H; obtain ⟨t246, A220, H⟩ := H; replace H : (if t245 = t246 then ((lw_same.f kj2).bind fun t247 => (some t247)) else (some false)) = some r := H; have A22 := zk A220; clear A220
      by_cases c23 : t245 = t246
      ·
       rw [if_pos c23] at H; have c23b0 := beq_iff_eq.mpr c23; have c23b1 := bne_eq_false_iff_eq.mpr c23; clear c23; replace H := Option.bind_eq_some_iff.mp H; obtain ⟨t247, A240, H⟩ := H; replace H : (some t247) = some r := H; have A24 := zk A240; clear A240; obtain rfl := Option.some.inj H
       go_wp2_with (first | ((with_reducible refine zgk (f := 11) rfl ?_); refine zgl (some 15) rfl rfl Try.func11 (by kernel_rfl) rfl #[.slice A0 l0.length c0] rfl (by (try simp only [List.map_toArray, List.map_cons, List.map_nil]); first | done | rfl | (simp only [List.length_drop, List.length_take]; rfl)) ?_; (with_reducible refine (r09_Norm.calls kj2 _ _ l0 t229 _ ?side1 ?side2 A13.out).mono ?_); (case side1 => repeat (first | exact (Kd.C_below HR0.out HB.out) | (with_reducible refine Kd.C_alloc ?_ _) | (with_reducible refine Kd.C_drewN ?_ _) | (with_reducible refine Kd.C_drew ?_))); (case side2 => exact HC0.out); rintro e w25 ⟨v230, rfl, ho0, hb⟩; refine ⟨_, rfl, ?_⟩; have n0_ := zk (Kd.R_lower ho0 (zq (by with_reducible repeat first | exact HB.out | apply zA | apply zN | apply zD))); have n1_ := zk (zs (by with_reducible repeat first | exact HB.out | apply zA | apply zN | apply zD) hb); clear HB; have HO231 := n0_; have HB := n1_; clear n0_ n1_; (try clear hb); (try clear hb2); (try clear hk); (try clear hi); (try clear ho0)) | ((with_reducible refine zgk (f := 11) rfl ?_); refine zgl (some 17) rfl rfl Try.func11 (by kernel_rfl) rfl #[.slice A1 l1.length c1] rfl (by (try simp only [List.map_toArray, List.map_cons, List.map_nil]); first | done | rfl | (simp only [List.length_drop, List.length_take]; rfl)) ?_; (with_reducible refine (r09_Norm.calls kj2 _ _ l1 t232 _ ?side1 ?side2 A14.out).mono ?_); (case side1 => repeat (first | exact (Kd.C_below HR1.out HB.out) | (with_reducible refine Kd.C_alloc ?_ _) | (with_reducible refine Kd.C_drewN ?_ _) | (with_reducible refine Kd.C_drew ?_))); (case side2 => exact HC1.out); rintro e w26 ⟨v233, rfl, ho0, hb⟩; refine ⟨_, rfl, ?_⟩; have n0_ := zk (Kd.R_elder' (by (with_reducible repeat (first | apply Kd.R_alloc | apply Kd.R_drewN | apply Kd.R_drew)); exact HO231.out) (Kd.R_base ho0) hb); have n1_ := zk (Kd.R_lower (Kd.R_new' ho0 (Kd.R_lt (by (with_reducible repeat (first | apply Kd.R_alloc | apply Kd.R_drewN | apply Kd.R_drew)); exact HO231.out))) (zq (by with_reducible repeat first | exact HB.out | apply zA | apply zN | apply zD))); have n2_ := zk (zs (by with_reducible repeat first | exact HB.out | apply zA | apply zN | apply zD) hb); clear HO231; clear HB; have HO231 := n0_; have HO234 := n1_; have HB := n2_; clear n0_ n1_ n2_; (try clear hb); (try clear hb2); (try clear hk); (try clear hi); (try clear ho0); obtain ⟨Ao27, co27, eo27⟩ := Kd.R_slice HO231.out; subst eo27; obtain ⟨Ao28, co28, eo28⟩ := Kd.R_slice HO234.out; subst eo28) | ((with_reducible refine zgk (f := 8) rfl ?_); refine zgl (some 21) rfl rfl Try.func8 (by kernel_rfl) rfl #[.slice Ao27 t229.length co27, .slice Ao28 t232.length co28] rfl (by (try simp only [List.map_toArray, List.map_cons, List.map_nil]); first | done | rfl | (simp only [List.length_drop, List.length_take]; rfl)) ?_; (with_reducible refine (adiff_Of.calls _ _ t229 _ _ t232 t235 _ ?side1 ?side2 ?side3 ?side4 A15.out).mono ?_); (case side1 => repeat (first | exact (Kd.R_reads' HO231.out).2.2 | (with_reducible refine Kd.C_alloc ?_ _) | (with_reducible refine Kd.C_drewN ?_ _) | (with_reducible refine Kd.C_drew ?_))); (case side2 => exact (Kd.R_reads' HO231.out).2.1); (case side3 => repeat (first | exact (Kd.R_reads' HO234.out).2.2 | (with_reducible refine Kd.C_alloc ?_ _) | (with_reducible refine Kd.C_drewN ?_ _) | (with_reducible refine Kd.C_drew ?_))); (case side4 => exact (Kd.R_reads' HO234.out).2.1); rintro e w29 ⟨v236, rfl, ho0, hb⟩; refine ⟨_, rfl, ?_⟩; have n0_ := zk (Kd.R_below (by (with_reducible repeat (first | apply Kd.R_alloc | apply Kd.R_drewN | apply Kd.R_drew)); exact HO231.out) hb); have n1_ := zk (Kd.R_below (by (with_reducible repeat (first | apply Kd.R_alloc | apply Kd.R_drewN | apply Kd.R_drew)); exact HO234.out) hb); have n2_ := zk (Kd.R_lower ho0 (zq (by with_reducible repeat first | exact HB.out | apply zA | apply zN | apply zD))); have n3_ := zk (zs (by with_reducible repeat first | exact HB.out | apply zA | apply zN | apply zD) hb); clear HO231; clear HO234; clear HB; have HO231 := n0_; have HO234 := n1_; have HO237 := n2_; have HB := n3_; clear n0_ n1_ n2_ n3_; (try clear hb); (try clear hb2); (try clear hk); (try clear hi); (try clear ho0); obtain ⟨Ao30, co30, eo30⟩ := Kd.R_slice HO237.out; subst eo30) | ((with_reducible refine zgk (f := 13) rfl ?_); refine zgl (some 22) rfl rfl Try.func13 (by kernel_rfl) rfl #[.slice Ao27 t229.length co27, .slice Ao30 t235.length co30] rfl (by (try simp only [List.map_toArray, List.map_cons, List.map_nil]); first | done | rfl | (simp only [List.length_drop, List.length_take]; rfl)) ?_; (with_reducible refine (adiff_Do.calls kj2 _ _ t229 _ _ t235 t238 _ ?side1 ?side2 ?side3 ?side4 A16.out).mono ?_); (case side1 => repeat (first | exact (Kd.R_reads' HO231.out).2.2 | (with_reducible refine Kd.C_alloc ?_ _) | (with_reducible refine Kd.C_drewN ?_ _) | (with_reducible refine Kd.C_drew ?_))); (case side2 => exact (Kd.R_reads' HO231.out).2.1); (case side3 => repeat (first | exact (Kd.R_reads' HO237.out).2.2 | (with_reducible refine Kd.C_alloc ?_ _) | (with_reducible refine Kd.C_drewN ?_ _) | (with_reducible refine Kd.C_drew ?_))); (case side4 => exact (Kd.R_reads' HO237.out).2.1); rintro e w31 ⟨v239, rfl, ho0, hb⟩; refine ⟨_, rfl, ?_⟩; have n0_ := zk (Kd.R_elder' (by (with_reducible repeat (first | apply Kd.R_alloc | apply Kd.R_drewN | apply Kd.R_drew)); exact HO231.out) (Kd.R_base ho0) hb); have n1_ := zk (Kd.R_elder' (by (with_reducible repeat (first | apply Kd.R_alloc | apply Kd.R_drewN | apply Kd.R_drew)); exact HO234.out) (Kd.R_base ho0) hb); have n2_ := zk (Kd.R_below (by (with_reducible repeat (first | apply Kd.R_alloc | apply Kd.R_drewN | apply Kd.R_drew)); exact HO237.out) hb); have n3_ := zk (Kd.R_lower (Kd.R_new' (Kd.R_new' ho0 (Kd.R_lt (by (with_reducible repeat (first | apply Kd.R_alloc | apply Kd.R_drewN | apply Kd.R_drew)); exact HO231.out))) (Kd.R_lt (by (with_reducible repeat (first | apply Kd.R_alloc | apply Kd.R_drewN | apply Kd.R_drew)); exact HO234.out))) (zq (by with_reducible repeat first | exact HB.out | apply zA | apply zN | apply zD))); have n4_ := zk (zs (by with_reducible repeat first | exact HB.out | apply zA | apply zN | apply zD) hb); clear HO231; clear HO234; clear HO237; clear HB; have HO231 := n0_; have HO234 := n1_; have HO237 := n2_; have HO240 := n3_; have HB := n4_; clear n0_ n1_ n2_ n3_ n4_; (try clear hb); (try clear hb2); (try clear hk); (try clear hi); (try clear ho0); obtain ⟨Ao32, co32, eo32⟩ := Kd.R_slice HO240.out; subst eo32) | ((with_reducible refine zgk (f := 12) rfl ?_); refine zgl (some 24) rfl rfl Try.func12 (by kernel_rfl) rfl #[.slice Ao32 t238.length co32, .slice Ao28 t232.length co28] rfl (by (try simp only [List.map_toArray, List.map_cons, List.map_nil]); first | done | rfl | (simp only [List.length_drop, List.length_take]; rfl)) ?_; (with_reducible refine (pl_Attrs.calls kj2 _ _ t238 _ _ t232 true _ ?side1 ?side2 ?side3 ?side4 A17.out).mono ?_); (case side1 => repeat (first | exact (Kd.R_reads' HO240.out).2.2 | (with_reducible refine Kd.C_alloc ?_ _) | (with_reducible refine Kd.C_drewN ?_ _) | (with_reducible refine Kd.C_drew ?_))); (case side2 => exact (Kd.R_reads' HO240.out).2.1); (case side3 => repeat (first | exact (Kd.R_reads' HO234.out).2.2 | (with_reducible refine Kd.C_alloc ?_ _) | (with_reducible refine Kd.C_drewN ?_ _) | (with_reducible refine Kd.C_drew ?_))); (case side4 => exact (Kd.R_reads' HO234.out).2.1); rintro e w' ⟨rfl, ⟨nd, rfl⟩⟩; refine ⟨_, rfl, ?_⟩) | (go_at_call 8; (with_reducible refine (adiff_Of.calls _ _ t229 _ _ t229 t242 _ ?side1 ?side2 ?side3 ?side4 A19.out).mono ?_); (case side1 => repeat (first | exact (Kd.R_reads' HO231.out).2.2 | (with_reducible refine Kd.C_alloc ?_ _) | (with_reducible refine Kd.C_drewN ?_ _) | (with_reducible refine Kd.C_drew ?_))); (case side2 => exact (Kd.R_reads' HO231.out).2.1); (case side3 => repeat (first | exact (Kd.R_reads' HO231.out).2.2 | (with_reducible refine Kd.C_alloc ?_ _) | (with_reducible refine Kd.C_drewN ?_ _) | (with_reducible refine Kd.C_drew ?_))); (case side4 => exact (Kd.R_reads' HO231.out).2.1); rintro e w33 ⟨v243, rfl, ho0, hb⟩; have n0_ := zk (Kd.R_below (by (with_reducible repeat (first | apply Kd.R_alloc | apply Kd.R_drewN | apply Kd.R_drew)); exact HO231.out) hb); have n1_ := zk (Kd.R_below (by (with_reducible repeat (first | apply Kd.R_alloc | apply Kd.R_drewN | apply Kd.R_drew)); exact HO234.out) hb); have n2_ := zk (Kd.R_elder' (by (with_reducible repeat (first | apply Kd.R_alloc | apply Kd.R_drewN | apply Kd.R_drew)); exact HO237.out) (Kd.R_base ho0) hb); have n3_ := zk (Kd.R_below (by (with_reducible repeat (first | apply Kd.R_alloc | apply Kd.R_drewN | apply Kd.R_drew)); exact HO240.out) hb); have n4_ := zk (Kd.R_lower (Kd.R_new' ho0 (Kd.R_lt (by (with_reducible repeat (first | apply Kd.R_alloc | apply Kd.R_drewN | apply Kd.R_drew)); exact HO237.out))) (zq (by with_reducible repeat first | exact HB.out | apply zA | apply zN | apply zD))); have n5_ := zk (zs (by with_reducible repeat first | exact HB.out | apply zA | apply zN | apply zD) hb); clear HO231; clear HO234; clear HO237; clear HO240; clear HB; have HO231 := n0_; have HO234 := n1_; have HO237 := n2_; have HO240 := n3_; have HO244 := n4_; have HB := n5_; clear n0_ n1_ n2_ n3_ n4_ n5_; (try clear hb); (try clear hb2); (try clear hk); (try clear hi); (try clear ho0); obtain ⟨Ao34, co34, eo34⟩ := Kd.R_slice HO244.out; subst eo34) | (go_at_call 10; (with_reducible refine (adiff_Names.calls _ _ t232 _ _ t229 t245 _ ?side1 ?side2 ?side3 ?side4 A21.out).mono ?_); (case side1 => repeat (first | exact (Kd.R_reads' HO234.out).2.2 | (with_reducible refine Kd.C_alloc ?_ _) | (with_reducible refine Kd.C_drewN ?_ _) | (with_reducible refine Kd.C_drew ?_))); (case side2 => exact (Kd.R_reads' HO234.out).2.1); (case side3 => repeat (first | exact (Kd.R_reads' HO231.out).2.2 | (with_reducible refine Kd.C_alloc ?_ _) | (with_reducible refine Kd.C_drewN ?_ _) | (with_reducible refine Kd.C_drew ?_))); (case side4 => exact (Kd.R_reads' HO231.out).2.1); rintro e w35 ⟨rfl, hb⟩; have n0_ := zk (Kd.R_below (by (with_reducible repeat (first | apply Kd.R_alloc | apply Kd.R_drewN | apply Kd.R_drew)); exact HO231.out) hb); have n1_ := zk (Kd.R_below (by (with_reducible repeat (first | apply Kd.R_alloc | apply Kd.R_drewN | apply Kd.R_drew)); exact HO234.out) hb); have n2_ := zk (Kd.R_below (by (with_reducible repeat (first | apply Kd.R_alloc | apply Kd.R_drewN | apply Kd.R_drew)); exact HO237.out) hb); have n3_ := zk (Kd.R_below (by (with_reducible repeat (first | apply Kd.R_alloc | apply Kd.R_drewN | apply Kd.R_drew)); exact HO240.out) hb); have n4_ := zk (Kd.R_below (by (with_reducible repeat (first | apply Kd.R_alloc | apply Kd.R_drewN | apply Kd.R_drew)); exact HO244.out) hb); have n5_ := zk (zs (by with_reducible repeat first | exact HB.out | apply zA | apply zN | apply zD) hb); clear HO231; clear HO234; clear HO237; clear HO240; clear HO244; clear HB; have HO231 := n0_; have HO234 := n1_; have HO237 := n2_; have HO240 := n3_; have HO244 := n4_; have HB := n5_; clear n0_ n1_ n2_ n3_ n4_ n5_; (try clear hb); (try clear hb2); (try clear hk); (try clear hi)) | (go_at_call 10; (with_reducible refine (adiff_Names.calls _ _ t229 _ _ t232 t246 _ ?side1 ?side2 ?side3 ?side4 A22.out).mono ?_); (case side1 => repeat (first | exact (Kd.R_reads' HO231.out).2.2 | (with_reducible refine Kd.C_alloc ?_ _) | (with_reducible refine Kd.C_drewN ?_ _) | (with_reducible refine Kd.C_drew ?_))); (case side2 => exact (Kd.R_reads' HO231.out).2.1); (case side3 => repeat (first | exact (Kd.R_reads' HO234.out).2.2 | (with_reducible refine Kd.C_alloc ?_ _) | (with_reducible refine Kd.C_drewN ?_ _) | (with_reducible refine Kd.C_drew ?_))); (case side4 => exact (Kd.R_reads' HO234.out).2.1); rintro e w36 ⟨rfl, hb⟩; have n0_ := zk (Kd.R_below (by (with_reducible repeat (first | apply Kd.R_alloc | apply Kd.R_drewN | apply Kd.R_drew)); exact HO231.out) hb); have n1_ := zk (Kd.R_below (by (with_reducible repeat (first | apply Kd.R_alloc | apply Kd.R_drewN | apply Kd.R_drew)); exact HO234.out) hb); have n2_ := zk (Kd.R_below (by (with_reducible repeat (first | apply Kd.R_alloc | apply Kd.R_drewN | apply Kd.R_drew)); exact HO237.out) hb); have n3_ := zk (Kd.R_below (by (with_reducible repeat (first | apply Kd.R_alloc | apply Kd.R_drewN | apply Kd.R_drew)); exact HO240.out) hb); have n4_ := zk (Kd.R_below (by (with_reducible repeat (first | apply Kd.R_alloc | apply Kd.R_drewN | apply Kd.R_drew)); exact HO244.out) hb); have n5_ := zk (zs (by with_reducible repeat first | exact HB.out | apply zA | apply zN | apply zD) hb); clear HO231; clear HO234; clear HO237; clear HO240; clear HO244; clear HB; have HO231 := n0_; have HO234 := n1_; have HO237 := n2_; have HO240 := n3_; have HO244 := n4_; have HB := n5_; clear n0_ n1_ n2_ n3_ n4_ n5_; (try clear hb); (try clear hb2); (try clear hk); (try clear hi)) | (go_at_call 7; (with_reducible refine (lw_same.calls kj2  t247 _ A24.out).mono ?_); rintro e w37 ⟨rfl, hb⟩; have n0_ := zk (Kd.R_below (by (with_reducible repeat (first | apply Kd.R_alloc | apply Kd.R_drewN | apply Kd.R_drew)); exact HO231.out) hb); have n1_ := zk (Kd.R_below (by (with_reducible repeat (first | apply Kd.R_alloc | apply Kd.R_drewN | apply Kd.R_drew)); exact HO234.out) hb); have n2_ := zk (Kd.R_below (by (with_reducible repeat (first | apply Kd.R_alloc | apply Kd.R_drewN | apply Kd.R_drew)); exact HO237.out) hb); have n3_ := zk (Kd.R_below (by (with_reducible repeat (first | apply Kd.R_alloc | apply Kd.R_drewN | apply Kd.R_drew)); exact HO240.out) hb); have n4_ := zk (Kd.R_below (by (with_reducible repeat (first | apply Kd.R_alloc | apply Kd.R_drewN | apply Kd.R_drew)); exact HO244.out) hb); have n5_ := zk (zs (by with_reducible repeat first | exact HB.out | apply zA | apply zN | apply zD) hb); clear HO231; clear HO234; clear HO237; clear HO240; clear HO244; clear HB; have HO231 := n0_; have HO234 := n1_; have HO237 := n2_; have HO240 := n3_; have HO244 := n4_; have HB := n5_; clear n0_ n1_ n2_ n3_ n4_ n5_; (try clear hb); (try clear hb2); (try clear hk); (try clear hi)))
       go_ret; exact ⟨by first | rfl | (simp [wN, wS] <;> rfl) | (simp [*, wN, wS] <;> rfl), by with_reducible repeat first | exact HB.out | apply zA | apply zN | apply zD⟩
      ·
       rw [if_neg c23] at H; have c23b0 := beq_eq_false_iff_ne.mpr c23; have c23b1 := bne_iff_ne.mpr c23; obtain rfl := Option.some.inj H
       go_wp2_with (first | ((with_reducible refine zgk (f := 11) rfl ?_); refine zgl (some 15) rfl rfl Try.func11 (by kernel_rfl) rfl #[.slice A0 l0.length c0] rfl (by (try simp only [List.map_toArray, List.map_cons, List.map_nil]); first | done | rfl | (simp only [List.length_drop, List.length_take]; rfl)) ?_; (with_reducible refine (r09_Norm.calls kj2 _ _ l0 t229 _ ?side1 ?side2 A13.out).mono ?_); (case side1 => repeat (first | exact (Kd.C_below HR0.out HB.out) | (with_reducible refine Kd.C_alloc ?_ _) | (with_reducible refine Kd.C_drewN ?_ _) | (with_reducible refine Kd.C_drew ?_))); (case side2 => exact HC0.out); rintro e w38 ⟨v230, rfl, ho0, hb⟩; refine ⟨_, rfl, ?_⟩; have n0_ := zk (Kd.R_lower ho0 (zq (by with_reducible repeat first | exact HB.out | apply zA | apply zN | apply zD))); have n1_ := zk (zs (by with_reducible repeat first | exact HB.out | apply zA | apply zN | apply zD) hb); clear HB; have HO231 := n0_; have HB := n1_; clear n0_ n1_; (try clear hb); (try clear hb2); (try clear hk); (try clear hi); (try clear ho0)) | ((with_reducible refine zgk (f := 11) rfl ?_); refine zgl (some 17) rfl rfl Try.func11 (by kernel_rfl) rfl #[.slice A1 l1.length c1] rfl (by (try simp only [List.map_toArray, List.map_cons, List.map_nil]); first | done | rfl | (simp only [List.length_drop, List.length_take]; rfl)) ?_; (with_reducible refine (r09_Norm.calls kj2 _ _ l1 t232 _ ?side1 ?side2 A14.out).mono ?_); (case side1 => repeat (first | exact (Kd.C_below HR1.out HB.out) | (with_reducible refine Kd.C_alloc ?_ _) | (with_reducible refine Kd.C_drewN ?_ _) | (with_reducible refine Kd.C_drew ?_))); (case side2 => exact HC1.out); rintro e w39 ⟨v233, rfl, ho0, hb⟩; refine ⟨_, rfl, ?_⟩; have n0_ := zk (Kd.R_elder' (by (with_reducible repeat (first | apply Kd.R_alloc | apply Kd.R_drewN | apply Kd.R_drew)); exact HO231.out) (Kd.R_base ho0) hb); have n1_ := zk (Kd.R_lower (Kd.R_new' ho0 (Kd.R_lt (by (with_reducible repeat (first | apply Kd.R_alloc | apply Kd.R_drewN | apply Kd.R_drew)); exact HO231.out))) (zq (by with_reducible repeat first | exact HB.out | apply zA | apply zN | apply zD))); have n2_ := zk (zs (by with_reducible repeat first | exact HB.out | apply zA | apply zN | apply zD) hb); clear HO231; clear HB; have HO231 := n0_; have HO234 := n1_; have HB := n2_; clear n0_ n1_ n2_; (try clear hb); (try clear hb2); (try clear hk); (try clear hi); (try clear ho0); obtain ⟨Ao40, co40, eo40⟩ := Kd.R_slice HO231.out; subst eo40; obtain ⟨Ao41, co41, eo41⟩ := Kd.R_slice HO234.out; subst eo41) | ((with_reducible refine zgk (f := 8) rfl ?_); refine zgl (some 21) rfl rfl Try.func8 (by kernel_rfl) rfl #[.slice Ao40 t229.length co40, .slice Ao41 t232.length co41] rfl (by (try simp only [List.map_toArray, List.map_cons, List.map_nil]); first | done | rfl | (simp only [List.length_drop, List.length_take]; rfl)) ?_; (with_reducible refine (adiff_Of.calls _ _ t229 _ _ t232 t235 _ ?side1 ?side2 ?side3 ?side4 A15.out).mono ?_); (case side1 => repeat (first | exact (Kd.R_reads' HO231.out).2.2 | (with_reducible refine Kd.C_alloc ?_ _) | (with_reducible refine Kd.C_drewN ?_ _) | (with_reducible refine Kd.C_drew ?_))); (case side2 => exact (Kd.R_reads' HO231.out).2.1); (case side3 => repeat (first | exact (Kd.R_reads' HO234.out).2.2 | (with_reducible refine Kd.C_alloc ?_ _) | (with_reducible refine Kd.C_drewN ?_ _) | (with_reducible refine Kd.C_drew ?_))); (case side4 => exact (Kd.R_reads' HO234.out).2.1); rintro e w42 ⟨v236, rfl, ho0, hb⟩; refine ⟨_, rfl, ?_⟩; have n0_ := zk (Kd.R_below (by (with_reducible repeat (first | apply Kd.R_alloc | apply Kd.R_drewN | apply Kd.R_drew)); exact HO231.out) hb); have n1_ := zk (Kd.R_below (by (with_reducible repeat (first | apply Kd.R_alloc | apply Kd.R_drewN | apply Kd.R_drew)); exact HO234.out) hb); have n2_ := zk (Kd.R_lower ho0 (zq (by with_reducible repeat first | exact HB.out | apply zA | apply zN | apply zD))); have n3_ := zk (zs (by with_reducible repeat first | exact HB.out | apply zA | apply zN | apply zD) hb); clear HO231; clear HO234; clear HB; have HO231 := n0_; have HO234 := n1_; have HO237 := n2_; have HB := n3_; clear n0_ n1_ n2_ n3_; (try clear hb); (try clear hb2); (try clear hk); (try clear hi); (try clear ho0); obtain ⟨Ao43, co43, eo43⟩ := Kd.R_slice HO237.out; subst eo43) | ((with_reducible refine zgk (f := 13) rfl ?_); refine zgl (some 22) rfl rfl Try.func13 (by kernel_rfl) rfl #[.slice Ao40 t229.length co40, .slice Ao43 t235.length co43] rfl (by (try simp only [List.map_toArray, List.map_cons, List.map_nil]); first | done | rfl | (simp only [List.length_drop, List.length_take]; rfl)) ?_; (with_reducible refine (adiff_Do.calls kj2 _ _ t229 _ _ t235 t238 _ ?side1 ?side2 ?side3 ?side4 A16.out).mono ?_); (case side1 => repeat (first | exact (Kd.R_reads' HO231.out).2.2 | (with_reducible refine Kd.C_alloc ?_ _) | (with_reducible refine Kd.C_drewN ?_ _) | (with_reducible refine Kd.C_drew ?_))); (case side2 => exact (Kd.R_reads' HO231.out).2.1); (case side3 => repeat (first | exact (Kd.R_reads' HO237.out).2.2 | (with_reducible refine Kd.C_alloc ?_ _) | (with_reducible refine Kd.C_drewN ?_ _) | (with_reducible refine Kd.C_drew ?_))); (case side4 => exact (Kd.R_reads' HO237.out).2.1); rintro e w44 ⟨v239, rfl, ho0, hb⟩; refine ⟨_, rfl, ?_⟩; have n0_ := zk (Kd.R_elder' (by (with_reducible repeat (first | apply Kd.R_alloc | apply Kd.R_drewN | apply Kd.R_drew)); exact HO231.out) (Kd.R_base ho0) hb); have n1_ := zk (Kd.R_elder' (by (with_reducible repeat (first | apply Kd.R_alloc | apply Kd.R_drewN | apply Kd.R_drew)); exact HO234.out) (Kd.R_base ho0) hb); have n2_ := zk (Kd.R_below (by (with_reducible repeat (first | apply Kd.R_alloc | apply Kd.R_drewN | apply Kd.R_drew)); exact HO237.out) hb); have n3_ := zk (Kd.R_lower (Kd.R_new' (Kd.R_new' ho0 (Kd.R_lt (by (with_reducible repeat (first | apply Kd.R_alloc | apply Kd.R_drewN | apply Kd.R_drew)); exact HO231.out))) (Kd.R_lt (by (with_reducible repeat (first | apply Kd.R_alloc | apply Kd.R_drewN | apply Kd.R_drew)); exact HO234.out))) (zq (by with_reducible repeat first | exact HB.out | apply zA | apply zN | apply zD))); have n4_ := zk (zs (by with_reducible repeat first | exact HB.out | apply zA | apply zN | apply zD) hb); clear HO231; clear HO234; clear HO237; clear HB; have HO231 := n0_; have HO234 := n1_; have HO237 := n2_; have HO240 := n3_; have HB := n4_; clear n0_ n1_ n2_ n3_ n4_; (try clear hb); (try clear hb2); (try clear hk); (try clear hi); (try clear ho0); obtain ⟨Ao45, co45, eo45⟩ := Kd.R_slice HO240.out; subst eo45) | ((with_reducible refine zgk (f := 12) rfl ?_); refine zgl (some 24) rfl rfl Try.func12 (by kernel_rfl) rfl #[.slice Ao45 t238.length co45, .slice Ao41 t232.length co41] rfl (by (try simp only [List.map_toArray, List.map_cons, List.map_nil]); first | done | rfl | (simp only [List.length_drop, List.length_take]; rfl)) ?_; (with_reducible refine (pl_Attrs.calls kj2 _ _ t238 _ _ t232 true _ ?side1 ?side2 ?side3 ?side4 A17.out).mono ?_); (case side1 => repeat (first | exact (Kd.R_reads' HO240.out).2.2 | (with_reducible refine Kd.C_alloc ?_ _) | (with_reducible refine Kd.C_drewN ?_ _) | (with_reducible refine Kd.C_drew ?_))); (case side2 => exact (Kd.R_reads' HO240.out).2.1); (case side3 => repeat (first | exact (Kd.R_reads' HO234.out).2.2 | (with_reducible refine Kd.C_alloc ?_ _) | (with_reducible refine Kd.C_drewN ?_ _) | (with_reducible refine Kd.C_drew ?_))); (case side4 => exact (Kd.R_reads' HO234.out).2.1); rintro e w' ⟨rfl, ⟨nd, rfl⟩⟩; refine ⟨_, rfl, ?_⟩) | (go_at_call 8; (with_reducible refine (adiff_Of.calls _ _ t229 _ _ t229 t242 _ ?side1 ?side2 ?side3 ?side4 A19.out).mono ?_); (case side1 => repeat (first | exact (Kd.R_reads' HO231.out).2.2 | (with_reducible refine Kd.C_alloc ?_ _) | (with_reducible refine Kd.C_drewN ?_ _) | (with_reducible refine Kd.C_drew ?_))); (case side2 => exact (Kd.R_reads' HO231.out).2.1); (case side3 => repeat (first | exact (Kd.R_reads' HO231.out).2.2 | (with_reducible refine Kd.C_alloc ?_ _) | (with_reducible refine Kd.C_drewN ?_ _) | (with_reducible refine Kd.C_drew ?_))); (case side4 => exact (Kd.R_reads' HO231.out).2.1); rintro e w46 ⟨v243, rfl, ho0, hb⟩; have n0_ := zk (Kd.R_below (by (with_reducible repeat (first | apply Kd.R_alloc | apply Kd.R_drewN | apply Kd.R_drew)); exact HO231.out) hb); have n1_ := zk (Kd.R_below (by (with_reducible repeat (first | apply Kd.R_alloc | apply Kd.R_drewN | apply Kd.R_drew)); exact HO234.out) hb); have n2_ := zk (Kd.R_elder' (by (with_reducible repeat (first | apply Kd.R_alloc | apply Kd.R_drewN | apply Kd.R_drew)); exact HO237.out) (Kd.R_base ho0) hb); have n3_ := zk (Kd.R_below (by (with_reducible repeat (first | apply Kd.R_alloc | apply Kd.R_drewN | apply Kd.R_drew)); exact HO240.out) hb); have n4_ := zk (Kd.R_lower (Kd.R_new' ho0 (Kd.R_lt (by (with_reducible repeat (first | apply Kd.R_alloc | apply Kd.R_drewN | apply Kd.R_drew)); exact HO237.out))) (zq (by with_reducible repeat first | exact HB.out | apply zA | apply zN | apply zD))); have n5_ := zk (zs (by with_reducible repeat first | exact HB.out | apply zA | apply zN | apply zD) hb); clear HO231; clear HO234; clear HO237; clear HO240; clear HB; have HO231 := n0_; have HO234 := n1_; have HO237 := n2_; have HO240 := n3_; have HO244 := n4_; have HB := n5_; clear n0_ n1_ n2_ n3_ n4_ n5_; (try clear hb); (try clear hb2); (try clear hk); (try clear hi); (try clear ho0); obtain ⟨Ao47, co47, eo47⟩ := Kd.R_slice HO244.out; subst eo47) | (go_at_call 10; (with_reducible refine (adiff_Names.calls _ _ t232 _ _ t229 t245 _ ?side1 ?side2 ?side3 ?side4 A21.out).mono ?_); (case side1 => repeat (first | exact (Kd.R_reads' HO234.out).2.2 | (with_reducible refine Kd.C_alloc ?_ _) | (with_reducible refine Kd.C_drewN ?_ _) | (with_reducible refine Kd.C_drew ?_))); (case side2 => exact (Kd.R_reads' HO234.out).2.1); (case side3 => repeat (first | exact (Kd.R_reads' HO231.out).2.2 | (with_reducible refine Kd.C_alloc ?_ _) | (with_reducible refine Kd.C_drewN ?_ _) | (with_reducible refine Kd.C_drew ?_))); (case side4 => exact (Kd.R_reads' HO231.out).2.1); rintro e w48 ⟨rfl, hb⟩; have n0_ := zk (Kd.R_below (by (with_reducible repeat (first | apply Kd.R_alloc | apply Kd.R_drewN | apply Kd.R_drew)); exact HO231.out) hb); have n1_ := zk (Kd.R_below (by (with_reducible repeat (first | apply Kd.R_alloc | apply Kd.R_drewN | apply Kd.R_drew)); exact HO234.out) hb); have n2_ := zk (Kd.R_below (by (with_reducible repeat (first | apply Kd.R_alloc | apply Kd.R_drewN | apply Kd.R_drew)); exact HO237.out) hb); have n3_ := zk (Kd.R_below (by (with_reducible repeat (first | apply Kd.R_alloc | apply Kd.R_drewN | apply Kd.R_drew)); exact HO240.out) hb); have n4_ := zk (Kd.R_below (by (with_reducible repeat (first | apply Kd.R_alloc | apply Kd.R_drewN | apply Kd.R_drew)); exact HO244.out) hb); have n5_ := zk (zs (by with_reducible repeat first | exact HB.out | apply zA | apply zN | apply zD) hb); clear HO231; clear HO234; clear HO237; clear HO240; clear HO244; clear HB; have HO231 := n0_; have HO234 := n1_; have HO237 := n2_; have HO240 := n3_; have HO244 := n4_; have HB := n5_; clear n0_ n1_ n2_ n3_ n4_ n5_; (try clear hb); (try clear hb2); (try clear hk); (try clear hi)) | (go_at_call 10; (with_reducible refine (adiff_Names.calls _ _ t229 _ _ t232 t246 _ ?side1 ?side2 ?side3 ?side4 A22.out).mono ?_); (case side1 => repeat (first | exact (Kd.R_reads' HO231.out).2.2 | (with_reducible refine Kd.C_alloc ?_ _) | (with_reducible refine Kd.C_drewN ?_ _) | (with_reducible refine Kd.C_drew ?_))); (case side2 => exact (Kd.R_reads' HO231.out).2.1); (case side3 => repeat (first | exact (Kd.R_reads' HO234.out).2.2 | (with_reducible refine Kd.C_alloc ?_ _) | (with_reducible refine Kd.C_drewN ?_ _) | (with_reducible refine Kd.C_drew ?_))); (case side4 => exact (Kd.R_reads' HO234.out).2.1); rintro e w49 ⟨rfl, hb⟩; have n0_ := zk (Kd.R_below (by (with_reducible repeat (first | apply Kd.R_alloc | apply Kd.R_drewN | apply Kd.R_drew)); exact HO231.out) hb); have n1_ := zk (Kd.R_below (by (with_reducible repeat (first | apply Kd.R_alloc | apply Kd.R_drewN | apply Kd.R_drew)); exact HO234.out) hb); have n2_ := zk (Kd.R_below (by (with_reducible repeat (first | apply Kd.R_alloc | apply Kd.R_drewN | apply Kd.R_drew)); exact HO237.out) hb); have n3_ := zk (Kd.R_below (by (with_reducible repeat (first | apply Kd.R_alloc | apply Kd.R_drewN | apply Kd.R_drew)); exact HO240.out) hb); have n4_ := zk (Kd.R_below (by (with_reducible repeat (first | apply Kd.R_alloc | apply Kd.R_drewN | apply Kd.R_drew)); exact HO244.out) hb); have n5_ := zk (zs (by with_reducible repeat first | exact HB.out | apply zA | apply zN | apply zD) hb); clear HO231; clear HO234; clear HO237; clear HO240; clear HO244; clear HB; have HO231 := n0_; have HO234 := n1_; have HO237 := n2_; have HO240 := n3_; have HO244 := n4_; have HB := n5_; clear n0_ n1_ n2_ n3_ n4_ n5_; (try clear hb); (try clear hb2); (try clear hk); (try clear hi)))
       go_ret; exact ⟨by first | rfl | (simp [wN, wS] <;> rfl) | (simp [*, wN, wS] <;> rfl), by with_reducible repeat first | exact HB.out | apply zA | apply zN | apply zD⟩
     ·
      rw [if_neg c20] at H; have c20b0 := beq_eq_false_iff_ne.mpr c20; have c20b1 := bne_iff_ne.mpr c20
      have c20b2 : ¬ (t242 = []) := fun h_ => c20 (by rw [h_]; rfl)
      obtain rfl := Option.some.inj H
      go_wp2_with (first | ((with_reducible refine zgk (f := 11) rfl ?_); refine zgl (some 15) rfl rfl Try.func11 (by kernel_rfl) rfl #[.slice A0 l0.length c0] rfl (by (try simp only [List.map_toArray, List.map_cons, List.map_nil]); first | done | rfl | (simp only [List.length_drop, List.length_take]; rfl)) ?_; (with_reducible refine (r09_Norm.calls kj2 _ _ l0 t229 _ ?side1 ?side2 A13.out).mono ?_); (case side1 => repeat (first | exact (Kd.C_below HR0.out HB.out) | (with_reducible refine Kd.C_alloc ?_ _) | (with_reducible refine Kd.C_drewN ?_ _) | (with_reducible refine Kd.C_drew ?_))); (case side2 => exact HC0.out); rintro e w50 ⟨v230, rfl, ho0, hb⟩; refine ⟨_, rfl, ?_⟩; have n0_ := zk (Kd.R_lower ho0 (zq (by with_reducible repeat first | exact HB.out | apply zA | apply zN | apply zD))); have n1_ := zk (zs (by with_reducible repeat first | exact HB.out | apply zA | apply zN | apply zD) hb); clear HB; have HO231 := n0_; have HB := n1_; clear n0_ n1_; (try clear hb); (try clear hb2); (try clear hk); (try clear hi); (try clear ho0)) | ((with_reducible refine zgk (f := 11) rfl ?_); refine zgl (some 17) rfl rfl Try.func11 (by kernel_rfl) rfl #[.slice A1 l1.length c1] rfl (by (try simp only [List.map_toArray, List.map_cons, List.map_nil]); first | done | rfl | (simp only [List.length_drop, List.length_take]; rfl)) ?_; (with_reducible refine (r09_Norm.calls kj2 _ _ l1 t232 _ ?side1 ?side2 A14.out).mono ?_); (case side1 => repeat (first | exact (Kd.C_below HR1.out HB.out) | (with_reducible refine Kd.C_alloc ?_ _) | (with_reducible refine Kd.C_drewN ?_ _) | (with_reducible refine Kd.C_drew ?_))); (case side2 => exact HC1.out); rintro e w51 ⟨v233, rfl, ho0, hb⟩; refine ⟨_, rfl, ?_⟩; have n0_ := zk (Kd.R_elder' (by (with_reducible repeat (first | apply Kd.R_alloc | apply Kd.R_drewN | apply Kd.R_drew)); exact HO231.out) (Kd.R_base ho0) hb); have n1_ := zk (Kd.R_lower (Kd.R_new' ho0 (Kd.R_lt (by (with_reducible repeat (first | apply Kd.R_alloc | apply Kd.R_drewN | apply Kd.R_drew)); exact HO231.out))) (zq (by with_reducible repeat first | exact HB.out | apply zA | apply zN | apply zD))); have n2_ := zk (zs (by with_reducible repeat first | exact HB.out | apply zA | apply zN | apply zD) hb); clear HO231; clear HB; have HO231 := n0_; have HO234 := n1_; have HB := n2_; clear n0_ n1_ n2_; (try clear hb); (try clear hb2); (try clear hk); (try clear hi); (try clear ho0); obtain ⟨Ao52, co52, eo52⟩ := Kd.R_slice HO231.out; subst eo52; obtain ⟨Ao53, co53, eo53⟩ := Kd.R_slice HO234.out; subst eo53) | ((with_reducible refine zgk (f := 8) rfl ?_); refine zgl (some 21) rfl rfl Try.func8 (by kernel_rfl) rfl #[.slice Ao52 t229.length co52, .slice Ao53 t232.length co53] rfl (by (try simp only [List.map_toArray, List.map_cons, List.map_nil]); first | done | rfl | (simp only [List.length_drop, List.length_take]; rfl)) ?_; (with_reducible refine (adiff_Of.calls _ _ t229 _ _ t232 t235 _ ?side1 ?side2 ?side3 ?side4 A15.out).mono ?_); (case side1 => repeat (first | exact (Kd.R_reads' HO231.out).2.2 | (with_reducible refine Kd.C_alloc ?_ _) | (with_reducible refine Kd.C_drewN ?_ _) | (with_reducible refine Kd.C_drew ?_))); (case side2 => exact (Kd.R_reads' HO231.out).2.1); (case side3 => repeat (first | exact (Kd.R_reads' HO234.out).2.2 | (with_reducible refine Kd.C_alloc ?_ _) | (with_reducible refine Kd.C_drewN ?_ _) | (with_reducible refine Kd.C_drew ?_))); (case side4 => exact (Kd.R_reads' HO234.out).2.1); rintro e w54 ⟨v236, rfl, ho0, hb⟩; refine ⟨_, rfl, ?_⟩; have n0_ := zk (Kd.R_below (by (with_reducible repeat (first | apply Kd.R_alloc | apply Kd.R_drewN | apply Kd.R_drew)); exact HO231.out) hb); have n1_ := zk (Kd.R_below (by (with_reducible repeat (first | apply Kd.R_alloc | apply Kd.R_drewN | apply Kd.R_drew)); exact HO234.out) hb); have n2_ := zk (Kd.R_lower ho0 (zq (by with_reducible repeat first | exact HB.out | apply zA | apply zN | apply zD))); have n3_ := zk (zs (by with_reducible repeat first | exact HB.out | apply zA | apply zN | apply zD) hb); clear HO231; clear HO234; clear HB; have HO231 := n0_; have HO234 := n1_; have HO237 := n2_; have HB := n3_; clear n0_ n1_ n2_ n3_; (try clear hb); (try clear hb2); (try clear hk); (try clear hi); (try clear ho0); obtain ⟨Ao55, co55, eo55⟩ := Kd.R_slice HO237.out; subst eo55) | ((with_reducible refine zgk (f := 13) rfl ?_); refine zgl (some 22) rfl rfl Try.func13 (by kernel_rfl) rfl #[.slice Ao52 t229.length co52, .slice Ao55 t235.length co55] rfl (by (try simp only [List.map_toArray, List.map_cons, List.map_nil]); first | done | rfl | (simp only [List.length_drop, List.length_take]; rfl)) ?_; (with_reducible refine (adiff_Do.calls kj2 _ _ t229 _ _ t235 t238 _ ?side1 ?side2 ?side3 ?side4 A16.out).mono ?_); (case side1 => repeat (first | exact (Kd.R_reads' HO231.out).2.2 | (with_reducible refine Kd.C_alloc ?_ _) | (with_reducible refine Kd.C_drewN ?_ _) | (with_reducible refine Kd.C_drew ?_))); (case side2 => exact (Kd.R_reads' HO231.out).2.1); (case side3 => repeat (first | exact (Kd.R_reads' HO237.out).2.2 | (with_reducible refine Kd.C_alloc ?_ _) | (with_reducible refine Kd.C_drewN ?_ _) | (with_reducible refine Kd.C_drew ?_))); (case side4 => exact (Kd.R_reads' HO237.out).2.1); rintro e w56 ⟨v239, rfl, ho0, hb⟩; refine ⟨_, rfl, ?_⟩; have n0_ := zk (Kd.R_elder' (by (with_reducible repeat (first | apply Kd.R_alloc | apply Kd.R_drewN | apply Kd.R_drew)); exact HO231.out) (Kd.R_base ho0) hb); have n1_ := zk (Kd.R_elder' (by (with_reducible repeat (first | apply Kd.R_alloc | apply Kd.R_drewN | apply Kd.R_drew)); exact HO234.out) (Kd.R_base ho0) hb); have n2_ := zk (Kd.R_below (by (with_reducible repeat (first | apply Kd.R_alloc | apply Kd.R_drewN | apply Kd.R_drew)); exact HO237.out) hb); have n3_ := zk (Kd.R_lower (Kd.R_new' (Kd.R_new' ho0 (Kd.R_lt (by (with_reducible repeat (first | apply Kd.R_alloc | apply Kd.R_drewN | apply Kd.R_drew)); exact HO231.out))) (Kd.R_lt (by (with_reducible repeat (first | apply Kd.R_alloc | apply Kd.R_drewN | apply Kd.R_drew)); exact HO234.out))) (zq (by with_reducible repeat first | exact HB.out | apply zA | apply zN | apply zD))); have n4_ := zk (zs (by with_reducible repeat first | exact HB.out | apply zA | apply zN | apply zD) hb); clear HO231; clear HO234; clear HO237; clear HB; have HO231 := n0_; have HO234 := n1_; have HO237 := n2_; have HO240 := n3_; have HB := n4_; clear n0_ n1_ n2_ n3_ n4_; (try clear hb); (try clear hb2); (try clear hk); (try clear hi); (try clear ho0); obtain ⟨Ao57, co57, eo57⟩ := Kd.R_slice HO240.out; subst eo57) | ((with_reducible refine zgk (f := 12) rfl ?_); refine zgl (some 24) rfl rfl Try.func12 (by kernel_rfl) rfl #[.slice Ao57 t238.length co57, .slice Ao53 t232.length co53] rfl (by (try simp only [List.map_toArray, List.map_cons, List.map_nil]); first | done | rfl | (simp only [List.length_drop, List.length_take]; rfl)) ?_; (with_reducible refine (pl_Attrs.calls kj2 _ _ t238 _ _ t232 true _ ?side1 ?side2 ?side3 ?side4 A17.out).mono ?_); (case side1 => repeat (first | exact (Kd.R_reads' HO240.out).2.2 | (with_reducible refine Kd.C_alloc ?_ _) | (with_reducible refine Kd.C_drewN ?_ _) | (with_reducible refine Kd.C_drew ?_))); (case side2 => exact (Kd.R_reads' HO240.out).2.1); (case side3 => repeat (first | exact (Kd.R_reads' HO234.out).2.2 | (with_reducible refine Kd.C_alloc ?_ _) | (with_reducible refine Kd.C_drewN ?_ _) | (with_reducible refine Kd.C_drew ?_))); (case side4 => exact (Kd.R_reads' HO234.out).2.1); rintro e w' ⟨rfl, ⟨nd, rfl⟩⟩; refine ⟨_, rfl, ?_⟩) | (go_at_call 8; (with_reducible refine (adiff_Of.calls _ _ t229 _ _ t229 t242 _ ?side1 ?side2 ?side3 ?side4 A19.out).mono ?_); (case side1 => repeat (first | exact (Kd.R_reads' HO231.out).2.2 | (with_reducible refine Kd.C_alloc ?_ _) | (with_reducible refine Kd.C_drewN ?_ _) | (with_reducible refine Kd.C_drew ?_))); (case side2 => exact (Kd.R_reads' HO231.out).2.1); (case side3 => repeat (first | exact (Kd.R_reads' HO231.out).2.2 | (with_reducible refine Kd.C_alloc ?_ _) | (with_reducible refine Kd.C_drewN ?_ _) | (with_reducible refine Kd.C_drew ?_))); (case side4 => exact (Kd.R_reads' HO231.out).2.1); rintro e w58 ⟨v243, rfl, ho0, hb⟩; have n0_ := zk (Kd.R_below (by (with_reducible repeat (first | apply Kd.R_alloc | apply Kd.R_drewN | apply Kd.R_drew)); exact HO231.out) hb); have n1_ := zk (Kd.R_below (by (with_reducible repeat (first | apply Kd.R_alloc | apply Kd.R_drewN | apply Kd.R_drew)); exact HO234.out) hb); have n2_ := zk (Kd.R_elder' (by (with_reducible repeat (first | apply Kd.R_alloc | apply Kd.R_drewN | apply Kd.R_drew)); exact HO237.out) (Kd.R_base ho0) hb); have n3_ := zk (Kd.R_below (by (with_reducible repeat (first | apply Kd.R_alloc | apply Kd.R_drewN | apply Kd.R_drew)); exact HO240.out) hb); have n4_ := zk (Kd.R_lower (Kd.R_new' ho0 (Kd.R_lt (by (with_reducible repeat (first | apply Kd.R_alloc | apply Kd.R_drewN | apply Kd.R_drew)); exact HO237.out))) (zq (by with_reducible repeat first | exact HB.out | apply zA | apply zN | apply zD))); have n5_ := zk (zs (by with_reducible repeat first | exact HB.out | apply zA | apply zN | apply zD) hb); clear HO231; clear HO234; clear HO237; clear HO240; clear HB; have HO231 := n0_; have HO234 := n1_; have HO237 := n2_; have HO240 := n3_; have HO244 := n4_; have HB := n5_; clear n0_ n1_ n2_ n3_ n4_ n5_; (try clear hb); (try clear hb2); (try clear hk); (try clear hi); (try clear ho0); obtain ⟨Ao59, co59, eo59⟩ := Kd.R_slice HO244.out; subst eo59))
      go_ret; exact ⟨by first | rfl | (simp [wN, wS] <;> rfl) | (simp [*, wN, wS] <;> rfl), by with_reducible repeat first | exact HB.out | apply zA | apply zN | apply zD⟩
    ·
     replace c18 := Bool.eq_false_iff.mpr c18; subst c18
     have H1 : (some false) = some r := by rw [if_neg (show ¬ (false = true) by decide)] at H; exact H
     clear H; have H := H1; clear H1; obtain rfl := Option.some.inj H
     go_wp2_with (first | ((with_reducible refine zgk (f := 11) rfl ?_); refine zgl (some 15) rfl rfl Try.func11 (by kernel_rfl) rfl #[.slice A0 l0.length c0] rfl (by (try simp only [List.map_toArray, List.map_cons, List.map_nil]); first | done | rfl | (simp only [List.length_drop, List.length_take]; rfl)) ?_; (with_reducible refine (r09_Norm.calls kj2 _ _ l0 t229 _ ?side1 ?side2 A13.out).mono ?_); (case side1 => repeat (first | exact (Kd.C_below HR0.out HB.out) | (with_reducible refine Kd.C_alloc ?_ _) | (with_reducible refine Kd.C_drewN ?_ _) | (with_reducible refine Kd.C_drew ?_))); (case side2 => exact HC0.out); rintro e w60 ⟨v230, rfl, ho0, hb⟩; refine ⟨_, rfl, ?_⟩; have n0_ := zk (Kd.R_lower ho0 (zq (by with_reducible repeat first | exact HB.out | apply zA | apply zN | apply zD))); have n1_ := zk (zs (by with_reducible repeat first | exact HB.out | apply zA | apply zN | apply zD) hb); clear HB; have HO231 := n0_; have HB := n1_; clear n0_ n1_; (try clear hb); (try clear hb2); (try clear hk); (try clear hi); (try clear ho0)) | ((with_reducible refine zgk (f := 11) rfl ?_); refine zgl (some 17) rfl rfl Try.func11 (by kernel_rfl) rfl #[.slice A1 l1.length c1] rfl (by (try simp only [List.map_toArray, List.map_cons, List.map_nil]); first | done | rfl | (simp only [List.length_drop, List.length_take]; rfl)) ?_; (with_reducible refine (r09_Norm.calls kj2 _ _ l1 t232 _ ?side1 ?side2 A14.out).mono ?_); (case side1 => repeat (first | exact (Kd.C_below HR1.out HB.out) | (with_reducible refine Kd.C_alloc ?_ _) | (with_reducible refine Kd.C_drewN ?_ _) | (with_reducible refine Kd.C_drew ?_))); (case side2 => exact HC1.out); rintro e w61 ⟨v233, rfl, ho0, hb⟩; refine ⟨_, rfl, ?_⟩; have n0_ := zk (Kd.R_elder' (by (with_reducible repeat (first | apply Kd.R_alloc | apply Kd.R_drewN | apply Kd.R_drew)); exact HO231.out) (Kd.R_base ho0) hb); have n1_ := zk (Kd.R_lower (Kd.R_new' ho0 (Kd.R_lt (by (with_reducible repeat (first | apply Kd.R_alloc | apply Kd.R_drewN | apply Kd.R_drew)); exact HO231.out))) (zq (by with_reducible repeat first | exact HB.out | apply zA | apply zN | apply zD))); have n2_ := zk (zs (by with_reducible repeat first | exact HB.out | apply zA | apply zN | apply zD) hb); clear HO231; clear HB; have HO231 := n0_; have HO234 := n1_; have HB := n2_; clear n0_ n1_ n2_; (try clear hb); (try clear hb2); (try clear hk); (try clear hi); (try clear ho0); obtain ⟨Ao62, co62, eo62⟩ := Kd.R_slice HO231.out; subst eo62; obtain ⟨Ao63, co63, eo63⟩ := Kd.R_slice HO234.out; subst eo63) | ((with_reducible refine zgk (f := 8) rfl ?_); refine zgl (some 21) rfl rfl Try.func8 (by kernel_rfl) rfl #[.slice Ao62 t229.length co62, .slice Ao63 t232.length co63] rfl (by (try simp only [List.map_toArray, List.map_cons, List.map_nil]); first | done | rfl | (simp only [List.length_drop, List.length_take]; rfl)) ?_; (with_reducible refine (adiff_Of.calls _ _ t229 _ _ t232 t235 _ ?side1 ?side2 ?side3 ?side4 A15.out).mono ?_); (case side1 => repeat (first | exact (Kd.R_reads' HO231.out).2.2 | (with_reducible refine Kd.C_alloc ?_ _) | (with_reducible refine Kd.C_drewN ?_ _) | (with_reducible refine Kd.C_drew ?_))); (case side2 => exact (Kd.R_reads' HO231.out).2.1); (case side3 => repeat (first | exact (Kd.R_reads' HO234.out).2.2 | (with_reducible refine Kd.C_alloc ?_ _) | (with_reducible refine Kd.C_drewN ?_ _) | (with_reducible refine Kd.C_drew ?_))); (case side4 => exact (Kd.R_reads' HO234.out).2.1); rintro e w64 ⟨v236, rfl, ho0, hb⟩; refine ⟨_, rfl, ?_⟩; have n0_ := zk (Kd.R_below (by (with_reducible repeat (first | apply Kd.R_alloc | apply Kd.R_drewN | apply Kd.R_drew)); exact HO231.out) hb); have n1_ := zk (Kd.R_below (by (with_reducible repeat (first | apply Kd.R_alloc | apply Kd.R_drewN | apply Kd.R_drew)); exact HO234.out) hb); have n2_ := zk (Kd.R_lower ho0 (zq (by with_reducible repeat first | exact HB.out | apply zA | apply zN | apply zD))); have n3_ := zk (zs (by with_reducible repeat first | exact HB.out | apply zA | apply zN | apply zD) hb); clear HO231; clear HO234; clear HB; have HO231 := n0_; have HO234 := n1_; have HO237 := n2_; have HB := n3_; clear n0_ n1_ n2_ n3_; (try clear hb); (try clear hb2); (try clear hk); (try clear hi); (try clear ho0); obtain ⟨Ao65, co65, eo65⟩ := Kd.R_slice HO237.out; subst eo65) | ((with_reducible refine zgk (f := 13) rfl ?_); refine zgl (some 22) rfl rfl Try.func13 (by kernel_rfl) rfl #[.slice Ao62 t229.length co62, .slice Ao65 t235.length co65] rfl (by (try simp only [List.map_toArray, List.map_cons, List.map_nil]); first | done | rfl | (simp only [List.length_drop, List.length_take]; rfl)) ?_; (with_reducible refine (adiff_Do.calls kj2 _ _ t229 _ _ t235 t238 _ ?side1 ?side2 ?side3 ?side4 A16.out).mono ?_); (case side1 => repeat (first | exact (Kd.R_reads' HO231.out).2.2 | (with_reducible refine Kd.C_alloc ?_ _) | (with_reducible refine Kd.C_drewN ?_ _) | (with_reducible refine Kd.C_drew ?_))); (case side2 => exact (Kd.R_reads' HO231.out).2.1); (case side3 => repeat (first | exact (Kd.R_reads' HO237.out).2.2 | (with_reducible refine Kd.C_alloc ?_ _) | (with_reducible refine Kd.C_drewN ?_ _) | (with_reducible refine Kd.C_drew ?_))); (case side4 => exact (Kd.R_reads' HO237.out).2.1); rintro e w66 ⟨v239, rfl, ho0, hb⟩; refine ⟨_, rfl, ?_⟩; have n0_ := zk (Kd.R_elder' (by (with_reducible repeat (first | apply Kd.R_alloc | apply Kd.R_drewN | apply Kd.R_drew)); exact HO231.out) (Kd.R_base ho0) hb); have n1_ := zk (Kd.R_elder' (by (with_reducible repeat (first | apply Kd.R_alloc | apply Kd.R_drewN | apply Kd.R_drew)); exact HO234.out) (Kd.R_base ho0) hb); have n2_ := zk (Kd.R_below (by (with_reducible repeat (first | apply Kd.R_alloc | apply Kd.R_drewN | apply Kd.R_drew)); exact HO237.out) hb); have n3_ := zk (Kd.R_lower (Kd.R_new' (Kd.R_new' ho0 (Kd.R_lt (by (with_reducible repeat (first | apply Kd.R_alloc | apply Kd.R_drewN | apply Kd.R_drew)); exact HO231.out))) (Kd.R_lt (by (with_reducible repeat (first | apply Kd.R_alloc | apply Kd.R_drewN | apply Kd.R_drew)); exact HO234.out))) (zq (by with_reducible repeat first | exact HB.out | apply zA | apply zN | apply zD))); have n4_ := zk (zs (by with_reducible repeat first | exact HB.out | apply zA | apply zN | apply zD) hb); clear HO231; clear HO234; clear HO237; clear HB; have HO231 := n0_; have HO234 := n1_; have HO237 := n2_; have HO240 := n3_; have HB := n4_; clear n0_ n1_ n2_ n3_ n4_; (try clear hb); (try clear hb2); (try clear hk); (try clear hi); (try clear ho0); obtain ⟨Ao67, co67, eo67⟩ := Kd.R_slice HO240.out; subst eo67) | ((with_reducible refine zgk (f := 12) rfl ?_); refine zgl (some 24) rfl rfl Try.func12 (by kernel_rfl) rfl #[.slice Ao67 t238.length co67, .slice Ao63 t232.length co63] rfl (by (try simp only [List.map_toArray, List.map_cons, List.map_nil]); first | done | rfl | (simp only [List.length_drop, List.length_take]; rfl)) ?_; (with_reducible refine (pl_Attrs.calls kj2 _ _ t238 _ _ t232 false _ ?side1 ?side2 ?side3 ?side4 A17.out).mono ?_); (case side1 => repeat (first | exact (Kd.R_reads' HO240.out).2.2 | (with_reducible refine Kd.C_alloc ?_ _) | (with_reducible refine Kd.C_drewN ?_ _) | (with_reducible refine Kd.C_drew ?_))); (case side2 => exact (Kd.R_reads' HO240.out).2.1); (case side3 => repeat (first | exact (Kd.R_reads' HO234.out).2.2 | (with_reducible refine Kd.C_alloc ?_ _) | (with_reducible refine Kd.C_drewN ?_ _) | (with_reducible refine Kd.C_drew ?_))); (case side4 => exact (Kd.R_reads' HO234.out).2.1); rintro e w' ⟨rfl, ⟨nd, rfl⟩⟩; refine ⟨_, rfl, ?_⟩))
     go_ret; exact ⟨by first | rfl | (simp [wN, wS] <;> rfl) | (simp [*, wN, wS] <;> rfl), by with_reducible repeat first | exact HB.out | apply zA | apply zN | apply zD⟩
end Go.Proofs.Ytmpdbblljofjfaa.G
namespace Go.Proofs.Ytmpdbblljofjfaa.Pure
open Go.RowKit Go.Proofs.Ytmpdbblljofjfaa.G Go.Proofs.YtmpdbblljofjfaaW.PrintWords Go.Proofs.YtmpdbblljofjfaaW.PrintLast
set_option linter.unusedVariables false
theorem drop_bt (s : ByteArray) (i : Int) (h0 : 0 ≤ i) (h : i < s.size) : ∃ b : UInt8, (b.toNat : Int) = bt s i ∧ s.toList.drop i.toNat = b :: s.toList.drop (i + 1).toNat := by
  have hl : s.toList.length = s.size := by rw [Lib.toList_data]; simp
  refine ⟨s.toList[i.toNat]'(by omega), ?_, ?_⟩
  · unfold bt
    rw [dif_pos (by omega)]
    congr 1
    simp only [Lib.toList_data]
    rfl
  · rw [List.drop_eq_getElem_cons (by omega), show (i + 1).toNat = i.toNat + 1 by omega]
theorem compare_l0 (x y : ByteArray) (hx : x.size ≤ 140737488351232) (d : Nat) : ∀ i : Int, 0 ≤ i → i ≤ x.size → i ≤ y.size → (x.size : Int) - i = d →
    ∃ t, Ev (fun k => r02_Compare.l0 k x y i) t ∧ (t > 0 ↔ Op.bytesLess (y.toList.drop i.toNat) (x.toList.drop i.toNat) = true) := by
  have hlx : x.toList.length = x.size := by rw [Lib.toList_data]; simp
  have hly : y.toList.length = y.size := by rw [Lib.toList_data]; simp
  induction d with
  | zero =>
    intro i h0 hix hiy hd; have e : x.toList.drop i.toNat = [] := List.drop_eq_nil_of_le (by omega)
    by_cases c : (x.size : Int) < y.size
    (refine ⟨-1, ((Ev.pure (-1)).step (f := fun k => r02_Compare.j1 k x y i false) (fun k => by rw [r02_Compare.j1, if_neg (by decide), if_pos c])).step (fun k => by rw [r02_Compare.l0, if_neg (by omega)]), ?_⟩; rw [e]; cases y.toList.drop i.toNat <;> simp [Op.bytesLess]); (refine ⟨0, ((Ev.pure 0).step (f := fun k => r02_Compare.j1 k x y i false) (fun k => by rw [r02_Compare.j1, if_neg (by decide), if_neg c, if_neg (by omega)])).step (fun k => by rw [r02_Compare.l0, if_neg (by omega)]), ?_⟩; rw [e]; cases y.toList.drop i.toNat <;> simp [Op.bytesLess])
  | succ d ih =>
    intro i h0 hix hiy hd; obtain ⟨bx, ex, dx⟩ := drop_bt x i h0 (by omega)
    by_cases c : i < (y.size : Int)
    · obtain ⟨by', ey, dy⟩ := drop_bt y i h0 c
      have st (g : Nat → Option Int) (t : Int) (hg : Ev g t) (h : ∀ k, r02_Compare.j1 (k + 1) x y i true = g k) : Ev (fun k => r02_Compare.l0 k x y i) t :=
        (hg.step (f := fun k => r02_Compare.j1 k x y i true) h).step (fun k => by rw [r02_Compare.l0, if_pos (by omega), decide_eq_true c])
      rw [dx, dy]
      have lt {a b : UInt8} : a < b ↔ (a.toNat : Int) < b.toNat := by rw [UInt8.lt_iff_toNat_lt]; omega
      by_cases c1 : bt x i < bt y i
      · refine ⟨-1, st _ _ (Ev.pure (-1)) (fun k => by rw [r02_Compare.j1, if_pos rfl, if_pos h0, if_pos (by omega), if_pos c, if_pos c1]), ?_⟩
        have h1 : ¬ by' < bx := by rw [lt]; omega
        have h2 : ¬ by' = bx := by intro e; subst e; omega
        simp [Op.bytesLess, h1, h2]
      · by_cases c2 : bt x i > bt y i
        · refine ⟨1, st _ _ (Ev.pure 1) (fun k => by rw [r02_Compare.j1, if_pos rfl, if_pos h0, if_pos (by omega), if_pos c, if_neg c1, if_pos c2]), ?_⟩
          have h1 : by' < bx := by rw [lt]; omega
          simp [Op.bytesLess, h1]
        · obtain ⟨t, ht, hi⟩ := ih (i + 1) (by omega) (by omega) (by omega) (by omega)
          refine ⟨t, st _ _ ht (fun k => by rw [r02_Compare.j1, if_pos rfl, if_pos h0, if_pos (by omega), if_pos c, if_neg c1, if_neg c2, w1 (by omega) (by omega)]), ?_⟩
          rw [hi]
          have h2 : by' = bx := by apply UInt8.toNat_inj.1; omega
          subst h2
          have h1 : ¬ by' < by' := by rw [lt]; omega
          simp [Op.bytesLess, h1]
    · have e : y.toList.drop i.toNat = [] := List.drop_eq_nil_of_le (by omega)
      refine ⟨1, ((Ev.pure 1).step (f := fun k => r02_Compare.j1 k x y i false) (fun k => by rw [r02_Compare.j1, if_neg (by decide), if_neg (by omega), if_pos (by omega)])).step (fun k => by rw [r02_Compare.l0, if_pos (by omega), decide_eq_false c]), ?_⟩; rw [dx, e]; simp [Op.bytesLess]
theorem compare (x y : ByteArray) (hx : x.size ≤ 140737488351232) : ∃ t, Ev (fun k => r02_Compare.f k x y) t ∧ (t > 0 ↔ Op.bytesLess y.toList x.toList = true) := by
  obtain ⟨t, ht, hi⟩ := compare_l0 x y hx x.size 0 (by omega) (by omega) (by omega) (by omega); exact ⟨t, ht.eq (fun k => rfl), by simpa using hi⟩
def lessB (a b : ByteArray) : Bool := Op.bytesLess a.toList b.toList
theorem lessB_lt (a b : ByteArray) : lessB a b = true ↔ a.toList < b.toList := by
  unfold lessB; rw [bytesLess_eq]; simp
theorem less_irrefl (a : ByteArray) : ¬ lessB a a = true := by rw [lessB_lt]; exact List.lt_irrefl _
theorem less_trans {a b c : ByteArray} (h : lessB a b = true) (k : lessB b c = true) : lessB a c = true := by rw [lessB_lt] at *; exact List.lt_trans h k
theorem less_total (a b : ByteArray) : lessB a b = true ∨ a.toList = b.toList ∨ lessB b a = true := by
  rw [lessB_lt, lessB_lt]
  by_cases h : a.toList < b.toList
  · exact .inl h
  · by_cases k : b.toList < a.toList
    · exact .inr (.inr k)
    · exact .inr (.inl (List.le_antisymm (List.not_lt.1 k) (List.not_lt.1 h)))
theorem isN_iff (n : ByteArray) (x : S43) : isN n x = true ↔ x.f0.toList = n.toList := by unfold isN; simp
theorem less_cases (n : ByteArray) (x : S43) : (¬ isN n x = true ∧ ¬ lessB x.f0 n = true) ↔ lessB n x.f0 = true := by
  rw [isN_iff]; constructor
  · rintro ⟨h, k⟩
    rcases less_total n x.f0 with a | a | a
    · exact a
    · exact absurd a.symm h
    · exact absurd a k
  · intro h
    refine ⟨fun e => ?_, fun k => less_irrefl _ (less_trans h k)⟩; rw [lessB, e] at h; exact less_irrefl n h
/-- The place of the first that is greater; behind all, if there is none. -/
def gtFrom (n : ByteArray) : List S43 → Int → Int
  | [], i => i
  | x :: xs, i => if lessB n x.f0 = true then i else gtFrom n xs (i + 1)
theorem gt_range (n : ByteArray) (l : List S43) : ∀ i : Int, i ≤ gtFrom n l i ∧ gtFrom n l i ≤ i + l.length := by
  induction l with
  | nil => intro i; simp [gtFrom]
  | cons x l ih =>
    intro i; rw [gtFrom]; split; (simp; omega); (have := ih (i + 1); simp; omega)
theorem gt_split (n : ByteArray) (l : List S43) : ∀ i : Int, (∀ x ∈ l.take (gtFrom n l i - i).toNat, ¬ lessB n x.f0 = true) ∧ (∀ x xs, l.drop (gtFrom n l i - i).toNat = x :: xs → lessB n x.f0 = true) := by
  induction l with
  | nil => intro i; simp [gtFrom]
  | cons x l ih =>
    intro i; rw [gtFrom]; split
    · next h => rw [Int.sub_self]; simp [h]
    · next h =>
      obtain ⟨a, b⟩ := ih (i + 1); have hr := gt_range n l (i + 1)
      have e : (gtFrom n l (i + 1) - i).toNat = (gtFrom n l (i + 1) - (i + 1)).toNat + 1 := by omega
      rw [e]; refine ⟨fun y hy => ?_, fun y ys hy => ?_⟩
      · rw [List.take_succ_cons] at hy
        rcases List.mem_cons.1 hy with rfl | hy
        · exact h
        · exact a y hy
      · rw [List.drop_succ_cons] at hy
        exact b y ys hy
theorem idx_all (n : ByteArray) (l : List S43) : ∀ i : Int, (∀ x ∈ l, ¬ isN n x = true) → idxFrom n l i = -1 := by
  induction l with
  | nil => intro i h; rfl
  | cons y l ih =>
    intro i h; rw [idxFrom, if_neg (h y (by simp)), ih _ (fun x hx => h x (by simp [hx]))]
theorem idx_at (n : ByteArray) (A : List S43) (x : S43) (B : List S43) (hx : isN n x = true) : ∀ i : Int, (∀ y ∈ A, ¬ isN n y = true) → idxFrom n (A ++ x :: B) i = i + A.length := by
  induction A with
  | nil => intro i h; simp [idxFrom, hx]
  | cons y A ih =>
    intro i h; rw [List.cons_append, idxFrom, if_neg (h y (by simp)), ih _ (fun z hz => h z (by simp [hz]))]; simp; omega
theorem find_l0 (l : List S43) (n : ByteArray) (hl : l.length ≤ 140737488351232) (d : Nat) : ∀ i tq : Int, 0 ≤ i → (l.length : Int) - i = d → (tq = l.length ∨ tq < i) →
    Ev (fun k => attrs_find.l0 k l n tq l l.length i) (if idxFrom n (l.drop i.toNat) i = -1 then (if tq < l.length then tq else gtFrom n (l.drop i.toNat) i, false) else (idxFrom n (l.drop i.toNat) i, true)) := by
  induction d with
  | zero =>
    intro i tq h0 hd ht; refine (Ev.pure _).step (fun k => ?_); rw [attrs_find.l0, if_neg (by omega), List.drop_eq_nil_of_le (by omega), idxFrom, if_pos rfl, gtFrom]; split; (rfl)
    · congr 2; omega
  | succ d ih =>
    intro i tq h0 hd ht
    have h1 : i < (l.length : Int) := by omega
    have hw : wrap64 (i + 1) = i + 1 := w1 (by omega) (by omega); rw [drop_T43 l i h0 h1, idxFrom, gtFrom]
    by_cases c : isN n (rd_T43 l i) = true
    · rw [if_pos c, if_neg (by omega)]
      exact (Ev.pure _).step (fun k => by rw [attrs_find.l0, if_pos h1, if_pos h0, if_pos h1, if_pos ((isN_iff _ _).1 c)])
    · rw [if_neg c]
      have c' : ¬ (rd_T43 l i).f0.toList = n.toList := fun e => c ((isN_iff _ _).2 e)
      by_cases c2 : tq < (l.length : Int)
      · have := ih (i + 1) tq (by omega) (by omega) (.inr (by omega))
        rw [if_pos c2] at this ⊢
        exact this.step (fun k => by rw [attrs_find.l0, if_pos h1, if_pos h0, if_pos h1, if_neg c', if_pos c2, hw])
      · have hto : tq = l.length := by omega
        by_cases c3 : lessB (rd_T43 l i).f0 n = true
        · have c4 : ¬ lessB n (rd_T43 l i).f0 = true := fun h => ((less_cases _ _).2 h).2 c3
          have := ih (i + 1) tq (by omega) (by omega) (.inl hto)
          rw [if_neg c2] at this ⊢
          rw [if_neg c4]
          exact this.step (fun k => by rw [attrs_find.l0, if_pos h1, if_pos h0, if_pos h1, if_neg c', if_neg c2, if_pos (show Op.bytesLess _ _ = true from c3), hw])
        · have c4 := (less_cases n (rd_T43 l i)).1 ⟨c, c3⟩
          have := ih (i + 1) i (by omega) (by omega) (.inr (by omega))
          rw [if_pos h1] at this
          rw [if_neg c2, if_pos c4]
          exact this.step (fun k => by rw [attrs_find.l0, if_pos h1, if_pos h0, if_pos h1, if_neg c', if_neg c2, if_neg (show ¬ Op.bytesLess _ _ = true from c3), hw])
theorem find_ev (l : List S43) (n : ByteArray) (hl : l.length ≤ 140737488351232) : Ev (fun k => attrs_find.f k l n) (if idxFrom n l 0 = -1 then (gtFrom n l 0, false) else (idxFrom n l 0, true)) := by
  have := find_l0 l n hl l.length 0 l.length (by omega) (by omega) (.inl rfl); simp only [Int.toNat_zero, List.drop_zero, if_neg (show ¬ (l.length : Int) < l.length by omega)] at this; exact this.eq (fun k => rfl)
theorem refFind_l0 (l : List S43) (n : ByteArray) (hl : l.length ≤ 140737488351232) (d : Nat) : ∀ i : Int, 0 ≤ i → (l.length : Int) - i = d →
    Ev (fun k => r09_Find.l0 k l n l.length i) (idxFrom n (l.drop i.toNat) i) := by
  induction d with
  | zero =>
    intro i h0 hd; rw [List.drop_eq_nil_of_le (by omega), idxFrom]; exact (Ev.pure _).step (fun k => by rw [r09_Find.l0, if_neg (by omega)])
  | succ d ih =>
    intro i h0 hd
    have h1 : i < (l.length : Int) := by omega
    rw [drop_T43 l i h0 h1, idxFrom]
    by_cases c : isN n (rd_T43 l i) = true
    (rw [if_pos c]; exact (Ev.pure _).step (fun k => by rw [r09_Find.l0, if_pos h1, if_pos h0, if_pos h1, if_pos ((isN_iff _ _).1 c)])); (rw [if_neg c]; exact (ih (i + 1) (by omega) (by omega)).step (fun k => by rw [r09_Find.l0, if_pos h1, if_pos h0, if_pos h1, if_neg (fun e => c ((isN_iff _ _).2 e)), w1 (by omega) (by omega)]))
theorem refFind_ev (l : List S43) (n : ByteArray) (hl : l.length ≤ 140737488351232) : Ev (fun k => r09_Find.f k l n) (idxFrom n l 0) := by
  have := refFind_l0 l n hl l.length 0 (by omega) (by omega); simp only [Int.toNat_zero, List.drop_zero] at this; exact this.eq (fun k => rfl)
theorem rd_at (A : List S43) (x : S43) (B : List S43) : rd_T43 (A ++ x :: B) (A.length : Int) = x := by
  unfold rd_T43; simp [List.getD_eq_getElem?_getD]
theorem eta43 (x : S43) : (⟨x.f0, x.f1⟩ : S43) = x := by cases x; rfl
theorem rd_nat (l : List S43) (i : Nat) : rd_T43 l (i : Int) = (l[i]?).getD z43 := by
  unfold rd_T43; rw [List.getD_eq_getElem?_getD, Int.toNat_natCast]
/-- The place at which a name belongs. -/
def pl (n : ByteArray) (l : List S43) : Nat := (gtFrom n l 0).toNat
theorem pl_le (n : ByteArray) (l : List S43) : pl n l ≤ l.length := by
  have := gt_range n l 0; unfold pl; omega
theorem pl_eq (n : ByteArray) (l : List S43) : gtFrom n l 0 = (pl n l : Int) := by
  have := gt_range n l 0; unfold pl; omega
def ins (n v : ByteArray) (l : List S43) : List S43 := l.take (pl n l) ++ [⟨n, v⟩] ++ l.drop (pl n l)
theorem with_found (A : List S43) (x : S43) (B : List S43) (n v : ByteArray) (hl : (A ++ x :: B).length ≤ 4398046510000) (hA : ∀ y ∈ A, ¬ isN n y = true) (hx : isN n x = true) :
    Ev (fun k => attrs_With.f k (A ++ x :: B) n v) (A ++ ⟨x.f0, v⟩ :: B) := by
  have f1 := find_ev (A ++ x :: B) n (by omega); rw [idx_at n A x B hx 0 hA, Int.zero_add, if_neg (by omega)] at f1
  have hlen : (A.length : Int) < ((A ++ x :: B).length : Int) := by simp; omega
  refine f1.via0 (Ev.pure _) (fun k hk => ?_); rw [attrs_With.f, hk, Option.bind_some, withAt, if_pos ⟨hl, by simp, by simp; omega⟩, if_pos rfl, if_pos hlen, rd_at]
  congr 1
  simp
theorem with_none (l : List S43) (n v : ByteArray) (hl : l.length ≤ 4398046510000) (h : ∀ y ∈ l, ¬ isN n y = true) :
    Ev (fun k => attrs_With.f k l n v) (ins n v l) := by
  have f1 := find_ev l n (by omega); rw [idx_all n l 0 h, if_pos rfl] at f1; have := gt_range n l 0; refine f1.via0 (Ev.pure _) (fun k hk => ?_); rw [attrs_With.f, hk, Option.bind_some, withAt, if_pos ⟨hl, by dsimp only; omega, by dsimp only; omega⟩, if_neg (by simp)]; rfl
theorem refWith_l0 (l : List S43) (hl : l.length ≤ 140737488351232) (hs : ∀ y ∈ l, Sm43 y) (n v : ByteArray) (at' : Int) (r : List S43) (h : Ev (fun k => r09_With.j1 k l n v at' (gtFrom n l 0)) r) (d : Nat) : ∀ i : Int, 0 ≤ i → (l.length : Int) - i = d → gtFrom n (l.drop i.toNat) i = gtFrom n l 0 →
    Ev (fun k => r09_With.l0 k l n v at' i) r := by
  induction d with
  | zero =>
    intro i h0 hd hg; rw [List.drop_eq_nil_of_le (by omega), gtFrom] at hg; rw [← hg] at h; exact h.step (fun k => by rw [r09_With.l0, if_neg (by omega)])
  | succ d ih =>
    intro i h0 hd hg
    have h1 : i < (l.length : Int) := by omega
    rw [drop_T43 l i h0 h1, gtFrom] at hg
    have hm : rd_T43 l i ∈ l := by
      unfold rd_T43; rw [List.getD_eq_getElem?_getD, List.getElem?_eq_getElem (by omega)]; exact List.getElem_mem _
    obtain ⟨t, ht, hti⟩ := compare (rd_T43 l i).f0 n (hs _ hm).h0
    by_cases c : lessB n (rd_T43 l i).f0 = true
    · rw [if_pos c] at hg
      have : ¬ t ≤ 0 := by have := hti.2 c; omega
      rw [← hg] at h
      exact ht.via h (fun k hk => by rw [r09_With.l0, if_pos h1, if_pos h0, hk, Option.bind_some, if_neg this])
    · rw [if_neg c] at hg
      have : t ≤ 0 := by
        by_cases h2 : t > 0
        (exact absurd (hti.1 h2) c); (omega)
      exact ht.via (ih (i + 1) (by omega) (by omega) hg) (fun k hk => by rw [r09_With.l0, if_pos h1, if_pos h0, hk, Option.bind_some, if_pos this, w1 (by omega) (by omega)])
theorem refWith_found_l1 (A : List S43) (x : S43) (B : List S43) (n v : ByteArray) (g : Int) (hl : (A ++ x :: B).length ≤ 4398046510976) (d : Nat) : ∀ i : Nat, (A ++ x :: B).length - i = d → i ≤ (A ++ x :: B).length →
    Ev (fun k => r09_With.l1 k (A ++ x :: B) n v A.length g ((A ++ ⟨x.f0, v⟩ :: B).take i) (A ++ x :: B).length i) (A ++ ⟨x.f0, v⟩ :: B) := by
  induction d with
  | zero =>
    intro i hd hi; have : (A ++ (⟨x.f0, v⟩ : S43) :: B).take i = A ++ ⟨x.f0, v⟩ :: B := List.take_of_length_le (by simp at *; omega); rw [this]; exact (Ev.pure _).step (fun k => by rw [r09_With.l1, if_neg (by omega), if_neg (by omega)])
  | succ d ih =>
    intro i hd hi
    have h1 : i < (A ++ x :: B).length := by omega
    have e := ih (i + 1) (by omega) (by omega)
    have hlt : ((A ++ (⟨x.f0, v⟩ : S43) :: B).take i).length < 4398046511104 := by rw [List.length_take]; omega
    have hi2 : i < (A ++ (⟨x.f0, v⟩ : S43) :: B).length := by simp at *; omega
    have tk : (A ++ (⟨x.f0, v⟩ : S43) :: B).take (i + 1) = (A ++ ⟨x.f0, v⟩ :: B).take i ++ [rd_T43 (A ++ ⟨x.f0, v⟩ :: B) i] := by
      have := take_T43 (A ++ (⟨x.f0, v⟩ : S43) :: B) i (by omega) (by omega); rwa [show ((i : Int) + 1).toNat = i + 1 by omega, Int.toNat_natCast] at this
    have rdR : rd_T43 (A ++ (⟨x.f0, v⟩ : S43) :: B) i = if (i : Int) = A.length then ⟨(rd_T43 (A ++ x :: B) i).f0, v⟩ else rd_T43 (A ++ x :: B) i := by
      rw [rd_nat, rd_nat]
      by_cases c : i = A.length
      · subst c; simp
      · rw [if_neg (by omega)]
        by_cases c2 : i < A.length
        · rw [List.getElem?_append_left c2, List.getElem?_append_left c2]
        · rw [List.getElem?_append_right (by omega), List.getElem?_append_right (by omega)]
          obtain ⟨q, hq⟩ : ∃ q, i - A.length = q + 1 := ⟨i - A.length - 1, by omega⟩
          rw [hq, List.getElem?_cons_succ, List.getElem?_cons_succ]
    rw [tk, rdR] at e
    have hw : wrap64 ((i : Int) + 1) = ((i + 1 : Nat) : Int) := by rw [w1 (by omega) (by omega)]; rfl
    refine (e.step (f := fun k => r09_With.j3 k (A ++ x :: B) n v A.length g ((A ++ ⟨x.f0, v⟩ :: B).take i) i (A ++ x :: B).length i false) (fun k => ?_)).step (fun k => by rw [r09_With.l1, if_pos (by omega), if_neg (by omega)]); rw [r09_With.j3, if_neg (by decide), if_pos (by omega), if_pos (by omega), if_pos hlt, if_pos hlt, hw]
    by_cases c : (i : Int) = A.length
    (rw [if_pos c, if_pos c]); (rw [if_neg c, if_neg c, eta43])
theorem refWith_found (A : List S43) (x : S43) (B : List S43) (n v : ByteArray) (hl : (A ++ x :: B).length ≤ 4398046510000) (hs : ∀ y ∈ A ++ x :: B, Sm43 y) (hA : ∀ y ∈ A, ¬ isN n y = true) (hx : isN n x = true) :
    Ev (fun k => r09_With.f k (A ++ x :: B) n v) (A ++ ⟨x.f0, v⟩ :: B) := by
  have f2 := refFind_ev (A ++ x :: B) n (by omega); rw [idx_at n A x B hx 0 hA, Int.zero_add] at f2; have e := refWith_found_l1 A x B n v (gtFrom n (A ++ x :: B) 0) (by omega) (A ++ x :: B).length 0 (by omega) (by omega); rw [List.take_zero] at e; have e1 := e.step (f := fun k => r09_With.j1 k (A ++ x :: B) n v A.length (gtFrom n (A ++ x :: B) 0)) (fun k => by rw [r09_With.j1]; rfl); exact f2.via0 (refWith_l0 (A ++ x :: B) (by omega) hs n v _ _ e1 (A ++ x :: B).length 0 (by omega) (by omega) (by simp)) (fun k hk => by rw [r09_With.f, hk]; rfl)
theorem ins_len (n v : ByteArray) (l : List S43) : (ins n v l).length = l.length + 1 := by
  have := pl_le n l; unfold ins; simp only [List.length_append, List.length_take, List.length_drop, List.length_cons, List.length_nil]; omega
theorem ins_rd (n v : ByteArray) (l : List S43) (i : Nat) : rd_T43 (ins n v l) i = if i < pl n l then rd_T43 l i else if i = pl n l then ⟨n, v⟩ else rd_T43 l ((i - 1 : Nat) : Int) := by
  have hp := pl_le n l
  have hA : (l.take (pl n l)).length = pl n l := by rw [List.length_take]; omega
  rw [rd_nat]; unfold ins; rw [List.append_assoc]
  by_cases c : i < pl n l
  · rw [if_pos c, List.getElem?_append_left (by omega), List.getElem?_take, if_pos c, rd_nat]
  · rw [if_neg c, List.getElem?_append_right (by omega), hA]
    by_cases c2 : i = pl n l
    · rw [if_pos c2, c2, Nat.sub_self]; rfl
    · rw [if_neg c2]
      obtain ⟨q, hq⟩ : ∃ q, i - pl n l = q + 1 := ⟨i - pl n l - 1, by omega⟩
      rw [hq, List.singleton_append, List.getElem?_cons_succ, List.getElem?_drop, rd_nat]
      congr 2
      omega
theorem take_nat (R : List S43) (i : Nat) (h : i < R.length) : R.take (i + 1) = R.take i ++ [rd_T43 R i] := by
  have := take_T43 R i (by omega) (by omega); rwa [show ((i : Int) + 1).toNat = i + 1 by omega, Int.toNat_natCast] at this
theorem refWith_none_l1 (l : List S43) (n v : ByteArray) (hl : l.length ≤ 4398046510976) (d : Nat) : ∀ i : Nat, l.length - i = d → i ≤ l.length →
    Ev (fun k => r09_With.l1 k l n v (-1) (pl n l) (if i ≤ pl n l then (ins n v l).take i else (ins n v l).take (i + 1)) l.length i) (ins n v l) := by
  have hp := pl_le n l; have hil := ins_len n v l
  induction d with
  | zero =>
    intro i hd hi
    have hie : i = l.length := by omega
    subst hie
    by_cases c : pl n l = l.length
    · rw [if_pos (by omega)]
      have e : (ins n v l).take l.length ++ [⟨n, v⟩] = ins n v l := by
        have h1 := take_nat (ins n v l) l.length (by omega); rw [ins_rd, if_neg (by omega), if_pos c.symm, List.take_of_length_le (by omega)] at h1; exact h1.symm
      refine (Ev.pure _).step (fun k => ?_)
      rw [r09_With.l1, if_neg (by omega), if_pos (by decide), if_pos (by omega), if_pos (by rw [List.length_take]; omega), e]
    · rw [if_neg (by omega), List.take_of_length_le (by omega)]
      refine (Ev.pure _).step (fun k => ?_); rw [r09_With.l1, if_neg (by omega), if_pos (by decide), if_neg (by omega)]
  | succ d ih =>
    intro i hd hi; have e := ih (i + 1) (by omega) (by omega)
    have hw : wrap64 ((i : Int) + 1) = ((i + 1 : Nat) : Int) := by rw [w1 (by omega) (by omega)]; rfl
    have hx7 : ¬ (i : Int) = -1 := by omega
    by_cases c : i = pl n l
    · rw [if_pos (by omega)]
      have r1 : rd_T43 (ins n v l) ((i + 1 : Nat) : Int) = rd_T43 l i := by rw [ins_rd, if_neg (by omega), if_neg (by omega), Nat.add_sub_cancel]
      have r0 : rd_T43 (ins n v l) (i : Int) = ⟨n, v⟩ := by rw [ins_rd, if_neg (by omega), if_pos c]
      rw [if_neg (by omega), take_nat _ (i + 1) (by omega), take_nat _ i (by omega), r1, r0] at e
      have hlt : ((ins n v l).take i).length < 4398046511104 := by rw [List.length_take]; omega
      have hlt2 : ((ins n v l).take i ++ [(⟨n, v⟩ : S43)]).length < 4398046511104 := by rw [List.length_append, List.length_take]; simp; omega
      refine (e.step (f := fun k => r09_With.j3 k l n v (-1) (pl n l) ((ins n v l).take i) i l.length i true) (fun k => ?_)).step (fun k => by rw [r09_With.l1, if_pos (by omega), if_pos (by decide)]; congr 1; simp [c])
      rw [r09_With.j3, if_pos rfl, if_pos hlt, Option.bind_some, if_pos (by omega), if_pos (by omega), if_neg hx7, if_pos hlt2, hw, eta43]
    · have hne : (((i : Int) == ((pl n l : Nat) : Int)) = false) := by simp; omega
      by_cases c2 : i < pl n l
      · rw [if_pos (by omega)]
        rw [if_pos (by omega), take_nat _ i (by omega), ins_rd, if_pos c2] at e
        have hlt : ((ins n v l).take i).length < 4398046511104 := by rw [List.length_take]; omega
        refine (e.step (f := fun k => r09_With.j3 k l n v (-1) (pl n l) ((ins n v l).take i) i l.length i false) (fun k => ?_)).step (fun k => by rw [r09_With.l1, if_pos (by omega), if_pos (by decide), hne])
        rw [r09_With.j3, if_neg (by decide), if_pos (by omega), if_pos (by omega), if_neg hx7, if_pos hlt, hw, eta43]
      · rw [if_neg (by omega)]
        rw [if_neg (by omega), take_nat _ (i + 1) (by omega), ins_rd, if_neg (by omega), if_neg (by omega), Nat.add_sub_cancel] at e
        have hlt : ((ins n v l).take (i + 1)).length < 4398046511104 := by rw [List.length_take]; omega
        refine (e.step (f := fun k => r09_With.j3 k l n v (-1) (pl n l) ((ins n v l).take (i + 1)) i l.length i false) (fun k => ?_)).step (fun k => by rw [r09_With.l1, if_pos (by omega), if_pos (by decide), hne])
        rw [r09_With.j3, if_neg (by decide), if_pos (by omega), if_pos (by omega), if_neg hx7, if_pos hlt, hw, eta43]
theorem refWith_none (l : List S43) (n v : ByteArray) (hl : l.length ≤ 4398046510000) (hs : ∀ y ∈ l, Sm43 y) (h : ∀ y ∈ l, ¬ isN n y = true) :
    Ev (fun k => r09_With.f k l n v) (ins n v l) := by
  have f2 := refFind_ev l n (by omega); rw [idx_all n l 0 h] at f2; have e := refWith_none_l1 l n v (by omega) l.length 0 (by omega) (by omega); rw [if_pos (by omega), List.take_zero] at e; have e1 := e.step (f := fun k => r09_With.j1 k l n v (-1) (gtFrom n l 0)) (fun k => by rw [r09_With.j1, pl_eq]; rfl); exact f2.via0 (refWith_l0 l (by omega) hs n v _ _ e1 l.length 0 (by omega) (by omega) (by simp)) (fun k hk => by rw [r09_With.f, hk]; rfl)
theorem attrs_refl (l : List S43) (hl : l.length ≤ 140737488351232) (d : Nat) : ∀ i : Int, 0 ≤ i → (l.length : Int) - i = d → Ev (fun k => pl_Attrs.l0 k l l l.length i) true := by
  induction d with
  | zero =>
    intro i h0 hd; exact (Ev.pure _).step (fun k => by rw [pl_Attrs.l0, if_neg (by omega)])
  | succ d ih =>
    intro i h0 hd
    have h1 : i < (l.length : Int) := by omega
    exact (ih (i + 1) (by omega) (by omega)).step (fun k => by rw [pl_Attrs.l0, if_pos h1, if_pos h0, if_pos h1, if_pos h1, if_neg (by simp), w1 (by omega) (by omega)])
theorem attrs_refl_ev (l : List S43) (hl : l.length ≤ 140737488351232) : Ev (fun k => pl_Attrs.f k l l) true :=
  (attrs_refl l hl l.length 0 (by omega) (by omega)).eq (fun k => by rw [pl_Attrs.f, if_pos rfl])
theorem same : ∃ k, lw_same.f k = some true := ⟨40, by decide +kernel⟩
theorem same_ev : Ev (fun k => lw_same.f k) true := by
  obtain ⟨k, hk⟩ := same; exact Ev.of (fun k => lw_same.mono k) hk
theorem few_l1 (x : S40) (hl : x.f5.length ≤ 140737488351232) (d : Nat) : ∀ (i x5 : Int), 0 ≤ i → (x.f5.length : Int) - i = d → ∃ b, Ev (fun k => pl_FewRows.l1 k [x] x5 0 1 0 x.f5.length i) b := by
  induction d with
  | zero =>
    intro i x5 h0 hd; refine ⟨_, ((Ev.pure (decide (x5 ≥ 0))).step (f := fun k => pl_FewRows.l0 k [x] x5 1 1) (fun k => by rw [pl_FewRows.l0, if_neg (by omega)])).step (fun k => ?_)⟩; rw [pl_FewRows.l1, if_neg (by omega), show wrap64 ((0 : Int) + 1) = 1 by rw [w1 (by omega) (by omega)]; rfl]
  | succ d ih =>
    intro i x5 h0 hd; obtain ⟨b, hb⟩ := ih (i + 1) (wrap64 (x5 - (wrap64 (Int.tdiv (wrap64 (((rd_T43 x.f5 i).f1.size : Int) + ((rd_T43 x.f5 i).f0.size : Int))) 4096)))) (by omega) (by omega); refine ⟨b, hb.step (fun k => ?_)⟩; have hr : rd_T40 [x] 0 = x := rfl; rw [pl_FewRows.l1, if_pos (by omega), if_pos (by omega), if_pos (by simp), if_pos h0, hr, if_pos (by omega), w1 (by omega) (by omega)]
theorem heavy_ev (l : List S43) (hl : l.length ≤ 140737488351232) : ∃ b, Ev (fun k => lw_heavy.f k l) b ∧ (b = false → l.length ≤ 199) := by
  have hr : rd_T40 [(⟨0, 0, ⟨#[]⟩, ⟨#[]⟩, ⟨#[]⟩, l⟩ : S40)] 0 = ⟨0, 0, ⟨#[]⟩, ⟨#[]⟩, ⟨#[]⟩, l⟩ := rfl
  have hz : wrap64 (Int.tdiv (wrap64 ((wrap64 (((⟨#[]⟩ : ByteArray).size : Int) + ((⟨#[]⟩ : ByteArray).size : Int))) + ((⟨#[]⟩ : ByteArray).size : Int))) 4096) = 0 := by decide +kernel
  have hc : (wrap64 ((wrap64 ((wrap64 (200 - 1)) - (l.length : Int))) - (0 : Int))) = 199 - l.length := by
    rw [wm (by omega) (by omega), ww (i := 200 - 1 - (l.length : Int)) (by omega) (by omega), ww (by omega) (by omega)]; omega
  by_cases h : (199 : Int) - l.length < 0
  · refine ⟨true, ?_, by simp⟩
    have e : Ev (fun k => pl_FewRows.f k [(⟨0, 0, ⟨#[]⟩, ⟨#[]⟩, ⟨#[]⟩, l⟩ : S40)] 200) false := by
      refine (Ev.pure false).step (f := fun k => pl_FewRows.l0 k [(⟨0, 0, ⟨#[]⟩, ⟨#[]⟩, ⟨#[]⟩, l⟩ : S40)] 200 1 0) (fun k => ?_) |>.eq (fun k => rfl)
      rw [pl_FewRows.l0, if_pos (by omega), if_pos (by omega), if_pos (by simp), hr]; dsimp only; rw [hz, hc, if_pos h]
    exact e.via0 (Ev.pure _) (fun k hk => by rw [lw_heavy.f, hk]; rfl)
  · obtain ⟨b, hb⟩ := few_l1 ⟨0, 0, ⟨#[]⟩, ⟨#[]⟩, ⟨#[]⟩, l⟩ hl l.length 0 (199 - l.length) (by omega) (by simp)
    have e : Ev (fun k => pl_FewRows.f k [(⟨0, 0, ⟨#[]⟩, ⟨#[]⟩, ⟨#[]⟩, l⟩ : S40)] 200) b := by
      refine hb.step (f := fun k => pl_FewRows.l0 k [(⟨0, 0, ⟨#[]⟩, ⟨#[]⟩, ⟨#[]⟩, l⟩ : S40)] 200 1 0) (fun k => ?_) |>.eq (fun k => rfl)
      rw [pl_FewRows.l0, if_pos (by omega), if_pos (by omega), if_pos (by simp), hr]; dsimp only; rw [hz, hc, if_neg h]
    exact ⟨!b, e.via0 (Ev.pure _) (fun k hk => by rw [lw_heavy.f, hk]; rfl), fun _ => by omega⟩
end Go.Proofs.Ytmpdbblljofjfaa.Pure
namespace Go.Proofs.Ytmpdbblljofjfaa.Pure
open Go.RowKit Go.Proofs.Ytmpdbblljofjfaa.G Go.Proofs.YtmpdbblljofjfaaW.PrintWords Go.Proofs.YtmpdbblljofjfaaW.PrintLast Go.Proofs.Ytmpdbblljofjfaa.Srt
set_option linter.unusedVariables false
/-- The last one of its name. -/
theorem keep_none (n : ByteArray) (l : List S43) (h : ∀ y ∈ l, ¬ isN n y = true) : keep n l = l := by
  unfold keep; exact List.filter_eq_self.2 (fun y hy => by simpa using h y hy)
theorem bytes_eq {a b : ByteArray} (h : a.toList = b.toList) : a = b := by
  rw [Lib.toList_data, Lib.toList_data] at h; cases a; cases b
  congr 1
  exact Array.toList_inj.1 h
def Last (l : List S43) (x : S43) : Prop := ∃ A B, l = A ++ x :: B ∧ ∀ y ∈ B, ¬ isN x.f0 y = true
theorem last_snoc (l : List S43) (z x : S43) : Last (l ++ [z]) x ↔ x = z ∨ (Last l x ∧ ¬ isN x.f0 z = true) := by
  constructor
  · rintro ⟨A, B, e, hB⟩
    rcases List.eq_nil_or_concat B with rfl | ⟨B', b, rfl⟩
    · obtain ⟨_, e2⟩ := List.append_inj' e rfl
      injection e2 with e2
      exact .inl e2.symm
    · right
      rw [List.concat_eq_append] at e hB
      have e' : l ++ [z] = (A ++ x :: B') ++ [b] := by rw [e]; simp
      obtain ⟨e1, e2⟩ := List.append_inj' e' rfl
      injection e2 with e2
      subst e2
      exact ⟨⟨A, B', e1, fun y hy => hB y (by simp [hy])⟩, hB z (by simp)⟩
  · rintro (rfl | ⟨⟨A, B, rfl, hB⟩, hz⟩)
    · exact ⟨l, [], rfl, fun y hy => by cases hy⟩
    · refine ⟨A, B ++ [z], by simp, fun y hy => ?_⟩
      rcases List.mem_append.1 hy with hy | hy
      · exact hB y hy
      · rw [List.mem_singleton.1 hy]; exact hz
theorem last_nil (x : S43) : ¬ Last [] x := by
  rintro ⟨A, B, e, _⟩; simp at e
/-- By what a name leaves of a list. -/
theorem last_filter : ∀ (n : Nat) (l : List S43) (x : S43), l.length = n → (Last l x ↔ (l.filter (isN x.f0)).getLast? = some x)
  | 0, l, x, h => by
    obtain rfl := List.length_eq_zero_iff.1 h
    simp [last_nil]
  | n + 1, l, x, h => by
    rcases List.eq_nil_or_concat l with rfl | ⟨l', z, rfl⟩
    · simp at h
    · rw [List.concat_eq_append] at h ⊢
      have ih := last_filter n l' x (by simpa using h)
      rw [last_snoc, List.filter_append, List.filter_cons]
      by_cases c : isN x.f0 z = true
      · rw [if_pos c, List.filter_nil, List.getLast?_append]
        simp only [List.getLast?_singleton, Option.some_or, Option.some.injEq]
        constructor
        · rintro (e | ⟨_, e⟩)
          · exact e.symm
          · exact absurd c e
        · intro e; exact .inl e.symm
      · rw [if_neg c, List.filter_nil, List.append_nil, ← ih]
        constructor
        · rintro (e | ⟨e, _⟩)
          · exact absurd (by rw [e]; exact (isN_iff _ _).2 rfl) c
          · exact e
        · intro e; exact .inr ⟨e, c⟩
/-- Strictly rising by name. -/
def Up (l : List S43) : Prop := l.Pairwise (fun a b => lessB a.f0 b.f0 = true)
theorem up_uniq : ∀ (X Y : List S43), Up X → Up Y → (∀ x, x ∈ X ↔ x ∈ Y) → X = Y
  | [], [], _, _, _ => rfl
  | [], y :: Y, _, _, h => by have := (h y).2 (by simp); cases this
  | x :: X, [], _, _, h => by have := (h x).1 (by simp); cases this
  | x :: X, y :: Y, hx, hy, h => by
    unfold Up at hx hy
    rw [List.pairwise_cons] at hx hy
    have e : x = y := by
      rcases List.mem_cons.1 ((h x).1 (by simp)) with h1 | h1
      · exact h1
      · rcases List.mem_cons.1 ((h y).2 (by simp)) with h2 | h2
        · exact h2.symm
        · exact absurd (less_trans (hy.1 x h1) (hx.1 y h2)) (less_irrefl _)
    subst e
    rw [up_uniq X Y hx.2 hy.2 (fun z => ?_)]
    constructor
    · intro hz
      rcases List.mem_cons.1 ((h z).1 (by simp [hz])) with rfl | h1
      · exact absurd (hx.1 z hz) (less_irrefl _)
      · exact h1
    · intro hz
      rcases List.mem_cons.1 ((h z).2 (by simp [hz])) with rfl | h1
      · exact absurd (hy.1 z hz) (less_irrefl _)
      · exact h1
theorem isN_self (x : S43) : isN x.f0 x = true := (isN_iff _ _).2 rfl
theorem isN_congr {a b : ByteArray} {x y : S43} (h : isN x.f0 y = true) : x.f0 = y.f0 := (bytes_eq ((isN_iff _ _).1 h)).symm
theorem up_last {l : List S43} (h : Up l) (x : S43) : Last l x ↔ x ∈ l := by
  constructor; (rintro ⟨A, B, rfl, _⟩; simp); (intro hx; obtain ⟨A, B, rfl⟩ := List.append_of_mem hx; refine ⟨A, B, rfl, fun y hy hn => ?_⟩; have h2 := (List.pairwise_append.1 h).2.1; have := (List.pairwise_cons.1 h2).1 y hy; rw [isN_congr (a := x.f0) (b := x.f0) hn] at this; exact less_irrefl _ this)
/-- One by one. -/
def putN (l : List S43) (x : S43) : List S43 := if h : ∃ y ∈ l, isN x.f0 y = true then l.map (fun y => if isN x.f0 y = true then ⟨y.f0, x.f1⟩ else y) else ins x.f0 x.f1 l
theorem map_split {n v : ByteArray} {A B : List S43} {x : S43} (hA : ∀ y ∈ A, ¬ isN n y = true) (hB : ∀ y ∈ B, ¬ isN n y = true) (hx : isN n x = true) :
    (A ++ x :: B).map (fun y => if isN n y = true then (⟨y.f0, v⟩ : S43) else y) = A ++ ⟨x.f0, v⟩ :: B := by
  rw [List.map_append, List.map_cons, if_pos hx]
  congr 1
  · conv => rhs; rw [← List.map_id A]
    exact List.map_congr_left (fun y hy => by rw [if_neg (hA y hy)]; rfl)
  · congr 1
    conv => rhs; rw [← List.map_id B]
    exact List.map_congr_left (fun y hy => by rw [if_neg (hB y hy)]; rfl)
theorem up_split {A B : List S43} {x : S43} {n : ByteArray} (h : Up (A ++ x :: B)) (hx : isN n x = true) : (∀ y ∈ A, ¬ isN n y = true) ∧ (∀ y ∈ B, ¬ isN n y = true) := by
  obtain ⟨_, h2, h3⟩ := List.pairwise_append.1 h; have e := (isN_iff _ _).1 hx; constructor; (intro y hy hn; have := h3 y hy x (by simp); rw [bytes_eq (((isN_iff _ _).1 hn).trans e.symm)] at this; exact less_irrefl _ this); (intro y hy hn; have := (List.pairwise_cons.1 h2).1 y hy; rw [bytes_eq (((isN_iff _ _).1 hn).trans e.symm)] at this; exact less_irrefl _ this)
theorem ins_up {l : List S43} {n v : ByteArray} (h : Up l) (hn : ∀ y ∈ l, ¬ isN n y = true) : Up (ins n v l) ∧ ∀ x, x ∈ ins n v l ↔ x = ⟨n, v⟩ ∨ x ∈ l := by
  have hs := gt_split n l 0; have hpe := pl_eq n l; rw [hpe] at hs; simp only [Int.sub_zero, Int.toNat_natCast] at hs
  have hlt : ∀ x ∈ l.take (pl n l), lessB x.f0 n = true := fun x hx => by
    have h1 := hs.1 x hx
    rcases less_total n x.f0 with q | q | q
    (exact absurd q h1); (exact absurd ((isN_iff _ _).2 q.symm) (hn x (List.mem_of_mem_take hx))); (exact q)
  have hgt : ∀ x ∈ l.drop (pl n l), lessB n x.f0 = true := fun x hx => by
    cases hd : l.drop (pl n l) with
    | nil => rw [hd] at hx; cases hx
    | cons y ys =>
      have h1 := hs.2 y ys hd; have hp : Up (l.drop (pl n l)) := h.sublist (List.drop_sublist _ _); unfold Up at hp; rw [hd] at hx hp
      rcases List.mem_cons.1 hx with rfl | hx
      (exact h1); (exact less_trans h1 ((List.pairwise_cons.1 hp).1 x hx))
  refine ⟨?_, fun x => ?_⟩
  · unfold ins Up
    rw [List.append_assoc]
    refine List.pairwise_append.2 ⟨h.sublist (List.take_sublist _ _), List.pairwise_cons.2 ⟨fun y hy => hgt y hy, h.sublist (List.drop_sublist _ _)⟩, ?_⟩
    intro a ha b hb
    rcases List.mem_append.1 hb with hb | hb
    · rw [List.mem_singleton.1 hb]; exact hlt a ha
    · exact less_trans (hlt a ha) (hgt b hb)
  · unfold ins
    have e : x ∈ l ↔ x ∈ l.take (pl n l) ∨ x ∈ l.drop (pl n l) := by
      conv => lhs; rw [← List.take_append_drop (pl n l) l]
      exact List.mem_append
    rw [List.append_assoc, List.mem_append, e]
    simp only [List.singleton_append, List.mem_cons]
    constructor
    · rintro (h | h | h)
      · exact .inr (.inl h)
      · exact .inl h
      · exact .inr (.inr h)
    · rintro (h | h | h)
      · exact .inr (.inl h)
      · exact .inl h
      · exact .inr (.inr h)
theorem putN_ok {l : List S43} (h : Up l) (x : S43) : Up (putN l x) ∧ (∀ y, y ∈ putN l x ↔ y = x ∨ (y ∈ l ∧ ¬ isN y.f0 x = true)) ∧ (putN l x).length ≤ l.length + 1 := by
  unfold putN
  by_cases c : ∃ y ∈ l, isN x.f0 y = true
  · rw [dif_pos c]
    obtain ⟨y, hy, hn⟩ := c
    obtain ⟨A, B, rfl⟩ := List.append_of_mem hy
    obtain ⟨hA, hB⟩ := up_split h hn
    rw [map_split hA hB hn]
    have ey : y.f0 = x.f0 := bytes_eq ((isN_iff _ _).1 hn)
    have ex : (⟨y.f0, x.f1⟩ : S43) = x := by rw [ey]
    rw [ex]
    refine ⟨?_, fun z => ?_, by simp⟩
    · obtain ⟨h1, h2, h3⟩ := List.pairwise_append.1 h
      rw [List.pairwise_cons] at h2
      refine List.pairwise_append.2 ⟨h1, List.pairwise_cons.2 ⟨fun b hb => by rw [← ey]; exact h2.1 b hb, h2.2⟩, fun a ha b hb => ?_⟩
      rcases List.mem_cons.1 hb with rfl | hb
      · rw [← ey]; exact h3 a ha y (by simp)
      · exact h3 a ha b (by simp [hb])
    · have hzz : ∀ z : S43, z.f0 = x.f0 → isN z.f0 x = true := fun z e => (isN_iff _ _).2 (by rw [e])
      constructor
      · intro hz
        rcases List.mem_append.1 hz with hz | hz
        · exact .inr ⟨by simp [hz], fun e => hA z hz ((isN_iff _ _).2 ((isN_iff _ _).1 e).symm)⟩
        · rcases List.mem_cons.1 hz with rfl | hz
          · exact .inl rfl
          · exact .inr ⟨by simp [hz], fun e => hB z hz ((isN_iff _ _).2 ((isN_iff _ _).1 e).symm)⟩
      · rintro (rfl | ⟨hz, hne⟩)
        · simp
        · rcases List.mem_append.1 hz with hz | hz
          · simp [hz]
          · rcases List.mem_cons.1 hz with rfl | hz
            · exact absurd (hzz z ey) hne
            · simp [hz]
  · rw [dif_neg c]
    have hn : ∀ y ∈ l, ¬ isN x.f0 y = true := fun y hy e => c ⟨y, hy, e⟩
    obtain ⟨h1, h2⟩ := ins_up (v := x.f1) h hn
    refine ⟨h1, fun y => ?_, by rw [ins_len]; exact Nat.le_refl _⟩
    rw [h2 y]
    constructor
    · rintro (e | e)
      · exact .inl (by rw [e])
      · exact .inr ⟨e, fun q => hn y e ((isN_iff _ _).2 ((isN_iff _ _).1 q).symm)⟩
    · rintro (e | e)
      · exact .inl (by rw [e])
      · exact .inr e.1
theorem with_putN {l : List S43} (h : Up l) (hl : l.length ≤ 1000000) (hs : ∀ y ∈ l, Sm43 y) (x : S43) : Ev (fun k => r09_With.f k l x.f0 x.f1) (putN l x) := by
  unfold putN
  by_cases c : ∃ y ∈ l, isN x.f0 y = true
  (rw [dif_pos c]; obtain ⟨y, hy, hn⟩ := c; obtain ⟨A, B, rfl⟩ := List.append_of_mem hy; obtain ⟨hA, hB⟩ := up_split h hn; rw [map_split hA hB hn]; exact refWith_found A y B x.f0 x.f1 (by omega) hs hA hn); (rw [dif_neg c]; exact refWith_none l x.f0 x.f1 (by omega) hs (fun y hy e => c ⟨y, hy, e⟩))
def normR (l : List S43) : List S43 := l.foldl putN []
theorem normR_snoc (l : List S43) (x : S43) : normR (l ++ [x]) = putN (normR l) x := by unfold normR; rw [List.foldl_append]; rfl
theorem normR_ok : ∀ (n : Nat) (l : List S43), l.length = n → Up (normR l) ∧ (∀ x, x ∈ normR l ↔ Last l x) ∧ (normR l).length ≤ n
  | 0, l, h => by
    obtain rfl := List.length_eq_zero_iff.1 h
    exact ⟨List.Pairwise.nil, fun x => by simp [normR, last_nil], Nat.le_refl _⟩
  | n + 1, l, h => by
    rcases List.eq_nil_or_concat l with rfl | ⟨l', z, rfl⟩
    · simp at h
    · rw [List.concat_eq_append] at h ⊢
      obtain ⟨h1, h2, h3⟩ := normR_ok n l' (by simpa using h)
      obtain ⟨g1, g2, g3⟩ := putN_ok h1 z
      rw [normR_snoc]
      refine ⟨g1, fun x => ?_, by omega⟩
      rw [g2 x, last_snoc, h2 x]
theorem refNorm_ev (l : List S43) (hl : l.length ≤ 1000000) (hs : ∀ y ∈ l, Sm43 y) : Ev (fun k => r09_Norm.f k l) (normR l) := by
  have loop : ∀ (d i : Nat), i + d = l.length → Ev (fun k => r09_Norm.l0 k l (normR (l.take i)) l.length i) (normR l) := by
    intro d
    induction d with
    | zero =>
      intro i hi; rw [List.take_of_length_le (by omega)]; exact (Ev.pure _).step (fun k => by rw [r09_Norm.l0, if_neg (by omega)])
    | succ d ih =>
      intro i hi; have h1 := ih (i + 1) (by omega); have htk : l.take (i + 1) = l.take i ++ [rd_T43 l (i : Int)] := take_nat l i (by omega); rw [htk, normR_snoc] at h1; obtain ⟨g1, g2, g3⟩ := normR_ok _ (l.take i) rfl
      have hw := with_putN g1 (by rw [List.length_take] at g3; omega) (fun y hy => by
        obtain ⟨A, B, e, _⟩ := (g2 y).1 hy
        exact hs y (List.mem_of_mem_take (i := i) (by rw [e]; simp))) (rd_T43 l (i : Int))
      exact hw.via h1 (fun k hk => by rw [r09_Norm.l0, if_pos (by omega), if_pos (by omega), if_pos (by omega), hk, Option.bind_some, w1 (by omega) (by omega)]; rfl)
  have := loop l.length 0 (by omega); exact this
/-- By sorting. -/
theorem ltA (x y : S43) : lt cmA x y = lessB x.f0 y.f0 := lt_cmA x y
theorem eqvA (z y : S43) : eqv (lt cmA) z y = isN z.f0 y := by
  unfold eqv; rw [ltA, ltA, Bool.eq_iff_iff, isN_iff]; simp only [Bool.and_eq_true, Bool.not_eq_true']; constructor
  · rintro ⟨h1, h2⟩
    rcases less_total z.f0 y.f0 with q | q | q
    · rw [h1] at q; cases q
    · exact q.symm
    · rw [h2] at q; cases q
  · intro e
    rw [bytes_eq e]; have := less_irrefl z.f0; simp [this]
theorem dedT_mem (M : List S43) (x : S43) : ∀ i, i ≤ M.length → (x ∈ dedT M i ↔ ∃ j : Nat, j < i ∧ rd_T43 M (j : Int) = x ∧ keepAt M j = true)
  | 0, _ => by simp [dedT]
  | i + 1, hi => by
    have ih := dedT_mem M x i (by omega)
    unfold dedT
    by_cases c : keepAt M i = true
    · rw [if_pos c, List.mem_append, ih, List.mem_singleton]
      constructor
      · rintro (⟨j, a, b⟩ | e)
        · exact ⟨j, by omega, b⟩
        · exact ⟨i, by omega, e.symm, c⟩
      · rintro ⟨j, a, b, d⟩
        by_cases e : j = i
        · subst e; exact .inr b.symm
        · exact .inl ⟨j, by omega, b, d⟩
    · rw [if_neg c, ih]
      constructor
      · rintro ⟨j, a, b⟩
        exact ⟨j, by omega, b⟩
      · rintro ⟨j, a, b, d⟩
        by_cases e : j = i
        · subst e; exact absurd d c
        · exact ⟨j, by omega, b, d⟩
theorem srt_le {M : List S43} (h : Srt (lt cmA) M) (i j : Nat) (hij : i ≤ j) (hj : j < M.length) : ¬ lessB (rd_T43 M (j : Int)).f0 (rd_T43 M (i : Int)).f0 = true := by
  rcases Nat.eq_or_lt_of_le hij with rfl | hlt
  (exact less_irrefl _); (have := List.pairwise_iff_getElem.1 h i j (by omega) hj hlt; rw [ltA] at this; rw [rd43_get M i (by omega), rd43_get M j hj, this]; decide)
theorem keep_less {M : List S43} (h : Srt (lt cmA) M) (i j : Nat) (hk : keepAt M i = true) (hij : i < j) (hj : j < M.length) : lessB (rd_T43 M (i : Int)).f0 (rd_T43 M (j : Int)).f0 = true := by
  unfold keepAt at hk; rw [show (i + 1 == M.length) = false from by simp; omega, Bool.false_or] at hk
  have hne : (rd_T43 M ((i + 1 : Nat) : Int)).f0.toList ≠ (rd_T43 M (i : Int)).f0.toList := by simpa using hk
  have h1 := srt_le h i (i + 1) (by omega) (by omega); have h2 := srt_le h (i + 1) j (by omega) hj
  have h3 : lessB (rd_T43 M (i : Int)).f0 (rd_T43 M ((i + 1 : Nat) : Int)).f0 = true := by
    rcases less_total (rd_T43 M (i : Int)).f0 (rd_T43 M ((i + 1 : Nat) : Int)).f0 with q | q | q
    (exact q); (exact absurd q.symm hne); (exact absurd q h1)
  rcases less_total (rd_T43 M ((i + 1 : Nat) : Int)).f0 (rd_T43 M (j : Int)).f0 with q | q | q
  (exact less_trans h3 q); (rw [← bytes_eq q]; exact h3); (exact absurd q h2)
theorem dedT_up {M : List S43} (h : Srt (lt cmA) M) : ∀ i, i ≤ M.length → Up (dedT M i)
  | 0, _ => List.Pairwise.nil
  | i + 1, hi => by
    have ih := dedT_up h i (by omega)
    unfold dedT
    by_cases c : keepAt M i = true
    · rw [if_pos c]
      refine List.pairwise_append.2 ⟨ih, List.pairwise_singleton _ _, fun a ha b hb => ?_⟩
      rw [List.mem_singleton.1 hb]
      obtain ⟨j, h1, h2, h3⟩ := (dedT_mem M a i (by omega)).1 ha
      rw [← h2]
      exact keep_less h j i h3 h1 (by omega)
    · rw [if_neg c]; exact ih
theorem drop43 (M : List S43) (i : Nat) (h : i < M.length) : M.drop i = rd_T43 M (i : Int) :: M.drop (i + 1) := by
  rw [List.drop_eq_getElem_cons h, rd43_get M i h]
theorem keep_last {M : List S43} (h : Srt (lt cmA) M) (x : S43) : (∃ j : Nat, j < M.length ∧ rd_T43 M (j : Int) = x ∧ keepAt M j = true) ↔ Last M x := by
  constructor; (rintro ⟨j, hj, rfl, hk⟩; refine ⟨M.take j, M.drop (j + 1), by rw [← drop43 M j hj, List.take_append_drop], fun y hy hn => ?_⟩; obtain ⟨t, ht, e⟩ := List.getElem_of_mem hy; rw [List.length_drop] at ht; rw [List.getElem_drop] at e; have := keep_less h j (j + 1 + t) hk (by omega) (by omega); rw [rd43_get M (j + 1 + t) (by omega), e, isN_congr (a := ⟨#[]⟩) (b := ⟨#[]⟩) hn] at this; exact less_irrefl _ this)
  · rintro ⟨A, B, rfl, hB⟩
    refine ⟨A.length, by simp, rd_at A x B, ?_⟩
    unfold keepAt
    rw [rd_at A x B]
    cases B with
    | nil => simp
    | cons b B =>
      have e : rd_T43 (A ++ x :: b :: B) ((A.length + 1 : Nat) : Int) = b := by
        have := rd_at (A ++ [x]) b B; rw [List.length_append, List.length_singleton, show A ++ [x] ++ b :: B = A ++ x :: b :: B from by simp] at this; exact this
      rw [e]; have := hB b (by simp); rw [isN_iff] at this; simp [this]
theorem normP_ok (l : List S43) : Up (normP l) ∧ ∀ x, x ∈ normP l ↔ Last l x := by
  obtain ⟨h1, h2⟩ := isort_ok swoA l _ rfl; unfold normP; refine ⟨dedT_up h1 _ (Nat.le_refl _), fun x => ?_⟩; rw [dedT_mem _ x _ (Nat.le_refl _), keep_last h1, last_filter _ _ x rfl, last_filter _ l x rfl]; have e : isN x.f0 = eqv (lt cmA) x := funext (fun y => (eqvA x y).symm); rw [e, h2.fl x]
theorem norm_up {l : List S43} (h : Up l) : normP l = l := by
  obtain ⟨c, d⟩ := normP_ok l; exact up_uniq _ _ c h (fun x => (d x).trans (up_last h x))
end Go.Proofs.Ytmpdbblljofjfaa.Pure
namespace Go.Proofs.Ytmpdbblljofjfaa.Pure
open Go.RowKit Go.Proofs.Ytmpdbblljofjfaa.G Go.Proofs.YtmpdbblljofjfaaW.PrintWords Go.Proofs.YtmpdbblljofjfaaW.PrintLast
set_option linter.unusedVariables false
theorem leS_eq (a b : ByteArray) : leS a b = !(lessB b a) := by
  have h := Go.Proofs.Ytmpdbblljofjfaa.Str.bytesLess_swap a.toList b.toList; unfold leS lessB; rw [← h, Bool.not_not]
theorem ne_of_less {a b : ByteArray} (h : lessB a b = true) : a ≠ b := fun e => by
  subst e
  exact less_irrefl _ h
theorem both_le {a b : ByteArray} (h : leS a b = true) (g : leS b a = true) : a = b := by
  rw [leS_eq] at h g
  rcases less_total a b with h1 | h1 | h1
  (rw [h1] at g; cases g); (exact bytes_eq h1); (rw [h1] at h; cases h)
theorem less_of {a b : ByteArray} (h : leS a b = false) : lessB b a = true := by
  rw [leS_eq] at h
  cases hb : lessB b a with
  | true => rfl
  | false => rw [hb] at h; cases h
def pk (el : Option S43 × Option S43) : S43 := match el.1, el.2 with
  | _, some y => y
  | some x, none => x
  | none, none => z43
def Sp (A B : List S43) (el : Option S43 × Option S43) : Prop := match el.1, el.2 with
  | some x, some y => x ∈ A ∧ y ∈ B ∧ x.f0 = y.f0
  | some x, none => x ∈ A ∧ ∀ z ∈ B, z.f0 ≠ x.f0
  | none, some y => y ∈ B ∧ ∀ z ∈ A, z.f0 ≠ y.f0
  | none, none => False
theorem up_cons {x : S43} {A : List S43} : Up (x :: A) ↔ (∀ z ∈ A, lessB x.f0 z.f0 = true) ∧ Up A := List.pairwise_cons
theorem up_all {x : ByteArray} {y : S43} {B : List S43} (h : Up (y :: B)) (hl : lessB x y.f0 = true) : ∀ z ∈ y :: B, lessB x z.f0 = true := by
  intro z hz
  rcases List.mem_cons.1 hz with rfl | hz
  (exact hl); (exact less_trans hl ((up_cons.1 h).1 z hz))
theorem prs_spec : ∀ (n : Nat) (A B : List S43), Up A → Up B → A.length + B.length ≤ n →
    (∀ el ∈ prs n A B, Sp A B el) ∧ Up ((prs n A B).map pk) ∧ (∀ z, z ∈ (prs n A B).map pk ↔ z ∈ B ∨ (z ∈ A ∧ ∀ y ∈ B, y.f0 ≠ z.f0)) := by
  intro n
  induction n with
  | zero =>
    intro A B _ _ h; obtain rfl : A = [] := List.length_eq_zero_iff.1 (by omega); obtain rfl : B = [] := List.length_eq_zero_iff.1 (by omega); exact ⟨fun el h => by (cases h), List.Pairwise.nil, fun z => by simp [prs]⟩
  | succ n ih =>
    intro A B uA uB h
    cases A with
    | nil =>
      cases B with
      | nil => exact ⟨fun el h => by (cases h), List.Pairwise.nil, fun z => by simp [prs]⟩
      | cons y B =>
        obtain ⟨i1, i2, i3⟩ := ih [] B uA (up_cons.1 uB).2 (by simp at h ⊢; omega); refine ⟨?_, ?_, ?_⟩
        · intro el he
          rcases List.mem_cons.1 he with rfl | he
          · exact ⟨List.mem_cons_self, fun z hz => by cases hz⟩
          · have := i1 el he
            obtain ⟨o1, o2⟩ := el
            cases o1 <;> cases o2 <;> simp only [Sp] at this ⊢
            · exact ⟨List.mem_cons_of_mem _ this.1, this.2⟩
            · exact absurd this.1 (by simp)
            · exact absurd this.1 (by simp)
        · show Up (y :: (prs n [] B).map pk)
          refine up_cons.2 ⟨fun z hz => ?_, i2⟩
          rcases (i3 z).1 hz with hz | hz
          · exact (up_cons.1 uB).1 z hz
          · exact absurd hz.1 (by simp)
        · intro z
          show z ∈ y :: (prs n [] B).map pk ↔ _
          rw [List.mem_cons, i3]
          simp
    | cons x A =>
      cases B with
      | nil =>
        obtain ⟨i1, i2, i3⟩ := ih A [] (up_cons.1 uA).2 uB (by simp at h ⊢; omega); refine ⟨?_, ?_, ?_⟩
        · intro el he
          rcases List.mem_cons.1 he with rfl | he
          · exact ⟨List.mem_cons_self, fun z hz => by cases hz⟩
          · have := i1 el he
            obtain ⟨o1, o2⟩ := el
            cases o1 <;> cases o2 <;> simp only [Sp] at this ⊢
            · exact absurd this.1 (by simp)
            · exact ⟨List.mem_cons_of_mem _ this.1, this.2⟩
            · exact absurd this.2.1 (by simp)
        · show Up (x :: (prs n A []).map pk)
          refine up_cons.2 ⟨fun z hz => ?_, i2⟩
          rcases (i3 z).1 hz with hz | hz
          · exact absurd hz (by simp)
          · exact (up_cons.1 uA).1 z hz.1
        · intro z
          show z ∈ x :: (prs n A []).map pk ↔ _
          rw [List.mem_cons, i3]
          simp
      | cons y B =>
        cases c1 : leS x.f0 y.f0 with
        | false =>
          have hl := less_of c1
          have e : prs (n + 1) (x :: A) (y :: B) = (none, some y) :: prs n (x :: A) B := by rw [prs, c1]; rfl
          obtain ⟨i1, i2, i3⟩ := ih (x :: A) B uA (up_cons.1 uB).2 (by simp at h ⊢; omega); rw [e]; have big := up_all uA hl; refine ⟨?_, ?_, ?_⟩
          · intro el he
            rcases List.mem_cons.1 he with rfl | he
            · exact ⟨List.mem_cons_self, fun z hz => (ne_of_less (big z hz)).symm⟩
            · have := i1 el he
              obtain ⟨o1, o2⟩ := el
              cases o1 <;> cases o2 <;> simp only [Sp] at this ⊢
              · exact ⟨List.mem_cons_of_mem _ this.1, this.2⟩
              · refine ⟨this.1, fun z hz => ?_⟩
                rcases List.mem_cons.1 hz with rfl | hz
                · exact ne_of_less (big _ this.1)
                · exact this.2 z hz
              · exact ⟨this.1, List.mem_cons_of_mem _ this.2.1, this.2.2⟩
          · show Up (y :: (prs n (x :: A) B).map pk)
            refine up_cons.2 ⟨fun z hz => ?_, i2⟩
            rcases (i3 z).1 hz with hz | hz
            · exact (up_cons.1 uB).1 z hz
            · exact big z hz.1
          · intro z
            show z ∈ y :: (prs n (x :: A) B).map pk ↔ _
            rw [List.mem_cons, i3]
            constructor
            · rintro (rfl | hz | ⟨hz, hn⟩)
              · exact .inl List.mem_cons_self
              · exact .inl (List.mem_cons_of_mem _ hz)
              · refine .inr ⟨hz, fun w hw => ?_⟩
                rcases List.mem_cons.1 hw with rfl | hw
                · exact ne_of_less (big _ hz)
                · exact hn w hw
            · rintro (hz | ⟨hz, hn⟩)
              · rcases List.mem_cons.1 hz with rfl | hz
                · exact .inl rfl
                · exact .inr (.inl hz)
              · exact .inr (.inr ⟨hz, fun w hw => hn w (List.mem_cons_of_mem _ hw)⟩)
        | true =>
          cases c2 : leS y.f0 x.f0 with
          | false =>
            have hl := less_of c2
            have e : prs (n + 1) (x :: A) (y :: B) = (some x, none) :: prs n A (y :: B) := by rw [prs, c1, c2]; rfl
            obtain ⟨i1, i2, i3⟩ := ih A (y :: B) (up_cons.1 uA).2 uB (by simp at h ⊢; omega); rw [e]; have big := up_all uB hl; refine ⟨?_, ?_, ?_⟩
            · intro el he
              rcases List.mem_cons.1 he with rfl | he
              · exact ⟨List.mem_cons_self, fun z hz => (ne_of_less (big z hz)).symm⟩
              · have := i1 el he
                obtain ⟨o1, o2⟩ := el
                cases o1 <;> cases o2 <;> simp only [Sp] at this ⊢
                · refine ⟨this.1, fun z hz => ?_⟩
                  rcases List.mem_cons.1 hz with rfl | hz
                  · exact ne_of_less (big _ this.1)
                  · exact this.2 z hz
                · exact ⟨List.mem_cons_of_mem _ this.1, this.2⟩
                · exact ⟨List.mem_cons_of_mem _ this.1, this.2⟩
            · show Up (x :: (prs n A (y :: B)).map pk)
              refine up_cons.2 ⟨fun z hz => ?_, i2⟩
              rcases (i3 z).1 hz with hz | hz
              · exact big z hz
              · exact (up_cons.1 uA).1 z hz.1
            · intro z
              show z ∈ x :: (prs n A (y :: B)).map pk ↔ _
              rw [List.mem_cons, i3]
              constructor
              · rintro (rfl | hz | ⟨hz, hn⟩)
                · exact .inr ⟨List.mem_cons_self, fun w hw => (ne_of_less (big _ hw)).symm⟩
                · exact .inl hz
                · exact .inr ⟨List.mem_cons_of_mem _ hz, hn⟩
              · rintro (hz | ⟨hz, hn⟩)
                · exact .inr (.inl hz)
                · rcases List.mem_cons.1 hz with rfl | hz
                  · exact .inl rfl
                  · exact .inr (.inr ⟨hz, hn⟩)
          | true =>
            have he0 := both_le c1 c2
            have e : prs (n + 1) (x :: A) (y :: B) = (some x, some y) :: prs n A B := by rw [prs, c1, c2]; rfl
            obtain ⟨i1, i2, i3⟩ := ih A B (up_cons.1 uA).2 (up_cons.1 uB).2 (by simp at h ⊢; omega); rw [e]; have bA := (up_cons.1 uA).1; have bB := (up_cons.1 uB).1; refine ⟨?_, ?_, ?_⟩
            · intro el he
              rcases List.mem_cons.1 he with rfl | he
              · exact ⟨List.mem_cons_self, List.mem_cons_self, he0⟩
              · have := i1 el he
                obtain ⟨o1, o2⟩ := el
                cases o1 <;> cases o2 <;> simp only [Sp] at this ⊢
                · refine ⟨List.mem_cons_of_mem _ this.1, fun z hz => ?_⟩
                  rcases List.mem_cons.1 hz with rfl | hz
                  · rw [he0]; exact ne_of_less (bB _ this.1)
                  · exact this.2 z hz
                · refine ⟨List.mem_cons_of_mem _ this.1, fun z hz => ?_⟩
                  rcases List.mem_cons.1 hz with rfl | hz
                  · rw [← he0]; exact ne_of_less (bA _ this.1)
                  · exact this.2 z hz
                · exact ⟨List.mem_cons_of_mem _ this.1, List.mem_cons_of_mem _ this.2.1, this.2.2⟩
            · show Up (y :: (prs n A B).map pk)
              refine up_cons.2 ⟨fun z hz => ?_, i2⟩
              rcases (i3 z).1 hz with hz | hz
              · exact bB z hz
              · rw [← he0]; exact bA z hz.1
            · intro z
              show z ∈ y :: (prs n A B).map pk ↔ _
              rw [List.mem_cons, i3]
              constructor
              · rintro (rfl | hz | ⟨hz, hn⟩)
                · exact .inl List.mem_cons_self
                · exact .inl (List.mem_cons_of_mem _ hz)
                · refine .inr ⟨List.mem_cons_of_mem _ hz, fun w hw => ?_⟩
                  rcases List.mem_cons.1 hw with rfl | hw
                  · rw [← he0]; exact ne_of_less (bA _ hz)
                  · exact hn w hw
              · rintro (hz | ⟨hz, hn⟩)
                · rcases List.mem_cons.1 hz with rfl | hz
                  · exact .inl rfl
                  · exact .inr (.inl hz)
                · rcases List.mem_cons.1 hz with rfl | hz
                  · exact absurd he0.symm (hn y List.mem_cons_self)
                  · exact .inr (.inr ⟨hz, fun w hw => hn w (List.mem_cons_of_mem _ hw)⟩)
/-- right is Norm. -/
theorem incU_up (l : List S43) : ∀ n, n ≤ l.length → incU l n = true → Up (l.take n)
  | 0, _, _ => by simp [Up]
  | 1, h, _ => by
    cases l with
    | nil => simp [Up]
    | cons x l => simp [Up]
  | n + 2, h, e => by
    unfold incU at e
    rw [Bool.and_eq_true] at e
    have ih := incU_up l (n + 1) (by omega) e.1
    rw [take_nat l (n + 1) (by omega)]
    unfold Up
    refine List.pairwise_append.2 ⟨ih, List.pairwise_singleton _ _, fun a ha b hb => ?_⟩
    rw [List.mem_singleton] at hb
    subst hb
    have hl : lessB (rd_T43 l (n : Int)).f0 (rd_T43 l ((n + 1 : Nat) : Int)).f0 = true := e.2
    rw [take_nat l n (by omega)] at ha ih
    rcases List.mem_append.1 ha with ha | ha
    · exact less_trans ((List.pairwise_append.1 ih).2.2 a ha _ (List.mem_singleton.2 rfl)) hl
    · rw [List.mem_singleton.1 ha]; exact hl
theorem right_norm (l : List S43) : rightP l = normP l := by
  unfold rightP; split
  · rename_i h
    have := incU_up l l.length (Nat.le_refl _) h
    rw [List.take_length] at this
    exact (norm_up this).symm
  · rfl
theorem isN_eq (n : ByteArray) (x : S43) : isN n x = true ↔ x.f0 = n := by
  rw [isN_iff]; exact ⟨bytes_eq, fun e => by rw [e]⟩
theorem up_name {l : List S43} (h : Up l) {x z : S43} (hx : x ∈ l) (hz : z ∈ l) (e : z.f0 = x.f0) : z = x := by
  induction l with
  | nil => cases hx
  | cons y l ih =>
    obtain ⟨h1, h2⟩ := up_cons.1 h
    rcases List.mem_cons.1 hx with ax | ax <;> rcases List.mem_cons.1 hz with az | az
    (rw [ax, az]); (rw [ax] at e; exact absurd e.symm (ne_of_less (h1 z az))); (rw [az] at e; exact absurd e (ne_of_less (h1 x ax))); (exact ih h2 ax az)
end Go.Proofs.Ytmpdbblljofjfaa.Pure
