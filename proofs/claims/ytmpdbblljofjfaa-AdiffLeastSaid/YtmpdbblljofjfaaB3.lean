/- What the claim LawAdiffLeast rests on, part 3 of 5: the kit's words, the printed walks, the walks by hand, the plain laws. -/
import Derived.Test.YtmpdbblljofjfaaB0
import Derived.Test.YtmpdbblljofjfaaB1
import Derived.Test.YtmpdbblljofjfaaB2
import Derived.Sort.Walk0
namespace Go.Proofs.Ytmpdbblljofjfaa.G
open Go.RowKit Go.Proofs.YtmpdbblljofjfaaW.PrintWords Go.Proofs.YtmpdbblljofjfaaW.PrintLast Go.Proofs.YtmpdbblljofjfaaW.PrintMore
attribute [local go_sem] max2_int min2_int max_two min_two max_three min_three max_four min_four
set_option linter.unusedVariables false
set_option linter.unusedSimpArgs false
attribute [local go_sem high] eqA31
def adiff_Do.l0 : Nat → List (S43) → List (S31) → Int → Int → Option ((List (S43)))
 | 0, _, _, _, _ => none
 | k + 1, x5, x10, x11, x12 => if x12 < x11 then (if 0 ≤ x12 then (if x12 < (x10.length : Int) then (if (rd_T31 x10 x12).f2 = true then ((attrs_Without.f x5 ((rd_T31 x10 x12).f0)).bind fun bt123 => (adiff_Do.l0 k bt123.1 x10 x11 (wrap64 (x12 + 1)))) else ((attrs_With.f k x5 ((rd_T31 x10 x12).f0) ((rd_T31 x10 x12).f1)).bind fun t127 => (adiff_Do.l0 k t127 x10 x11 (wrap64 (x12 + 1))))) else (none)) else (none)) else (some x5)
def adiff_Do.f (k : Nat) (l0 : List (S43)) (l1 : List (S31)) : Option ((List (S43))) := (api_Attr_20.f l0).bind fun t118 => (adiff_Do.l0 k t118 l1 (l1.length : Int) 0)
theorem adiff_Do.mono_l : ∀ k, (∀ y0 y1 y2 y3, LeO (adiff_Do.l0 k y0 y1 y2 y3) (adiff_Do.l0 (k + 1) y0 y1 y2 y3))
 | 0 => fun _ _ _ _ r h => by simp [adiff_Do.l0] at h
 | k + 1 => by
  have ih0 := adiff_Do.mono_l k
  ·
   intro y0 y1 y2 y3
   unfold adiff_Do.l0
   with_reducible repeat' first | exact ih0 _ _ _ _ | exact attrs_With.mono _ _ _ _ | exact LeO.refl _ | exact LeO.none _ | refine LeO.ite ?_ ?_ | refine LeO.bind ?_ (fun _ => ?_)
theorem adiff_Do.mono : ∀ a0 a1 k, LeO (adiff_Do.f k a0 a1) (adiff_Do.f (k + 1) a0 a1) := by
 intro a0 a1 k
 have ih0 := adiff_Do.mono_l k
 unfold adiff_Do.f
 with_reducible repeat' first | exact ih0 _ _ _ _ | exact attrs_With.mono _ _ _ _ | exact LeO.refl _ | exact LeO.none _ | refine LeO.ite ?_ ?_ | refine LeO.bind ?_ (fun _ => ?_)
set_option maxHeartbeats 8000000 in
set_option maxRecDepth 100000 in
theorem adiff_Do.calls (k : Nat) (A0 : Option Addr) (c0 : Nat) (l0 : List (S43)) (A1 : Option Addr) (c1 : Nat) (l1 : List (S31)) (r : List (S43)) (w : World) (hr0 : Kd.C k43 w A0 l0.length l0) (hc0 : l0.length ≤ c0) (hr1 : Kd.C k31 w A1 l1.length l1) (hc1 : l1.length ≤ c1) (h : adiff_Do.f k l0 l1 = some r) :
  Calls Try.prog 13 #[.slice A0 l0.length c0, .slice A1 l1.length c1] w fun e w' => ∃ v0_ : Value, e = .returned (v0_) ∧ Kd.R k43 43 w' w.heap.size (fun _ => True) v0_ r ∧ Below w.heap.size w w' := by
 have hu31 := Try.underlying31
 have HR0 := zk hr0
 have HC0 := zk hc0
 clear hr0 hc0
 have HR1 := zk hr1
 have HC1 := zk hc1
 clear hr1 hc1
 have HB := zk (Below.refl w.heap.size w)
 have H : ((api_Attr_20.f l0).bind fun t118 => (adiff_Do.l0 k t118 l1 (l1.length : Int) 0)) = some r := h
 clear h
 replace H := Option.bind_eq_some_iff.mp H
 obtain ⟨t118, A30, H⟩ := H
 replace H : (adiff_Do.l0 k t118 l1 (l1.length : Int) 0) = some r := H
 have A3 := zk A30
 clear A30
 have H' := zk H
 clear H
 go_enter Try.func13, Try.ntmps13
 go_wp2_with (first | ((with_reducible refine zgk (f := 20) rfl ?_); refine zgl (some 9) rfl rfl Try.func20 (by kernel_rfl) rfl #[.slice A0 l0.length c0] rfl (by (try simp only [List.map_toArray, List.map_cons, List.map_nil]); first | done | rfl | (simp only [List.length_drop, List.length_take]; rfl)) ?_; (with_reducible refine (api_Attr_20.calls _ _ l0 t118 _ ?side1 ?side2 A3.out).mono ?_); (case side1 => repeat (first | exact HR0.out | (with_reducible refine Kd.C_alloc ?_ _) | (with_reducible refine Kd.C_drewN ?_ _) | (with_reducible refine Kd.C_drew ?_))); (case side2 => exact HC0.out); rintro e w4 ⟨v119, rfl, ho0, hb⟩; refine ⟨_, rfl, ?_⟩; have n0_ := zk (Kd.R_lower ho0 (zq (by with_reducible repeat first | exact HB.out | apply zA | apply zN | apply zD))); have n1_ := zk (zs (by with_reducible repeat first | exact HB.out | apply zA | apply zN | apply zD) hb); clear HB; have HO120 := n0_; have HB := n1_; clear n0_ n1_; (try clear hb); (try clear hb2); (try clear hk); (try clear hi); (try clear ho0)))
 go_loopg [5, 12] k (fun kq v5 v12 w' => ∃ (x5_1 : List (S43)) (x12_1 : Int), v12 = .int .i64 x12_1 ∧ Aside0 (adiff_Do.l0 kq x5_1 l1 (l1.length : Int) x12_1 = some r) ∧ Aside0 (kq ≤ k) ∧ Aside0 (Kd.R k43 43 w' w.heap.size (fun _ => True) v5 x5_1) ∧ Aside0 (Below w.heap.size w w'))
 case atStart => exact ⟨(t118), (0), (by first | rfl | (simp; done) | (simp [*]; done)), H', ⟨Nat.le_refl _⟩, ⟨by (with_reducible repeat (first | apply Kd.R_alloc | apply Kd.R_drewN | apply Kd.R_drew)); exact HO120.out⟩, ⟨by with_reducible repeat first | exact HB.out | apply zA | apply zN | apply zD⟩⟩
 case round =>
  clear H'; (try clear c1); (try clear c2); (try clear p2); obtain ⟨x5_1, x12_1, rfl, HA, HK1, HO_5, HB⟩ := hrel
  cases gk with
  | zero => exact absurd HA.out (by simp [adiff_Do.l0])
  | succ k1 =>
   have H := HA.out; clear HA; simp only [adiff_Do.l0] at H
   by_cases c5 : x12_1 < (l1.length : Int)
   ·
    rw [if_pos c5] at H; have c5b0 : decide (x12_1 < (l1.length : Int)) = true := decide_eq_true c5; clear c5
    by_cases c6 : 0 ≤ x12_1
    ·
     rw [if_pos c6] at H; have c6b0 : decide (0 ≤ x12_1) = true := decide_eq_true c6; clear c6
     by_cases c7 : x12_1 < (l1.length : Int)
     ·
      rw [if_pos c7] at H; have c7b0 : decide (x12_1 < (l1.length : Int)) = true := decide_eq_true c7; clear c7; obtain ⟨bq8, hbq8⟩ : ∃ b_ : Bool, b_ = ((rd_T31 l1 x12_1).f2) := ⟨_, rfl⟩
      replace H : (if bq8 = true then ((attrs_Without.f x5_1 ((rd_T31 l1 x12_1).f0)).bind fun bt123 => (adiff_Do.l0 k1 bt123.1 l1 (l1.length : Int) (wrap64 (x12_1 + 1)))) else ((attrs_With.f k1 x5_1 ((rd_T31 l1 x12_1).f0) ((rd_T31 l1 x12_1).f1)).bind fun t127 => (adiff_Do.l0 k1 t127 l1 (l1.length : Int) (wrap64 (x12_1 + 1))))) = some r := by rw [← hbq8] at H; exact H
      have Nbq8 := zk hbq8; clear hbq8
      by_cases c9 : bq8 = true
      ·
       subst c9
       have H1 : ((attrs_Without.f x5_1 ((rd_T31 l1 x12_1).f0)).bind fun bt123 => (adiff_Do.l0 k1 bt123.1 l1 (l1.length : Int) (wrap64 (x12_1 + 1)))) = some r := by rw [if_pos rfl] at H; exact H
       clear H; have H := H1; clear H1; replace H := Option.bind_eq_some_iff.mp H; obtain ⟨⟨t123, t124⟩, A100, H⟩ := H; replace H : (adiff_Do.l0 k1 t123 l1 (l1.length : Int) (wrap64 (x12_1 + 1))) = some r := H; have A10 := zk A100; clear A100; have H' := zk H; clear H; have p121 : 0 ≤ (x12_1 : Int) := zo (by assumption); have q121 : x12_1 < (l1.length : Int) := zo (by assumption); obtain ⟨ad121, e121, hx121_0, hx121_1, hx121_2⟩ := at_T31 HR1.out x12_1 p121 q121
       (try rw [← Nbq8.out] at hx121_2)
       cases e121; replace hx121_0 := zB HB hx121_0; replace hx121_1 := zB HB hx121_1; replace hx121_2 := zB HB hx121_2; replace p121 := eq_true p121; replace q121 := eq_true q121
       go_wp2_with (first | ((with_reducible refine zgd (N := 7) rfl ?_); refine zb ?hg (N := 7) ?hd (cs := #[.string ⟨#[]⟩, .string ⟨#[]⟩, .bool false]) (t := 31) ?hr ?_; (case hd => rfl); (case hg => rfl); (case hr => go_simp; first | done | rfl); intro gb122 hg w11 hbox hb; have n0_ := zk (Kd.R_below (by (with_reducible repeat (first | apply Kd.R_alloc | apply Kd.R_drewN | apply Kd.R_drew)); exact HO_5.out) hb); have n1_ := zk (zs (by with_reducible repeat first | exact HB.out | apply zA | apply zN | apply zD) hb); have n2_ := zk (hbox); have n3_ := zk ((by rw [hg]; exact (zq (by with_reducible repeat first | exact HB.out | apply zA | apply zN | apply zD)) : w.heap.size ≤ gb122)); have n4_ := n3_; clear HO_5; clear HB; have HO_5 := n0_; have HB := n1_; have BK122 := n2_; have GW122 := n3_; have GE122 := n4_; clear n0_ n1_ n2_ n3_ n4_; clear hb hbox hg; obtain ⟨hcz12_0, hcz12_1, hcz12_2, hfz12_0, hfz12_1, hfz12_2⟩ := zc3 BK122.out; obtain ⟨Ao13, co13, eo13⟩ := Kd.R_slice HO_5.out; subst eo13) | ((with_reducible refine zgk (f := 21) rfl ?_); refine zgl (some 22) rfl rfl Try.func21 (by kernel_rfl) rfl #[.slice Ao13 x5_1.length co13, .string ((rd_T31 l1 x12_1).f0)] rfl (by (try simp only [List.map_toArray, List.map_cons, List.map_nil]); first | done | rfl | (simp only [List.length_drop, List.length_take]; rfl)) ?_; (with_reducible refine (attrs_Without.calls _ _ x5_1 ((rd_T31 l1 x12_1).f0) t123 t124 _ ?side1 ?side2 A10.out).mono ?_); (case side1 => refine (Kd.R_reads' (e := 43) (base := w.heap.size) (ok := fun k_ => True) (n := x5_1.length) (c := co13) ?_).2.2; exact (by (with_reducible repeat (first | apply Kd.R_alloc | apply Kd.R_drewN | apply Kd.R_drew)); exact (Kd.R_mono (Kd.R_far (p := ⟨gb122, 2, none⟩) (Kd.R_far (p := ⟨gb122, 1, none⟩) (Kd.R_far (p := ⟨gb122, 0, none⟩) (Kd.R_types HO_5.out BK122.out (by decide)) (fun _ hk => hk.2) (.string ((rd_T31 l1 x12_1).f0))) (fun _ hk => hk.2) (.string ((rd_T31 l1 x12_1).f1))) (fun _ hk => hk.2) (.bool true)) (fun _ h_ => h_.1)))); (case side2 => exact (Kd.R_reads' HO_5.out).2.1); rintro e w14 ⟨v125, rfl, ho0, hb⟩; refine ⟨_, rfl, ?_⟩; have n0_ := zk (Kd.R_elder' (by (with_reducible repeat (first | apply Kd.R_alloc | apply Kd.R_drewN | apply Kd.R_drew)); exact (Kd.R_mono (Kd.R_far (p := ⟨gb122, 2, none⟩) (Kd.R_far (p := ⟨gb122, 1, none⟩) (Kd.R_far (p := ⟨gb122, 0, none⟩) (Kd.R_types HO_5.out BK122.out (by decide)) (fun _ hk => hk.2) (.string ((rd_T31 l1 x12_1).f0))) (fun _ hk => hk.2) (.string ((rd_T31 l1 x12_1).f1))) (fun _ hk => hk.2) (.bool true)) (fun _ h_ => h_.1))) (Kd.R_base ho0) hb); have n1_ := zk (Kd.R_lower (Kd.R_new' ho0 (Kd.R_lt (by (with_reducible repeat (first | apply Kd.R_alloc | apply Kd.R_drewN | apply Kd.R_drew)); exact (Kd.R_mono (Kd.R_far (p := ⟨gb122, 2, none⟩) (Kd.R_far (p := ⟨gb122, 1, none⟩) (Kd.R_far (p := ⟨gb122, 0, none⟩) (Kd.R_types HO_5.out BK122.out (by decide)) (fun _ hk => hk.2) (.string ((rd_T31 l1 x12_1).f0))) (fun _ hk => hk.2) (.string ((rd_T31 l1 x12_1).f1))) (fun _ hk => hk.2) (.bool true)) (fun _ h_ => h_.1))))) (zq (by with_reducible repeat first | exact HB.out | apply zA | apply zN | apply zD | refine zS ?_ GE122.out))); have n2_ := zk (blk_below (g := gb122) (o := .cells #[.string ((rd_T31 l1 x12_1).f0), .string ((rd_T31 l1 x12_1).f1), .bool true] 31 (0, 0)) (by (with_reducible repeat first | apply zM | apply zE | apply zF); refine zP (cs := #[.string ((rd_T31 l1 x12_1).f0), .string ((rd_T31 l1 x12_1).f1), .bool false]) ?_ 2 _ rfl; (with_reducible repeat first | apply zM | apply zE | apply zF); refine zP (cs := #[.string ((rd_T31 l1 x12_1).f0), .string ⟨#[]⟩, .bool false]) ?_ 1 _ rfl; (with_reducible repeat first | apply zM | apply zE | apply zF); refine zP (cs := #[.string ⟨#[]⟩, .string ⟨#[]⟩, .bool false]) ?_ 0 _ rfl; (with_reducible repeat first | apply zM | apply zE | apply zF); exact BK122.out) hb); have n3_ := zk (zs (by with_reducible repeat first | exact HB.out | apply zA | apply zN | apply zD | refine zS ?_ GE122.out) hb); clear HO_5; clear BK122; clear HB; have HO_5 := n0_; have HO126 := n1_; have BK122 := n2_; have HB := n3_; clear n0_ n1_ n2_ n3_; (try clear hb); (try clear hb2); (try clear hk); (try clear hi); (try clear ho0)))
       go_roundg k1
       case measure => have := HK1.out; omega
       case rel => exact ⟨(t123), (wrap64 (x12_1 + 1)), (by first | rfl | (simp; done) | (simp [*]; done)), H', ⟨by have := HK1.out; omega⟩, ⟨by (with_reducible repeat (first | apply Kd.R_alloc | apply Kd.R_drewN | apply Kd.R_drew)); exact Kd.R_mono HO126.out (fun _ hk => trivial)⟩, ⟨by with_reducible repeat first | exact HB.out | apply zA | apply zN | apply zD | refine zS ?_ GE122.out⟩⟩
      ·
       replace c9 := Bool.eq_false_iff.mpr c9; subst c9
       have H1 : ((attrs_With.f k1 x5_1 ((rd_T31 l1 x12_1).f0) ((rd_T31 l1 x12_1).f1)).bind fun t127 => (adiff_Do.l0 k1 t127 l1 (l1.length : Int) (wrap64 (x12_1 + 1)))) = some r := by rw [if_neg (show ¬ (false = true) by decide)] at H; exact H
       clear H; have H := H1; clear H1; replace H := Option.bind_eq_some_iff.mp H; obtain ⟨t127, A150, H⟩ := H; replace H : (adiff_Do.l0 k1 t127 l1 (l1.length : Int) (wrap64 (x12_1 + 1))) = some r := H; have A15 := zk A150; clear A150; have H' := zk H; clear H; have p121 : 0 ≤ (x12_1 : Int) := zo (by assumption); have q121 : x12_1 < (l1.length : Int) := zo (by assumption); obtain ⟨ad121, e121, hx121_0, hx121_1, hx121_2⟩ := at_T31 HR1.out x12_1 p121 q121
       (try rw [← Nbq8.out] at hx121_2)
       cases e121; replace hx121_0 := zB HB hx121_0; replace hx121_1 := zB HB hx121_1; replace hx121_2 := zB HB hx121_2; replace p121 := eq_true p121; replace q121 := eq_true q121
       go_wp2_with (first | ((with_reducible refine zgd (N := 7) rfl ?_); refine zb ?hg (N := 7) ?hd (cs := #[.string ⟨#[]⟩, .string ⟨#[]⟩, .bool false]) (t := 31) ?hr ?_; (case hd => rfl); (case hg => rfl); (case hr => go_simp; first | done | rfl); intro gb122 hg w16 hbox hb; have n0_ := zk (Kd.R_below (by (with_reducible repeat (first | apply Kd.R_alloc | apply Kd.R_drewN | apply Kd.R_drew)); exact HO_5.out) hb); have n1_ := zk (zs (by with_reducible repeat first | exact HB.out | apply zA | apply zN | apply zD) hb); have n2_ := zk (hbox); have n3_ := zk ((by rw [hg]; exact (zq (by with_reducible repeat first | exact HB.out | apply zA | apply zN | apply zD)) : w.heap.size ≤ gb122)); have n4_ := n3_; clear HO_5; clear HB; have HO_5 := n0_; have HB := n1_; have BK122 := n2_; have GW122 := n3_; have GE122 := n4_; clear n0_ n1_ n2_ n3_ n4_; clear hb hbox hg; obtain ⟨hcz17_0, hcz17_1, hcz17_2, hfz17_0, hfz17_1, hfz17_2⟩ := zc3 BK122.out; obtain ⟨Ao18, co18, eo18⟩ := Kd.R_slice HO_5.out; subst eo18) | ((with_reducible refine zgk (f := 22) rfl ?_); refine zgl (some 30) rfl rfl Try.func22 (by kernel_rfl) rfl #[.slice Ao18 x5_1.length co18, .string ((rd_T31 l1 x12_1).f0), .string ((rd_T31 l1 x12_1).f1)] rfl (by (try simp only [List.map_toArray, List.map_cons, List.map_nil]); first | done | rfl | (simp only [List.length_drop, List.length_take]; rfl)) ?_; (with_reducible refine (attrs_With.calls k1 _ _ x5_1 ((rd_T31 l1 x12_1).f0) ((rd_T31 l1 x12_1).f1) t127 _ ?side1 ?side2 A15.out).mono ?_); (case side1 => refine (Kd.R_reads' (e := 43) (base := w.heap.size) (ok := fun k_ => True) (n := x5_1.length) (c := co18) ?_).2.2; exact (by (with_reducible repeat (first | apply Kd.R_alloc | apply Kd.R_drewN | apply Kd.R_drew)); exact (Kd.R_mono (Kd.R_far (p := ⟨gb122, 2, none⟩) (Kd.R_far (p := ⟨gb122, 1, none⟩) (Kd.R_far (p := ⟨gb122, 0, none⟩) (Kd.R_types HO_5.out BK122.out (by decide)) (fun _ hk => hk.2) (.string ((rd_T31 l1 x12_1).f0))) (fun _ hk => hk.2) (.string ((rd_T31 l1 x12_1).f1))) (fun _ hk => hk.2) (.bool false)) (fun _ h_ => h_.1)))); (case side2 => exact (Kd.R_reads' HO_5.out).2.1); rintro e w19 ⟨v128, rfl, ho0, hb⟩; refine ⟨_, rfl, ?_⟩; have n0_ := zk (Kd.R_elder' (by (with_reducible repeat (first | apply Kd.R_alloc | apply Kd.R_drewN | apply Kd.R_drew)); exact (Kd.R_mono (Kd.R_far (p := ⟨gb122, 2, none⟩) (Kd.R_far (p := ⟨gb122, 1, none⟩) (Kd.R_far (p := ⟨gb122, 0, none⟩) (Kd.R_types HO_5.out BK122.out (by decide)) (fun _ hk => hk.2) (.string ((rd_T31 l1 x12_1).f0))) (fun _ hk => hk.2) (.string ((rd_T31 l1 x12_1).f1))) (fun _ hk => hk.2) (.bool false)) (fun _ h_ => h_.1))) (Kd.R_base ho0) hb); have n1_ := zk (Kd.R_lower (Kd.R_new' ho0 (Kd.R_lt (by (with_reducible repeat (first | apply Kd.R_alloc | apply Kd.R_drewN | apply Kd.R_drew)); exact (Kd.R_mono (Kd.R_far (p := ⟨gb122, 2, none⟩) (Kd.R_far (p := ⟨gb122, 1, none⟩) (Kd.R_far (p := ⟨gb122, 0, none⟩) (Kd.R_types HO_5.out BK122.out (by decide)) (fun _ hk => hk.2) (.string ((rd_T31 l1 x12_1).f0))) (fun _ hk => hk.2) (.string ((rd_T31 l1 x12_1).f1))) (fun _ hk => hk.2) (.bool false)) (fun _ h_ => h_.1))))) (zq (by with_reducible repeat first | exact HB.out | apply zA | apply zN | apply zD | refine zS ?_ GE122.out))); have n2_ := zk (blk_below (g := gb122) (o := .cells #[.string ((rd_T31 l1 x12_1).f0), .string ((rd_T31 l1 x12_1).f1), .bool false] 31 (0, 0)) (by (with_reducible repeat first | apply zM | apply zE | apply zF); refine zP (cs := #[.string ((rd_T31 l1 x12_1).f0), .string ((rd_T31 l1 x12_1).f1), .bool false]) ?_ 2 _ rfl; (with_reducible repeat first | apply zM | apply zE | apply zF); refine zP (cs := #[.string ((rd_T31 l1 x12_1).f0), .string ⟨#[]⟩, .bool false]) ?_ 1 _ rfl; (with_reducible repeat first | apply zM | apply zE | apply zF); refine zP (cs := #[.string ⟨#[]⟩, .string ⟨#[]⟩, .bool false]) ?_ 0 _ rfl; (with_reducible repeat first | apply zM | apply zE | apply zF); exact BK122.out) hb); have n3_ := zk (zs (by with_reducible repeat first | exact HB.out | apply zA | apply zN | apply zD | refine zS ?_ GE122.out) hb); clear HO_5; clear BK122; clear HB; have HO_5 := n0_; have HO129 := n1_; have BK122 := n2_; have HB := n3_; clear n0_ n1_ n2_ n3_; (try clear hb); (try clear hb2); (try clear hk); (try clear hi); (try clear ho0)))
       go_roundg k1
       case measure => have := HK1.out; omega
       case rel => exact ⟨(t127), (wrap64 (x12_1 + 1)), (by first | rfl | (simp; done) | (simp [*]; done)), H', ⟨by have := HK1.out; omega⟩, ⟨by (with_reducible repeat (first | apply Kd.R_alloc | apply Kd.R_drewN | apply Kd.R_drew)); exact Kd.R_mono HO129.out (fun _ hk => trivial)⟩, ⟨by with_reducible repeat first | exact HB.out | apply zA | apply zN | apply zD | refine zS ?_ GE122.out⟩⟩
     ·
      rw [if_neg c7] at H; exact absurd H (by simp)
    ·
     rw [if_neg c6] at H; exact absurd H (by simp)
   ·
    rw [if_neg c5] at H; have c5b0 : decide (x12_1 < (l1.length : Int)) = false := decide_eq_false c5; clear c5; obtain rfl := Option.some.inj H; go_wp2; go_ret; exact ⟨_, by first | rfl | (simp [wN, wS] <;> rfl) | (simp [*, wN, wS] <;> rfl), by (with_reducible repeat (first | apply Kd.R_alloc | apply Kd.R_drewN | apply Kd.R_drew)); exact HO_5.out, by with_reducible repeat first | exact HB.out | apply zA | apply zN | apply zD⟩
def lw_same.f (k : Nat)  : Option (Bool) := (some (([(⟨(⟨#[97]⟩ : ByteArray), (⟨#[49]⟩ : ByteArray)⟩ : S43), (⟨(⟨#[98]⟩ : ByteArray), (⟨#[50]⟩ : ByteArray)⟩ : S43)] : List (S43)) : List (S43))).bind fun y130 => ((some (([(⟨(⟨#[98]⟩ : ByteArray), (⟨#[51]⟩ : ByteArray)⟩ : S43), (⟨(⟨#[99]⟩ : ByteArray), (⟨#[52]⟩ : ByteArray)⟩ : S43)] : List (S43)) : List (S43))).bind fun y133 => ((adiff_Of.f y130 y133).bind fun t136 => (if (t136.length : Int) = 3 then (if 0 < (t136.length : Int) then (if ((((rd_T31 t136 0).f0).toList) == ([97] : List UInt8) && ((((rd_T31 t136 0).f1).toList) == ([] : List UInt8) && (((rd_T31 t136 0).f2)))) = true then (if 1 < (t136.length : Int) then (if ((rd_T31 t136 1).f1).toList = ([51] : List UInt8) then (if 2 < (t136.length : Int) then (if ((rd_T31 t136 2).f0).toList = ([99] : List UInt8) then ((adiff_Names.f y130 y133).bind fun t142 => (if t142 = 3 then ((adiff_Do.f k y130 t136).bind fun t143 => ((pl_Attrs.f k t143 y133).bind fun t146 => (some t146))) else (some false))) else (some false)) else (none)) else (some false)) else (none)) else (some false)) else (none)) else (some false))))
theorem lw_same.mono : ∀ k, LeO (lw_same.f k ) (lw_same.f (k + 1) ) := by
 intro  k
 unfold lw_same.f
 with_reducible repeat' first | exact adiff_Do.mono _ _ _ | exact pl_Attrs.mono _ _ _ | exact LeO.refl _ | exact LeO.none _ | refine LeO.ite ?_ ?_ | refine LeO.bind ?_ (fun _ => ?_)
set_option maxHeartbeats 8000000 in
set_option maxRecDepth 100000 in
theorem lw_same.calls (k : Nat)  (r : Bool) (w : World) (h : lw_same.f k  = some r) :
  Calls Try.prog 7 #[] w fun e w' => e = .returned (.bool r) ∧ Below w.heap.size w w' := by
 have hu43 := Try.underlying43
 have hu31 := Try.underlying31
 have HB := zk (Below.refl w.heap.size w)
 have H : ((some (([(⟨(⟨#[97]⟩ : ByteArray), (⟨#[49]⟩ : ByteArray)⟩ : S43), (⟨(⟨#[98]⟩ : ByteArray), (⟨#[50]⟩ : ByteArray)⟩ : S43)] : List (S43)) : List (S43))).bind fun y130 => ((some (([(⟨(⟨#[98]⟩ : ByteArray), (⟨#[51]⟩ : ByteArray)⟩ : S43), (⟨(⟨#[99]⟩ : ByteArray), (⟨#[52]⟩ : ByteArray)⟩ : S43)] : List (S43)) : List (S43))).bind fun y133 => ((adiff_Of.f y130 y133).bind fun t136 => (if (t136.length : Int) = 3 then (if 0 < (t136.length : Int) then (if ((((rd_T31 t136 0).f0).toList) == ([97] : List UInt8) && ((((rd_T31 t136 0).f1).toList) == ([] : List UInt8) && (((rd_T31 t136 0).f2)))) = true then (if 1 < (t136.length : Int) then (if ((rd_T31 t136 1).f1).toList = ([51] : List UInt8) then (if 2 < (t136.length : Int) then (if ((rd_T31 t136 2).f0).toList = ([99] : List UInt8) then ((adiff_Names.f y130 y133).bind fun t142 => (if t142 = 3 then ((adiff_Do.f k y130 t136).bind fun t143 => ((pl_Attrs.f k t143 y133).bind fun t146 => (some t146))) else (some false))) else (some false)) else (none)) else (some false)) else (none)) else (some false)) else (none)) else (some false))))) = some r := h
 clear h
 obtain ⟨y130, hy130⟩ : ∃ y_ : List (S43), y_ = (([(⟨(⟨#[97]⟩ : ByteArray), (⟨#[49]⟩ : ByteArray)⟩ : S43), (⟨(⟨#[98]⟩ : ByteArray), (⟨#[50]⟩ : ByteArray)⟩ : S43)] : List (S43))) := ⟨_, rfl⟩
 replace H : ((some (([(⟨(⟨#[98]⟩ : ByteArray), (⟨#[51]⟩ : ByteArray)⟩ : S43), (⟨(⟨#[99]⟩ : ByteArray), (⟨#[52]⟩ : ByteArray)⟩ : S43)] : List (S43)) : List (S43))).bind fun y133 => ((adiff_Of.f y130 y133).bind fun t136 => (if (t136.length : Int) = 3 then (if 0 < (t136.length : Int) then (if ((((rd_T31 t136 0).f0).toList) == ([97] : List UInt8) && ((((rd_T31 t136 0).f1).toList) == ([] : List UInt8) && (((rd_T31 t136 0).f2)))) = true then (if 1 < (t136.length : Int) then (if ((rd_T31 t136 1).f1).toList = ([51] : List UInt8) then (if 2 < (t136.length : Int) then (if ((rd_T31 t136 2).f0).toList = ([99] : List UInt8) then ((adiff_Names.f y130 y133).bind fun t142 => (if t142 = 3 then ((adiff_Do.f k y130 t136).bind fun t143 => ((pl_Attrs.f k t143 y133).bind fun t146 => (some t146))) else (some false))) else (some false)) else (none)) else (some false)) else (none)) else (some false)) else (none)) else (some false)))) = some r := by first | (rw [hy130]; with_reducible exact H) | (have H2_ := (Option.bind_some _ _).symm.trans H; rw [hy130]; with_reducible exact H2_) | (have H2_ := (Option.bind_some _ _).symm.trans H; with_reducible exact H2_) | with_reducible exact H | (rw [hy130]; exact H) | exact H
 have Ny130 := zk hy130
 clear hy130
 obtain ⟨y133, hy133⟩ : ∃ y_ : List (S43), y_ = (([(⟨(⟨#[98]⟩ : ByteArray), (⟨#[51]⟩ : ByteArray)⟩ : S43), (⟨(⟨#[99]⟩ : ByteArray), (⟨#[52]⟩ : ByteArray)⟩ : S43)] : List (S43))) := ⟨_, rfl⟩
 replace H : ((adiff_Of.f y130 y133).bind fun t136 => (if (t136.length : Int) = 3 then (if 0 < (t136.length : Int) then (if ((((rd_T31 t136 0).f0).toList) == ([97] : List UInt8) && ((((rd_T31 t136 0).f1).toList) == ([] : List UInt8) && (((rd_T31 t136 0).f2)))) = true then (if 1 < (t136.length : Int) then (if ((rd_T31 t136 1).f1).toList = ([51] : List UInt8) then (if 2 < (t136.length : Int) then (if ((rd_T31 t136 2).f0).toList = ([99] : List UInt8) then ((adiff_Names.f y130 y133).bind fun t142 => (if t142 = 3 then ((adiff_Do.f k y130 t136).bind fun t143 => ((pl_Attrs.f k t143 y133).bind fun t146 => (some t146))) else (some false))) else (some false)) else (none)) else (some false)) else (none)) else (some false)) else (none)) else (some false))) = some r := by first | (rw [hy133]; with_reducible exact H) | (have H2_ := (Option.bind_some _ _).symm.trans H; rw [hy133]; with_reducible exact H2_) | (have H2_ := (Option.bind_some _ _).symm.trans H; with_reducible exact H2_) | with_reducible exact H | (rw [hy133]; exact H) | exact H
 have Ny133 := zk hy133
 clear hy133
 replace H := Option.bind_eq_some_iff.mp H
 obtain ⟨t136, A10, H⟩ := H
 replace H : (if (t136.length : Int) = 3 then (if 0 < (t136.length : Int) then (if ((((rd_T31 t136 0).f0).toList) == ([97] : List UInt8) && ((((rd_T31 t136 0).f1).toList) == ([] : List UInt8) && (((rd_T31 t136 0).f2)))) = true then (if 1 < (t136.length : Int) then (if ((rd_T31 t136 1).f1).toList = ([51] : List UInt8) then (if 2 < (t136.length : Int) then (if ((rd_T31 t136 2).f0).toList = ([99] : List UInt8) then ((adiff_Names.f y130 y133).bind fun t142 => (if t142 = 3 then ((adiff_Do.f k y130 t136).bind fun t143 => ((pl_Attrs.f k t143 y133).bind fun t146 => (some t146))) else (some false))) else (some false)) else (none)) else (some false)) else (none)) else (some false)) else (none)) else (some false)) = some r := H
 have A1 := zk A10
 clear A10
 by_cases c2 : (t136.length : Int) = 3
 ·
  rw [if_pos c2] at H; have c2b0 := beq_iff_eq.mpr c2; have c2b1 := bne_eq_false_iff_eq.mpr c2; clear c2
  by_cases c3 : 0 < (t136.length : Int)
  ·
   rw [if_pos c3] at H; have c3b0 : decide (0 < (t136.length : Int)) = true := decide_eq_true c3; have c3b1 : decide (0 < t136.length) = true := decide_eq_true (by omega); clear c3
   by_cases c4 : ((((rd_T31 t136 0).f0).toList) == ([97] : List UInt8) && ((((rd_T31 t136 0).f1).toList) == ([] : List UInt8) && (((rd_T31 t136 0).f2)))) = true
   ·
    rw [if_pos c4] at H; have c4b0 : ((((rd_T31 t136 0).f0).toList) == ([97] : List UInt8) && ((((rd_T31 t136 0).f1).toList) == ([] : List UInt8) && (((rd_T31 t136 0).f2)))) = true := c4
    have c4b9 : (((rd_T31 t136 0).f0).toList == ([97] : List UInt8) && (((rd_T31 t136 0).f1).toList.isEmpty && ((rd_T31 t136 0).f2))) = true := by simpa using c4b0
    (try (have c4b1 : decide ((((rd_T31 t136 0).f0).toList) = ([97] : List UInt8) && ((((rd_T31 t136 0).f1).toList) == ([] : List UInt8) && (((rd_T31 t136 0).f2)))) = true := by simpa using c4))
    (try (have c4b2 : ((((rd_T31 t136 0).f0).toList) == ([97] : List UInt8) && ((((rd_T31 t136 0).f1).toList) == ([] : List UInt8) && (((rd_T31 t136 0).f2)))) = true := by simpa using c4))
    clear c4
    by_cases c5 : 1 < (t136.length : Int)
    ·
     rw [if_pos c5] at H; have c5b0 : decide (1 < (t136.length : Int)) = true := decide_eq_true c5; have c5b1 : decide (1 < t136.length) = true := decide_eq_true (by omega); clear c5
     by_cases c6 : ((rd_T31 t136 1).f1).toList = ([51] : List UInt8)
     ·
      rw [if_pos c6] at H; have c6b0 : (((rd_T31 t136 1).f1).toList == ([51] : List UInt8)) = true := beq_iff_eq.mpr c6; have c6b1 : (((rd_T31 t136 1).f1).toList != ([51] : List UInt8)) = false := bne_eq_false_iff_eq.mpr c6; clear c6
      by_cases c7 : 2 < (t136.length : Int)
      ·
       rw [if_pos c7] at H; have c7b0 : decide (2 < (t136.length : Int)) = true := decide_eq_true c7; have c7b1 : decide (2 < t136.length) = true := decide_eq_true (by omega); clear c7
       by_cases c8 : ((rd_T31 t136 2).f0).toList = ([99] : List UInt8)
       ·
        rw [if_pos c8] at H; have c8b0 := beq_iff_eq.mpr c8; have c8b1 := bne_eq_false_iff_eq.mpr c8; clear c8; replace H := Option.bind_eq_some_iff.mp H; obtain ⟨t142, A90, H⟩ := H; replace H : (if t142 = 3 then ((adiff_Do.f k y130 t136).bind fun t143 => ((pl_Attrs.f k t143 y133).bind fun t146 => (some t146))) else (some false)) = some r := H; have A9 := zk A90; clear A90
        by_cases c10 : t142 = 3
        ·
         rw [if_pos c10] at H; have c10b0 := beq_iff_eq.mpr c10; have c10b1 := bne_eq_false_iff_eq.mpr c10; clear c10; replace H := Option.bind_eq_some_iff.mp H; obtain ⟨t143, A110, H⟩ := H; replace H : ((pl_Attrs.f k t143 y133).bind fun t146 => (some t146)) = some r := H; have A11 := zk A110; clear A110; replace H := Option.bind_eq_some_iff.mp H; obtain ⟨t146, A120, H⟩ := H; replace H : (some t146) = some r := H; have A12 := zk A120; clear A120; obtain rfl := Option.some.inj H
         go_enter Try.func7, Try.ntmps7
         go_wp2_with (first | ((with_reducible refine zgd (N := 6) rfl ?_); refine Kd.R_lit k43 _ 43 ?hg (N := 6) ?hd (xs := ([(⟨(⟨#[97]⟩ : ByteArray), (⟨#[49]⟩ : ByteArray)⟩ : S43), (⟨(⟨#[98]⟩ : ByteArray), (⟨#[50]⟩ : ByteArray)⟩ : S43)] : List (S43))) (inner := [.string (⟨#[97]⟩ : ByteArray), .string (⟨#[49]⟩ : ByteArray), .string (⟨#[98]⟩ : ByteArray), .string (⟨#[50]⟩ : ByteArray)]) (ok := fun _ => True) (okp := fun _ => True) ?hr ?hp (fun _ hk => hk) trivial (Below.refl _ _) (Nat.le_refl _) (by simp) ?_; (case hd => rfl); (case hg => rfl); (case hr => go_simp; first | done | rfl); (case hp => exact (Reps.c2 (show Kd.M k43 _ _ _ (⟨(⟨#[97]⟩ : ByteArray), (⟨#[49]⟩ : ByteArray)⟩ : S43) [.string (⟨#[97]⟩ : ByteArray), .string (⟨#[49]⟩ : ByteArray)] from (k43_mkM _ _ _ (⟨(⟨#[97]⟩ : ByteArray), (⟨#[49]⟩ : ByteArray)⟩ : S43) )) (Reps.c2 (show Kd.M k43 _ _ _ (⟨(⟨#[98]⟩ : ByteArray), (⟨#[50]⟩ : ByteArray)⟩ : S43) [.string (⟨#[98]⟩ : ByteArray), .string (⟨#[50]⟩ : ByteArray)] from (k43_mkM _ _ _ (⟨(⟨#[98]⟩ : ByteArray), (⟨#[50]⟩ : ByteArray)⟩ : S43) )) (Reps.none _ _)))); intro v131 w13 ho14 hb hg_ hnew_; clear hg_ hnew_; (first | rw [← Ny130.out] at ho14 | (simp only [Int.reduceToNat] at ho14; rw [← Ny130.out] at ho14)); have n0_ := zk (Kd.R_lower ho14 (zq (by with_reducible repeat first | exact HB.out | apply zA | apply zN | apply zD))); have n1_ := zk (zs (by with_reducible repeat first | exact HB.out | apply zA | apply zN | apply zD) hb); clear HB; have HO132 := n0_; have HB := n1_; clear n0_ n1_; clear hb ho14) | ((with_reducible refine zgd (N := 9) rfl ?_); refine Kd.R_lit k43 _ 43 ?hg (N := 9) ?hd (xs := ([(⟨(⟨#[98]⟩ : ByteArray), (⟨#[51]⟩ : ByteArray)⟩ : S43), (⟨(⟨#[99]⟩ : ByteArray), (⟨#[52]⟩ : ByteArray)⟩ : S43)] : List (S43))) (inner := [.string (⟨#[98]⟩ : ByteArray), .string (⟨#[51]⟩ : ByteArray), .string (⟨#[99]⟩ : ByteArray), .string (⟨#[52]⟩ : ByteArray)]) (ok := fun _ => True) (okp := fun _ => True) ?hr ?hp (fun _ hk => hk) trivial (Below.refl _ _) (Nat.le_refl _) (by simp) ?_; (case hd => rfl); (case hg => rfl); (case hr => go_simp; first | done | rfl); (case hp => exact (Reps.c2 (show Kd.M k43 _ _ _ (⟨(⟨#[98]⟩ : ByteArray), (⟨#[51]⟩ : ByteArray)⟩ : S43) [.string (⟨#[98]⟩ : ByteArray), .string (⟨#[51]⟩ : ByteArray)] from (k43_mkM _ _ _ (⟨(⟨#[98]⟩ : ByteArray), (⟨#[51]⟩ : ByteArray)⟩ : S43) )) (Reps.c2 (show Kd.M k43 _ _ _ (⟨(⟨#[99]⟩ : ByteArray), (⟨#[52]⟩ : ByteArray)⟩ : S43) [.string (⟨#[99]⟩ : ByteArray), .string (⟨#[52]⟩ : ByteArray)] from (k43_mkM _ _ _ (⟨(⟨#[99]⟩ : ByteArray), (⟨#[52]⟩ : ByteArray)⟩ : S43) )) (Reps.none _ _)))); intro v134 w15 ho16 hb hg_ hnew_; clear hg_ hnew_; (first | rw [← Ny133.out] at ho16 | (simp only [Int.reduceToNat] at ho16; rw [← Ny133.out] at ho16)); have n0_ := zk (Kd.R_elder' (by (with_reducible repeat (first | apply Kd.R_alloc | apply Kd.R_drewN | apply Kd.R_drew)); exact HO132.out) (Kd.R_base ho16) hb); have n1_ := zk (Kd.R_lower (Kd.R_new' ho16 (Kd.R_lt (by (with_reducible repeat (first | apply Kd.R_alloc | apply Kd.R_drewN | apply Kd.R_drew)); exact HO132.out))) (zq (by with_reducible repeat first | exact HB.out | apply zA | apply zN | apply zD))); have n2_ := zk (zs (by with_reducible repeat first | exact HB.out | apply zA | apply zN | apply zD) hb); clear HO132; clear HB; have HO132 := n0_; have HO135 := n1_; have HB := n2_; clear n0_ n1_ n2_; clear hb ho16; obtain ⟨Ao17, co17, eo17⟩ := Kd.R_slice HO132.out; subst eo17; obtain ⟨Ao18, co18, eo18⟩ := Kd.R_slice HO135.out; subst eo18) | ((with_reducible refine zgk (f := 8) rfl ?_); refine zgl (some 12) rfl rfl Try.func8 (by kernel_rfl) rfl #[.slice Ao17 y130.length co17, .slice Ao18 y133.length co18] rfl (by (try simp only [List.map_toArray, List.map_cons, List.map_nil]); first | done | rfl | (simp only [List.length_drop, List.length_take]; rfl)) ?_; (with_reducible refine (adiff_Of.calls _ _ y130 _ _ y133 t136 _ ?side1 ?side2 ?side3 ?side4 A1.out).mono ?_); (case side1 => repeat (first | exact (Kd.R_reads' HO132.out).2.2 | (with_reducible refine Kd.C_alloc ?_ _) | (with_reducible refine Kd.C_drewN ?_ _) | (with_reducible refine Kd.C_drew ?_))); (case side2 => exact (Kd.R_reads' HO132.out).2.1); (case side3 => repeat (first | exact (Kd.R_reads' HO135.out).2.2 | (with_reducible refine Kd.C_alloc ?_ _) | (with_reducible refine Kd.C_drewN ?_ _) | (with_reducible refine Kd.C_drew ?_))); (case side4 => exact (Kd.R_reads' HO135.out).2.1); rintro e w19 ⟨v137, rfl, ho0, hb⟩; refine ⟨_, rfl, ?_⟩; have n0_ := zk (Kd.R_below (by (with_reducible repeat (first | apply Kd.R_alloc | apply Kd.R_drewN | apply Kd.R_drew)); exact HO132.out) hb); have n1_ := zk (Kd.R_below (by (with_reducible repeat (first | apply Kd.R_alloc | apply Kd.R_drewN | apply Kd.R_drew)); exact HO135.out) hb); have n2_ := zk (Kd.R_lower ho0 (zq (by with_reducible repeat first | exact HB.out | apply zA | apply zN | apply zD))); have n3_ := zk (zs (by with_reducible repeat first | exact HB.out | apply zA | apply zN | apply zD) hb); clear HO132; clear HO135; clear HB; have HO132 := n0_; have HO135 := n1_; have HO138 := n2_; have HB := n3_; clear n0_ n1_ n2_ n3_; (try clear hb); (try clear hb2); (try clear hk); (try clear hi); (try clear ho0); obtain ⟨Ao20, co20, eo20⟩ := Kd.R_slice HO138.out; subst eo20; have p139 : 0 ≤ (0 : Int) := (by omega); have q139 : 0 < (t136.length : Int) := zo (by assumption); obtain ⟨ad139, e139, hx139_0, hx139_1, hx139_2⟩ := at_T31 (Kd.R_reads' HO138.out).2.2 0 p139 q139; cases e139; have qi139 : (0 < t136.length) = True := eq_true (by omega); (try rw [show ((0 : Int)).toNat = 0 from rfl] at hx139_0); (try rw [show 0 * 3 = 0 from rfl] at hx139_0); (try rw [Addr.add_zero'] at hx139_0); (try rw [show ((0 : Int)).toNat = 0 from rfl] at hx139_1); (try rw [show 0 * 3 = 0 from rfl] at hx139_1); (try rw [Addr.add_zero'] at hx139_1); (try rw [show ((0 : Int)).toNat = 0 from rfl] at hx139_2); (try rw [show 0 * 3 = 0 from rfl] at hx139_2); (try rw [Addr.add_zero'] at hx139_2); replace p139 := eq_true p139; replace q139 := eq_true q139; have p140 : 0 ≤ (1 : Int) := (by omega); have q140 : 1 < (t136.length : Int) := zo (by assumption); obtain ⟨ad140, e140, hx140_0, hx140_1, hx140_2⟩ := at_T31 (Kd.R_reads' HO138.out).2.2 1 p140 q140; obtain rfl : ad139 = ad140 := (by injection e140); (try simp only [show (1 : Int).toNat = 1 from rfl, Nat.reduceMul, Nat.reduceEqDiff, Go.Addr.add, ↓reduceIte] at hx140_0); (try simp only [show (1 : Int).toNat = 1 from rfl, Nat.reduceMul, Nat.reduceEqDiff, Go.Addr.add, ↓reduceIte] at hx140_1); (try simp only [show (1 : Int).toNat = 1 from rfl, Nat.reduceMul, Nat.reduceEqDiff, Go.Addr.add, ↓reduceIte] at hx140_2); have qi140 : (1 < t136.length) = True := eq_true (by omega); (try rw [show ((1 : Int)).toNat = 1 from rfl] at hx140_0); (try rw [show 1 * 3 = 3 from rfl] at hx140_0); (try rw [show ((1 : Int)).toNat = 1 from rfl] at hx140_1); (try rw [show 1 * 3 = 3 from rfl] at hx140_1); (try rw [show ((1 : Int)).toNat = 1 from rfl] at hx140_2); (try rw [show 1 * 3 = 3 from rfl] at hx140_2); replace p140 := eq_true p140; replace q140 := eq_true q140; have p141 : 0 ≤ (2 : Int) := (by omega); have q141 : 2 < (t136.length : Int) := zo (by assumption); obtain ⟨ad141, e141, hx141_0, hx141_1, hx141_2⟩ := at_T31 (Kd.R_reads' HO138.out).2.2 2 p141 q141; obtain rfl : ad139 = ad141 := (by injection e141); (try simp only [show (2 : Int).toNat = 2 from rfl, Nat.reduceMul, Nat.reduceEqDiff, Go.Addr.add, ↓reduceIte] at hx141_0); (try simp only [show (2 : Int).toNat = 2 from rfl, Nat.reduceMul, Nat.reduceEqDiff, Go.Addr.add, ↓reduceIte] at hx141_1); (try simp only [show (2 : Int).toNat = 2 from rfl, Nat.reduceMul, Nat.reduceEqDiff, Go.Addr.add, ↓reduceIte] at hx141_2); have qi141 : (2 < t136.length) = True := eq_true (by omega); (try rw [show ((2 : Int)).toNat = 2 from rfl] at hx141_0); (try rw [show 2 * 3 = 6 from rfl] at hx141_0); (try rw [show ((2 : Int)).toNat = 2 from rfl] at hx141_1); (try rw [show 2 * 3 = 6 from rfl] at hx141_1); (try rw [show ((2 : Int)).toNat = 2 from rfl] at hx141_2); (try rw [show 2 * 3 = 6 from rfl] at hx141_2); replace p141 := eq_true p141; replace q141 := eq_true q141) | (go_at_call 10; (with_reducible refine (adiff_Names.calls _ _ y130 _ _ y133 t142 _ ?side1 ?side2 ?side3 ?side4 A9.out).mono ?_); (case side1 => repeat (first | exact (Kd.R_reads' HO132.out).2.2 | (with_reducible refine Kd.C_alloc ?_ _) | (with_reducible refine Kd.C_drewN ?_ _) | (with_reducible refine Kd.C_drew ?_))); (case side2 => exact (Kd.R_reads' HO132.out).2.1); (case side3 => repeat (first | exact (Kd.R_reads' HO135.out).2.2 | (with_reducible refine Kd.C_alloc ?_ _) | (with_reducible refine Kd.C_drewN ?_ _) | (with_reducible refine Kd.C_drew ?_))); (case side4 => exact (Kd.R_reads' HO135.out).2.1); rintro e w21 ⟨rfl, hb⟩; have n0_ := zk (Kd.R_below (by (with_reducible repeat (first | apply Kd.R_alloc | apply Kd.R_drewN | apply Kd.R_drew)); exact HO132.out) hb); have n1_ := zk (Kd.R_below (by (with_reducible repeat (first | apply Kd.R_alloc | apply Kd.R_drewN | apply Kd.R_drew)); exact HO135.out) hb); have n2_ := zk (Kd.R_below (by (with_reducible repeat (first | apply Kd.R_alloc | apply Kd.R_drewN | apply Kd.R_drew)); exact HO138.out) hb); have n3_ := zk (zs (by with_reducible repeat first | exact HB.out | apply zA | apply zN | apply zD) hb); clear HO132; clear HO135; clear HO138; clear HB; have HO132 := n0_; have HO135 := n1_; have HO138 := n2_; have HB := n3_; clear n0_ n1_ n2_ n3_; (try clear hb); (try clear hb2); (try clear hk); (try clear hi)) | (go_at_call 13; (with_reducible refine (adiff_Do.calls k _ _ y130 _ _ t136 t143 _ ?side1 ?side2 ?side3 ?side4 A11.out).mono ?_); (case side1 => repeat (first | exact (Kd.R_reads' HO132.out).2.2 | (with_reducible refine Kd.C_alloc ?_ _) | (with_reducible refine Kd.C_drewN ?_ _) | (with_reducible refine Kd.C_drew ?_))); (case side2 => exact (Kd.R_reads' HO132.out).2.1); (case side3 => repeat (first | exact (Kd.R_reads' HO138.out).2.2 | (with_reducible refine Kd.C_alloc ?_ _) | (with_reducible refine Kd.C_drewN ?_ _) | (with_reducible refine Kd.C_drew ?_))); (case side4 => exact (Kd.R_reads' HO138.out).2.1); rintro e w22 ⟨v144, rfl, ho0, hb⟩; have n0_ := zk (Kd.R_elder' (by (with_reducible repeat (first | apply Kd.R_alloc | apply Kd.R_drewN | apply Kd.R_drew)); exact HO132.out) (Kd.R_base ho0) hb); have n1_ := zk (Kd.R_elder' (by (with_reducible repeat (first | apply Kd.R_alloc | apply Kd.R_drewN | apply Kd.R_drew)); exact HO135.out) (Kd.R_base ho0) hb); have n2_ := zk (Kd.R_below (by (with_reducible repeat (first | apply Kd.R_alloc | apply Kd.R_drewN | apply Kd.R_drew)); exact HO138.out) hb); have n3_ := zk (Kd.R_lower (Kd.R_new' (Kd.R_new' ho0 (Kd.R_lt (by (with_reducible repeat (first | apply Kd.R_alloc | apply Kd.R_drewN | apply Kd.R_drew)); exact HO132.out))) (Kd.R_lt (by (with_reducible repeat (first | apply Kd.R_alloc | apply Kd.R_drewN | apply Kd.R_drew)); exact HO135.out))) (zq (by with_reducible repeat first | exact HB.out | apply zA | apply zN | apply zD))); have n4_ := zk (zs (by with_reducible repeat first | exact HB.out | apply zA | apply zN | apply zD) hb); clear HO132; clear HO135; clear HO138; clear HB; have HO132 := n0_; have HO135 := n1_; have HO138 := n2_; have HO145 := n3_; have HB := n4_; clear n0_ n1_ n2_ n3_ n4_; (try clear hb); (try clear hb2); (try clear hk); (try clear hi); (try clear ho0); obtain ⟨Ao23, co23, eo23⟩ := Kd.R_slice HO145.out; subst eo23) | (go_at_call 12; (with_reducible refine (pl_Attrs.calls k _ _ t143 _ _ y133 t146 _ ?side1 ?side2 ?side3 ?side4 A12.out).mono ?_); (case side1 => repeat (first | exact (Kd.R_reads' HO145.out).2.2 | (with_reducible refine Kd.C_alloc ?_ _) | (with_reducible refine Kd.C_drewN ?_ _) | (with_reducible refine Kd.C_drew ?_))); (case side2 => exact (Kd.R_reads' HO145.out).2.1); (case side3 => repeat (first | exact (Kd.R_reads' HO135.out).2.2 | (with_reducible refine Kd.C_alloc ?_ _) | (with_reducible refine Kd.C_drewN ?_ _) | (with_reducible refine Kd.C_drew ?_))); (case side4 => exact (Kd.R_reads' HO135.out).2.1); rintro e w' ⟨rfl, ⟨nd, rfl⟩⟩))
         go_ret; exact ⟨by first | rfl | (simp [wN, wS] <;> rfl) | (simp [*, wN, wS] <;> rfl), by with_reducible repeat first | exact HB.out | apply zA | apply zN | apply zD⟩
        ·
         rw [if_neg c10] at H; have c10b0 := beq_eq_false_iff_ne.mpr c10; have c10b1 := bne_iff_ne.mpr c10; obtain rfl := Option.some.inj H
         go_enter Try.func7, Try.ntmps7
         go_wp2_with (first | ((with_reducible refine zgd (N := 6) rfl ?_); refine Kd.R_lit k43 _ 43 ?hg (N := 6) ?hd (xs := ([(⟨(⟨#[97]⟩ : ByteArray), (⟨#[49]⟩ : ByteArray)⟩ : S43), (⟨(⟨#[98]⟩ : ByteArray), (⟨#[50]⟩ : ByteArray)⟩ : S43)] : List (S43))) (inner := [.string (⟨#[97]⟩ : ByteArray), .string (⟨#[49]⟩ : ByteArray), .string (⟨#[98]⟩ : ByteArray), .string (⟨#[50]⟩ : ByteArray)]) (ok := fun _ => True) (okp := fun _ => True) ?hr ?hp (fun _ hk => hk) trivial (Below.refl _ _) (Nat.le_refl _) (by simp) ?_; (case hd => rfl); (case hg => rfl); (case hr => go_simp; first | done | rfl); (case hp => exact (Reps.c2 (show Kd.M k43 _ _ _ (⟨(⟨#[97]⟩ : ByteArray), (⟨#[49]⟩ : ByteArray)⟩ : S43) [.string (⟨#[97]⟩ : ByteArray), .string (⟨#[49]⟩ : ByteArray)] from (k43_mkM _ _ _ (⟨(⟨#[97]⟩ : ByteArray), (⟨#[49]⟩ : ByteArray)⟩ : S43) )) (Reps.c2 (show Kd.M k43 _ _ _ (⟨(⟨#[98]⟩ : ByteArray), (⟨#[50]⟩ : ByteArray)⟩ : S43) [.string (⟨#[98]⟩ : ByteArray), .string (⟨#[50]⟩ : ByteArray)] from (k43_mkM _ _ _ (⟨(⟨#[98]⟩ : ByteArray), (⟨#[50]⟩ : ByteArray)⟩ : S43) )) (Reps.none _ _)))); intro v131 w24 ho25 hb hg_ hnew_; clear hg_ hnew_; (first | rw [← Ny130.out] at ho25 | (simp only [Int.reduceToNat] at ho25; rw [← Ny130.out] at ho25)); have n0_ := zk (Kd.R_lower ho25 (zq (by with_reducible repeat first | exact HB.out | apply zA | apply zN | apply zD))); have n1_ := zk (zs (by with_reducible repeat first | exact HB.out | apply zA | apply zN | apply zD) hb); clear HB; have HO132 := n0_; have HB := n1_; clear n0_ n1_; clear hb ho25) | ((with_reducible refine zgd (N := 9) rfl ?_); refine Kd.R_lit k43 _ 43 ?hg (N := 9) ?hd (xs := ([(⟨(⟨#[98]⟩ : ByteArray), (⟨#[51]⟩ : ByteArray)⟩ : S43), (⟨(⟨#[99]⟩ : ByteArray), (⟨#[52]⟩ : ByteArray)⟩ : S43)] : List (S43))) (inner := [.string (⟨#[98]⟩ : ByteArray), .string (⟨#[51]⟩ : ByteArray), .string (⟨#[99]⟩ : ByteArray), .string (⟨#[52]⟩ : ByteArray)]) (ok := fun _ => True) (okp := fun _ => True) ?hr ?hp (fun _ hk => hk) trivial (Below.refl _ _) (Nat.le_refl _) (by simp) ?_; (case hd => rfl); (case hg => rfl); (case hr => go_simp; first | done | rfl); (case hp => exact (Reps.c2 (show Kd.M k43 _ _ _ (⟨(⟨#[98]⟩ : ByteArray), (⟨#[51]⟩ : ByteArray)⟩ : S43) [.string (⟨#[98]⟩ : ByteArray), .string (⟨#[51]⟩ : ByteArray)] from (k43_mkM _ _ _ (⟨(⟨#[98]⟩ : ByteArray), (⟨#[51]⟩ : ByteArray)⟩ : S43) )) (Reps.c2 (show Kd.M k43 _ _ _ (⟨(⟨#[99]⟩ : ByteArray), (⟨#[52]⟩ : ByteArray)⟩ : S43) [.string (⟨#[99]⟩ : ByteArray), .string (⟨#[52]⟩ : ByteArray)] from (k43_mkM _ _ _ (⟨(⟨#[99]⟩ : ByteArray), (⟨#[52]⟩ : ByteArray)⟩ : S43) )) (Reps.none _ _)))); intro v134 w26 ho27 hb hg_ hnew_; clear hg_ hnew_; (first | rw [← Ny133.out] at ho27 | (simp only [Int.reduceToNat] at ho27; rw [← Ny133.out] at ho27)); have n0_ := zk (Kd.R_elder' (by (with_reducible repeat (first | apply Kd.R_alloc | apply Kd.R_drewN | apply Kd.R_drew)); exact HO132.out) (Kd.R_base ho27) hb); have n1_ := zk (Kd.R_lower (Kd.R_new' ho27 (Kd.R_lt (by (with_reducible repeat (first | apply Kd.R_alloc | apply Kd.R_drewN | apply Kd.R_drew)); exact HO132.out))) (zq (by with_reducible repeat first | exact HB.out | apply zA | apply zN | apply zD))); have n2_ := zk (zs (by with_reducible repeat first | exact HB.out | apply zA | apply zN | apply zD) hb); clear HO132; clear HB; have HO132 := n0_; have HO135 := n1_; have HB := n2_; clear n0_ n1_ n2_; clear hb ho27; obtain ⟨Ao28, co28, eo28⟩ := Kd.R_slice HO132.out; subst eo28; obtain ⟨Ao29, co29, eo29⟩ := Kd.R_slice HO135.out; subst eo29) | ((with_reducible refine zgk (f := 8) rfl ?_); refine zgl (some 12) rfl rfl Try.func8 (by kernel_rfl) rfl #[.slice Ao28 y130.length co28, .slice Ao29 y133.length co29] rfl (by (try simp only [List.map_toArray, List.map_cons, List.map_nil]); first | done | rfl | (simp only [List.length_drop, List.length_take]; rfl)) ?_; (with_reducible refine (adiff_Of.calls _ _ y130 _ _ y133 t136 _ ?side1 ?side2 ?side3 ?side4 A1.out).mono ?_); (case side1 => repeat (first | exact (Kd.R_reads' HO132.out).2.2 | (with_reducible refine Kd.C_alloc ?_ _) | (with_reducible refine Kd.C_drewN ?_ _) | (with_reducible refine Kd.C_drew ?_))); (case side2 => exact (Kd.R_reads' HO132.out).2.1); (case side3 => repeat (first | exact (Kd.R_reads' HO135.out).2.2 | (with_reducible refine Kd.C_alloc ?_ _) | (with_reducible refine Kd.C_drewN ?_ _) | (with_reducible refine Kd.C_drew ?_))); (case side4 => exact (Kd.R_reads' HO135.out).2.1); rintro e w30 ⟨v137, rfl, ho0, hb⟩; refine ⟨_, rfl, ?_⟩; have n0_ := zk (Kd.R_below (by (with_reducible repeat (first | apply Kd.R_alloc | apply Kd.R_drewN | apply Kd.R_drew)); exact HO132.out) hb); have n1_ := zk (Kd.R_below (by (with_reducible repeat (first | apply Kd.R_alloc | apply Kd.R_drewN | apply Kd.R_drew)); exact HO135.out) hb); have n2_ := zk (Kd.R_lower ho0 (zq (by with_reducible repeat first | exact HB.out | apply zA | apply zN | apply zD))); have n3_ := zk (zs (by with_reducible repeat first | exact HB.out | apply zA | apply zN | apply zD) hb); clear HO132; clear HO135; clear HB; have HO132 := n0_; have HO135 := n1_; have HO138 := n2_; have HB := n3_; clear n0_ n1_ n2_ n3_; (try clear hb); (try clear hb2); (try clear hk); (try clear hi); (try clear ho0); obtain ⟨Ao31, co31, eo31⟩ := Kd.R_slice HO138.out; subst eo31; have p139 : 0 ≤ (0 : Int) := (by omega); have q139 : 0 < (t136.length : Int) := zo (by assumption); obtain ⟨ad139, e139, hx139_0, hx139_1, hx139_2⟩ := at_T31 (Kd.R_reads' HO138.out).2.2 0 p139 q139; cases e139; have qi139 : (0 < t136.length) = True := eq_true (by omega); (try rw [show ((0 : Int)).toNat = 0 from rfl] at hx139_0); (try rw [show 0 * 3 = 0 from rfl] at hx139_0); (try rw [Addr.add_zero'] at hx139_0); (try rw [show ((0 : Int)).toNat = 0 from rfl] at hx139_1); (try rw [show 0 * 3 = 0 from rfl] at hx139_1); (try rw [Addr.add_zero'] at hx139_1); (try rw [show ((0 : Int)).toNat = 0 from rfl] at hx139_2); (try rw [show 0 * 3 = 0 from rfl] at hx139_2); (try rw [Addr.add_zero'] at hx139_2); replace p139 := eq_true p139; replace q139 := eq_true q139; have p140 : 0 ≤ (1 : Int) := (by omega); have q140 : 1 < (t136.length : Int) := zo (by assumption); obtain ⟨ad140, e140, hx140_0, hx140_1, hx140_2⟩ := at_T31 (Kd.R_reads' HO138.out).2.2 1 p140 q140; obtain rfl : ad139 = ad140 := (by injection e140); (try simp only [show (1 : Int).toNat = 1 from rfl, Nat.reduceMul, Nat.reduceEqDiff, Go.Addr.add, ↓reduceIte] at hx140_0); (try simp only [show (1 : Int).toNat = 1 from rfl, Nat.reduceMul, Nat.reduceEqDiff, Go.Addr.add, ↓reduceIte] at hx140_1); (try simp only [show (1 : Int).toNat = 1 from rfl, Nat.reduceMul, Nat.reduceEqDiff, Go.Addr.add, ↓reduceIte] at hx140_2); have qi140 : (1 < t136.length) = True := eq_true (by omega); (try rw [show ((1 : Int)).toNat = 1 from rfl] at hx140_0); (try rw [show 1 * 3 = 3 from rfl] at hx140_0); (try rw [show ((1 : Int)).toNat = 1 from rfl] at hx140_1); (try rw [show 1 * 3 = 3 from rfl] at hx140_1); (try rw [show ((1 : Int)).toNat = 1 from rfl] at hx140_2); (try rw [show 1 * 3 = 3 from rfl] at hx140_2); replace p140 := eq_true p140; replace q140 := eq_true q140; have p141 : 0 ≤ (2 : Int) := (by omega); have q141 : 2 < (t136.length : Int) := zo (by assumption); obtain ⟨ad141, e141, hx141_0, hx141_1, hx141_2⟩ := at_T31 (Kd.R_reads' HO138.out).2.2 2 p141 q141; obtain rfl : ad139 = ad141 := (by injection e141); (try simp only [show (2 : Int).toNat = 2 from rfl, Nat.reduceMul, Nat.reduceEqDiff, Go.Addr.add, ↓reduceIte] at hx141_0); (try simp only [show (2 : Int).toNat = 2 from rfl, Nat.reduceMul, Nat.reduceEqDiff, Go.Addr.add, ↓reduceIte] at hx141_1); (try simp only [show (2 : Int).toNat = 2 from rfl, Nat.reduceMul, Nat.reduceEqDiff, Go.Addr.add, ↓reduceIte] at hx141_2); have qi141 : (2 < t136.length) = True := eq_true (by omega); (try rw [show ((2 : Int)).toNat = 2 from rfl] at hx141_0); (try rw [show 2 * 3 = 6 from rfl] at hx141_0); (try rw [show ((2 : Int)).toNat = 2 from rfl] at hx141_1); (try rw [show 2 * 3 = 6 from rfl] at hx141_1); (try rw [show ((2 : Int)).toNat = 2 from rfl] at hx141_2); (try rw [show 2 * 3 = 6 from rfl] at hx141_2); replace p141 := eq_true p141; replace q141 := eq_true q141) | (go_at_call 10; (with_reducible refine (adiff_Names.calls _ _ y130 _ _ y133 t142 _ ?side1 ?side2 ?side3 ?side4 A9.out).mono ?_); (case side1 => repeat (first | exact (Kd.R_reads' HO132.out).2.2 | (with_reducible refine Kd.C_alloc ?_ _) | (with_reducible refine Kd.C_drewN ?_ _) | (with_reducible refine Kd.C_drew ?_))); (case side2 => exact (Kd.R_reads' HO132.out).2.1); (case side3 => repeat (first | exact (Kd.R_reads' HO135.out).2.2 | (with_reducible refine Kd.C_alloc ?_ _) | (with_reducible refine Kd.C_drewN ?_ _) | (with_reducible refine Kd.C_drew ?_))); (case side4 => exact (Kd.R_reads' HO135.out).2.1); rintro e w32 ⟨rfl, hb⟩; have n0_ := zk (Kd.R_below (by (with_reducible repeat (first | apply Kd.R_alloc | apply Kd.R_drewN | apply Kd.R_drew)); exact HO132.out) hb); have n1_ := zk (Kd.R_below (by (with_reducible repeat (first | apply Kd.R_alloc | apply Kd.R_drewN | apply Kd.R_drew)); exact HO135.out) hb); have n2_ := zk (Kd.R_below (by (with_reducible repeat (first | apply Kd.R_alloc | apply Kd.R_drewN | apply Kd.R_drew)); exact HO138.out) hb); have n3_ := zk (zs (by with_reducible repeat first | exact HB.out | apply zA | apply zN | apply zD) hb); clear HO132; clear HO135; clear HO138; clear HB; have HO132 := n0_; have HO135 := n1_; have HO138 := n2_; have HB := n3_; clear n0_ n1_ n2_ n3_; (try clear hb); (try clear hb2); (try clear hk); (try clear hi)))
         go_ret; exact ⟨by first | rfl | (simp [wN, wS] <;> rfl) | (simp [*, wN, wS] <;> rfl), by with_reducible repeat first | exact HB.out | apply zA | apply zN | apply zD⟩
       ·
        rw [if_neg c8] at H; have c8b0 := beq_eq_false_iff_ne.mpr c8; have c8b1 := bne_iff_ne.mpr c8; obtain rfl := Option.some.inj H
        go_enter Try.func7, Try.ntmps7
        go_wp2_with (first | ((with_reducible refine zgd (N := 6) rfl ?_); refine Kd.R_lit k43 _ 43 ?hg (N := 6) ?hd (xs := ([(⟨(⟨#[97]⟩ : ByteArray), (⟨#[49]⟩ : ByteArray)⟩ : S43), (⟨(⟨#[98]⟩ : ByteArray), (⟨#[50]⟩ : ByteArray)⟩ : S43)] : List (S43))) (inner := [.string (⟨#[97]⟩ : ByteArray), .string (⟨#[49]⟩ : ByteArray), .string (⟨#[98]⟩ : ByteArray), .string (⟨#[50]⟩ : ByteArray)]) (ok := fun _ => True) (okp := fun _ => True) ?hr ?hp (fun _ hk => hk) trivial (Below.refl _ _) (Nat.le_refl _) (by simp) ?_; (case hd => rfl); (case hg => rfl); (case hr => go_simp; first | done | rfl); (case hp => exact (Reps.c2 (show Kd.M k43 _ _ _ (⟨(⟨#[97]⟩ : ByteArray), (⟨#[49]⟩ : ByteArray)⟩ : S43) [.string (⟨#[97]⟩ : ByteArray), .string (⟨#[49]⟩ : ByteArray)] from (k43_mkM _ _ _ (⟨(⟨#[97]⟩ : ByteArray), (⟨#[49]⟩ : ByteArray)⟩ : S43) )) (Reps.c2 (show Kd.M k43 _ _ _ (⟨(⟨#[98]⟩ : ByteArray), (⟨#[50]⟩ : ByteArray)⟩ : S43) [.string (⟨#[98]⟩ : ByteArray), .string (⟨#[50]⟩ : ByteArray)] from (k43_mkM _ _ _ (⟨(⟨#[98]⟩ : ByteArray), (⟨#[50]⟩ : ByteArray)⟩ : S43) )) (Reps.none _ _)))); intro v131 w33 ho34 hb hg_ hnew_; clear hg_ hnew_; (first | rw [← Ny130.out] at ho34 | (simp only [Int.reduceToNat] at ho34; rw [← Ny130.out] at ho34)); have n0_ := zk (Kd.R_lower ho34 (zq (by with_reducible repeat first | exact HB.out | apply zA | apply zN | apply zD))); have n1_ := zk (zs (by with_reducible repeat first | exact HB.out | apply zA | apply zN | apply zD) hb); clear HB; have HO132 := n0_; have HB := n1_; clear n0_ n1_; clear hb ho34) | ((with_reducible refine zgd (N := 9) rfl ?_); refine Kd.R_lit k43 _ 43 ?hg (N := 9) ?hd (xs := ([(⟨(⟨#[98]⟩ : ByteArray), (⟨#[51]⟩ : ByteArray)⟩ : S43), (⟨(⟨#[99]⟩ : ByteArray), (⟨#[52]⟩ : ByteArray)⟩ : S43)] : List (S43))) (inner := [.string (⟨#[98]⟩ : ByteArray), .string (⟨#[51]⟩ : ByteArray), .string (⟨#[99]⟩ : ByteArray), .string (⟨#[52]⟩ : ByteArray)]) (ok := fun _ => True) (okp := fun _ => True) ?hr ?hp (fun _ hk => hk) trivial (Below.refl _ _) (Nat.le_refl _) (by simp) ?_; (case hd => rfl); (case hg => rfl); (case hr => go_simp; first | done | rfl); (case hp => exact (Reps.c2 (show Kd.M k43 _ _ _ (⟨(⟨#[98]⟩ : ByteArray), (⟨#[51]⟩ : ByteArray)⟩ : S43) [.string (⟨#[98]⟩ : ByteArray), .string (⟨#[51]⟩ : ByteArray)] from (k43_mkM _ _ _ (⟨(⟨#[98]⟩ : ByteArray), (⟨#[51]⟩ : ByteArray)⟩ : S43) )) (Reps.c2 (show Kd.M k43 _ _ _ (⟨(⟨#[99]⟩ : ByteArray), (⟨#[52]⟩ : ByteArray)⟩ : S43) [.string (⟨#[99]⟩ : ByteArray), .string (⟨#[52]⟩ : ByteArray)] from (k43_mkM _ _ _ (⟨(⟨#[99]⟩ : ByteArray), (⟨#[52]⟩ : ByteArray)⟩ : S43) )) (Reps.none _ _)))); intro v134 w35 ho36 hb hg_ hnew_; clear hg_ hnew_; (first | rw [← Ny133.out] at ho36 | (simp only [Int.reduceToNat] at ho36; rw [← Ny133.out] at ho36)); have n0_ := zk (Kd.R_elder' (by (with_reducible repeat (first | apply Kd.R_alloc | apply Kd.R_drewN | apply Kd.R_drew)); exact HO132.out) (Kd.R_base ho36) hb); have n1_ := zk (Kd.R_lower (Kd.R_new' ho36 (Kd.R_lt (by (with_reducible repeat (first | apply Kd.R_alloc | apply Kd.R_drewN | apply Kd.R_drew)); exact HO132.out))) (zq (by with_reducible repeat first | exact HB.out | apply zA | apply zN | apply zD))); have n2_ := zk (zs (by with_reducible repeat first | exact HB.out | apply zA | apply zN | apply zD) hb); clear HO132; clear HB; have HO132 := n0_; have HO135 := n1_; have HB := n2_; clear n0_ n1_ n2_; clear hb ho36; obtain ⟨Ao37, co37, eo37⟩ := Kd.R_slice HO132.out; subst eo37; obtain ⟨Ao38, co38, eo38⟩ := Kd.R_slice HO135.out; subst eo38) | ((with_reducible refine zgk (f := 8) rfl ?_); refine zgl (some 12) rfl rfl Try.func8 (by kernel_rfl) rfl #[.slice Ao37 y130.length co37, .slice Ao38 y133.length co38] rfl (by (try simp only [List.map_toArray, List.map_cons, List.map_nil]); first | done | rfl | (simp only [List.length_drop, List.length_take]; rfl)) ?_; (with_reducible refine (adiff_Of.calls _ _ y130 _ _ y133 t136 _ ?side1 ?side2 ?side3 ?side4 A1.out).mono ?_); (case side1 => repeat (first | exact (Kd.R_reads' HO132.out).2.2 | (with_reducible refine Kd.C_alloc ?_ _) | (with_reducible refine Kd.C_drewN ?_ _) | (with_reducible refine Kd.C_drew ?_))); (case side2 => exact (Kd.R_reads' HO132.out).2.1); (case side3 => repeat (first | exact (Kd.R_reads' HO135.out).2.2 | (with_reducible refine Kd.C_alloc ?_ _) | (with_reducible refine Kd.C_drewN ?_ _) | (with_reducible refine Kd.C_drew ?_))); (case side4 => exact (Kd.R_reads' HO135.out).2.1); rintro e w39 ⟨v137, rfl, ho0, hb⟩; refine ⟨_, rfl, ?_⟩; have n0_ := zk (Kd.R_below (by (with_reducible repeat (first | apply Kd.R_alloc | apply Kd.R_drewN | apply Kd.R_drew)); exact HO132.out) hb); have n1_ := zk (Kd.R_below (by (with_reducible repeat (first | apply Kd.R_alloc | apply Kd.R_drewN | apply Kd.R_drew)); exact HO135.out) hb); have n2_ := zk (Kd.R_lower ho0 (zq (by with_reducible repeat first | exact HB.out | apply zA | apply zN | apply zD))); have n3_ := zk (zs (by with_reducible repeat first | exact HB.out | apply zA | apply zN | apply zD) hb); clear HO132; clear HO135; clear HB; have HO132 := n0_; have HO135 := n1_; have HO138 := n2_; have HB := n3_; clear n0_ n1_ n2_ n3_; (try clear hb); (try clear hb2); (try clear hk); (try clear hi); (try clear ho0); obtain ⟨Ao40, co40, eo40⟩ := Kd.R_slice HO138.out; subst eo40; have p139 : 0 ≤ (0 : Int) := (by omega); have q139 : 0 < (t136.length : Int) := zo (by assumption); obtain ⟨ad139, e139, hx139_0, hx139_1, hx139_2⟩ := at_T31 (Kd.R_reads' HO138.out).2.2 0 p139 q139; cases e139; have qi139 : (0 < t136.length) = True := eq_true (by omega); (try rw [show ((0 : Int)).toNat = 0 from rfl] at hx139_0); (try rw [show 0 * 3 = 0 from rfl] at hx139_0); (try rw [Addr.add_zero'] at hx139_0); (try rw [show ((0 : Int)).toNat = 0 from rfl] at hx139_1); (try rw [show 0 * 3 = 0 from rfl] at hx139_1); (try rw [Addr.add_zero'] at hx139_1); (try rw [show ((0 : Int)).toNat = 0 from rfl] at hx139_2); (try rw [show 0 * 3 = 0 from rfl] at hx139_2); (try rw [Addr.add_zero'] at hx139_2); replace p139 := eq_true p139; replace q139 := eq_true q139; have p140 : 0 ≤ (1 : Int) := (by omega); have q140 : 1 < (t136.length : Int) := zo (by assumption); obtain ⟨ad140, e140, hx140_0, hx140_1, hx140_2⟩ := at_T31 (Kd.R_reads' HO138.out).2.2 1 p140 q140; obtain rfl : ad139 = ad140 := (by injection e140); (try simp only [show (1 : Int).toNat = 1 from rfl, Nat.reduceMul, Nat.reduceEqDiff, Go.Addr.add, ↓reduceIte] at hx140_0); (try simp only [show (1 : Int).toNat = 1 from rfl, Nat.reduceMul, Nat.reduceEqDiff, Go.Addr.add, ↓reduceIte] at hx140_1); (try simp only [show (1 : Int).toNat = 1 from rfl, Nat.reduceMul, Nat.reduceEqDiff, Go.Addr.add, ↓reduceIte] at hx140_2); have qi140 : (1 < t136.length) = True := eq_true (by omega); (try rw [show ((1 : Int)).toNat = 1 from rfl] at hx140_0); (try rw [show 1 * 3 = 3 from rfl] at hx140_0); (try rw [show ((1 : Int)).toNat = 1 from rfl] at hx140_1); (try rw [show 1 * 3 = 3 from rfl] at hx140_1); (try rw [show ((1 : Int)).toNat = 1 from rfl] at hx140_2); (try rw [show 1 * 3 = 3 from rfl] at hx140_2); replace p140 := eq_true p140; replace q140 := eq_true q140; have p141 : 0 ≤ (2 : Int) := (by omega); have q141 : 2 < (t136.length : Int) := zo (by assumption); obtain ⟨ad141, e141, hx141_0, hx141_1, hx141_2⟩ := at_T31 (Kd.R_reads' HO138.out).2.2 2 p141 q141; obtain rfl : ad139 = ad141 := (by injection e141); (try simp only [show (2 : Int).toNat = 2 from rfl, Nat.reduceMul, Nat.reduceEqDiff, Go.Addr.add, ↓reduceIte] at hx141_0); (try simp only [show (2 : Int).toNat = 2 from rfl, Nat.reduceMul, Nat.reduceEqDiff, Go.Addr.add, ↓reduceIte] at hx141_1); (try simp only [show (2 : Int).toNat = 2 from rfl, Nat.reduceMul, Nat.reduceEqDiff, Go.Addr.add, ↓reduceIte] at hx141_2); have qi141 : (2 < t136.length) = True := eq_true (by omega); (try rw [show ((2 : Int)).toNat = 2 from rfl] at hx141_0); (try rw [show 2 * 3 = 6 from rfl] at hx141_0); (try rw [show ((2 : Int)).toNat = 2 from rfl] at hx141_1); (try rw [show 2 * 3 = 6 from rfl] at hx141_1); (try rw [show ((2 : Int)).toNat = 2 from rfl] at hx141_2); (try rw [show 2 * 3 = 6 from rfl] at hx141_2); replace p141 := eq_true p141; replace q141 := eq_true q141))
        go_ret; exact ⟨by first | rfl | (simp [wN, wS] <;> rfl) | (simp [*, wN, wS] <;> rfl), by with_reducible repeat first | exact HB.out | apply zA | apply zN | apply zD⟩
      ·
       rw [if_neg c7] at H; exact absurd H (by simp)
     ·
      rw [if_neg c6] at H; have c6b0 : (((rd_T31 t136 1).f1).toList == ([51] : List UInt8)) = false := beq_eq_false_iff_ne.mpr c6; have c6b1 : (((rd_T31 t136 1).f1).toList != ([51] : List UInt8)) = true := bne_iff_ne.mpr c6; obtain rfl := Option.some.inj H
      go_enter Try.func7, Try.ntmps7
      go_wp2_with (first | ((with_reducible refine zgd (N := 6) rfl ?_); refine Kd.R_lit k43 _ 43 ?hg (N := 6) ?hd (xs := ([(⟨(⟨#[97]⟩ : ByteArray), (⟨#[49]⟩ : ByteArray)⟩ : S43), (⟨(⟨#[98]⟩ : ByteArray), (⟨#[50]⟩ : ByteArray)⟩ : S43)] : List (S43))) (inner := [.string (⟨#[97]⟩ : ByteArray), .string (⟨#[49]⟩ : ByteArray), .string (⟨#[98]⟩ : ByteArray), .string (⟨#[50]⟩ : ByteArray)]) (ok := fun _ => True) (okp := fun _ => True) ?hr ?hp (fun _ hk => hk) trivial (Below.refl _ _) (Nat.le_refl _) (by simp) ?_; (case hd => rfl); (case hg => rfl); (case hr => go_simp; first | done | rfl); (case hp => exact (Reps.c2 (show Kd.M k43 _ _ _ (⟨(⟨#[97]⟩ : ByteArray), (⟨#[49]⟩ : ByteArray)⟩ : S43) [.string (⟨#[97]⟩ : ByteArray), .string (⟨#[49]⟩ : ByteArray)] from (k43_mkM _ _ _ (⟨(⟨#[97]⟩ : ByteArray), (⟨#[49]⟩ : ByteArray)⟩ : S43) )) (Reps.c2 (show Kd.M k43 _ _ _ (⟨(⟨#[98]⟩ : ByteArray), (⟨#[50]⟩ : ByteArray)⟩ : S43) [.string (⟨#[98]⟩ : ByteArray), .string (⟨#[50]⟩ : ByteArray)] from (k43_mkM _ _ _ (⟨(⟨#[98]⟩ : ByteArray), (⟨#[50]⟩ : ByteArray)⟩ : S43) )) (Reps.none _ _)))); intro v131 w41 ho42 hb hg_ hnew_; clear hg_ hnew_; (first | rw [← Ny130.out] at ho42 | (simp only [Int.reduceToNat] at ho42; rw [← Ny130.out] at ho42)); have n0_ := zk (Kd.R_lower ho42 (zq (by with_reducible repeat first | exact HB.out | apply zA | apply zN | apply zD))); have n1_ := zk (zs (by with_reducible repeat first | exact HB.out | apply zA | apply zN | apply zD) hb); clear HB; have HO132 := n0_; have HB := n1_; clear n0_ n1_; clear hb ho42) | ((with_reducible refine zgd (N := 9) rfl ?_); refine Kd.R_lit k43 _ 43 ?hg (N := 9) ?hd (xs := ([(⟨(⟨#[98]⟩ : ByteArray), (⟨#[51]⟩ : ByteArray)⟩ : S43), (⟨(⟨#[99]⟩ : ByteArray), (⟨#[52]⟩ : ByteArray)⟩ : S43)] : List (S43))) (inner := [.string (⟨#[98]⟩ : ByteArray), .string (⟨#[51]⟩ : ByteArray), .string (⟨#[99]⟩ : ByteArray), .string (⟨#[52]⟩ : ByteArray)]) (ok := fun _ => True) (okp := fun _ => True) ?hr ?hp (fun _ hk => hk) trivial (Below.refl _ _) (Nat.le_refl _) (by simp) ?_; (case hd => rfl); (case hg => rfl); (case hr => go_simp; first | done | rfl); (case hp => exact (Reps.c2 (show Kd.M k43 _ _ _ (⟨(⟨#[98]⟩ : ByteArray), (⟨#[51]⟩ : ByteArray)⟩ : S43) [.string (⟨#[98]⟩ : ByteArray), .string (⟨#[51]⟩ : ByteArray)] from (k43_mkM _ _ _ (⟨(⟨#[98]⟩ : ByteArray), (⟨#[51]⟩ : ByteArray)⟩ : S43) )) (Reps.c2 (show Kd.M k43 _ _ _ (⟨(⟨#[99]⟩ : ByteArray), (⟨#[52]⟩ : ByteArray)⟩ : S43) [.string (⟨#[99]⟩ : ByteArray), .string (⟨#[52]⟩ : ByteArray)] from (k43_mkM _ _ _ (⟨(⟨#[99]⟩ : ByteArray), (⟨#[52]⟩ : ByteArray)⟩ : S43) )) (Reps.none _ _)))); intro v134 w43 ho44 hb hg_ hnew_; clear hg_ hnew_; (first | rw [← Ny133.out] at ho44 | (simp only [Int.reduceToNat] at ho44; rw [← Ny133.out] at ho44)); have n0_ := zk (Kd.R_elder' (by (with_reducible repeat (first | apply Kd.R_alloc | apply Kd.R_drewN | apply Kd.R_drew)); exact HO132.out) (Kd.R_base ho44) hb); have n1_ := zk (Kd.R_lower (Kd.R_new' ho44 (Kd.R_lt (by (with_reducible repeat (first | apply Kd.R_alloc | apply Kd.R_drewN | apply Kd.R_drew)); exact HO132.out))) (zq (by with_reducible repeat first | exact HB.out | apply zA | apply zN | apply zD))); have n2_ := zk (zs (by with_reducible repeat first | exact HB.out | apply zA | apply zN | apply zD) hb); clear HO132; clear HB; have HO132 := n0_; have HO135 := n1_; have HB := n2_; clear n0_ n1_ n2_; clear hb ho44; obtain ⟨Ao45, co45, eo45⟩ := Kd.R_slice HO132.out; subst eo45; obtain ⟨Ao46, co46, eo46⟩ := Kd.R_slice HO135.out; subst eo46) | ((with_reducible refine zgk (f := 8) rfl ?_); refine zgl (some 12) rfl rfl Try.func8 (by kernel_rfl) rfl #[.slice Ao45 y130.length co45, .slice Ao46 y133.length co46] rfl (by (try simp only [List.map_toArray, List.map_cons, List.map_nil]); first | done | rfl | (simp only [List.length_drop, List.length_take]; rfl)) ?_; (with_reducible refine (adiff_Of.calls _ _ y130 _ _ y133 t136 _ ?side1 ?side2 ?side3 ?side4 A1.out).mono ?_); (case side1 => repeat (first | exact (Kd.R_reads' HO132.out).2.2 | (with_reducible refine Kd.C_alloc ?_ _) | (with_reducible refine Kd.C_drewN ?_ _) | (with_reducible refine Kd.C_drew ?_))); (case side2 => exact (Kd.R_reads' HO132.out).2.1); (case side3 => repeat (first | exact (Kd.R_reads' HO135.out).2.2 | (with_reducible refine Kd.C_alloc ?_ _) | (with_reducible refine Kd.C_drewN ?_ _) | (with_reducible refine Kd.C_drew ?_))); (case side4 => exact (Kd.R_reads' HO135.out).2.1); rintro e w47 ⟨v137, rfl, ho0, hb⟩; refine ⟨_, rfl, ?_⟩; have n0_ := zk (Kd.R_below (by (with_reducible repeat (first | apply Kd.R_alloc | apply Kd.R_drewN | apply Kd.R_drew)); exact HO132.out) hb); have n1_ := zk (Kd.R_below (by (with_reducible repeat (first | apply Kd.R_alloc | apply Kd.R_drewN | apply Kd.R_drew)); exact HO135.out) hb); have n2_ := zk (Kd.R_lower ho0 (zq (by with_reducible repeat first | exact HB.out | apply zA | apply zN | apply zD))); have n3_ := zk (zs (by with_reducible repeat first | exact HB.out | apply zA | apply zN | apply zD) hb); clear HO132; clear HO135; clear HB; have HO132 := n0_; have HO135 := n1_; have HO138 := n2_; have HB := n3_; clear n0_ n1_ n2_ n3_; (try clear hb); (try clear hb2); (try clear hk); (try clear hi); (try clear ho0); obtain ⟨Ao48, co48, eo48⟩ := Kd.R_slice HO138.out; subst eo48; have p139 : 0 ≤ (0 : Int) := (by omega); have q139 : 0 < (t136.length : Int) := zo (by assumption); obtain ⟨ad139, e139, hx139_0, hx139_1, hx139_2⟩ := at_T31 (Kd.R_reads' HO138.out).2.2 0 p139 q139; cases e139; have qi139 : (0 < t136.length) = True := eq_true (by omega); (try rw [show ((0 : Int)).toNat = 0 from rfl] at hx139_0); (try rw [show 0 * 3 = 0 from rfl] at hx139_0); (try rw [Addr.add_zero'] at hx139_0); (try rw [show ((0 : Int)).toNat = 0 from rfl] at hx139_1); (try rw [show 0 * 3 = 0 from rfl] at hx139_1); (try rw [Addr.add_zero'] at hx139_1); (try rw [show ((0 : Int)).toNat = 0 from rfl] at hx139_2); (try rw [show 0 * 3 = 0 from rfl] at hx139_2); (try rw [Addr.add_zero'] at hx139_2); replace p139 := eq_true p139; replace q139 := eq_true q139; have p140 : 0 ≤ (1 : Int) := (by omega); have q140 : 1 < (t136.length : Int) := zo (by assumption); obtain ⟨ad140, e140, hx140_0, hx140_1, hx140_2⟩ := at_T31 (Kd.R_reads' HO138.out).2.2 1 p140 q140; obtain rfl : ad139 = ad140 := (by injection e140); (try simp only [show (1 : Int).toNat = 1 from rfl, Nat.reduceMul, Nat.reduceEqDiff, Go.Addr.add, ↓reduceIte] at hx140_0); (try simp only [show (1 : Int).toNat = 1 from rfl, Nat.reduceMul, Nat.reduceEqDiff, Go.Addr.add, ↓reduceIte] at hx140_1); (try simp only [show (1 : Int).toNat = 1 from rfl, Nat.reduceMul, Nat.reduceEqDiff, Go.Addr.add, ↓reduceIte] at hx140_2); have qi140 : (1 < t136.length) = True := eq_true (by omega); (try rw [show ((1 : Int)).toNat = 1 from rfl] at hx140_0); (try rw [show 1 * 3 = 3 from rfl] at hx140_0); (try rw [show ((1 : Int)).toNat = 1 from rfl] at hx140_1); (try rw [show 1 * 3 = 3 from rfl] at hx140_1); (try rw [show ((1 : Int)).toNat = 1 from rfl] at hx140_2); (try rw [show 1 * 3 = 3 from rfl] at hx140_2); replace p140 := eq_true p140; replace q140 := eq_true q140))
      go_ret; exact ⟨by first | rfl | (simp [wN, wS] <;> rfl) | (simp [*, wN, wS] <;> rfl), by with_reducible repeat first | exact HB.out | apply zA | apply zN | apply zD⟩
    ·
     rw [if_neg c5] at H; exact absurd H (by simp)
   ·
    rw [if_neg c4] at H
    have c4b0 : ((((rd_T31 t136 0).f0).toList) == ([97] : List UInt8) && ((((rd_T31 t136 0).f1).toList) == ([] : List UInt8) && (((rd_T31 t136 0).f2)))) = false := by simpa using c4
    have c4b9 : (((rd_T31 t136 0).f0).toList == ([97] : List UInt8) && (((rd_T31 t136 0).f1).toList.isEmpty && ((rd_T31 t136 0).f2))) = false := by simpa using c4b0
    (try (have c4b1 : decide ((((rd_T31 t136 0).f0).toList) = ([97] : List UInt8) && ((((rd_T31 t136 0).f1).toList) == ([] : List UInt8) && (((rd_T31 t136 0).f2)))) = false := by simpa using c4))
    (try (have c4b2 : ((((rd_T31 t136 0).f0).toList) == ([97] : List UInt8) && ((((rd_T31 t136 0).f1).toList) == ([] : List UInt8) && (((rd_T31 t136 0).f2)))) = false := by simpa using c4))
    (try (have c4b3 : ¬ ((((rd_T31 t136 0).f0).toList) = ([97] : List UInt8) && ((((rd_T31 t136 0).f1).toList) == ([] : List UInt8) && (((rd_T31 t136 0).f2)))) := by simpa using c4))
    clear c4; obtain rfl := Option.some.inj H
    go_enter Try.func7, Try.ntmps7
    go_wp2_with (first | ((with_reducible refine zgd (N := 6) rfl ?_); refine Kd.R_lit k43 _ 43 ?hg (N := 6) ?hd (xs := ([(⟨(⟨#[97]⟩ : ByteArray), (⟨#[49]⟩ : ByteArray)⟩ : S43), (⟨(⟨#[98]⟩ : ByteArray), (⟨#[50]⟩ : ByteArray)⟩ : S43)] : List (S43))) (inner := [.string (⟨#[97]⟩ : ByteArray), .string (⟨#[49]⟩ : ByteArray), .string (⟨#[98]⟩ : ByteArray), .string (⟨#[50]⟩ : ByteArray)]) (ok := fun _ => True) (okp := fun _ => True) ?hr ?hp (fun _ hk => hk) trivial (Below.refl _ _) (Nat.le_refl _) (by simp) ?_; (case hd => rfl); (case hg => rfl); (case hr => go_simp; first | done | rfl); (case hp => exact (Reps.c2 (show Kd.M k43 _ _ _ (⟨(⟨#[97]⟩ : ByteArray), (⟨#[49]⟩ : ByteArray)⟩ : S43) [.string (⟨#[97]⟩ : ByteArray), .string (⟨#[49]⟩ : ByteArray)] from (k43_mkM _ _ _ (⟨(⟨#[97]⟩ : ByteArray), (⟨#[49]⟩ : ByteArray)⟩ : S43) )) (Reps.c2 (show Kd.M k43 _ _ _ (⟨(⟨#[98]⟩ : ByteArray), (⟨#[50]⟩ : ByteArray)⟩ : S43) [.string (⟨#[98]⟩ : ByteArray), .string (⟨#[50]⟩ : ByteArray)] from (k43_mkM _ _ _ (⟨(⟨#[98]⟩ : ByteArray), (⟨#[50]⟩ : ByteArray)⟩ : S43) )) (Reps.none _ _)))); intro v131 w49 ho50 hb hg_ hnew_; clear hg_ hnew_; (first | rw [← Ny130.out] at ho50 | (simp only [Int.reduceToNat] at ho50; rw [← Ny130.out] at ho50)); have n0_ := zk (Kd.R_lower ho50 (zq (by with_reducible repeat first | exact HB.out | apply zA | apply zN | apply zD))); have n1_ := zk (zs (by with_reducible repeat first | exact HB.out | apply zA | apply zN | apply zD) hb); clear HB; have HO132 := n0_; have HB := n1_; clear n0_ n1_; clear hb ho50) | ((with_reducible refine zgd (N := 9) rfl ?_); refine Kd.R_lit k43 _ 43 ?hg (N := 9) ?hd (xs := ([(⟨(⟨#[98]⟩ : ByteArray), (⟨#[51]⟩ : ByteArray)⟩ : S43), (⟨(⟨#[99]⟩ : ByteArray), (⟨#[52]⟩ : ByteArray)⟩ : S43)] : List (S43))) (inner := [.string (⟨#[98]⟩ : ByteArray), .string (⟨#[51]⟩ : ByteArray), .string (⟨#[99]⟩ : ByteArray), .string (⟨#[52]⟩ : ByteArray)]) (ok := fun _ => True) (okp := fun _ => True) ?hr ?hp (fun _ hk => hk) trivial (Below.refl _ _) (Nat.le_refl _) (by simp) ?_; (case hd => rfl); (case hg => rfl); (case hr => go_simp; first | done | rfl); (case hp => exact (Reps.c2 (show Kd.M k43 _ _ _ (⟨(⟨#[98]⟩ : ByteArray), (⟨#[51]⟩ : ByteArray)⟩ : S43) [.string (⟨#[98]⟩ : ByteArray), .string (⟨#[51]⟩ : ByteArray)] from (k43_mkM _ _ _ (⟨(⟨#[98]⟩ : ByteArray), (⟨#[51]⟩ : ByteArray)⟩ : S43) )) (Reps.c2 (show Kd.M k43 _ _ _ (⟨(⟨#[99]⟩ : ByteArray), (⟨#[52]⟩ : ByteArray)⟩ : S43) [.string (⟨#[99]⟩ : ByteArray), .string (⟨#[52]⟩ : ByteArray)] from (k43_mkM _ _ _ (⟨(⟨#[99]⟩ : ByteArray), (⟨#[52]⟩ : ByteArray)⟩ : S43) )) (Reps.none _ _)))); intro v134 w51 ho52 hb hg_ hnew_; clear hg_ hnew_; (first | rw [← Ny133.out] at ho52 | (simp only [Int.reduceToNat] at ho52; rw [← Ny133.out] at ho52)); have n0_ := zk (Kd.R_elder' (by (with_reducible repeat (first | apply Kd.R_alloc | apply Kd.R_drewN | apply Kd.R_drew)); exact HO132.out) (Kd.R_base ho52) hb); have n1_ := zk (Kd.R_lower (Kd.R_new' ho52 (Kd.R_lt (by (with_reducible repeat (first | apply Kd.R_alloc | apply Kd.R_drewN | apply Kd.R_drew)); exact HO132.out))) (zq (by with_reducible repeat first | exact HB.out | apply zA | apply zN | apply zD))); have n2_ := zk (zs (by with_reducible repeat first | exact HB.out | apply zA | apply zN | apply zD) hb); clear HO132; clear HB; have HO132 := n0_; have HO135 := n1_; have HB := n2_; clear n0_ n1_ n2_; clear hb ho52; obtain ⟨Ao53, co53, eo53⟩ := Kd.R_slice HO132.out; subst eo53; obtain ⟨Ao54, co54, eo54⟩ := Kd.R_slice HO135.out; subst eo54) | ((with_reducible refine zgk (f := 8) rfl ?_); refine zgl (some 12) rfl rfl Try.func8 (by kernel_rfl) rfl #[.slice Ao53 y130.length co53, .slice Ao54 y133.length co54] rfl (by (try simp only [List.map_toArray, List.map_cons, List.map_nil]); first | done | rfl | (simp only [List.length_drop, List.length_take]; rfl)) ?_; (with_reducible refine (adiff_Of.calls _ _ y130 _ _ y133 t136 _ ?side1 ?side2 ?side3 ?side4 A1.out).mono ?_); (case side1 => repeat (first | exact (Kd.R_reads' HO132.out).2.2 | (with_reducible refine Kd.C_alloc ?_ _) | (with_reducible refine Kd.C_drewN ?_ _) | (with_reducible refine Kd.C_drew ?_))); (case side2 => exact (Kd.R_reads' HO132.out).2.1); (case side3 => repeat (first | exact (Kd.R_reads' HO135.out).2.2 | (with_reducible refine Kd.C_alloc ?_ _) | (with_reducible refine Kd.C_drewN ?_ _) | (with_reducible refine Kd.C_drew ?_))); (case side4 => exact (Kd.R_reads' HO135.out).2.1); rintro e w55 ⟨v137, rfl, ho0, hb⟩; refine ⟨_, rfl, ?_⟩; have n0_ := zk (Kd.R_below (by (with_reducible repeat (first | apply Kd.R_alloc | apply Kd.R_drewN | apply Kd.R_drew)); exact HO132.out) hb); have n1_ := zk (Kd.R_below (by (with_reducible repeat (first | apply Kd.R_alloc | apply Kd.R_drewN | apply Kd.R_drew)); exact HO135.out) hb); have n2_ := zk (Kd.R_lower ho0 (zq (by with_reducible repeat first | exact HB.out | apply zA | apply zN | apply zD))); have n3_ := zk (zs (by with_reducible repeat first | exact HB.out | apply zA | apply zN | apply zD) hb); clear HO132; clear HO135; clear HB; have HO132 := n0_; have HO135 := n1_; have HO138 := n2_; have HB := n3_; clear n0_ n1_ n2_ n3_; (try clear hb); (try clear hb2); (try clear hk); (try clear hi); (try clear ho0); obtain ⟨Ao56, co56, eo56⟩ := Kd.R_slice HO138.out; subst eo56; have p139 : 0 ≤ (0 : Int) := (by omega); have q139 : 0 < (t136.length : Int) := zo (by assumption); obtain ⟨ad139, e139, hx139_0, hx139_1, hx139_2⟩ := at_T31 (Kd.R_reads' HO138.out).2.2 0 p139 q139; cases e139; have qi139 : (0 < t136.length) = True := eq_true (by omega); (try rw [show ((0 : Int)).toNat = 0 from rfl] at hx139_0); (try rw [show 0 * 3 = 0 from rfl] at hx139_0); (try rw [Addr.add_zero'] at hx139_0); (try rw [show ((0 : Int)).toNat = 0 from rfl] at hx139_1); (try rw [show 0 * 3 = 0 from rfl] at hx139_1); (try rw [Addr.add_zero'] at hx139_1); (try rw [show ((0 : Int)).toNat = 0 from rfl] at hx139_2); (try rw [show 0 * 3 = 0 from rfl] at hx139_2); (try rw [Addr.add_zero'] at hx139_2); replace p139 := eq_true p139; replace q139 := eq_true q139))
    go_ret; exact ⟨by first | rfl | (simp [wN, wS] <;> rfl) | (simp [*, wN, wS] <;> rfl), by with_reducible repeat first | exact HB.out | apply zA | apply zN | apply zD⟩
  ·
   rw [if_neg c3] at H; exact absurd H (by simp)
 ·
  rw [if_neg c2] at H; have c2b0 := beq_eq_false_iff_ne.mpr c2; have c2b1 := bne_iff_ne.mpr c2; obtain rfl := Option.some.inj H
  go_enter Try.func7, Try.ntmps7
  go_wp2_with (first | ((with_reducible refine zgd (N := 6) rfl ?_); refine Kd.R_lit k43 _ 43 ?hg (N := 6) ?hd (xs := ([(⟨(⟨#[97]⟩ : ByteArray), (⟨#[49]⟩ : ByteArray)⟩ : S43), (⟨(⟨#[98]⟩ : ByteArray), (⟨#[50]⟩ : ByteArray)⟩ : S43)] : List (S43))) (inner := [.string (⟨#[97]⟩ : ByteArray), .string (⟨#[49]⟩ : ByteArray), .string (⟨#[98]⟩ : ByteArray), .string (⟨#[50]⟩ : ByteArray)]) (ok := fun _ => True) (okp := fun _ => True) ?hr ?hp (fun _ hk => hk) trivial (Below.refl _ _) (Nat.le_refl _) (by simp) ?_; (case hd => rfl); (case hg => rfl); (case hr => go_simp; first | done | rfl); (case hp => exact (Reps.c2 (show Kd.M k43 _ _ _ (⟨(⟨#[97]⟩ : ByteArray), (⟨#[49]⟩ : ByteArray)⟩ : S43) [.string (⟨#[97]⟩ : ByteArray), .string (⟨#[49]⟩ : ByteArray)] from (k43_mkM _ _ _ (⟨(⟨#[97]⟩ : ByteArray), (⟨#[49]⟩ : ByteArray)⟩ : S43) )) (Reps.c2 (show Kd.M k43 _ _ _ (⟨(⟨#[98]⟩ : ByteArray), (⟨#[50]⟩ : ByteArray)⟩ : S43) [.string (⟨#[98]⟩ : ByteArray), .string (⟨#[50]⟩ : ByteArray)] from (k43_mkM _ _ _ (⟨(⟨#[98]⟩ : ByteArray), (⟨#[50]⟩ : ByteArray)⟩ : S43) )) (Reps.none _ _)))); intro v131 w57 ho58 hb hg_ hnew_; clear hg_ hnew_; (first | rw [← Ny130.out] at ho58 | (simp only [Int.reduceToNat] at ho58; rw [← Ny130.out] at ho58)); have n0_ := zk (Kd.R_lower ho58 (zq (by with_reducible repeat first | exact HB.out | apply zA | apply zN | apply zD))); have n1_ := zk (zs (by with_reducible repeat first | exact HB.out | apply zA | apply zN | apply zD) hb); clear HB; have HO132 := n0_; have HB := n1_; clear n0_ n1_; clear hb ho58) | ((with_reducible refine zgd (N := 9) rfl ?_); refine Kd.R_lit k43 _ 43 ?hg (N := 9) ?hd (xs := ([(⟨(⟨#[98]⟩ : ByteArray), (⟨#[51]⟩ : ByteArray)⟩ : S43), (⟨(⟨#[99]⟩ : ByteArray), (⟨#[52]⟩ : ByteArray)⟩ : S43)] : List (S43))) (inner := [.string (⟨#[98]⟩ : ByteArray), .string (⟨#[51]⟩ : ByteArray), .string (⟨#[99]⟩ : ByteArray), .string (⟨#[52]⟩ : ByteArray)]) (ok := fun _ => True) (okp := fun _ => True) ?hr ?hp (fun _ hk => hk) trivial (Below.refl _ _) (Nat.le_refl _) (by simp) ?_; (case hd => rfl); (case hg => rfl); (case hr => go_simp; first | done | rfl); (case hp => exact (Reps.c2 (show Kd.M k43 _ _ _ (⟨(⟨#[98]⟩ : ByteArray), (⟨#[51]⟩ : ByteArray)⟩ : S43) [.string (⟨#[98]⟩ : ByteArray), .string (⟨#[51]⟩ : ByteArray)] from (k43_mkM _ _ _ (⟨(⟨#[98]⟩ : ByteArray), (⟨#[51]⟩ : ByteArray)⟩ : S43) )) (Reps.c2 (show Kd.M k43 _ _ _ (⟨(⟨#[99]⟩ : ByteArray), (⟨#[52]⟩ : ByteArray)⟩ : S43) [.string (⟨#[99]⟩ : ByteArray), .string (⟨#[52]⟩ : ByteArray)] from (k43_mkM _ _ _ (⟨(⟨#[99]⟩ : ByteArray), (⟨#[52]⟩ : ByteArray)⟩ : S43) )) (Reps.none _ _)))); intro v134 w59 ho60 hb hg_ hnew_; clear hg_ hnew_; (first | rw [← Ny133.out] at ho60 | (simp only [Int.reduceToNat] at ho60; rw [← Ny133.out] at ho60)); have n0_ := zk (Kd.R_elder' (by (with_reducible repeat (first | apply Kd.R_alloc | apply Kd.R_drewN | apply Kd.R_drew)); exact HO132.out) (Kd.R_base ho60) hb); have n1_ := zk (Kd.R_lower (Kd.R_new' ho60 (Kd.R_lt (by (with_reducible repeat (first | apply Kd.R_alloc | apply Kd.R_drewN | apply Kd.R_drew)); exact HO132.out))) (zq (by with_reducible repeat first | exact HB.out | apply zA | apply zN | apply zD))); have n2_ := zk (zs (by with_reducible repeat first | exact HB.out | apply zA | apply zN | apply zD) hb); clear HO132; clear HB; have HO132 := n0_; have HO135 := n1_; have HB := n2_; clear n0_ n1_ n2_; clear hb ho60; obtain ⟨Ao61, co61, eo61⟩ := Kd.R_slice HO132.out; subst eo61; obtain ⟨Ao62, co62, eo62⟩ := Kd.R_slice HO135.out; subst eo62) | ((with_reducible refine zgk (f := 8) rfl ?_); refine zgl (some 12) rfl rfl Try.func8 (by kernel_rfl) rfl #[.slice Ao61 y130.length co61, .slice Ao62 y133.length co62] rfl (by (try simp only [List.map_toArray, List.map_cons, List.map_nil]); first | done | rfl | (simp only [List.length_drop, List.length_take]; rfl)) ?_; (with_reducible refine (adiff_Of.calls _ _ y130 _ _ y133 t136 _ ?side1 ?side2 ?side3 ?side4 A1.out).mono ?_); (case side1 => repeat (first | exact (Kd.R_reads' HO132.out).2.2 | (with_reducible refine Kd.C_alloc ?_ _) | (with_reducible refine Kd.C_drewN ?_ _) | (with_reducible refine Kd.C_drew ?_))); (case side2 => exact (Kd.R_reads' HO132.out).2.1); (case side3 => repeat (first | exact (Kd.R_reads' HO135.out).2.2 | (with_reducible refine Kd.C_alloc ?_ _) | (with_reducible refine Kd.C_drewN ?_ _) | (with_reducible refine Kd.C_drew ?_))); (case side4 => exact (Kd.R_reads' HO135.out).2.1); rintro e w63 ⟨v137, rfl, ho0, hb⟩; refine ⟨_, rfl, ?_⟩; have n0_ := zk (Kd.R_below (by (with_reducible repeat (first | apply Kd.R_alloc | apply Kd.R_drewN | apply Kd.R_drew)); exact HO132.out) hb); have n1_ := zk (Kd.R_below (by (with_reducible repeat (first | apply Kd.R_alloc | apply Kd.R_drewN | apply Kd.R_drew)); exact HO135.out) hb); have n2_ := zk (Kd.R_lower ho0 (zq (by with_reducible repeat first | exact HB.out | apply zA | apply zN | apply zD))); have n3_ := zk (zs (by with_reducible repeat first | exact HB.out | apply zA | apply zN | apply zD) hb); clear HO132; clear HO135; clear HB; have HO132 := n0_; have HO135 := n1_; have HO138 := n2_; have HB := n3_; clear n0_ n1_ n2_ n3_; (try clear hb); (try clear hb2); (try clear hk); (try clear hi); (try clear ho0); obtain ⟨Ao64, co64, eo64⟩ := Kd.R_slice HO138.out; subst eo64))
  go_ret; exact ⟨by first | rfl | (simp [wN, wS] <;> rfl) | (simp [*, wN, wS] <;> rfl), by with_reducible repeat first | exact HB.out | apply zA | apply zN | apply zD⟩
def r09_Find.l0 : Nat → List (S43) → ByteArray → Int → Int → Option (Int)
  | 0, _, _, _, _ => none
  | k + 1, x0, x1, x7, x8 => if x8 < x7 then (if 0 ≤ x8 then (if x8 < (x0.length : Int) then (if ((rd_T43 x0 x8).f0).toList = x1.toList then (some x8) else (r09_Find.l0 k x0 x1 x7 (wrap64 (x8 + 1)))) else (none)) else (none)) else (some (-1))
def r09_Find.f (k : Nat) (l0 : List (S43)) (a1 : ByteArray) : Option (Int) := r09_Find.l0 k l0 a1 (l0.length : Int) 0
set_option maxHeartbeats 8000000 in
set_option maxRecDepth 100000 in
theorem r09_Find.calls (k : Nat) (A0 : Option Addr) (c0 : Nat) (l0 : List (S43)) (a1 : ByteArray) (r : Int) (w : World) (hr0 : Kd.C k43 w A0 l0.length l0) (hc0 : l0.length ≤ c0) (h : r09_Find.f k l0 a1 = some r) :
    Calls Try.prog 26 #[.slice A0 l0.length c0, .string a1] w fun e w' => e = .returned (.int .i64 r) ∧ Drawn0 w w' := by
  have HR0 := zk hr0; have HC0 := zk hc0; clear hr0 hc0; have H : (r09_Find.l0 k l0 a1 (l0.length : Int) 0) = some r := h; clear h; have H' := zk H; clear H
  go_enter Try.func26, Try.ntmps26
  go_wp2
  go_loopg [8] k (fun kq v8 w' => ∃ (x8_1 : Int), v8 = .int .i64 x8_1 ∧ Aside0 (r09_Find.l0 kq l0 a1 (l0.length : Int) x8_1 = some r) ∧ Aside0 (kq ≤ k) ∧ Drawn0 w w')
  case atStart => exact ⟨(0), (by first | rfl | (simp; done) | (simp [*]; done)), H', ⟨Nat.le_refl _⟩, by repeat (first | exact Drawn0.refl _ | apply Drawn0.step)⟩
  case round =>
    clear H'; (try clear c2); (try clear p2); obtain ⟨x8_1, rfl, HA, HK1, ⟨m1, rfl⟩⟩ := hrel
    cases gk with
    | zero => exact absurd HA.out (by simp [r09_Find.l0])
    | succ k1 =>
      have H := HA.out; clear HA; simp only [r09_Find.l0] at H
      by_cases c3 : x8_1 < (l0.length : Int)
      · rw [if_pos c3] at H
        have c3b0 : decide (x8_1 < (l0.length : Int)) = true := decide_eq_true c3
        clear c3
        by_cases c4 : 0 ≤ x8_1
        · rw [if_pos c4] at H
          have c4b0 : decide (0 ≤ x8_1) = true := decide_eq_true c4
          clear c4
          by_cases c5 : x8_1 < (l0.length : Int)
          · rw [if_pos c5] at H
            have c5b0 : decide (x8_1 < (l0.length : Int)) = true := decide_eq_true c5
            clear c5
            by_cases c6 : ((rd_T43 l0 x8_1).f0).toList = a1.toList
            · rw [if_pos c6] at H
              have c6b0 : (((rd_T43 l0 x8_1).f0).toList == a1.toList) = true := beq_iff_eq.mpr c6
              have c6b1 : (((rd_T43 l0 x8_1).f0).toList != a1.toList) = false := bne_eq_false_iff_eq.mpr c6
              clear c6
              obtain rfl := Option.some.inj H
              have p147 : 0 ≤ (x8_1 : Int) := zo (by assumption)
              have q147 : x8_1 < (l0.length : Int) := zo (by assumption)
              obtain ⟨ad147, e147, hx147_0, hx147_1⟩ := at_T43 HR0.out x8_1 p147 q147
              cases e147
              replace p147 := eq_true p147
              replace q147 := eq_true q147
              go_wp2
              go_ret
              exact ⟨by first | rfl | (simp; done) | (simp [*]; done), by repeat (first | exact Drawn0.refl _ | apply Drawn0.step)⟩
            · rw [if_neg c6] at H
              have c6b0 : (((rd_T43 l0 x8_1).f0).toList == a1.toList) = false := beq_eq_false_iff_ne.mpr c6
              have c6b1 : (((rd_T43 l0 x8_1).f0).toList != a1.toList) = true := bne_iff_ne.mpr c6
              have H' := zk H
              clear H
              have p147 : 0 ≤ (x8_1 : Int) := zo (by assumption)
              have q147 : x8_1 < (l0.length : Int) := zo (by assumption)
              obtain ⟨ad147, e147, hx147_0, hx147_1⟩ := at_T43 HR0.out x8_1 p147 q147
              cases e147
              replace p147 := eq_true p147
              replace q147 := eq_true q147
              go_wp2
              go_roundg k1
              case measure => have := HK1.out; omega
              case rel => exact ⟨(wrap64 (x8_1 + 1)), (by first | rfl | (simp; done) | (simp [*]; done)), H', ⟨by have := HK1.out; omega⟩, by repeat (first | exact Drawn0.refl _ | apply Drawn0.step)⟩
          · rw [if_neg c5] at H
            exact absurd H (by simp)
        · rw [if_neg c4] at H
          exact absurd H (by simp)
      · rw [if_neg c3] at H
        have c3b0 : decide (x8_1 < (l0.length : Int)) = false := decide_eq_false c3; clear c3; obtain rfl := Option.some.inj H; go_wp2; go_ret; exact ⟨by first | rfl | (simp; done) | (simp [*]; done), by repeat (first | exact Drawn0.refl _ | apply Drawn0.step)⟩
mutual
def r02_Compare.l0 : Nat → ByteArray → ByteArray → Int → Option (Int)
  | 0, _, _, _ => none
  | k + 1, x0, x1, x5 => if x5 < (x0.size : Int) then (r02_Compare.j1 k x0 x1 x5 (decide (x5 < (x1.size : Int)))) else (r02_Compare.j1 k x0 x1 x5 false)
def r02_Compare.j1 : Nat → ByteArray → ByteArray → Int → Bool → Option (Int)
  | 0, _, _, _, _ => none
  | k + 1, x0, x1, x5, x15 => if x15 = true then (if 0 ≤ x5 then (if x5 < (x0.size : Int) then (if x5 < (x1.size : Int) then (if (bt x0 x5) < (bt x1 x5) then (some (-1)) else (if (bt x0 x5) > (bt x1 x5) then (some 1) else (r02_Compare.l0 k x0 x1 (wrap64 (x5 + 1))))) else (none)) else (none)) else (none)) else (if (x0.size : Int) < (x1.size : Int) then (some (-1)) else (if (x0.size : Int) > (x1.size : Int) then (some 1) else (some 0)))
end
def r02_Compare.f (k : Nat) (a0 : ByteArray) (a1 : ByteArray) : Option (Int) := r02_Compare.l0 k a0 a1 0
set_option maxHeartbeats 8000000 in
set_option maxRecDepth 100000 in
theorem r02_Compare.calls (k : Nat) (a0 : ByteArray) (a1 : ByteArray) (r : Int) (w : World) (h : r02_Compare.f k a0 a1 = some r) :
    Calls Try.prog 27 #[.string a0, .string a1] w fun e w' => e = .returned (.int .i64 r) ∧ Drawn0 w w' := by
  have H : (r02_Compare.l0 k a0 a1 0) = some r := h; clear h; have H' := zk H; clear H
  go_enter Try.func27, Try.ntmps27
  go_wp2
  repeat (go_quiet (fail); try go_wp2)
  go_loopg [5] k (fun kq v5 w' => ∃ (x5_1 : Int), v5 = .int .i64 x5_1 ∧ Aside0 (r02_Compare.l0 kq a0 a1 x5_1 = some r) ∧ Aside0 (kq ≤ k) ∧ Drawn0 w w')
  case atStart => exact ⟨(0), (by first | rfl | (simp; done) | (simp [*]; done)), H', ⟨Nat.le_refl _⟩, by repeat (first | exact Drawn0.refl _ | apply Drawn0.step)⟩
  case round =>
    clear H'; (try clear c2); (try clear p2); obtain ⟨x5_1, rfl, HA, HK1, ⟨m1, rfl⟩⟩ := hrel
    cases gk with
    | zero => exact absurd HA.out (by simp [r02_Compare.l0])
    | succ k1 =>
      have H := HA.out; clear HA; simp only [r02_Compare.l0] at H; have HC3 := zk H; clear H
      go_upto_region 2 with (fail)
      repeat (go_quiet (fail); go_upto_region 2 with (fail))
      go_cut [15] (fun v15 wc => ∃ (kq : Nat) (x15_2 : Bool), v15 = .bool x15_2 ∧ Aside0 (r02_Compare.j1 kq a0 a1 x5_1 x15_2 = some r) ∧ Aside0 (kq ≤ k1) ∧ Drawn0 w wc)
      case first =>
        have H := HC3.out; clear HC3
        by_cases c4 : x5_1 < (a0.size : Int)
        · rw [if_pos c4] at H
          have c4b0 : decide (x5_1 < (a0.size : Int)) = true := decide_eq_true c4
          clear c4
          (first | rw [c4b0] | (simp only [i64_w, i32_w]; rw [c4b0]) | skip)
          have H' := zk H
          clear H
          go_wp2
          repeat (go_quiet (fail); try go_wp2)
          go_meet
          case rel => exact ⟨_, (decide (x5_1 < (a1.size : Int))), (by first | rfl | (simp; done) | (simp [*]; done)), H', ⟨by have := HK1.out; first | omega | exact Nat.le_refl _⟩, by repeat (first | exact Drawn0.refl _ | apply Drawn0.step)⟩
        · rw [if_neg c4] at H
          have c4b0 : decide (x5_1 < (a0.size : Int)) = false := decide_eq_false c4
          clear c4
          (first | rw [c4b0] | (simp only [i64_w, i32_w]; rw [c4b0]) | skip)
          have H' := zk H
          clear H
          go_wp2
          repeat (go_quiet (fail); try go_wp2)
          go_meet
          case rel => exact ⟨_, (false), (by first | rfl | (simp; done) | (simp [*]; done)), H', ⟨by have := HK1.out; first | omega | exact Nat.le_refl _⟩, by repeat (first | exact Drawn0.refl _ | apply Drawn0.step)⟩
      case rest =>
        clear HC3; (try clear c2); (try clear p2); (try clear c4); (try clear c4b0); (try clear p2); obtain ⟨kq, x15_2, rfl, HA, HJ2, ⟨mc2, rfl⟩⟩ := hcut
        cases kq with
        | zero => exact absurd HA.out (by simp [r02_Compare.j1])
        | succ kj2 =>
          have H := HA.out; clear HA; simp only [r02_Compare.j1] at H
          by_cases c5 : x15_2 = true
          · subst c5
            have H1 : (if 0 ≤ x5_1 then (if x5_1 < (a0.size : Int) then (if x5_1 < (a1.size : Int) then (if (bt a0 x5_1) < (bt a1 x5_1) then (some (-1)) else (if (bt a0 x5_1) > (bt a1 x5_1) then (some 1) else (r02_Compare.l0 kj2 a0 a1 (wrap64 (x5_1 + 1))))) else (none)) else (none)) else (none)) = some r := by rw [if_pos rfl] at H; exact H
            clear H
            have H := H1
            clear H1
            by_cases c6 : 0 ≤ x5_1
            · rw [if_pos c6] at H
              have c6b0 : decide (0 ≤ x5_1) = true := decide_eq_true c6
              clear c6
              by_cases c7 : x5_1 < (a0.size : Int)
              · rw [if_pos c7] at H
                have c7b0 : decide (x5_1 < (a0.size : Int)) = true := decide_eq_true c7
                clear c7
                by_cases c9 : x5_1 < (a1.size : Int)
                · rw [if_pos c9] at H
                  have c9b0 : decide (x5_1 < (a1.size : Int)) = true := decide_eq_true c9
                  clear c9
                  by_cases c11 : (bt a0 x5_1) < (bt a1 x5_1)
                  · rw [if_pos c11] at H
                    have c11b0 := decide_eq_true c11
                    clear c11
                    obtain rfl := Option.some.inj H
                    have p8 : 0 ≤ (x5_1 : Int) := zo (by assumption)
                    have q8 : x5_1 < (a0.size : Int) := zo (by assumption)
                    have hx8 := bt_at a0 x5_1
                    replace p8 := eq_true p8
                    replace q8 := eq_true q8
                    have p10 : 0 ≤ (x5_1 : Int) := zo (by assumption)
                    have q10 : x5_1 < (a1.size : Int) := zo (by assumption)
                    have hx10 := bt_at a1 x5_1
                    replace p10 := eq_true p10
                    replace q10 := eq_true q10
                    go_wp2
                    repeat (go_quiet (fail); try go_wp2)
                    go_ret
                    exact ⟨by first | rfl | (simp; done) | (simp [*]; done), by repeat (first | exact Drawn0.refl _ | apply Drawn0.step)⟩
                  · rw [if_neg c11] at H
                    have c11b0 := decide_eq_false c11
                    clear c11
                    by_cases c14 : (bt a0 x5_1) > (bt a1 x5_1)
                    · rw [if_pos c14] at H
                      have c14b0 : decide ((bt a1 x5_1) < (bt a0 x5_1)) = true := decide_eq_true c14
                      clear c14
                      obtain rfl := Option.some.inj H
                      have p8 : 0 ≤ (x5_1 : Int) := zo (by assumption)
                      have q8 : x5_1 < (a0.size : Int) := zo (by assumption)
                      have hx8 := bt_at a0 x5_1
                      replace p8 := eq_true p8
                      replace q8 := eq_true q8
                      have p10 : 0 ≤ (x5_1 : Int) := zo (by assumption)
                      have q10 : x5_1 < (a1.size : Int) := zo (by assumption)
                      have hx10 := bt_at a1 x5_1
                      replace p10 := eq_true p10
                      replace q10 := eq_true q10
                      have p12 : 0 ≤ (x5_1 : Int) := zo (by assumption)
                      have q12 : x5_1 < (a0.size : Int) := zo (by assumption)
                      have hx12 := bt_at a0 x5_1
                      replace p12 := eq_true p12
                      replace q12 := eq_true q12
                      have p13 : 0 ≤ (x5_1 : Int) := zo (by assumption)
                      have q13 : x5_1 < (a1.size : Int) := zo (by assumption)
                      have hx13 := bt_at a1 x5_1
                      replace p13 := eq_true p13
                      replace q13 := eq_true q13
                      go_wp2
                      repeat (go_quiet (fail); try go_wp2)
                      go_ret
                      exact ⟨by first | rfl | (simp; done) | (simp [*]; done), by repeat (first | exact Drawn0.refl _ | apply Drawn0.step)⟩
                    · rw [if_neg c14] at H
                      have c14b0 : decide ((bt a1 x5_1) < (bt a0 x5_1)) = false := decide_eq_false c14
                      clear c14
                      have H' := zk H
                      clear H
                      have p8 : 0 ≤ (x5_1 : Int) := zo (by assumption)
                      have q8 : x5_1 < (a0.size : Int) := zo (by assumption)
                      have hx8 := bt_at a0 x5_1
                      replace p8 := eq_true p8
                      replace q8 := eq_true q8
                      have p10 : 0 ≤ (x5_1 : Int) := zo (by assumption)
                      have q10 : x5_1 < (a1.size : Int) := zo (by assumption)
                      have hx10 := bt_at a1 x5_1
                      replace p10 := eq_true p10
                      replace q10 := eq_true q10
                      have p12 : 0 ≤ (x5_1 : Int) := zo (by assumption)
                      have q12 : x5_1 < (a0.size : Int) := zo (by assumption)
                      have hx12 := bt_at a0 x5_1
                      replace p12 := eq_true p12
                      replace q12 := eq_true q12
                      have p13 : 0 ≤ (x5_1 : Int) := zo (by assumption)
                      have q13 : x5_1 < (a1.size : Int) := zo (by assumption)
                      have hx13 := bt_at a1 x5_1
                      replace p13 := eq_true p13
                      replace q13 := eq_true q13
                      go_wp2
                      repeat (go_quiet (fail); try go_wp2)
                      go_roundg kj2
                      case measure => have := HK1.out; have := HJ2.out; omega
                      case rel => exact ⟨(wrap64 (x5_1 + 1)), (by first | rfl | (simp; done) | (simp [*]; done)), H', ⟨by have := HK1.out; have := HJ2.out; omega⟩, by repeat (first | exact Drawn0.refl _ | apply Drawn0.step)⟩
                · rw [if_neg c9] at H
                  exact absurd H (by simp)
              · rw [if_neg c7] at H
                exact absurd H (by simp)
            · rw [if_neg c6] at H
              exact absurd H (by simp)
          · replace c5 := Bool.eq_false_iff.mpr c5
            subst c5
            have H1 : (if (a0.size : Int) < (a1.size : Int) then (some (-1)) else (if (a0.size : Int) > (a1.size : Int) then (some 1) else (some 0))) = some r := by rw [if_neg (show ¬ (false = true) by decide)] at H; exact H
            clear H
            have H := H1
            clear H1
            by_cases c15 : (a0.size : Int) < (a1.size : Int)
            · rw [if_pos c15] at H
              have c15b0 := decide_eq_true c15
              have c15b1 : decide (a0.size < a1.size) = true := decide_eq_true (Int.ofNat_lt.mp c15)
              clear c15
              obtain rfl := Option.some.inj H
              go_wp2
              repeat (go_quiet (fail); try go_wp2)
              go_ret
              exact ⟨by first | rfl | (simp; done) | (simp [*]; done), by repeat (first | exact Drawn0.refl _ | apply Drawn0.step)⟩
            · rw [if_neg c15] at H
              have c15b0 := decide_eq_false c15
              have c15b1 : decide (a0.size < a1.size) = false := decide_eq_false (fun h => c15 (Int.ofNat_lt.mpr h))
              clear c15
              by_cases c16 : (a0.size : Int) > (a1.size : Int)
              · rw [if_pos c16] at H
                have c16b0 : decide ((a1.size : Int) < (a0.size : Int)) = true := decide_eq_true c16
                have c16b1 : decide (a1.size < a0.size) = true := decide_eq_true (Int.ofNat_lt.mp c16)
                clear c16
                obtain rfl := Option.some.inj H
                go_wp2
                repeat (go_quiet (fail); try go_wp2)
                go_ret
                exact ⟨by first | rfl | (simp; done) | (simp [*]; done), by repeat (first | exact Drawn0.refl _ | apply Drawn0.step)⟩
              · rw [if_neg c16] at H
                have c16b0 : decide ((a1.size : Int) < (a0.size : Int)) = false := decide_eq_false c16
                have c16b1 : decide (a1.size < a0.size) = false := decide_eq_false (fun h => c16 (Int.ofNat_lt.mpr h))
                clear c16
                obtain rfl := Option.some.inj H
                go_wp2
                repeat (go_quiet (fail); try go_wp2)
                go_ret
                exact ⟨by first | rfl | (simp; done) | (simp [*]; done), by repeat (first | exact Drawn0.refl _ | apply Drawn0.step)⟩
end Go.Proofs.Ytmpdbblljofjfaa.G
namespace Go.Proofs.Ytmpdbblljofjfaa.G
open Go.RowKit Go.Proofs.YtmpdbblljofjfaaW.PrintWords Go.Proofs.YtmpdbblljofjfaaW.PrintLast Go.Proofs.YtmpdbblljofjfaaW.PrintMore
attribute [local go_sem] max2_int min2_int max_two min_two max_three min_three max_four min_four
set_option linter.unusedVariables false
set_option linter.unusedSimpArgs false
mutual
def r09_With.j1 : Nat → List (S43) → ByteArray → ByteArray → Int → Int → Option ((List (S43)))
 | 0, _, _, _, _, _ => none
 | k + 1, x0, x1, x2, x7, x8 => r09_With.l1 k x0 x1 x2 x7 x8 ([] : List (S43)) (x0.length : Int) 0
def r09_With.l1 : Nat → List (S43) → ByteArray → ByteArray → Int → Int → List (S43) → Int → Int → Option ((List (S43)))
 | 0, _, _, _, _, _, _, _, _ => none
 | k + 1, x0, x1, x2, x7, x8, x9, x32, x33 => if x33 < x32 then (if x7 < 0 then (r09_With.j3 k x0 x1 x2 x7 x8 x9 x33 x32 x33 (x33 == x8)) else (r09_With.j3 k x0 x1 x2 x7 x8 x9 x33 x32 x33 false)) else (if x7 < 0 then (if x8 = (x0.length : Int) then (if x9.length < 4398046511104 then (some (x9 ++ [(⟨x1, x2⟩ : S43)])) else (none)) else (some x9)) else (some x9))
def r09_With.j3 : Nat → List (S43) → ByteArray → ByteArray → Int → Int → List (S43) → Int → Int → Int → Bool → Option ((List (S43)))
 | 0, _, _, _, _, _, _, _, _, _, _ => none
 | k + 1, x0, x1, x2, x7, x8, x9, x10, x32, x33, x42 => if x42 = true then (if x9.length < 4398046511104 then ((some (x9 ++ [(⟨x1, x2⟩ : S43)] : List (S43))).bind fun y154 => (if 0 ≤ x10 then (if x10 < (x0.length : Int) then (if x10 = x7 then (if y154.length < 4398046511104 then (r09_With.l1 k x0 x1 x2 x7 x8 (y154 ++ [(⟨(rd_T43 x0 x10).f0, x2⟩ : S43)]) x32 (wrap64 (x33 + 1))) else (none)) else (if y154.length < 4398046511104 then (r09_With.l1 k x0 x1 x2 x7 x8 (y154 ++ [(⟨(rd_T43 x0 x10).f0, (rd_T43 x0 x10).f1⟩ : S43)]) x32 (wrap64 (x33 + 1))) else (none))) else (none)) else (none))) else (none)) else (if 0 ≤ x10 then (if x10 < (x0.length : Int) then (if x10 = x7 then (if x9.length < 4398046511104 then (r09_With.l1 k x0 x1 x2 x7 x8 (x9 ++ [(⟨(rd_T43 x0 x10).f0, x2⟩ : S43)]) x32 (wrap64 (x33 + 1))) else (none)) else (if x9.length < 4398046511104 then (r09_With.l1 k x0 x1 x2 x7 x8 (x9 ++ [(⟨(rd_T43 x0 x10).f0, (rd_T43 x0 x10).f1⟩ : S43)]) x32 (wrap64 (x33 + 1))) else (none))) else (none)) else (none))
def r09_With.l0 : Nat → List (S43) → ByteArray → ByteArray → Int → Int → Option ((List (S43)))
 | 0, _, _, _, _, _ => none
 | k + 1, x0, x1, x2, x7, x8 => if x8 < (x0.length : Int) then (if 0 ≤ x8 then ((r02_Compare.f k ((rd_T43 x0 x8).f0) x1).bind fun t150 => (if t150 ≤ 0 then (r09_With.l0 k x0 x1 x2 x7 (wrap64 (x8 + 1))) else (r09_With.j1 k x0 x1 x2 x7 x8))) else (none)) else (r09_With.j1 k x0 x1 x2 x7 x8)
end
def r09_With.f (k : Nat) (l0 : List (S43)) (a1 : ByteArray) (a2 : ByteArray) : Option ((List (S43))) := (r09_Find.f k l0 a1).bind fun t148 => (r09_With.l0 k l0 a1 a2 t148 0)
set_option maxHeartbeats 8000000 in
set_option maxRecDepth 100000 in
theorem r09_With.calls (k : Nat) (A0 : Option Addr) (c0 : Nat) (l0 : List (S43)) (a1 : ByteArray) (a2 : ByteArray) (r : List (S43)) (w : World) (hr0 : Kd.C k43 w A0 l0.length l0) (hc0 : l0.length ≤ c0) (h : r09_With.f k l0 a1 a2 = some r) :
  Calls Try.prog 19 #[.slice A0 l0.length c0, .string a1, .string a2] w fun e w' => ∃ v0_ : Value, e = .returned (v0_) ∧ Kd.R k43 43 w' w.heap.size (fun _ => True) v0_ r ∧ Below w.heap.size w w' := by
 have hu43 := Try.underlying43
 have HR0 := zk hr0
 have HC0 := zk hc0
 clear hr0 hc0
 have HB := zk (Below.refl w.heap.size w)
 have H : ((r09_Find.f k l0 a1).bind fun t148 => (r09_With.l0 k l0 a1 a2 t148 0)) = some r := h
 clear h
 replace H := Option.bind_eq_some_iff.mp H
 obtain ⟨t148, A40, H⟩ := H
 replace H : (r09_With.l0 k l0 a1 a2 t148 0) = some r := H
 have A4 := zk A40
 clear A40
 have HC5 := zk H
 clear H
 go_enter Try.func19, Try.ntmps19
 go_upto_block 0 with (first | ((with_reducible refine zgk (f := 26) rfl ?_); refine zgl (some 14) rfl rfl Try.func26 (by kernel_rfl) rfl #[.slice A0 l0.length c0, .string a1] rfl (by (try simp only [List.map_toArray, List.map_cons, List.map_nil]); first | done | rfl | (simp only [List.length_drop, List.length_take]; rfl)) ?_; (with_reducible refine (r09_Find.calls k _ _ l0 a1 t148 _ ?side1 ?side2 A4.out).mono ?_); (case side1 => repeat (first | exact HR0.out | (with_reducible refine Kd.C_alloc ?_ _) | (with_reducible refine Kd.C_drewN ?_ _) | (with_reducible refine Kd.C_drew ?_))); (case side2 => exact HC0.out); rintro e w' ⟨rfl, ⟨nd, rfl⟩⟩; refine ⟨_, rfl, ?_⟩))
 (try simp only [Act.put, List.setIfInBounds_toArray, List.set_cons_zero, List.set_cons_succ])
 go_cut [8] (fun v8 wc => ∃ (kq : Nat) (x8_4 : Int), v8 = .int .i64 x8_4 ∧ Aside0 (r09_With.j1 kq l0 a1 a2 t148 x8_4 = some r) ∧ Aside0 (kq ≤ k) ∧ Aside0 (Below w.heap.size w wc))
 case first =>
  have H := HC5.out; clear HC5; have H' := zk H; clear H; go_wp2
  go_loopg [8] k (fun kq v8 w' => ∃ (x8_1 : Int), v8 = .int .i64 x8_1 ∧ Aside0 (r09_With.l0 kq l0 a1 a2 t148 x8_1 = some r) ∧ Aside0 (kq ≤ k) ∧ Aside0 (Below w.heap.size w w'))
  case atStart => exact ⟨(0), (by first | rfl | (simp; done) | (simp [*]; done)), H', ⟨Nat.le_refl _⟩, ⟨by with_reducible repeat first | exact HB.out | apply zA | apply zN | apply zD⟩⟩
  case round =>
   clear H'; (try clear c1); (try clear c2); (try clear p2); obtain ⟨x8_1, rfl, HA, HK1, HB⟩ := hrel
   cases gk with
   | zero => exact absurd HA.out (by simp [r09_With.l0])
   | succ k1 =>
    have H := HA.out; clear HA; simp only [r09_With.l0] at H
    by_cases c6 : x8_1 < (l0.length : Int)
    ·
     rw [if_pos c6] at H; have c6b0 := decide_eq_true c6; clear c6
     (first | rw [c6b0] | (simp only [i64_w, i32_w]; rw [c6b0]) | skip)
     by_cases c7 : 0 ≤ x8_1
     ·
      rw [if_pos c7] at H; have c7b0 := decide_eq_true c7; clear c7; replace H := Option.bind_eq_some_iff.mp H; obtain ⟨t150, A80, H⟩ := H; replace H : (if t150 ≤ 0 then (r09_With.l0 k1 l0 a1 a2 t148 (wrap64 (x8_1 + 1))) else (r09_With.j1 k1 l0 a1 a2 t148 x8_1)) = some r := H; have A8 := zk A80; clear A80
      by_cases c9 : t150 ≤ 0
      ·
       rw [if_pos c9] at H; have c9b0 := decide_eq_true c9; clear c9; have H' := zk H; clear H; have p149 : 0 ≤ (x8_1 : Int) := zo (by assumption); have q149 : x8_1 < (l0.length : Int) := zo (by assumption); obtain ⟨ad149, e149, hx149_0, hx149_1⟩ := at_T43 HR0.out x8_1 p149 q149; cases e149; replace hx149_0 := zB HB hx149_0; replace hx149_1 := zB HB hx149_1; replace p149 := eq_true p149; replace q149 := eq_true q149
       go_wp2_with (first | (go_at_call 27; (with_reducible refine (r02_Compare.calls k1 ((rd_T43 l0 x8_1).f0) a1 t150 _ A8.out).mono ?_); rintro e w' ⟨rfl, ⟨nd, rfl⟩⟩))
       go_roundg k1
       case measure => have := HK1.out; omega
       case rel => exact ⟨(wrap64 (x8_1 + 1)), (by first | rfl | (simp; done) | (simp [*]; done)), H', ⟨by have := HK1.out; omega⟩, ⟨by with_reducible repeat first | exact HB.out | apply zA | apply zN | apply zD⟩⟩
      ·
       rw [if_neg c9] at H; have c9b0 := decide_eq_false c9; clear c9; have H' := zk H; clear H; have p149 : 0 ≤ (x8_1 : Int) := zo (by assumption); have q149 : x8_1 < (l0.length : Int) := zo (by assumption); obtain ⟨ad149, e149, hx149_0, hx149_1⟩ := at_T43 HR0.out x8_1 p149 q149; cases e149; replace hx149_0 := zB HB hx149_0; replace hx149_1 := zB HB hx149_1; replace p149 := eq_true p149; replace q149 := eq_true q149
       go_wp2_with (first | (go_at_call 27; (with_reducible refine (r02_Compare.calls k1 ((rd_T43 l0 x8_1).f0) a1 t150 _ A8.out).mono ?_); rintro e w' ⟨rfl, ⟨nd, rfl⟩⟩))
       go_meet
       case rel => exact ⟨_, (x8_1), (by first | rfl | (simp; done) | (simp [*]; done)), H', ⟨by have := HK1.out; first | omega | exact Nat.le_refl _⟩, ⟨by with_reducible repeat first | exact HB.out | apply zA | apply zN | apply zD⟩⟩
     ·
      rw [if_neg c7] at H; exact absurd H (by simp)
    ·
     rw [if_neg c6] at H; have c6b0 := decide_eq_false c6; clear c6
     (first | rw [c6b0] | (simp only [i64_w, i32_w]; rw [c6b0]) | skip)
     have H' := zk H; clear H; go_wp2
     go_meet
     case rel => exact ⟨_, (x8_1), (by first | rfl | (simp; done) | (simp [*]; done)), H', ⟨by have := HK1.out; first | omega | exact Nat.le_refl _⟩, ⟨by with_reducible repeat first | exact HB.out | apply zA | apply zN | apply zD⟩⟩
 case rest =>
  clear HC5; (try clear c1); (try clear p1); (try clear q1); (try clear hx1); (try clear c2); (try clear p2); (try clear c6); (try clear c6b0); (try clear p6); (try clear c7); (try clear c7b0); (try clear c9); (try clear c9b0); (try clear hx149_0); (try clear hx149_1); (try clear p149); (try clear p2); (try clear q149); obtain ⟨kq, x8_4, rfl, HA, HJ4, HB⟩ := hcut
  cases kq with
  | zero => exact absurd HA.out (by simp [r09_With.j1])
  | succ kj4 =>
   have H := HA.out; clear HA; simp only [r09_With.j1] at H; have H' := zk H; clear H; go_wp2
   go_loopg [9, 33] kj4 (fun kq v9 v33 w' => ∃ (x9_2 : List (S43)) (x33_2 : Int), v33 = .int .i64 x33_2 ∧ Aside0 (r09_With.l1 kq l0 a1 a2 t148 x8_4 x9_2 (l0.length : Int) x33_2 = some r) ∧ Aside0 (kq ≤ kj4) ∧ Aside0 (Kd.R k43 43 w' w.heap.size (fun _ => True) v9 x9_2) ∧ Aside0 (Below w.heap.size w w'))
   case atStart => exact ⟨(([] : List (S43))), (0), (by first | rfl | (simp; done) | (simp [*]; done)), H', ⟨Nat.le_refl _⟩, ⟨by first | exact Kd.R_nil _ _ _ _ _ | exact Kd.N_nil _ _ _ _ _ | exact Kd.V_nil _ _ _ _ _ | exact Kd.Q_nil _ _ _ _ _ | exact Kd.S_nil _ _ _ _ _⟩, ⟨by with_reducible repeat first | exact HB.out | apply zA | apply zN | apply zD⟩⟩
   case round =>
    clear H'; (try clear c1); (try clear p1); (try clear q1); (try clear hx1); (try clear c2); (try clear p2); (try clear c6); (try clear c6b0); (try clear p6); (try clear c7); (try clear c7b0); (try clear c9); (try clear c9b0); (try clear hx149_0); (try clear hx149_1); (try clear p1); (try clear p149); (try clear p2); (try clear p6); (try clear q1); (try clear q149); obtain ⟨x9_2, x33_2, rfl, HA, HK2, HO_9, HB⟩ := hrel
    cases gk with
    | zero => exact absurd HA.out (by simp [r09_With.l1])
    | succ k2 =>
     have H := HA.out; clear HA; simp only [r09_With.l1] at H
     by_cases c10 : x33_2 < (l0.length : Int)
     ·
      rw [if_pos c10] at H; have c10b0 := decide_eq_true c10; clear c10; have HC11 := zk H; clear H
      go_upto_region 9 with (fail)
      go_cut [42] (fun v42 wc => ∃ (kq : Nat) (x42_10 : Bool), v42 = .bool x42_10 ∧ Aside0 (r09_With.j3 kq l0 a1 a2 t148 x8_4 x9_2 x33_2 (l0.length : Int) x33_2 x42_10 = some r) ∧ Aside0 (kq ≤ k2) ∧ Aside0 (Kd.R k43 43 wc w.heap.size (fun _ => True) u9 x9_2) ∧ Aside0 (Below w.heap.size w wc))
      case first =>
       have H := HC11.out; clear HC11
       by_cases c12 : t148 < 0
       ·
        rw [if_pos c12] at H; have c12b0 := decide_eq_true c12; clear c12
        (first | rw [c12b0] | (simp only [i64_w, i32_w]; rw [c12b0]) | skip)
        have H' := zk H; clear H; go_wp2
        go_meet
        case rel => exact ⟨_, ((x33_2 == x8_4)), (by first | rfl | (simp; done) | (simp [*]; done)), H', ⟨by have := HJ4.out; have := HK2.out; first | omega | exact Nat.le_refl _⟩, ⟨by (with_reducible repeat (first | apply Kd.R_alloc | apply Kd.R_drewN | apply Kd.R_drew)); exact HO_9.out⟩, ⟨by with_reducible repeat first | exact HB.out | apply zA | apply zN | apply zD⟩⟩
       ·
        rw [if_neg c12] at H; have c12b0 := decide_eq_false c12; clear c12
        (first | rw [c12b0] | (simp only [i64_w, i32_w]; rw [c12b0]) | skip)
        have H' := zk H; clear H; go_wp2
        go_meet
        case rel => exact ⟨_, (false), (by first | rfl | (simp; done) | (simp [*]; done)), H', ⟨by have := HJ4.out; have := HK2.out; first | omega | exact Nat.le_refl _⟩, ⟨by (with_reducible repeat (first | apply Kd.R_alloc | apply Kd.R_drewN | apply Kd.R_drew)); exact HO_9.out⟩, ⟨by with_reducible repeat first | exact HB.out | apply zA | apply zN | apply zD⟩⟩
      case rest =>
       clear HC11; (try clear c1); (try clear p1); (try clear q1); (try clear hx1); (try clear c2); (try clear p2); (try clear c6); (try clear c6b0); (try clear p6); (try clear c7); (try clear c7b0); (try clear c9); (try clear c9b0); (try clear c10); (try clear c10b0); (try clear c12); (try clear c12b0); (try clear hx149_0); (try clear hx149_1); (try clear p1); (try clear p149); (try clear p2); (try clear p6); (try clear q1); (try clear q149); obtain ⟨kq, x42_10, rfl, HA, HJ10, HO_9, HB⟩ := hcut
       cases kq with
       | zero => exact absurd HA.out (by simp [r09_With.j3])
       | succ kj10 =>
        have H := HA.out; clear HA; simp only [r09_With.j3] at H
        by_cases c13 : x42_10 = true
        ·
         subst c13
         have H1 : (if x9_2.length < 4398046511104 then ((some (x9_2 ++ [(⟨a1, a2⟩ : S43)] : List (S43))).bind fun y154 => (if 0 ≤ x33_2 then (if x33_2 < (l0.length : Int) then (if x33_2 = t148 then (if y154.length < 4398046511104 then (r09_With.l1 kj10 l0 a1 a2 t148 x8_4 (y154 ++ [(⟨(rd_T43 l0 x33_2).f0, a2⟩ : S43)]) (l0.length : Int) (wrap64 (x33_2 + 1))) else (none)) else (if y154.length < 4398046511104 then (r09_With.l1 kj10 l0 a1 a2 t148 x8_4 (y154 ++ [(⟨(rd_T43 l0 x33_2).f0, (rd_T43 l0 x33_2).f1⟩ : S43)]) (l0.length : Int) (wrap64 (x33_2 + 1))) else (none))) else (none)) else (none))) else (none)) = some r := by rw [if_pos rfl] at H; exact H
         clear H; have H := H1; clear H1
         by_cases c14 : x9_2.length < 4398046511104
         ·
          rw [if_pos c14] at H; have LMc14 := zk c14; clear c14; obtain ⟨y154, hy154⟩ : ∃ y_ : List (S43), y_ = (x9_2 ++ [(⟨a1, a2⟩ : S43)]) := ⟨_, rfl⟩
          replace H : (if 0 ≤ x33_2 then (if x33_2 < (l0.length : Int) then (if x33_2 = t148 then (if y154.length < 4398046511104 then (r09_With.l1 kj10 l0 a1 a2 t148 x8_4 (y154 ++ [(⟨(rd_T43 l0 x33_2).f0, a2⟩ : S43)]) (l0.length : Int) (wrap64 (x33_2 + 1))) else (none)) else (if y154.length < 4398046511104 then (r09_With.l1 kj10 l0 a1 a2 t148 x8_4 (y154 ++ [(⟨(rd_T43 l0 x33_2).f0, (rd_T43 l0 x33_2).f1⟩ : S43)]) (l0.length : Int) (wrap64 (x33_2 + 1))) else (none))) else (none)) else (none)) = some r := by first | (rw [hy154]; with_reducible exact H) | (have H2_ := (Option.bind_some _ _).symm.trans H; rw [hy154]; with_reducible exact H2_) | (have H2_ := (Option.bind_some _ _).symm.trans H; with_reducible exact H2_) | with_reducible exact H | (rw [hy154]; exact H) | exact H
          have Ny154 := zk hy154; clear hy154
          by_cases c15 : 0 ≤ x33_2
          ·
           rw [if_pos c15] at H; have c15b0 := decide_eq_true c15; clear c15
           by_cases c16 : x33_2 < (l0.length : Int)
           ·
            rw [if_pos c16] at H; have c16b0 := decide_eq_true c16; clear c16
            by_cases c17 : x33_2 = t148
            ·
             rw [if_pos c17] at H; have c17b0 := beq_iff_eq.mpr c17; have c17b1 := bne_eq_false_iff_eq.mpr c17; clear c17
             by_cases c18 : y154.length < 4398046511104
             ·
              rw [if_pos c18] at H; have LMc18 := zk c18; clear c18; obtain ⟨y159, hy159⟩ : ∃ y_ : List (S43), y_ = (y154 ++ [(⟨(rd_T43 l0 x33_2).f0, a2⟩ : S43)]) := ⟨_, rfl⟩
              replace H : (r09_With.l1 kj10 l0 a1 a2 t148 x8_4 y159 (l0.length : Int) (wrap64 (x33_2 + 1))) = some r := by first | (rw [hy159]; with_reducible exact H) | (have H2_ := (Option.bind_some _ _).symm.trans H; rw [hy159]; with_reducible exact H2_) | (have H2_ := (Option.bind_some _ _).symm.trans H; with_reducible exact H2_) | with_reducible exact H | (rw [hy159]; exact H) | exact H
              have Ny159 := zk hy159; clear hy159; have H' := zk H; clear H
              go_wp2_with (first | ((with_reducible refine zgn (b := .append) (xs := #[.tmp 43, .tmp 47]) rfl ?_); (try (refine zgg (by rfl) ?_; dsimp only)); at_builtin; refine Kd.R_append k43 (w0 := w) w.heap.size rfl (.tmp 43) (.tmp 47) 22 43 (.agg #[(.string ⟨#[]⟩), (.string ⟨#[]⟩)]) 32 rfl Try.underlying22 info43 rfl (by decide) (by omega) u9 x9_2 (⟨a1, a2⟩ : S43) [.string a1, .string a2] (fun _ => True) (fun _ => False) rfl rfl ?aP (fun _ hk => hk.elim) ?aF ?aO ?aB ?aS ?aL ?_; (case aP => exact k43_mkM _ _ _ (⟨a1, a2⟩ : S43)); (case aB => exact (by with_reducible repeat first | exact HB.out | apply zA | apply zN | apply zD)); (case aF => exact (fun _ _ => trivial)); (case aO => exact (by (with_reducible repeat (first | apply Kd.R_alloc | apply Kd.R_drewN | apply Kd.R_drew)); exact HO_9.out)); (case aS => exact (zq (by with_reducible repeat first | exact HB.out | apply zA | apply zN | apply zD))); (case aL => have := LMc14.out; omega); intro v155 w19 ho hb hg hat; rw [← Ny154.out] at ho; have n0_ := zk (hb); have n1_ := zk (ho); clear HB; clear HO_9; have HB := n0_; have HO156 := n1_; clear n0_ n1_; clear ho hb hg hat; have p157 : 0 ≤ (x33_2 : Int) := zo (by assumption); have q157 : x33_2 < (l0.length : Int) := zo (by assumption); obtain ⟨ad157, e157, hx157_0, hx157_1⟩ := at_T43 HR0.out x33_2 p157 q157; cases e157; replace hx157_0 := zB HB hx157_0; replace hx157_1 := zB HB hx157_1; replace p157 := eq_true p157; replace q157 := eq_true q157) | ((with_reducible refine zgd (N := 11) rfl ?_); (try (refine zgg (by rfl) ?_; dsimp only)); refine zb ?hg (N := 11) ?hd (cs := #[.string ⟨#[]⟩, .string ⟨#[]⟩]) (t := 43) ?hr ?_; (case hd => rfl); (case hg => rfl); (case hr => go_simp; first | done | rfl); intro gb158 hg w20 hbox hb; have n0_ := zk (Kd.R_below (Kd.R_elderB (by (with_reducible repeat (first | apply Kd.R_alloc | apply Kd.R_drewN | apply Kd.R_drew)); exact HO156.out) gb158 (Nat.le_of_eq hg.symm)) hb); have n1_ := zk (zs (by with_reducible repeat first | exact HB.out | apply zA | apply zN | apply zD) hb); have n2_ := zk (hbox); have n3_ := zk ((by rw [hg]; exact (zq (by with_reducible repeat first | exact HB.out | apply zA | apply zN | apply zD)) : w.heap.size ≤ gb158)); have n4_ := n3_; clear HO156; clear HB; have HO156 := n0_; have HB := n1_; have BK158 := n2_; have GW158 := n3_; have GE158 := n4_; clear n0_ n1_ n2_ n3_ n4_; clear hb hbox hg; obtain ⟨hcz21_0, hcz21_1, hfz21_0, hfz21_1⟩ := zc2 BK158.out) | ((with_reducible refine zgn (b := .append) (xs := #[.tmp 58, .tmp 60]) rfl ?_); (try (refine zgg (by rfl) ?_; dsimp only)); at_builtin; refine Kd.R_append k43 (w0 := w) w.heap.size rfl (.tmp 58) (.tmp 60) 22 43 (.agg #[(.string ⟨#[]⟩), (.string ⟨#[]⟩)]) 32 rfl Try.underlying22 info43 rfl (by decide) (by omega) v155 y154 (⟨(rd_T43 l0 x33_2).f0, a2⟩ : S43) [.string ((rd_T43 l0 x33_2).f0), .string a2] (fun k_ => k_ ≠ gb158) (fun _ => False) rfl (by first | (go_simp; done) | (go_simp; rfl)) ?aP (fun _ hk => hk.elim) ?aF ?aO ?aB ?aS ?aL ?_; (case aP => exact k43_mkM _ _ _ (⟨(rd_T43 l0 x33_2).f0, a2⟩ : S43)); (case aB => exact (by with_reducible repeat first | exact HB.out | apply zA | apply zN | apply zD | refine zS ?_ GE158.out)); (case aF => exact (fun k_ hk => Kd.freshB (g := gb158) (o := .cells #[.string ((rd_T43 l0 x33_2).f0), .string a2] 43 (0, 0)) (by (with_reducible repeat first | apply zM | apply zE | apply zF); refine zP (cs := #[.string ((rd_T43 l0 x33_2).f0), .string ((rd_T43 l0 x33_2).f1)]) ?_ 1 _ rfl; (with_reducible repeat first | apply zM | apply zE | apply zF); refine zP (cs := #[.string ((rd_T43 l0 x33_2).f0), .string ⟨#[]⟩]) ?_ 1 _ rfl; (with_reducible repeat first | apply zM | apply zE | apply zF); refine zP (cs := #[.string ⟨#[]⟩, .string ⟨#[]⟩]) ?_ 0 _ rfl; (with_reducible repeat first | apply zM | apply zE | apply zF); exact BK158.out) k_ hk)); (case aO => exact (by (with_reducible repeat (first | apply Kd.R_alloc | apply Kd.R_drewN | apply Kd.R_drew)); exact Kd.R_mono (Kd.R_far (p := ⟨gb158, 1, none⟩) (Kd.R_far (p := ⟨gb158, 1, none⟩) (Kd.R_far (p := ⟨gb158, 0, none⟩) (Kd.R_mono HO156.out (fun k_ hk => (⟨hk, hk.2⟩ : _ ∧ k_ ≠ gb158))) (fun _ hk => hk.2) (.string ((rd_T43 l0 x33_2).f0))) (fun _ hk => hk.2) (.string ((rd_T43 l0 x33_2).f1))) (fun _ hk => hk.2) (.string a2)) (fun _ hk => hk.1.2))); (case aS => exact (zq (by with_reducible repeat first | exact HB.out | apply zA | apply zN | apply zD | refine zS ?_ GE158.out))); (case aL => have := LMc18.out; omega); intro v160 w22 ho hb hg hat; rw [← Ny159.out] at ho; have n0_ := zk (blk_grown (g := gb158) (o := .cells #[.string ((rd_T43 l0 x33_2).f0), .string a2] 43 (0, 0)) (by (with_reducible repeat first | apply zM | apply zE | apply zF); refine zP (cs := #[.string ((rd_T43 l0 x33_2).f0), .string ((rd_T43 l0 x33_2).f1)]) ?_ 1 _ rfl; (with_reducible repeat first | apply zM | apply zE | apply zF); refine zP (cs := #[.string ((rd_T43 l0 x33_2).f0), .string ⟨#[]⟩]) ?_ 1 _ rfl; (with_reducible repeat first | apply zM | apply zE | apply zF); refine zP (cs := #[.string ⟨#[]⟩, .string ⟨#[]⟩]) ?_ 0 _ rfl; (with_reducible repeat first | apply zM | apply zE | apply zF); exact BK158.out) hg (Kd.R_away HO156.out (fun _ hk => hk.2))); have n1_ := zk (hb); have n2_ := zk (ho); clear BK158; clear HB; clear HO156; have BK158 := n0_; have HB := n1_; have HO161 := n2_; clear n0_ n1_ n2_; clear ho hb hg hat))
              go_roundg kj10
              case measure => have := HJ4.out; have := HK2.out; have := HJ10.out; omega
              case rel => exact ⟨(y159), (wrap64 (x33_2 + 1)), (by first | rfl | (simp; done) | (simp [*]; done)), H', ⟨by have := HJ4.out; have := HK2.out; have := HJ10.out; omega⟩, ⟨by (with_reducible repeat (first | apply Kd.R_alloc | apply Kd.R_drewN | apply Kd.R_drew)); exact Kd.R_mono HO161.out (fun _ hk => trivial)⟩, ⟨by with_reducible repeat first | exact HB.out | apply zA | apply zN | apply zD | refine zS ?_ GE158.out⟩⟩
             ·
              rw [if_neg c18] at H; exact absurd H (by simp)
            ·
             rw [if_neg c17] at H; have c17b0 := beq_eq_false_iff_ne.mpr c17; have c17b1 := bne_iff_ne.mpr c17
             by_cases c23 : y154.length < 4398046511104
             ·
              rw [if_pos c23] at H; have LMc23 := zk c23; clear c23; obtain ⟨y162, hy162⟩ : ∃ y_ : List (S43), y_ = (y154 ++ [(⟨(rd_T43 l0 x33_2).f0, (rd_T43 l0 x33_2).f1⟩ : S43)]) := ⟨_, rfl⟩
              replace H : (r09_With.l1 kj10 l0 a1 a2 t148 x8_4 y162 (l0.length : Int) (wrap64 (x33_2 + 1))) = some r := by first | (rw [hy162]; with_reducible exact H) | (have H2_ := (Option.bind_some _ _).symm.trans H; rw [hy162]; with_reducible exact H2_) | (have H2_ := (Option.bind_some _ _).symm.trans H; with_reducible exact H2_) | with_reducible exact H | (rw [hy162]; exact H) | exact H
              have Ny162 := zk hy162; clear hy162; have H' := zk H; clear H
              go_wp2_with (first | ((with_reducible refine zgn (b := .append) (xs := #[.tmp 43, .tmp 47]) rfl ?_); (try (refine zgg (by rfl) ?_; dsimp only)); at_builtin; refine Kd.R_append k43 (w0 := w) w.heap.size rfl (.tmp 43) (.tmp 47) 22 43 (.agg #[(.string ⟨#[]⟩), (.string ⟨#[]⟩)]) 32 rfl Try.underlying22 info43 rfl (by decide) (by omega) u9 x9_2 (⟨a1, a2⟩ : S43) [.string a1, .string a2] (fun _ => True) (fun _ => False) rfl rfl ?aP (fun _ hk => hk.elim) ?aF ?aO ?aB ?aS ?aL ?_; (case aP => exact k43_mkM _ _ _ (⟨a1, a2⟩ : S43)); (case aB => exact (by with_reducible repeat first | exact HB.out | apply zA | apply zN | apply zD)); (case aF => exact (fun _ _ => trivial)); (case aO => exact (by (with_reducible repeat (first | apply Kd.R_alloc | apply Kd.R_drewN | apply Kd.R_drew)); exact HO_9.out)); (case aS => exact (zq (by with_reducible repeat first | exact HB.out | apply zA | apply zN | apply zD))); (case aL => have := LMc14.out; omega); intro v155 w24 ho hb hg hat; rw [← Ny154.out] at ho; have n0_ := zk (hb); have n1_ := zk (ho); clear HB; clear HO_9; have HB := n0_; have HO156 := n1_; clear n0_ n1_; clear ho hb hg hat; have p157 : 0 ≤ (x33_2 : Int) := zo (by assumption); have q157 : x33_2 < (l0.length : Int) := zo (by assumption); obtain ⟨ad157, e157, hx157_0, hx157_1⟩ := at_T43 HR0.out x33_2 p157 q157; cases e157; replace hx157_0 := zB HB hx157_0; replace hx157_1 := zB HB hx157_1; replace p157 := eq_true p157; replace q157 := eq_true q157) | ((with_reducible refine zgd (N := 11) rfl ?_); (try (refine zgg (by rfl) ?_; dsimp only)); refine zb ?hg (N := 11) ?hd (cs := #[.string ⟨#[]⟩, .string ⟨#[]⟩]) (t := 43) ?hr ?_; (case hd => rfl); (case hg => rfl); (case hr => go_simp; first | done | rfl); intro gb158 hg w25 hbox hb; have n0_ := zk (Kd.R_below (Kd.R_elderB (by (with_reducible repeat (first | apply Kd.R_alloc | apply Kd.R_drewN | apply Kd.R_drew)); exact HO156.out) gb158 (Nat.le_of_eq hg.symm)) hb); have n1_ := zk (zs (by with_reducible repeat first | exact HB.out | apply zA | apply zN | apply zD) hb); have n2_ := zk (hbox); have n3_ := zk ((by rw [hg]; exact (zq (by with_reducible repeat first | exact HB.out | apply zA | apply zN | apply zD)) : w.heap.size ≤ gb158)); have n4_ := n3_; clear HO156; clear HB; have HO156 := n0_; have HB := n1_; have BK158 := n2_; have GW158 := n3_; have GE158 := n4_; clear n0_ n1_ n2_ n3_ n4_; clear hb hbox hg; obtain ⟨hcz26_0, hcz26_1, hfz26_0, hfz26_1⟩ := zc2 BK158.out) | ((with_reducible refine zgn (b := .append) (xs := #[.tmp 58, .tmp 60]) rfl ?_); (try (refine zgg (by rfl) ?_; dsimp only)); at_builtin; refine Kd.R_append k43 (w0 := w) w.heap.size rfl (.tmp 58) (.tmp 60) 22 43 (.agg #[(.string ⟨#[]⟩), (.string ⟨#[]⟩)]) 32 rfl Try.underlying22 info43 rfl (by decide) (by omega) v155 y154 (⟨(rd_T43 l0 x33_2).f0, (rd_T43 l0 x33_2).f1⟩ : S43) [.string ((rd_T43 l0 x33_2).f0), .string ((rd_T43 l0 x33_2).f1)] (fun k_ => k_ ≠ gb158) (fun _ => False) rfl (by first | (go_simp; done) | (go_simp; rfl)) ?aP (fun _ hk => hk.elim) ?aF ?aO ?aB ?aS ?aL ?_; (case aP => exact k43_mkM _ _ _ (⟨(rd_T43 l0 x33_2).f0, (rd_T43 l0 x33_2).f1⟩ : S43)); (case aB => exact (by with_reducible repeat first | exact HB.out | apply zA | apply zN | apply zD | refine zS ?_ GE158.out)); (case aF => exact (fun k_ hk => Kd.freshB (g := gb158) (o := .cells #[.string ((rd_T43 l0 x33_2).f0), .string ((rd_T43 l0 x33_2).f1)] 43 (0, 0)) (by (with_reducible repeat first | apply zM | apply zE | apply zF); refine zP (cs := #[.string ((rd_T43 l0 x33_2).f0), .string ⟨#[]⟩]) ?_ 1 _ rfl; (with_reducible repeat first | apply zM | apply zE | apply zF); refine zP (cs := #[.string ⟨#[]⟩, .string ⟨#[]⟩]) ?_ 0 _ rfl; (with_reducible repeat first | apply zM | apply zE | apply zF); exact BK158.out) k_ hk)); (case aO => exact (by (with_reducible repeat (first | apply Kd.R_alloc | apply Kd.R_drewN | apply Kd.R_drew)); exact Kd.R_mono (Kd.R_far (p := ⟨gb158, 1, none⟩) (Kd.R_far (p := ⟨gb158, 0, none⟩) (Kd.R_mono HO156.out (fun k_ hk => (⟨hk, hk.2⟩ : _ ∧ k_ ≠ gb158))) (fun _ hk => hk.2) (.string ((rd_T43 l0 x33_2).f0))) (fun _ hk => hk.2) (.string ((rd_T43 l0 x33_2).f1))) (fun _ hk => hk.1.2))); (case aS => exact (zq (by with_reducible repeat first | exact HB.out | apply zA | apply zN | apply zD | refine zS ?_ GE158.out))); (case aL => have := LMc23.out; omega); intro v163 w27 ho hb hg hat; rw [← Ny162.out] at ho; have n0_ := zk (blk_grown (g := gb158) (o := .cells #[.string ((rd_T43 l0 x33_2).f0), .string ((rd_T43 l0 x33_2).f1)] 43 (0, 0)) (by (with_reducible repeat first | apply zM | apply zE | apply zF); refine zP (cs := #[.string ((rd_T43 l0 x33_2).f0), .string ⟨#[]⟩]) ?_ 1 _ rfl; (with_reducible repeat first | apply zM | apply zE | apply zF); refine zP (cs := #[.string ⟨#[]⟩, .string ⟨#[]⟩]) ?_ 0 _ rfl; (with_reducible repeat first | apply zM | apply zE | apply zF); exact BK158.out) hg (Kd.R_away HO156.out (fun _ hk => hk.2))); have n1_ := zk (hb); have n2_ := zk (ho); clear BK158; clear HB; clear HO156; have BK158 := n0_; have HB := n1_; have HO164 := n2_; clear n0_ n1_ n2_; clear ho hb hg hat))
              go_roundg kj10
              case measure => have := HJ4.out; have := HK2.out; have := HJ10.out; omega
              case rel => exact ⟨(y162), (wrap64 (x33_2 + 1)), (by first | rfl | (simp; done) | (simp [*]; done)), H', ⟨by have := HJ4.out; have := HK2.out; have := HJ10.out; omega⟩, ⟨by (with_reducible repeat (first | apply Kd.R_alloc | apply Kd.R_drewN | apply Kd.R_drew)); exact Kd.R_mono HO164.out (fun _ hk => trivial)⟩, ⟨by with_reducible repeat first | exact HB.out | apply zA | apply zN | apply zD | refine zS ?_ GE158.out⟩⟩
             ·
              rw [if_neg c23] at H; exact absurd H (by simp)
           ·
            rw [if_neg c16] at H; exact absurd H (by simp)
          ·
           rw [if_neg c15] at H; exact absurd H (by simp)
         ·
          rw [if_neg c14] at H; exact absurd H (by simp)
        ·
         replace c13 := Bool.eq_false_iff.mpr c13; subst c13
         have H1 : (if 0 ≤ x33_2 then (if x33_2 < (l0.length : Int) then (if x33_2 = t148 then (if x9_2.length < 4398046511104 then (r09_With.l1 kj10 l0 a1 a2 t148 x8_4 (x9_2 ++ [(⟨(rd_T43 l0 x33_2).f0, a2⟩ : S43)]) (l0.length : Int) (wrap64 (x33_2 + 1))) else (none)) else (if x9_2.length < 4398046511104 then (r09_With.l1 kj10 l0 a1 a2 t148 x8_4 (x9_2 ++ [(⟨(rd_T43 l0 x33_2).f0, (rd_T43 l0 x33_2).f1⟩ : S43)]) (l0.length : Int) (wrap64 (x33_2 + 1))) else (none))) else (none)) else (none)) = some r := by rw [if_neg (show ¬ (false = true) by decide)] at H; exact H
         clear H; have H := H1; clear H1
         by_cases c28 : 0 ≤ x33_2
         ·
          rw [if_pos c28] at H; have c28b0 := decide_eq_true c28; clear c28
          by_cases c29 : x33_2 < (l0.length : Int)
          ·
           rw [if_pos c29] at H; have c29b0 := decide_eq_true c29; clear c29
           by_cases c30 : x33_2 = t148
           ·
            rw [if_pos c30] at H; have c30b0 := beq_iff_eq.mpr c30; have c30b1 := bne_eq_false_iff_eq.mpr c30; clear c30
            by_cases c31 : x9_2.length < 4398046511104
            ·
             rw [if_pos c31] at H; have LMc31 := zk c31; clear c31; obtain ⟨y167, hy167⟩ : ∃ y_ : List (S43), y_ = (x9_2 ++ [(⟨(rd_T43 l0 x33_2).f0, a2⟩ : S43)]) := ⟨_, rfl⟩
             replace H : (r09_With.l1 kj10 l0 a1 a2 t148 x8_4 y167 (l0.length : Int) (wrap64 (x33_2 + 1))) = some r := by first | (rw [hy167]; with_reducible exact H) | (have H2_ := (Option.bind_some _ _).symm.trans H; rw [hy167]; with_reducible exact H2_) | (have H2_ := (Option.bind_some _ _).symm.trans H; with_reducible exact H2_) | with_reducible exact H | (rw [hy167]; exact H) | exact H
             have Ny167 := zk hy167; clear hy167; have H' := zk H; clear H; have p165 : 0 ≤ (x33_2 : Int) := zo (by assumption); have q165 : x33_2 < (l0.length : Int) := zo (by assumption); obtain ⟨ad165, e165, hx165_0, hx165_1⟩ := at_T43 HR0.out x33_2 p165 q165; cases e165; replace hx165_0 := zB HB hx165_0; replace hx165_1 := zB HB hx165_1; replace p165 := eq_true p165; replace q165 := eq_true q165
             go_wp2_with (first | ((with_reducible refine zgd (N := 11) rfl ?_); (try (refine zgg (by rfl) ?_; dsimp only)); refine zb ?hg (N := 11) ?hd (cs := #[.string ⟨#[]⟩, .string ⟨#[]⟩]) (t := 43) ?hr ?_; (case hd => rfl); (case hg => rfl); (case hr => go_simp; first | done | rfl); intro gb166 hg w32 hbox hb; have n0_ := zk (Kd.R_below (Kd.R_elderB (by (with_reducible repeat (first | apply Kd.R_alloc | apply Kd.R_drewN | apply Kd.R_drew)); exact HO_9.out) gb166 (Nat.le_of_eq hg.symm)) hb); have n1_ := zk (zs (by with_reducible repeat first | exact HB.out | apply zA | apply zN | apply zD) hb); have n2_ := zk (hbox); have n3_ := zk ((by rw [hg]; exact (zq (by with_reducible repeat first | exact HB.out | apply zA | apply zN | apply zD)) : w.heap.size ≤ gb166)); have n4_ := n3_; clear HO_9; clear HB; have HO_9 := n0_; have HB := n1_; have BK166 := n2_; have GW166 := n3_; have GE166 := n4_; clear n0_ n1_ n2_ n3_ n4_; clear hb hbox hg; obtain ⟨hcz33_0, hcz33_1, hfz33_0, hfz33_1⟩ := zc2 BK166.out) | ((with_reducible refine zgn (b := .append) (xs := #[.tmp 58, .tmp 60]) rfl ?_); (try (refine zgg (by rfl) ?_; dsimp only)); at_builtin; refine Kd.R_append k43 (w0 := w) w.heap.size rfl (.tmp 58) (.tmp 60) 22 43 (.agg #[(.string ⟨#[]⟩), (.string ⟨#[]⟩)]) 32 rfl Try.underlying22 info43 rfl (by decide) (by omega) u9 x9_2 (⟨(rd_T43 l0 x33_2).f0, a2⟩ : S43) [.string ((rd_T43 l0 x33_2).f0), .string a2] (fun k_ => k_ ≠ gb166) (fun _ => False) rfl (by first | (go_simp; done) | (go_simp; rfl)) ?aP (fun _ hk => hk.elim) ?aF ?aO ?aB ?aS ?aL ?_; (case aP => exact k43_mkM _ _ _ (⟨(rd_T43 l0 x33_2).f0, a2⟩ : S43)); (case aB => exact (by with_reducible repeat first | exact HB.out | apply zA | apply zN | apply zD | refine zS ?_ GE166.out)); (case aF => exact (fun k_ hk => Kd.freshB (g := gb166) (o := .cells #[.string ((rd_T43 l0 x33_2).f0), .string a2] 43 (0, 0)) (by (with_reducible repeat first | apply zM | apply zE | apply zF); refine zP (cs := #[.string ((rd_T43 l0 x33_2).f0), .string ((rd_T43 l0 x33_2).f1)]) ?_ 1 _ rfl; (with_reducible repeat first | apply zM | apply zE | apply zF); refine zP (cs := #[.string ((rd_T43 l0 x33_2).f0), .string ⟨#[]⟩]) ?_ 1 _ rfl; (with_reducible repeat first | apply zM | apply zE | apply zF); refine zP (cs := #[.string ⟨#[]⟩, .string ⟨#[]⟩]) ?_ 0 _ rfl; (with_reducible repeat first | apply zM | apply zE | apply zF); exact BK166.out) k_ hk)); (case aO => exact (by (with_reducible repeat (first | apply Kd.R_alloc | apply Kd.R_drewN | apply Kd.R_drew)); exact Kd.R_mono (Kd.R_far (p := ⟨gb166, 1, none⟩) (Kd.R_far (p := ⟨gb166, 1, none⟩) (Kd.R_far (p := ⟨gb166, 0, none⟩) (Kd.R_mono HO_9.out (fun k_ hk => (⟨hk, hk.2⟩ : _ ∧ k_ ≠ gb166))) (fun _ hk => hk.2) (.string ((rd_T43 l0 x33_2).f0))) (fun _ hk => hk.2) (.string ((rd_T43 l0 x33_2).f1))) (fun _ hk => hk.2) (.string a2)) (fun _ hk => hk.1.2))); (case aS => exact (zq (by with_reducible repeat first | exact HB.out | apply zA | apply zN | apply zD | refine zS ?_ GE166.out))); (case aL => have := LMc31.out; omega); intro v168 w34 ho hb hg hat; rw [← Ny167.out] at ho; have n0_ := zk (blk_grown (g := gb166) (o := .cells #[.string ((rd_T43 l0 x33_2).f0), .string a2] 43 (0, 0)) (by (with_reducible repeat first | apply zM | apply zE | apply zF); refine zP (cs := #[.string ((rd_T43 l0 x33_2).f0), .string ((rd_T43 l0 x33_2).f1)]) ?_ 1 _ rfl; (with_reducible repeat first | apply zM | apply zE | apply zF); refine zP (cs := #[.string ((rd_T43 l0 x33_2).f0), .string ⟨#[]⟩]) ?_ 1 _ rfl; (with_reducible repeat first | apply zM | apply zE | apply zF); refine zP (cs := #[.string ⟨#[]⟩, .string ⟨#[]⟩]) ?_ 0 _ rfl; (with_reducible repeat first | apply zM | apply zE | apply zF); exact BK166.out) hg (Kd.R_away HO_9.out (fun _ hk => hk.2))); have n1_ := zk (hb); have n2_ := zk (ho); clear BK166; clear HB; clear HO_9; have BK166 := n0_; have HB := n1_; have HO169 := n2_; clear n0_ n1_ n2_; clear ho hb hg hat))
             go_roundg kj10
             case measure => have := HJ4.out; have := HK2.out; have := HJ10.out; omega
             case rel => exact ⟨(y167), (wrap64 (x33_2 + 1)), (by first | rfl | (simp; done) | (simp [*]; done)), H', ⟨by have := HJ4.out; have := HK2.out; have := HJ10.out; omega⟩, ⟨by (with_reducible repeat (first | apply Kd.R_alloc | apply Kd.R_drewN | apply Kd.R_drew)); exact Kd.R_mono HO169.out (fun _ hk => trivial)⟩, ⟨by with_reducible repeat first | exact HB.out | apply zA | apply zN | apply zD | refine zS ?_ GE166.out⟩⟩
            ·
             rw [if_neg c31] at H; exact absurd H (by simp)
           ·
            rw [if_neg c30] at H; have c30b0 := beq_eq_false_iff_ne.mpr c30; have c30b1 := bne_iff_ne.mpr c30
            by_cases c35 : x9_2.length < 4398046511104
            ·
             rw [if_pos c35] at H; have LMc35 := zk c35; clear c35; obtain ⟨y170, hy170⟩ : ∃ y_ : List (S43), y_ = (x9_2 ++ [(⟨(rd_T43 l0 x33_2).f0, (rd_T43 l0 x33_2).f1⟩ : S43)]) := ⟨_, rfl⟩
             replace H : (r09_With.l1 kj10 l0 a1 a2 t148 x8_4 y170 (l0.length : Int) (wrap64 (x33_2 + 1))) = some r := by first | (rw [hy170]; with_reducible exact H) | (have H2_ := (Option.bind_some _ _).symm.trans H; rw [hy170]; with_reducible exact H2_) | (have H2_ := (Option.bind_some _ _).symm.trans H; with_reducible exact H2_) | with_reducible exact H | (rw [hy170]; exact H) | exact H
             have Ny170 := zk hy170; clear hy170; have H' := zk H; clear H; have p165 : 0 ≤ (x33_2 : Int) := zo (by assumption); have q165 : x33_2 < (l0.length : Int) := zo (by assumption); obtain ⟨ad165, e165, hx165_0, hx165_1⟩ := at_T43 HR0.out x33_2 p165 q165; cases e165; replace hx165_0 := zB HB hx165_0; replace hx165_1 := zB HB hx165_1; replace p165 := eq_true p165; replace q165 := eq_true q165
             go_wp2_with (first | ((with_reducible refine zgd (N := 11) rfl ?_); (try (refine zgg (by rfl) ?_; dsimp only)); refine zb ?hg (N := 11) ?hd (cs := #[.string ⟨#[]⟩, .string ⟨#[]⟩]) (t := 43) ?hr ?_; (case hd => rfl); (case hg => rfl); (case hr => go_simp; first | done | rfl); intro gb166 hg w36 hbox hb; have n0_ := zk (Kd.R_below (Kd.R_elderB (by (with_reducible repeat (first | apply Kd.R_alloc | apply Kd.R_drewN | apply Kd.R_drew)); exact HO_9.out) gb166 (Nat.le_of_eq hg.symm)) hb); have n1_ := zk (zs (by with_reducible repeat first | exact HB.out | apply zA | apply zN | apply zD) hb); have n2_ := zk (hbox); have n3_ := zk ((by rw [hg]; exact (zq (by with_reducible repeat first | exact HB.out | apply zA | apply zN | apply zD)) : w.heap.size ≤ gb166)); have n4_ := n3_; clear HO_9; clear HB; have HO_9 := n0_; have HB := n1_; have BK166 := n2_; have GW166 := n3_; have GE166 := n4_; clear n0_ n1_ n2_ n3_ n4_; clear hb hbox hg; obtain ⟨hcz37_0, hcz37_1, hfz37_0, hfz37_1⟩ := zc2 BK166.out) | ((with_reducible refine zgn (b := .append) (xs := #[.tmp 58, .tmp 60]) rfl ?_); (try (refine zgg (by rfl) ?_; dsimp only)); at_builtin; refine Kd.R_append k43 (w0 := w) w.heap.size rfl (.tmp 58) (.tmp 60) 22 43 (.agg #[(.string ⟨#[]⟩), (.string ⟨#[]⟩)]) 32 rfl Try.underlying22 info43 rfl (by decide) (by omega) u9 x9_2 (⟨(rd_T43 l0 x33_2).f0, (rd_T43 l0 x33_2).f1⟩ : S43) [.string ((rd_T43 l0 x33_2).f0), .string ((rd_T43 l0 x33_2).f1)] (fun k_ => k_ ≠ gb166) (fun _ => False) rfl (by first | (go_simp; done) | (go_simp; rfl)) ?aP (fun _ hk => hk.elim) ?aF ?aO ?aB ?aS ?aL ?_; (case aP => exact k43_mkM _ _ _ (⟨(rd_T43 l0 x33_2).f0, (rd_T43 l0 x33_2).f1⟩ : S43)); (case aB => exact (by with_reducible repeat first | exact HB.out | apply zA | apply zN | apply zD | refine zS ?_ GE166.out)); (case aF => exact (fun k_ hk => Kd.freshB (g := gb166) (o := .cells #[.string ((rd_T43 l0 x33_2).f0), .string ((rd_T43 l0 x33_2).f1)] 43 (0, 0)) (by (with_reducible repeat first | apply zM | apply zE | apply zF); refine zP (cs := #[.string ((rd_T43 l0 x33_2).f0), .string ⟨#[]⟩]) ?_ 1 _ rfl; (with_reducible repeat first | apply zM | apply zE | apply zF); refine zP (cs := #[.string ⟨#[]⟩, .string ⟨#[]⟩]) ?_ 0 _ rfl; (with_reducible repeat first | apply zM | apply zE | apply zF); exact BK166.out) k_ hk)); (case aO => exact (by (with_reducible repeat (first | apply Kd.R_alloc | apply Kd.R_drewN | apply Kd.R_drew)); exact Kd.R_mono (Kd.R_far (p := ⟨gb166, 1, none⟩) (Kd.R_far (p := ⟨gb166, 0, none⟩) (Kd.R_mono HO_9.out (fun k_ hk => (⟨hk, hk.2⟩ : _ ∧ k_ ≠ gb166))) (fun _ hk => hk.2) (.string ((rd_T43 l0 x33_2).f0))) (fun _ hk => hk.2) (.string ((rd_T43 l0 x33_2).f1))) (fun _ hk => hk.1.2))); (case aS => exact (zq (by with_reducible repeat first | exact HB.out | apply zA | apply zN | apply zD | refine zS ?_ GE166.out))); (case aL => have := LMc35.out; omega); intro v171 w38 ho hb hg hat; rw [← Ny170.out] at ho; have n0_ := zk (blk_grown (g := gb166) (o := .cells #[.string ((rd_T43 l0 x33_2).f0), .string ((rd_T43 l0 x33_2).f1)] 43 (0, 0)) (by (with_reducible repeat first | apply zM | apply zE | apply zF); refine zP (cs := #[.string ((rd_T43 l0 x33_2).f0), .string ⟨#[]⟩]) ?_ 1 _ rfl; (with_reducible repeat first | apply zM | apply zE | apply zF); refine zP (cs := #[.string ⟨#[]⟩, .string ⟨#[]⟩]) ?_ 0 _ rfl; (with_reducible repeat first | apply zM | apply zE | apply zF); exact BK166.out) hg (Kd.R_away HO_9.out (fun _ hk => hk.2))); have n1_ := zk (hb); have n2_ := zk (ho); clear BK166; clear HB; clear HO_9; have BK166 := n0_; have HB := n1_; have HO172 := n2_; clear n0_ n1_ n2_; clear ho hb hg hat))
             go_roundg kj10
             case measure => have := HJ4.out; have := HK2.out; have := HJ10.out; omega
             case rel => exact ⟨(y170), (wrap64 (x33_2 + 1)), (by first | rfl | (simp; done) | (simp [*]; done)), H', ⟨by have := HJ4.out; have := HK2.out; have := HJ10.out; omega⟩, ⟨by (with_reducible repeat (first | apply Kd.R_alloc | apply Kd.R_drewN | apply Kd.R_drew)); exact Kd.R_mono HO172.out (fun _ hk => trivial)⟩, ⟨by with_reducible repeat first | exact HB.out | apply zA | apply zN | apply zD | refine zS ?_ GE166.out⟩⟩
            ·
             rw [if_neg c35] at H; exact absurd H (by simp)
          ·
           rw [if_neg c29] at H; exact absurd H (by simp)
         ·
          rw [if_neg c28] at H; exact absurd H (by simp)
     ·
      rw [if_neg c10] at H; have c10b0 := decide_eq_false c10; clear c10
      by_cases c39 : t148 < 0
      ·
       rw [if_pos c39] at H; have c39b0 := decide_eq_true c39; clear c39
       by_cases c40 : x8_4 = (l0.length : Int)
       ·
        rw [if_pos c40] at H; have c40b0 := beq_iff_eq.mpr c40; have c40b1 := bne_eq_false_iff_eq.mpr c40; clear c40
        by_cases c41 : x9_2.length < 4398046511104
        ·
         rw [if_pos c41] at H; have LMc41 := zk c41; clear c41; obtain ⟨y151, hy151⟩ : ∃ y_ : List (S43), y_ = (x9_2 ++ [(⟨a1, a2⟩ : S43)]) := ⟨_, rfl⟩
         replace H : (some y151) = some r := by first | (rw [hy151]; with_reducible exact H) | (have H2_ := (Option.bind_some _ _).symm.trans H; rw [hy151]; with_reducible exact H2_) | (have H2_ := (Option.bind_some _ _).symm.trans H; with_reducible exact H2_) | with_reducible exact H | (rw [hy151]; exact H) | exact H
         have Ny151 := zk hy151; clear hy151; obtain rfl := Option.some.inj H
         go_wp2_with (first | ((with_reducible refine zgn (b := .append) (xs := #[.tmp 71, .tmp 75]) rfl ?_); (try (refine zgg (by rfl) ?_; dsimp only)); at_builtin; refine Kd.R_append k43 (w0 := w) w.heap.size rfl (.tmp 71) (.tmp 75) 22 43 (.agg #[(.string ⟨#[]⟩), (.string ⟨#[]⟩)]) 32 rfl Try.underlying22 info43 rfl (by decide) (by omega) u9 x9_2 (⟨a1, a2⟩ : S43) [.string a1, .string a2] (fun _ => True) (fun _ => False) rfl rfl ?aP (fun _ hk => hk.elim) ?aF ?aO ?aB ?aS ?aL ?_; (case aP => exact k43_mkM _ _ _ (⟨a1, a2⟩ : S43)); (case aB => exact (by with_reducible repeat first | exact HB.out | apply zA | apply zN | apply zD)); (case aF => exact (fun _ _ => trivial)); (case aO => exact (by (with_reducible repeat (first | apply Kd.R_alloc | apply Kd.R_drewN | apply Kd.R_drew)); exact HO_9.out)); (case aS => exact (zq (by with_reducible repeat first | exact HB.out | apply zA | apply zN | apply zD))); (case aL => have := LMc41.out; omega); intro v152 w42 ho hb hg hat; rw [← Ny151.out] at ho; have n0_ := zk (hb); have n1_ := zk (ho); clear HB; clear HO_9; have HB := n0_; have HO153 := n1_; clear n0_ n1_; clear ho hb hg hat))
         go_ret; exact ⟨_, by first | rfl | (simp [wN, wS] <;> rfl) | (simp [*, wN, wS] <;> rfl), by (with_reducible repeat (first | apply Kd.R_alloc | apply Kd.R_drewN | apply Kd.R_drew)); exact HO153.out, by with_reducible repeat first | exact HB.out | apply zA | apply zN | apply zD⟩
        ·
         rw [if_neg c41] at H; exact absurd H (by simp)
       ·
        rw [if_neg c40] at H; have c40b0 := beq_eq_false_iff_ne.mpr c40; have c40b1 := bne_iff_ne.mpr c40; obtain rfl := Option.some.inj H; go_wp2; go_ret; exact ⟨_, by first | rfl | (simp [wN, wS] <;> rfl) | (simp [*, wN, wS] <;> rfl), by (with_reducible repeat (first | apply Kd.R_alloc | apply Kd.R_drewN | apply Kd.R_drew)); exact HO_9.out, by with_reducible repeat first | exact HB.out | apply zA | apply zN | apply zD⟩
      ·
       rw [if_neg c39] at H; have c39b0 := decide_eq_false c39; clear c39; obtain rfl := Option.some.inj H; go_wp2; go_ret; exact ⟨_, by first | rfl | (simp [wN, wS] <;> rfl) | (simp [*, wN, wS] <;> rfl), by (with_reducible repeat (first | apply Kd.R_alloc | apply Kd.R_drewN | apply Kd.R_drew)); exact HO_9.out, by with_reducible repeat first | exact HB.out | apply zA | apply zN | apply zD⟩
def r09_Without.l0 : Nat → List (S43) → ByteArray → List (S43) → Int → Int → Option ((List (S43)) × Bool)
  | 0, _, _, _, _, _ => none
  | k + 1, x0, x1, x6, x9, x10 => if x10 < x9 then (if 0 ≤ x10 then (if x10 < (x0.length : Int) then (if ((rd_T43 x0 x10).f0).toList = x1.toList then (r09_Without.l0 k x0 x1 x6 x9 (wrap64 (x10 + 1))) else (if x6.length < 4398046511104 then (r09_Without.l0 k x0 x1 (x6 ++ [(⟨(rd_T43 x0 x10).f0, (rd_T43 x0 x10).f1⟩ : S43)]) x9 (wrap64 (x10 + 1))) else (none))) else (none)) else (none)) else (some (x6, decide ((x6.length : Int) < (x0.length : Int))))
def r09_Without.f (k : Nat) (l0 : List (S43)) (a1 : ByteArray) : Option ((List (S43)) × Bool) := r09_Without.l0 k l0 a1 ([] : List (S43)) (l0.length : Int) 0
set_option maxHeartbeats 8000000 in
set_option maxRecDepth 100000 in
theorem r09_Without.calls (k : Nat) (A0 : Option Addr) (c0 : Nat) (l0 : List (S43)) (a1 : ByteArray) (r1 : List (S43)) (r2 : Bool) (w : World) (hr0 : Kd.C k43 w A0 l0.length l0) (hc0 : l0.length ≤ c0) (h : r09_Without.f k l0 a1 = some (r1, r2)) :
    Calls Try.prog 23 #[.slice A0 l0.length c0, .string a1] w fun e w' => ∃ v0_ : Value, e = .returned (.tuple #[v0_, .bool r2]) ∧ Kd.R k43 43 w' w.heap.size (fun _ => True) v0_ r1 ∧ Below w.heap.size w w' := by
  have hu43 := Try.underlying43; have HR0 := zk hr0; have HC0 := zk hc0; clear hr0 hc0; have HB := zk (Below.refl w.heap.size w); have H : (r09_Without.l0 k l0 a1 ([] : List (S43)) (l0.length : Int) 0) = some (r1, r2) := h; clear h; have H' := zk H; clear H
  go_enter Try.func23, Try.ntmps23
  go_wp2
  go_loopg [6, 10] k (fun kq v6 v10 w' => ∃ (x6_1 : List (S43)) (x10_1 : Int), v10 = .int .i64 x10_1 ∧ Aside0 (r09_Without.l0 kq l0 a1 x6_1 (l0.length : Int) x10_1 = some (r1, r2)) ∧ Aside0 (kq ≤ k) ∧ Aside0 (Kd.R k43 43 w' w.heap.size (fun _ => True) v6 x6_1) ∧ Aside0 (Below w.heap.size w w'))
  case atStart => exact ⟨(([] : List (S43))), (0), (by first | rfl | (simp; done) | (simp [*]; done)), H', ⟨Nat.le_refl _⟩, ⟨by first | exact Kd.R_nil _ _ _ _ _ | exact Kd.N_nil _ _ _ _ _ | exact Kd.V_nil _ _ _ _ _ | exact Kd.Q_nil _ _ _ _ _ | exact Kd.S_nil _ _ _ _ _⟩, ⟨by with_reducible repeat first | exact HB.out | apply zA | apply zN | apply zD⟩⟩
  case round =>
    clear H'; (try clear c2); (try clear p2); obtain ⟨x6_1, x10_1, rfl, HA, HK1, HO_6, HB⟩ := hrel
    cases gk with
    | zero => exact absurd HA.out (by simp [r09_Without.l0])
    | succ k1 =>
      have H := HA.out; clear HA; simp only [r09_Without.l0] at H
      by_cases c3 : x10_1 < (l0.length : Int)
      · rw [if_pos c3] at H
        have c3b0 : decide (x10_1 < (l0.length : Int)) = true := decide_eq_true c3
        clear c3
        by_cases c4 : 0 ≤ x10_1
        · rw [if_pos c4] at H
          have c4b0 := decide_eq_true c4
          clear c4
          by_cases c5 : x10_1 < (l0.length : Int)
          · rw [if_pos c5] at H
            have c5b0 := decide_eq_true c5
            clear c5
            by_cases c6 : ((rd_T43 l0 x10_1).f0).toList = a1.toList
            · rw [if_pos c6] at H
              have c6b0 := beq_iff_eq.mpr c6
              have c6b1 := bne_eq_false_iff_eq.mpr c6
              clear c6
              have H' := zk H
              clear H
              have p248 : 0 ≤ (x10_1 : Int) := zo (by assumption)
              have q248 : x10_1 < (l0.length : Int) := zo (by assumption)
              obtain ⟨ad248, e248, hx248_0, hx248_1⟩ := at_T43 HR0.out x10_1 p248 q248
              cases e248
              replace hx248_0 := zB HB hx248_0
              replace hx248_1 := zB HB hx248_1
              replace p248 := eq_true p248
              replace q248 := eq_true q248
              go_wp2
              go_roundg k1
              case measure => have := HK1.out; omega
              case rel => exact ⟨(x6_1), (wrap64 (x10_1 + 1)), (by first | rfl | (simp; done) | (simp [*]; done)), H', ⟨by have := HK1.out; omega⟩, ⟨by (with_reducible repeat (first | apply Kd.R_alloc | apply Kd.R_drewN | apply Kd.R_drew)); exact HO_6.out⟩, ⟨by with_reducible repeat first | exact HB.out | apply zA | apply zN | apply zD⟩⟩
            · rw [if_neg c6] at H
              have c6b0 := beq_eq_false_iff_ne.mpr c6
              have c6b1 := bne_iff_ne.mpr c6
              by_cases c7 : x6_1.length < 4398046511104
              · rw [if_pos c7] at H
                have LMc7 := zk c7
                clear c7
                obtain ⟨y250, hy250⟩ : ∃ y_ : List (S43), y_ = (x6_1 ++ [(⟨(rd_T43 l0 x10_1).f0, (rd_T43 l0 x10_1).f1⟩ : S43)]) := ⟨_, rfl⟩
                replace H : (r09_Without.l0 k1 l0 a1 y250 (l0.length : Int) (wrap64 (x10_1 + 1))) = some (r1, r2) := by first | (rw [hy250]; with_reducible exact H) | (have H2_ := (Option.bind_some _ _).symm.trans H; rw [hy250]; with_reducible exact H2_) | (have H2_ := (Option.bind_some _ _).symm.trans H; with_reducible exact H2_) | with_reducible exact H | (rw [hy250]; exact H) | exact H
                have Ny250 := zk hy250
                clear hy250
                have H' := zk H
                clear H
                have p248 : 0 ≤ (x10_1 : Int) := zo (by assumption)
                have q248 : x10_1 < (l0.length : Int) := zo (by assumption)
                obtain ⟨ad248, e248, hx248_0, hx248_1⟩ := at_T43 HR0.out x10_1 p248 q248
                cases e248
                replace hx248_0 := zB HB hx248_0
                replace hx248_1 := zB HB hx248_1
                replace p248 := eq_true p248
                replace q248 := eq_true q248
                have p249 : 0 ≤ (x10_1 : Int) := zo (by assumption)
                have q249 : x10_1 < (l0.length : Int) := zo (by assumption)
                obtain ⟨ad249, e249, hx249_0, hx249_1⟩ := at_T43 HR0.out x10_1 p249 q249
                obtain rfl : ad248 = ad249 := (by injection e249)
                replace hx249_0 := zB HB hx249_0
                replace hx249_1 := zB HB hx249_1
                replace p249 := eq_true p249
                replace q249 := eq_true q249
                go_wp2_with (first | ((with_reducible refine zgn (b := .append) (xs := #[.tmp 20, .tmp 25]) rfl ?_); at_builtin; refine Kd.R_append k43 (w0 := w) w.heap.size rfl (.tmp 20) (.tmp 25) 22 43 (.agg #[(.string ⟨#[]⟩), (.string ⟨#[]⟩)]) 32 rfl Try.underlying22 info43 rfl (by decide) (by omega) u6 x6_1 (⟨(rd_T43 l0 x10_1).f0, (rd_T43 l0 x10_1).f1⟩ : S43) [.string ((rd_T43 l0 x10_1).f0), .string ((rd_T43 l0 x10_1).f1)] (fun _ => True) (fun _ => False) rfl rfl ?aP (fun _ hk => hk.elim) ?aF ?aO ?aB ?aS ?aL ?_; (case aP => exact k43_mkM _ _ _ (⟨(rd_T43 l0 x10_1).f0, (rd_T43 l0 x10_1).f1⟩ : S43)); (case aB => exact (by with_reducible repeat first | exact HB.out | apply zA | apply zN | apply zD)); (case aF => exact (fun _ _ => trivial)); (case aO => exact (by (with_reducible repeat (first | apply Kd.R_alloc | apply Kd.R_drewN | apply Kd.R_drew)); exact HO_6.out)); (case aS => exact (zq (by with_reducible repeat first | exact HB.out | apply zA | apply zN | apply zD))); (case aL => have := LMc7.out; omega); intro v251 w8 ho hb hg hat; rw [← Ny250.out] at ho; have n0_ := zk (hb); have n1_ := zk (ho); clear HB; clear HO_6; have HB := n0_; have HO252 := n1_; clear n0_ n1_; clear ho hb hg hat))
                go_roundg k1
                case measure => have := HK1.out; omega
                case rel => exact ⟨(y250), (wrap64 (x10_1 + 1)), (by first | rfl | (simp; done) | (simp [*]; done)), H', ⟨by have := HK1.out; omega⟩, ⟨by (with_reducible repeat (first | apply Kd.R_alloc | apply Kd.R_drewN | apply Kd.R_drew)); exact HO252.out⟩, ⟨by with_reducible repeat first | exact HB.out | apply zA | apply zN | apply zD⟩⟩
              · rw [if_neg c7] at H
                exact absurd H (by simp)
          · rw [if_neg c5] at H
            exact absurd H (by simp)
        · rw [if_neg c4] at H
          exact absurd H (by simp)
      · rw [if_neg c3] at H
        have c3b0 : decide (x10_1 < (l0.length : Int)) = false := decide_eq_false c3
        clear c3
        simp only [Option.some.injEq, Prod.mk.injEq] at H
        obtain ⟨rfl, rfl⟩ := H
        obtain ⟨Ao9, co9, eo9⟩ := Kd.R_slice HO_6.out
        subst eo9
        go_wp2
        go_ret2
        exact ⟨_, by first | rfl | (simp [wN, wS] <;> rfl) | (simp [*, wN, wS] <;> rfl), by (with_reducible repeat (first | apply Kd.R_alloc | apply Kd.R_drewN | apply Kd.R_drew)); exact HO_6.out, by with_reducible repeat first | exact HB.out | apply zA | apply zN | apply zD⟩
def r10_One.f (k : Nat) (l0 : List (S43)) (a1_0 : ByteArray) (a1_1 : ByteArray) (a1_2 : Bool) : Option ((List (S43))) := if a1_2 = true then ((r09_Without.f k l0 a1_0).bind fun bt254 => (some bt254.1)) else ((r09_With.f k l0 a1_0 a1_1).bind fun t258 => (some t258))
set_option maxHeartbeats 8000000 in
set_option maxRecDepth 100000 in
theorem r10_One.calls (k : Nat) (A0 : Option Addr) (c0 : Nat) (l0 : List (S43)) (a1_0 : ByteArray) (a1_1 : ByteArray) (a1_2 : Bool) (r : List (S43)) (w : World) (hr0 : Kd.C k43 w A0 l0.length l0) (hc0 : l0.length ≤ c0) (h : r10_One.f k l0 a1_0 a1_1 a1_2 = some r) :
    Calls Try.prog 14 #[.slice A0 l0.length c0, .agg #[.string a1_0, .string a1_1, .bool a1_2]] w fun e w' => ∃ v0_ : Value, e = .returned (v0_) ∧ Kd.R k43 43 w' w.heap.size (fun _ => True) v0_ r ∧ Below w.heap.size w w' := by
  have hu32 := Try.underlying32; have HR0 := zk hr0; have HC0 := zk hc0; clear hr0 hc0; have HB := zk (Below.refl w.heap.size w); have H : (if a1_2 = true then ((r09_Without.f k l0 a1_0).bind fun bt254 => (some bt254.1)) else ((r09_With.f k l0 a1_0 a1_1).bind fun t258 => (some t258))) = some r := h; clear h
  by_cases c3 : a1_2 = true
  · subst c3
    have H1 : ((r09_Without.f k l0 a1_0).bind fun bt254 => (some bt254.1)) = some r := by rw [if_pos rfl] at H; exact H
    clear H
    have H := H1
    clear H1
    replace H := Option.bind_eq_some_iff.mp H
    obtain ⟨⟨t254, t255⟩, A40, H⟩ := H
    replace H : (some t254) = some r := H
    have A4 := zk A40
    clear A40
    obtain rfl := Option.some.inj H
    go_enter Try.func14, Try.ntmps14
    go_wp2_with (first | ((with_reducible refine zgd (N := 3) rfl ?_); refine zb ?hg (N := 3) ?hd (cs := #[.string a1_0, .string a1_1, .bool true]) (t := 32) ?hr ?_; (case hd => rfl); (case hg => rfl); (case hr => go_simp; first | done | rfl); intro gb253 hg w5 hbox hb; have n0_ := zk (zs (by with_reducible repeat first | exact HB.out | apply zA | apply zN | apply zD) hb); have n1_ := zk (hbox); have n2_ := zk ((by rw [hg]; exact (zq (by with_reducible repeat first | exact HB.out | apply zA | apply zN | apply zD)) : w.heap.size ≤ gb253)); have n3_ := n2_; clear HB; have HB := n0_; have BK253 := n1_; have GW253 := n2_; have GE253 := n3_; clear n0_ n1_ n2_ n3_; clear hb hbox hg; obtain ⟨hcz6_0, hcz6_1, hcz6_2, hfz6_0, hfz6_1, hfz6_2⟩ := zc3 BK253.out) | ((with_reducible refine zgk (f := 23) rfl ?_); refine zgl (some 13) rfl rfl Try.func23 (by kernel_rfl) rfl #[.slice A0 l0.length c0, .string a1_0] rfl (by (try simp only [List.map_toArray, List.map_cons, List.map_nil]); first | done | rfl | (simp only [List.length_drop, List.length_take]; rfl)) ?_; (with_reducible refine (r09_Without.calls k _ _ l0 a1_0 t254 t255 _ ?side1 ?side2 A4.out).mono ?_); (case side1 => repeat (first | exact (Kd.C_below HR0.out HB.out) | (with_reducible refine Kd.C_alloc ?_ _) | (with_reducible refine Kd.C_drewN ?_ _) | (with_reducible refine Kd.C_drew ?_))); (case side2 => exact HC0.out); rintro e w7 ⟨v256, rfl, ho0, hb⟩; refine ⟨_, rfl, ?_⟩; have n0_ := zk (Kd.R_lower ho0 (zq (by with_reducible repeat first | exact HB.out | apply zA | apply zN | apply zD | refine zS ?_ GE253.out))); have n1_ := zk (blk_below (g := gb253) (o := .cells #[.string a1_0, .string a1_1, .bool true] 32 (0, 0)) (by (with_reducible repeat (first | refine zM ?_ _ | refine zE ?_ | refine zF ?_ _)); exact BK253.out) hb); have n2_ := zk (zs (by with_reducible repeat first | exact HB.out | apply zA | apply zN | apply zD | refine zS ?_ GE253.out) hb); clear BK253; clear HB; have HO257 := n0_; have BK253 := n1_; have HB := n2_; clear n0_ n1_ n2_; (try clear hb); (try clear hb2); (try clear hk); (try clear hi); (try clear ho0)))
    go_ret
    exact ⟨_, by first | rfl | (simp [wN, wS] <;> rfl) | (simp [*, wN, wS] <;> rfl), by (with_reducible repeat (first | apply Kd.R_alloc | apply Kd.R_drewN | apply Kd.R_drew)); exact HO257.out, by with_reducible repeat first | exact HB.out | apply zA | apply zN | apply zD | refine zS ?_ GE253.out⟩
  · replace c3 := Bool.eq_false_iff.mpr c3
    subst c3
    have H1 : ((r09_With.f k l0 a1_0 a1_1).bind fun t258 => (some t258)) = some r := by rw [if_neg (show ¬ (false = true) by decide)] at H; exact H
    clear H
    have H := H1
    clear H1
    replace H := Option.bind_eq_some_iff.mp H
    obtain ⟨t258, A80, H⟩ := H
    replace H : (some t258) = some r := H
    have A8 := zk A80
    clear A80
    obtain rfl := Option.some.inj H
    go_enter Try.func14, Try.ntmps14
    go_wp2_with (first | ((with_reducible refine zgd (N := 3) rfl ?_); refine zb ?hg (N := 3) ?hd (cs := #[.string a1_0, .string a1_1, .bool false]) (t := 32) ?hr ?_; (case hd => rfl); (case hg => rfl); (case hr => go_simp; first | done | rfl); intro gb253 hg w9 hbox hb; have n0_ := zk (zs (by with_reducible repeat first | exact HB.out | apply zA | apply zN | apply zD) hb); have n1_ := zk (hbox); have n2_ := zk ((by rw [hg]; exact (zq (by with_reducible repeat first | exact HB.out | apply zA | apply zN | apply zD)) : w.heap.size ≤ gb253)); have n3_ := n2_; clear HB; have HB := n0_; have BK253 := n1_; have GW253 := n2_; have GE253 := n3_; clear n0_ n1_ n2_ n3_; clear hb hbox hg; obtain ⟨hcz10_0, hcz10_1, hcz10_2, hfz10_0, hfz10_1, hfz10_2⟩ := zc3 BK253.out) | ((with_reducible refine zgk (f := 19) rfl ?_); refine zgl (some 22) rfl rfl Try.func19 (by kernel_rfl) rfl #[.slice A0 l0.length c0, .string a1_0, .string a1_1] rfl (by (try simp only [List.map_toArray, List.map_cons, List.map_nil]); first | done | rfl | (simp only [List.length_drop, List.length_take]; rfl)) ?_; (with_reducible refine (r09_With.calls k _ _ l0 a1_0 a1_1 t258 _ ?side1 ?side2 A8.out).mono ?_); (case side1 => repeat (first | exact (Kd.C_below HR0.out HB.out) | (with_reducible refine Kd.C_alloc ?_ _) | (with_reducible refine Kd.C_drewN ?_ _) | (with_reducible refine Kd.C_drew ?_))); (case side2 => exact HC0.out); rintro e w11 ⟨v259, rfl, ho0, hb⟩; refine ⟨_, rfl, ?_⟩; have n0_ := zk (Kd.R_lower ho0 (zq (by with_reducible repeat first | exact HB.out | apply zA | apply zN | apply zD | refine zS ?_ GE253.out))); have n1_ := zk (blk_below (g := gb253) (o := .cells #[.string a1_0, .string a1_1, .bool false] 32 (0, 0)) (by (with_reducible repeat (first | refine zM ?_ _ | refine zE ?_ | refine zF ?_ _)); exact BK253.out) hb); have n2_ := zk (zs (by with_reducible repeat first | exact HB.out | apply zA | apply zN | apply zD | refine zS ?_ GE253.out) hb); clear BK253; clear HB; have HO260 := n0_; have BK253 := n1_; have HB := n2_; clear n0_ n1_ n2_; (try clear hb); (try clear hb2); (try clear hk); (try clear hi); (try clear ho0)))
    go_ret
    exact ⟨_, by first | rfl | (simp [wN, wS] <;> rfl) | (simp [*, wN, wS] <;> rfl), by (with_reducible repeat (first | apply Kd.R_alloc | apply Kd.R_drewN | apply Kd.R_drew)); exact HO260.out, by with_reducible repeat first | exact HB.out | apply zA | apply zN | apply zD | refine zS ?_ GE253.out⟩
end Go.Proofs.Ytmpdbblljofjfaa.G
namespace Go.Proofs.Ytmpdbblljofjfaa.G
open Go.RowKit Go.Proofs.YtmpdbblljofjfaaW.PrintWords Go.Proofs.YtmpdbblljofjfaaW.PrintLast Go.Proofs.YtmpdbblljofjfaaW.PrintMore
set_option linter.unusedVariables false
set_option linter.unusedSimpArgs false
/-- What the law's calls come to. -/
structure LW (k : Nat) (l : List S43) (m : List S31) : Prop where
  lm : m.length ≤ 4398046510000
  same : lw_same.f k = some true
  heavy : ∃ b, lw_heavy.f k l = some b ∧ (b = false → m.length ≤ 60 → ∃ X : Nat → List S43, X 0 = l ∧
    (∀ i : Nat, i < m.length → r10_One.f k (X i) (rd_T31 m (i : Int)).f0 (rd_T31 m (i : Int)).f1 (rd_T31 m (i : Int)).f2 = some (X (i + 1))) ∧
    ∃ d q, adiff_Do.f k l m = some d ∧ pl_Attrs.f k d (X m.length) = some true ∧ adiff_Names.f l (X m.length) = some q ∧ q ≤ (m.length : Int))
set_option maxHeartbeats 4000000 in
set_option maxRecDepth 100000 in
theorem least_walk (k : Nat) (A0 : Option Addr) (c0 : Nat) (l : List S43) (A1 : Option Addr) (c1 : Nat) (m : List S31) (w : World) (hr0 : Kd.C k43 w A0 l.length l) (hc0 : l.length ≤ c0) (hr1 : Kd.C k31 w A1 m.length m) (hc1 : m.length ≤ c1) (h : LW k l m) :
    Calls Try.prog 5 #[.slice A0 l.length c0, .slice A1 m.length c1] w fun e w' => e = .returned (.bool true) ∧ Below w.heap.size w w' := by
  have HC := Aside0.mk (And.intro hr0 (And.intro hc0 (And.intro hr1 hc1))); have HW := Aside0.mk h; obtain ⟨b, hb, hX⟩ := h.heavy; have HB := Aside0.mk hb; have HX := Aside0.mk hX; obtain ⟨nl, hnl⟩ : ∃ n, l.length = n := ⟨_, rfl⟩; obtain ⟨n, hn⟩ : ∃ n, m.length = n := ⟨_, rfl⟩; have HN := Aside0.mk (And.intro hnl hn); rw [hnl, hn]; clear hr0 hc0 hr1 hc1 h hb hX hnl hn
  go_enter Try.func5, Try.ntmps5
  have hv : Aside0 (Kd.V k43 43 w w.heap.size (fun k_ => k_ < w.heap.size) (.slice A0 nl c0) l) := ⟨by
    rw [← HN.out.1]
    exact ⟨A0, c0, rfl, HC.out.2.1, Kd.C_F k43_heap HC.out.1⟩⟩
  have hcall : Aside0 (Calls Try.prog 6 #[.slice A0 nl c0] w fun e w' => e = .returned (.bool b) ∧ Below w.heap.size w w') := ⟨by
    have h1 := hv.out; rw [← HN.out.1] at h1 ⊢
    exact lw_heavy.calls k _ A0 c0 l b w h1 HB.out⟩
  cases b with
  | true =>
    go_wp2_with (first | (go_at_call 6; refine hcall.out.mono ?_; rintro e w1 ⟨rfl, hb1⟩; have B1 := Aside0.mk hb1; clear hb1) | (go_at_call 7; refine (lw_same.calls k true _ HW.out.same).mono ?_; rintro e w2 ⟨rfl, hb2⟩; have B2 := Aside0.mk hb2; clear hb2))
    go_ret; exact ⟨rfl, B1.out.trans (B2.out.mono B1.out.size)⟩
  | false =>
    by_cases h60 : n ≤ 60
    · have c60 : decide ((60 : Int) < (n : Int)) = false := decide_eq_false (by omega)
      have c60' : decide (60 < n) = false := decide_eq_false (by omega)
      have H60 := Aside0.mk h60
      clear h60
      go_wp2_with (first | (go_at_call 6; refine hcall.out.mono ?_; rintro e w1 ⟨rfl, hb1⟩; have B1 := Aside0.mk hb1; clear hb1))
      obtain ⟨X, hX0, hX1, d, q, hd, ha, hq, hqn⟩ := HX.out trivial (HN.out.2 ▸ H60.out)
      have HXX := Aside0.mk (And.intro hX0 (And.intro hX1 (And.intro hd (And.intro ha (And.intro hq hqn)))))
      clear hX0 hX1 hd ha hq hqn
      go_loopg [5, 18] n (fun kq v5 v18 wr => ∃ (i : Nat) (Ax : Option Addr) (nx cx : Nat), v18 = .int .i64 (i : Int) ∧ v5 = .slice Ax nx cx ∧ Aside0 (i + kq = n) ∧ Aside0 (nx = (X i).length ∧ nx ≤ cx ∧ Kd.C k43 wr Ax (X i).length (X i)) ∧ Aside0 (Below w.heap.size w wr))
      case atStart => exact ⟨0, A0, nl, c0, rfl, rfl, ⟨by omega⟩, ⟨by rw [HXX.out.1]; exact HN.out.1.symm, HN.out.1 ▸ HC.out.2.1, by rw [HXX.out.1]; exact Kd.C_below HC.out.1 B1.out⟩, ⟨B1.out⟩⟩
      case round =>
      obtain ⟨i, Ax, nx, cx, rfl, rfl, HI, HR, HBw⟩ := hrel
      cases gk with
      | zero =>
        have hi : i = n := by have := HI.out; omega
        subst hi; have hlt : decide ((i : Int) < (i : Int)) = false := decide_eq_false (by omega); have hcl : Aside0 (Kd.C k31 wr A1 m.length m) := ⟨Kd.C_below HC.out.2.2.1 HBw.out⟩; have hcl0 : Aside0 (Kd.C k43 wr A0 l.length l) := ⟨Kd.C_below HC.out.1 HBw.out⟩
        have hdo : Aside0 (Calls Try.prog 13 #[.slice A0 nl c0, .slice A1 i c1] wr fun e w' => ∃ A c, e = .returned (.slice A d.length c) ∧ d.length ≤ c ∧ Kd.C k43 w' A d.length d ∧ Below wr.heap.size wr w') := ⟨by
          have h1 := adiff_Do.calls k A0 c0 l A1 c1 m d wr hcl0.out HC.out.2.1 hcl.out HC.out.2.2.2 HXX.out.2.2.1; rw [HN.out.1, HN.out.2] at h1; refine h1.mono ?_; rintro e w' ⟨v, rfl, hR, hb⟩; obtain ⟨A, c, rfl, hc, hC⟩ := Kd.R_reads hR
          exact ⟨A, c, rfl, hc, hC, hb⟩⟩
        go_upto_region 11 with fail
        go_wp2_with (first
          | (go_at_call 13; refine hdo.out.mono ?_; rintro e w2 ⟨A2, c2, rfl, hc2, hC2, hb2⟩; have C2 := Aside0.mk hC2; have B2 := Aside0.mk hb2; have K2 := Aside0.mk hc2; clear hC2 hb2 hc2)
          | (go_at_call 12; refine (calls_of_args (by rw [HR.out.1]) (pl_Attrs.calls k A2 c2 d Ax cx (X i) true w2 C2.out K2.out (Kd.C_below HR.out.2.2 B2.out) (HR.out.1 ▸ HR.out.2.1) (by have := HXX.out.2.2.2.1; rw [HN.out.2] at this; exact this))).mono ?_; rintro e w3 ⟨rfl, hd3⟩; have D3 := Aside0.mk hd3; clear hd3))
        have B3 := Aside0.mk (show Below wr.heap.size wr w3 from B2.out.trans ((Drawn0.below D3.out).mono B2.out.size)); have hqle : decide (q ≤ (i : Int)) = true := decide_eq_true (by have := HXX.out.2.2.2.2.2; have h2 := HN.out.2; omega); refine (calls_of_args (by rw [HN.out.1, HR.out.1]) (adiff_Names.calls A0 c0 l Ax cx (X i) q w3 (Kd.C_below HC.out.1 (HBw.out.trans (B3.out.mono HBw.out.size))) HC.out.2.1 (Kd.C_below HR.out.2.2 B3.out) (HR.out.1 ▸ HR.out.2.1) (by have := HXX.out.2.2.2.2.1; rw [HN.out.2] at this; exact this))).mono ?_; rintro e w5 ⟨rfl, hb5⟩; have B5 := Aside0.mk hb5; clear hb5
        go_wp2_with (first | (go_at_call 7; refine (lw_same.calls k true _ HW.out.same).mono ?_; rintro e w6 ⟨rfl, hb6⟩; have B6 := Aside0.mk hb6; clear hb6))
        go_ret; refine ⟨rfl, HBw.out.trans ((B3.out.trans ((B5.out.trans (B6.out.mono B5.out.size)).mono B3.out.size)).mono HBw.out.size)⟩
      | succ k1 =>
        have hlt : i < n := by have := HI.out; omega
        have HLT := Aside0.mk hlt; have hlt2 : decide ((i : Int) < (n : Int)) = true := decide_eq_true (by omega); obtain ⟨c, hc⟩ : ∃ c, rd_T31 m (i : Int) = c := ⟨_, rfl⟩; have HCC := Aside0.mk hc; obtain ⟨ad, ead, t0, t1, t2⟩ := at_T31 (Kd.C_below HC.out.2.2.1 HBw.out) (i : Int) (by omega) (by have := HN.out.2; omega); subst ead; rw [hc] at t0 t1 t2; rw [Int.toNat_natCast] at t0 t1 t2; clear hc; have hwi : Aside0 (wrap64 ((i : Int) + 1) = ((i + 1 : Nat) : Int)) := ⟨by have := H60.out; have := HLT.out; unfold wrap64; omega⟩; obtain ⟨sz, hsz⟩ : ∃ sz : Int, wrap64 ((c.f0.size : Int) + (c.f1.size : Int)) = sz := ⟨_, rfl⟩; have hszw : IntKind.i64.wrap ((c.f0.size : Int) + (c.f1.size : Int)) = sz := (i64_w _).trans hsz
        by_cases h5 : 5000 < sz
        · have c5 : decide (5000 < sz) = true := decide_eq_true h5
          clear h5
          go_upto_region 7 with fail
          refine start_ (n := 14) (S := (fun w' => w'.cell? (ad.add (i * 3)) = some (.string c.f0) ∧ w'.cell? ⟨(ad.add (i * 3)).block, (ad.add (i * 3)).off + 1, none⟩ = some (.string c.f1) ∧ w'.cell? ⟨(ad.add (i * 3)).block, (ad.add (i * 3)).off + 2, none⟩ = some (.bool c.f2))) (ds := []) #[false, false, false, false, false, false, false, false, false, false, false, false, false, false] (by kernel_rfl) rfl rfl ?_ ?_
          · (first | exact ⟨by assumption, by assumption, by assumption⟩ | assumption)
          intro hHeld
          refine pure_ (i := 0) (N := some 21) (v := ?_) (a' := ?_) #[true, false, false, false, false, false, false, false, false, false, false, false, false, false] rfl rfl (by kernel_rfl) (fun _ _ _ h => h) (Or.inl ⟨by rfl, ?_⟩) ?_ ?_
          rotate_left
          · intro w'
            go_simp
            with_reducible rfl
          rotate_left
          · simp only [Act.put, List.setIfInBounds_toArray, List.set_cons_zero, List.set_cons_succ, i64_w, i32_w]
            rfl
          refine pure_ (i := 1) (N := some 22) (v := ?_) (a' := ?_) #[true, true, false, false, false, false, false, false, false, false, false, false, false, false] rfl rfl (by kernel_rfl) (fun _ _ _ h => h) (Or.inl ⟨by rfl, ?_⟩) ?_ ?_
          rotate_left
          · intro w'
            go_simp
            with_reducible rfl
          rotate_left
          · simp only [Act.put, List.setIfInBounds_toArray, List.set_cons_zero, List.set_cons_succ, i64_w, i32_w]
            rfl
          refine pure_ (i := 2) (N := some 23) (v := ?_) (a' := ?_) #[true, true, true, false, false, false, false, false, false, false, false, false, false, false] rfl rfl (by kernel_rfl) (fun _ _ _ h => h) (Or.inl ⟨by rfl, ?_⟩) ?_ ?_
          rotate_left
          · intro w'
            go_simp
            with_reducible rfl
          rotate_left
          · simp only [Act.put, List.setIfInBounds_toArray, List.set_cons_zero, List.set_cons_succ, i64_w, i32_w]
            rfl
          refine pure_ (i := 3) (N := some 24) (v := ?_) (a' := ?_) #[true, true, true, true, false, false, false, false, false, false, false, false, false, false] rfl rfl (by kernel_rfl) (fun _ _ _ h => h) (Or.inl ⟨by rfl, ?_⟩) ?_ ?_
          rotate_left
          · intro w'
            go_simp
            with_reducible rfl
          rotate_left
          · simp only [Act.put, List.setIfInBounds_toArray, List.set_cons_zero, List.set_cons_succ, i64_w, i32_w]
            rfl
          refine pure_ (i := 6) (N := some 27) (v := ?_) (a' := ?_) #[true, true, true, true, false, false, true, false, false, false, false, false, false, false] rfl rfl (by kernel_rfl) (fun _ _ _ h => h) (Or.inl ⟨by rfl, ?_⟩) ?_ ?_
          rotate_left
          · intro w'
            go_simp
            with_reducible rfl
          rotate_left
          · simp only [Act.put, List.setIfInBounds_toArray, List.set_cons_zero, List.set_cons_succ, i64_w, i32_w]
            rfl
          refine pure_ (i := 7) (N := some 28) (v := ?_) (a' := ?_) #[true, true, true, true, false, false, true, true, false, false, false, false, false, false] rfl rfl (by kernel_rfl) (fun _ _ _ h => h) (Or.inl ⟨by rfl, ?_⟩) ?_ ?_
          rotate_left
          · intro w'
            go_simp
            with_reducible rfl
          rotate_left
          · simp only [Act.put, List.setIfInBounds_toArray, List.set_cons_zero, List.set_cons_succ, i64_w, i32_w]
            rfl
          refine pure_ (i := 8) (N := some 29) (v := ?_) (a' := ?_) #[true, true, true, true, false, false, true, true, true, false, false, false, false, false] rfl rfl (by kernel_rfl) (fun _ _ _ h => h) (Or.inl ⟨by rfl, ?_⟩) ?_ ?_
          rotate_left
          · intro w'
            go_simp
            with_reducible rfl
          rotate_left
          · simp only [Act.put, List.setIfInBounds_toArray, List.set_cons_zero, List.set_cons_succ, i64_w, i32_w]
            rfl
          refine pure_ (i := 9) (N := some 30) (v := ?_) (a' := ?_) #[true, true, true, true, false, false, true, true, true, true, false, false, false, false] rfl rfl (by kernel_rfl) (fun _ _ _ h => h) (Or.inl ⟨by rfl, ?_⟩) ?_ ?_
          rotate_left
          · intro w'
            go_simp
            with_reducible rfl
          rotate_left
          · simp only [Act.put, List.setIfInBounds_toArray, List.set_cons_zero, List.set_cons_succ, i64_w, i32_w]
            rfl
          refine take_ (i := 4) (N := some 25) (v := ?_) (a' := ?_) #[true, true, true, true, true, false, true, true, true, true, false, false, false, false] rfl rfl (by kernel_rfl) (fun _ _ _ h => h) (Or.inl ⟨by rfl, ?_⟩) hHeld ?_ ?_
          rotate_left
          · rintro w' ⟨s0, s1, s2⟩
            go_simp
            with_reducible rfl
          rotate_left
          · simp only [Act.put, List.setIfInBounds_toArray, List.set_cons_zero, List.set_cons_succ, i64_w, i32_w]
            rfl
          refine pure_ (i := 5) (N := some 26) (v := ?_) (a' := ?_) #[true, true, true, true, true, true, true, true, true, true, false, false, false, false] rfl rfl (by kernel_rfl) (fun _ _ _ h => h) (Or.inl ⟨by rfl, ?_⟩) ?_ ?_
          rotate_left
          · intro w'
            go_simp
            with_reducible rfl
          rotate_left
          · simp only [Act.put, List.setIfInBounds_toArray, List.set_cons_zero, List.set_cons_succ, i64_w, i32_w]
            rfl
          refine take_ (i := 10) (N := some 31) (v := ?_) (a' := ?_) #[true, true, true, true, true, true, true, true, true, true, true, false, false, false] rfl rfl (by kernel_rfl) (fun _ _ _ h => h) (Or.inl ⟨by rfl, ?_⟩) hHeld ?_ ?_
          rotate_left
          · rintro w' ⟨s0, s1, s2⟩
            go_simp
            with_reducible rfl
          rotate_left
          · simp only [Act.put, List.setIfInBounds_toArray, List.set_cons_zero, List.set_cons_succ, i64_w, i32_w]
            rfl
          refine pure_ (i := 11) (N := some 32) (v := ?_) (a' := ?_) #[true, true, true, true, true, true, true, true, true, true, true, true, false, false] rfl rfl (by kernel_rfl) (fun _ _ _ h => h) (Or.inl ⟨by rfl, ?_⟩) ?_ ?_
          rotate_left
          · intro w'
            go_simp
            with_reducible rfl
          rotate_left
          · simp only [Act.put, List.setIfInBounds_toArray, List.set_cons_zero, List.set_cons_succ, i64_w, i32_w]
            rfl
          refine pure_ (i := 12) (N := some 33) (v := ?_) (a' := ?_) #[true, true, true, true, true, true, true, true, true, true, true, true, true, false] rfl rfl (by kernel_rfl) (fun _ _ _ h => h) (Or.inl ⟨by rfl, ?_⟩) ?_ ?_
          rotate_left
          · intro w'
            go_simp
            with_reducible rfl
          rotate_left
          · simp only [Act.put, List.setIfInBounds_toArray, List.set_cons_zero, List.set_cons_succ, i64_w, i32_w]
            rfl
          refine pure_ (i := 13) (N := some 34) (v := ?_) (a' := ?_) #[true, true, true, true, true, true, true, true, true, true, true, true, true, true] rfl rfl (by kernel_rfl) (fun _ _ _ h => h) (Or.inl ⟨by rfl, ?_⟩) ?_ ?_
          rotate_left
          · intro w'
            go_simp
            with_reducible rfl
          rotate_left
          · simp only [Act.put, List.setIfInBounds_toArray, List.set_cons_zero, List.set_cons_succ, i64_w, i32_w]
            rfl
          refine done_ (by kernel_rfl) ?_
          go_wp2_with (first | (go_at_call 7; refine (lw_same.calls k true _ HW.out.same).mono ?_; rintro e w2 ⟨rfl, hb2⟩; have B2 := Aside0.mk hb2; clear hb2))
          go_ret
          exact ⟨rfl, HBw.out.drew.trans (B2.out.mono HBw.out.size)⟩
        · have c5 : decide (5000 < sz) = false := decide_eq_false h5
          clear h5
          go_upto_region 7 with fail
          refine start_ (n := 14) (S := (fun w' => w'.cell? (ad.add (i * 3)) = some (.string c.f0) ∧ w'.cell? ⟨(ad.add (i * 3)).block, (ad.add (i * 3)).off + 1, none⟩ = some (.string c.f1) ∧ w'.cell? ⟨(ad.add (i * 3)).block, (ad.add (i * 3)).off + 2, none⟩ = some (.bool c.f2))) (ds := []) #[false, false, false, false, false, false, false, false, false, false, false, false, false, false] (by kernel_rfl) rfl rfl ?_ ?_
          · (first | exact ⟨by assumption, by assumption, by assumption⟩ | assumption)
          intro hHeld
          refine pure_ (i := 0) (N := some 21) (v := ?_) (a' := ?_) #[true, false, false, false, false, false, false, false, false, false, false, false, false, false] rfl rfl (by kernel_rfl) (fun _ _ _ h => h) (Or.inl ⟨by rfl, ?_⟩) ?_ ?_
          rotate_left
          · intro w'
            go_simp
            with_reducible rfl
          rotate_left
          · simp only [Act.put, List.setIfInBounds_toArray, List.set_cons_zero, List.set_cons_succ, i64_w, i32_w]
            rfl
          refine pure_ (i := 1) (N := some 22) (v := ?_) (a' := ?_) #[true, true, false, false, false, false, false, false, false, false, false, false, false, false] rfl rfl (by kernel_rfl) (fun _ _ _ h => h) (Or.inl ⟨by rfl, ?_⟩) ?_ ?_
          rotate_left
          · intro w'
            go_simp
            with_reducible rfl
          rotate_left
          · simp only [Act.put, List.setIfInBounds_toArray, List.set_cons_zero, List.set_cons_succ, i64_w, i32_w]
            rfl
          refine pure_ (i := 2) (N := some 23) (v := ?_) (a' := ?_) #[true, true, true, false, false, false, false, false, false, false, false, false, false, false] rfl rfl (by kernel_rfl) (fun _ _ _ h => h) (Or.inl ⟨by rfl, ?_⟩) ?_ ?_
          rotate_left
          · intro w'
            go_simp
            with_reducible rfl
          rotate_left
          · simp only [Act.put, List.setIfInBounds_toArray, List.set_cons_zero, List.set_cons_succ, i64_w, i32_w]
            rfl
          refine pure_ (i := 3) (N := some 24) (v := ?_) (a' := ?_) #[true, true, true, true, false, false, false, false, false, false, false, false, false, false] rfl rfl (by kernel_rfl) (fun _ _ _ h => h) (Or.inl ⟨by rfl, ?_⟩) ?_ ?_
          rotate_left
          · intro w'
            go_simp
            with_reducible rfl
          rotate_left
          · simp only [Act.put, List.setIfInBounds_toArray, List.set_cons_zero, List.set_cons_succ, i64_w, i32_w]
            rfl
          refine pure_ (i := 6) (N := some 27) (v := ?_) (a' := ?_) #[true, true, true, true, false, false, true, false, false, false, false, false, false, false] rfl rfl (by kernel_rfl) (fun _ _ _ h => h) (Or.inl ⟨by rfl, ?_⟩) ?_ ?_
          rotate_left
          · intro w'
            go_simp
            with_reducible rfl
          rotate_left
          · simp only [Act.put, List.setIfInBounds_toArray, List.set_cons_zero, List.set_cons_succ, i64_w, i32_w]
            rfl
          refine pure_ (i := 7) (N := some 28) (v := ?_) (a' := ?_) #[true, true, true, true, false, false, true, true, false, false, false, false, false, false] rfl rfl (by kernel_rfl) (fun _ _ _ h => h) (Or.inl ⟨by rfl, ?_⟩) ?_ ?_
          rotate_left
          · intro w'
            go_simp
            with_reducible rfl
          rotate_left
          · simp only [Act.put, List.setIfInBounds_toArray, List.set_cons_zero, List.set_cons_succ, i64_w, i32_w]
            rfl
          refine pure_ (i := 8) (N := some 29) (v := ?_) (a' := ?_) #[true, true, true, true, false, false, true, true, true, false, false, false, false, false] rfl rfl (by kernel_rfl) (fun _ _ _ h => h) (Or.inl ⟨by rfl, ?_⟩) ?_ ?_
          rotate_left
          · intro w'
            go_simp
            with_reducible rfl
          rotate_left
          · simp only [Act.put, List.setIfInBounds_toArray, List.set_cons_zero, List.set_cons_succ, i64_w, i32_w]
            rfl
          refine pure_ (i := 9) (N := some 30) (v := ?_) (a' := ?_) #[true, true, true, true, false, false, true, true, true, true, false, false, false, false] rfl rfl (by kernel_rfl) (fun _ _ _ h => h) (Or.inl ⟨by rfl, ?_⟩) ?_ ?_
          rotate_left
          · intro w'
            go_simp
            with_reducible rfl
          rotate_left
          · simp only [Act.put, List.setIfInBounds_toArray, List.set_cons_zero, List.set_cons_succ, i64_w, i32_w]
            rfl
          refine take_ (i := 4) (N := some 25) (v := ?_) (a' := ?_) #[true, true, true, true, true, false, true, true, true, true, false, false, false, false] rfl rfl (by kernel_rfl) (fun _ _ _ h => h) (Or.inl ⟨by rfl, ?_⟩) hHeld ?_ ?_
          rotate_left
          · rintro w' ⟨s0, s1, s2⟩
            go_simp
            with_reducible rfl
          rotate_left
          · simp only [Act.put, List.setIfInBounds_toArray, List.set_cons_zero, List.set_cons_succ, i64_w, i32_w]
            rfl
          refine pure_ (i := 5) (N := some 26) (v := ?_) (a' := ?_) #[true, true, true, true, true, true, true, true, true, true, false, false, false, false] rfl rfl (by kernel_rfl) (fun _ _ _ h => h) (Or.inl ⟨by rfl, ?_⟩) ?_ ?_
          rotate_left
          · intro w'
            go_simp
            with_reducible rfl
          rotate_left
          · simp only [Act.put, List.setIfInBounds_toArray, List.set_cons_zero, List.set_cons_succ, i64_w, i32_w]
            rfl
          refine take_ (i := 10) (N := some 31) (v := ?_) (a' := ?_) #[true, true, true, true, true, true, true, true, true, true, true, false, false, false] rfl rfl (by kernel_rfl) (fun _ _ _ h => h) (Or.inl ⟨by rfl, ?_⟩) hHeld ?_ ?_
          rotate_left
          · rintro w' ⟨s0, s1, s2⟩
            go_simp
            with_reducible rfl
          rotate_left
          · simp only [Act.put, List.setIfInBounds_toArray, List.set_cons_zero, List.set_cons_succ, i64_w, i32_w]
            rfl
          refine pure_ (i := 11) (N := some 32) (v := ?_) (a' := ?_) #[true, true, true, true, true, true, true, true, true, true, true, true, false, false] rfl rfl (by kernel_rfl) (fun _ _ _ h => h) (Or.inl ⟨by rfl, ?_⟩) ?_ ?_
          rotate_left
          · intro w'
            go_simp
            with_reducible rfl
          rotate_left
          · simp only [Act.put, List.setIfInBounds_toArray, List.set_cons_zero, List.set_cons_succ, i64_w, i32_w]
            rfl
          refine pure_ (i := 12) (N := some 33) (v := ?_) (a' := ?_) #[true, true, true, true, true, true, true, true, true, true, true, true, true, false] rfl rfl (by kernel_rfl) (fun _ _ _ h => h) (Or.inl ⟨by rfl, ?_⟩) ?_ ?_
          rotate_left
          · intro w'
            go_simp
            with_reducible rfl
          rotate_left
          · simp only [Act.put, List.setIfInBounds_toArray, List.set_cons_zero, List.set_cons_succ, i64_w, i32_w]
            rfl
          refine pure_ (i := 13) (N := some 34) (v := ?_) (a' := ?_) #[true, true, true, true, true, true, true, true, true, true, true, true, true, true] rfl rfl (by kernel_rfl) (fun _ _ _ h => h) (Or.inl ⟨by rfl, ?_⟩) ?_ ?_
          rotate_left
          · intro w'
            go_simp
            with_reducible rfl
          rotate_left
          · simp only [Act.put, List.setIfInBounds_toArray, List.set_cons_zero, List.set_cons_succ, i64_w, i32_w]
            rfl
          refine done_ (by kernel_rfl) ?_
          obtain ⟨V, hV⟩ : ∃ V, wr.drew = V := ⟨_, rfl⟩
          rw [hV]
          have BV := Aside0.mk (show Below w.heap.size w V from hV ▸ HBw.out.drew)
          have CV := Aside0.mk (show Kd.C k43 V Ax (X i).length (X i) from hV ▸ Kd.C_drew HR.out.2.2)
          have t0 : V.cell? (ad.add (i * 3)) = some (.string c.f0) := hV ▸ t0
          have t1 : V.cell? ⟨(ad.add (i * 3)).block, (ad.add (i * 3)).off + 1, none⟩ = some (.string c.f1) := hV ▸ t1
          have t2 : V.cell? ⟨(ad.add (i * 3)).block, (ad.add (i * 3)).off + 2, none⟩ = some (.bool c.f2) := hV ▸ t2
          clear hV
          go_upto_region 9 with fail
          refine start_ (n := 19) (S := (fun w' => w'.cell? (ad.add (i * 3)) = some (.string c.f0) ∧ w'.cell? ⟨(ad.add (i * 3)).block, (ad.add (i * 3)).off + 1, none⟩ = some (.string c.f1) ∧ w'.cell? ⟨(ad.add (i * 3)).block, (ad.add (i * 3)).off + 2, none⟩ = some (.bool c.f2))) (ds := [17]) #[false, false, false, false, false, false, false, false, false, false, false, false, false, false, false, false, false, false, false] (by kernel_rfl) rfl rfl ?_ ?_
          · (first | exact ⟨by assumption, by assumption, by assumption⟩ | assumption)
          intro hHeld
          refine pure_ (i := 0) (N := some 36) (v := ?_) (a' := ?_) #[true, false, false, false, false, false, false, false, false, false, false, false, false, false, false, false, false, false, false] rfl rfl (by kernel_rfl) (fun _ _ _ h => h) (Or.inl ⟨by rfl, ?_⟩) ?_ ?_
          rotate_left
          · intro w'
            go_simp
            with_reducible rfl
          rotate_left
          · simp only [Act.put, List.setIfInBounds_toArray, List.set_cons_zero, List.set_cons_succ, i64_w, i32_w]
            rfl
          refine pure_ (i := 1) (N := some 37) (v := ?_) (a' := ?_) #[true, true, false, false, false, false, false, false, false, false, false, false, false, false, false, false, false, false, false] rfl rfl (by kernel_rfl) (fun _ _ _ h => h) (Or.inl ⟨by rfl, ?_⟩) ?_ ?_
          rotate_left
          · intro w'
            go_simp
            with_reducible rfl
          rotate_left
          · simp only [Act.put, List.setIfInBounds_toArray, List.set_cons_zero, List.set_cons_succ, i64_w, i32_w]
            rfl
          refine pure_ (i := 2) (N := some 38) (v := ?_) (a' := ?_) #[true, true, true, false, false, false, false, false, false, false, false, false, false, false, false, false, false, false, false] rfl rfl (by kernel_rfl) (fun _ _ _ h => h) (Or.inl ⟨by rfl, ?_⟩) ?_ ?_
          rotate_left
          · intro w'
            go_simp
            with_reducible rfl
          rotate_left
          · simp only [Act.put, List.setIfInBounds_toArray, List.set_cons_zero, List.set_cons_succ, i64_w, i32_w]
            rfl
          refine pure_ (i := 3) (N := some 39) (v := ?_) (a' := ?_) #[true, true, true, true, false, false, false, false, false, false, false, false, false, false, false, false, false, false, false] rfl rfl (by kernel_rfl) (fun _ _ _ h => h) (Or.inl ⟨by rfl, ?_⟩) ?_ ?_
          rotate_left
          · intro w'
            go_simp
            with_reducible rfl
          rotate_left
          · simp only [Act.put, List.setIfInBounds_toArray, List.set_cons_zero, List.set_cons_succ, i64_w, i32_w]
            rfl
          refine pure_ (i := 4) (N := some 40) (v := ?_) (a' := ?_) #[true, true, true, true, true, false, false, false, false, false, false, false, false, false, false, false, false, false, false] rfl rfl (by kernel_rfl) (fun _ _ _ h => h) (Or.inl ⟨by rfl, ?_⟩) ?_ ?_
          rotate_left
          · intro w'
            go_simp
            with_reducible rfl
          rotate_left
          · simp only [Act.put, List.setIfInBounds_toArray, List.set_cons_zero, List.set_cons_succ, i64_w, i32_w]
            rfl
          refine pure_ (i := 6) (N := some 42) (v := ?_) (a' := ?_) #[true, true, true, true, true, false, true, false, false, false, false, false, false, false, false, false, false, false, false] rfl rfl (by kernel_rfl) (fun _ _ _ h => h) (Or.inl ⟨by rfl, ?_⟩) ?_ ?_
          rotate_left
          · intro w'
            go_simp
            with_reducible rfl
          rotate_left
          · simp only [Act.put, List.setIfInBounds_toArray, List.set_cons_zero, List.set_cons_succ, i64_w, i32_w]
            rfl
          refine pure_ (i := 7) (N := some 43) (v := ?_) (a' := ?_) #[true, true, true, true, true, false, true, true, false, false, false, false, false, false, false, false, false, false, false] rfl rfl (by kernel_rfl) (fun _ _ _ h => h) (Or.inl ⟨by rfl, ?_⟩) ?_ ?_
          rotate_left
          · intro w'
            go_simp
            with_reducible rfl
          rotate_left
          · simp only [Act.put, List.setIfInBounds_toArray, List.set_cons_zero, List.set_cons_succ, i64_w, i32_w]
            rfl
          refine pure_ (i := 8) (N := some 44) (v := ?_) (a' := ?_) #[true, true, true, true, true, false, true, true, true, false, false, false, false, false, false, false, false, false, false] rfl rfl (by kernel_rfl) (fun _ _ _ h => h) (Or.inl ⟨by rfl, ?_⟩) ?_ ?_
          rotate_left
          · intro w'
            go_simp
            with_reducible rfl
          rotate_left
          · simp only [Act.put, List.setIfInBounds_toArray, List.set_cons_zero, List.set_cons_succ, i64_w, i32_w]
            rfl
          refine pure_ (i := 9) (N := some 45) (v := ?_) (a' := ?_) #[true, true, true, true, true, false, true, true, true, true, false, false, false, false, false, false, false, false, false] rfl rfl (by kernel_rfl) (fun _ _ _ h => h) (Or.inl ⟨by rfl, ?_⟩) ?_ ?_
          rotate_left
          · intro w'
            go_simp
            with_reducible rfl
          rotate_left
          · simp only [Act.put, List.setIfInBounds_toArray, List.set_cons_zero, List.set_cons_succ, i64_w, i32_w]
            rfl
          refine pure_ (i := 11) (N := some 47) (v := ?_) (a' := ?_) #[true, true, true, true, true, false, true, true, true, true, false, true, false, false, false, false, false, false, false] rfl rfl (by kernel_rfl) (fun _ _ _ h => h) (Or.inl ⟨by rfl, ?_⟩) ?_ ?_
          rotate_left
          · intro w'
            go_simp
            with_reducible rfl
          rotate_left
          · simp only [Act.put, List.setIfInBounds_toArray, List.set_cons_zero, List.set_cons_succ, i64_w, i32_w]
            rfl
          refine pure_ (i := 12) (N := some 48) (v := ?_) (a' := ?_) #[true, true, true, true, true, false, true, true, true, true, false, true, true, false, false, false, false, false, false] rfl rfl (by kernel_rfl) (fun _ _ _ h => h) (Or.inl ⟨by rfl, ?_⟩) ?_ ?_
          rotate_left
          · intro w'
            go_simp
            with_reducible rfl
          rotate_left
          · simp only [Act.put, List.setIfInBounds_toArray, List.set_cons_zero, List.set_cons_succ, i64_w, i32_w]
            rfl
          refine pure_ (i := 13) (N := some 49) (v := ?_) (a' := ?_) #[true, true, true, true, true, false, true, true, true, true, false, true, true, true, false, false, false, false, false] rfl rfl (by kernel_rfl) (fun _ _ _ h => h) (Or.inl ⟨by rfl, ?_⟩) ?_ ?_
          rotate_left
          · intro w'
            go_simp
            with_reducible rfl
          rotate_left
          · simp only [Act.put, List.setIfInBounds_toArray, List.set_cons_zero, List.set_cons_succ, i64_w, i32_w]
            rfl
          refine pure_ (i := 14) (N := some 50) (v := ?_) (a' := ?_) #[true, true, true, true, true, false, true, true, true, true, false, true, true, true, true, false, false, false, false] rfl rfl (by kernel_rfl) (fun _ _ _ h => h) (Or.inl ⟨by rfl, ?_⟩) ?_ ?_
          rotate_left
          · intro w'
            go_simp
            with_reducible rfl
          rotate_left
          · simp only [Act.put, List.setIfInBounds_toArray, List.set_cons_zero, List.set_cons_succ, i64_w, i32_w]
            rfl
          refine take_ (i := 5) (N := some 41) (v := ?_) (a' := ?_) #[true, true, true, true, true, true, true, true, true, true, false, true, true, true, true, false, false, false, false] rfl rfl (by kernel_rfl) (fun _ _ _ h => h) (Or.inl ⟨by rfl, ?_⟩) hHeld ?_ ?_
          rotate_left
          · rintro w' ⟨s0, s1, s2⟩
            go_simp
            with_reducible rfl
          rotate_left
          · simp only [Act.put, List.setIfInBounds_toArray, List.set_cons_zero, List.set_cons_succ, i64_w, i32_w]
            rfl
          refine take_ (i := 10) (N := some 46) (v := ?_) (a' := ?_) #[true, true, true, true, true, true, true, true, true, true, true, true, true, true, true, false, false, false, false] rfl rfl (by kernel_rfl) (fun _ _ _ h => h) (Or.inl ⟨by rfl, ?_⟩) hHeld ?_ ?_
          rotate_left
          · rintro w' ⟨s0, s1, s2⟩
            go_simp
            with_reducible rfl
          rotate_left
          · simp only [Act.put, List.setIfInBounds_toArray, List.set_cons_zero, List.set_cons_succ, i64_w, i32_w]
            rfl
          refine take_ (i := 15) (N := some 51) (v := ?_) (a' := ?_) #[true, true, true, true, true, true, true, true, true, true, true, true, true, true, true, true, false, false, false] rfl rfl (by kernel_rfl) (fun _ _ _ h => h) (Or.inl ⟨by rfl, ?_⟩) hHeld ?_ ?_
          rotate_left
          · rintro w' ⟨s0, s1, s2⟩
            go_simp
            with_reducible rfl
          rotate_left
          · simp only [Act.put, List.setIfInBounds_toArray, List.set_cons_zero, List.set_cons_succ, i64_w, i32_w]
            rfl
          refine pure_ (i := 16) (N := some 52) (v := ?_) (a' := ?_) #[true, true, true, true, true, true, true, true, true, true, true, true, true, true, true, true, true, false, false] rfl rfl (by kernel_rfl) (fun _ _ _ h => h) (Or.inl ⟨by rfl, ?_⟩) ?_ ?_
          rotate_left
          · intro w'
            go_simp
            with_reducible rfl
          rotate_left
          · simp only [Act.put, List.setIfInBounds_toArray, List.set_cons_zero, List.set_cons_succ, i64_w, i32_w]
            rfl
          refine last_ (i := 17) (N := some 53) #[true, true, true, true, true, true, true, true, true, true, true, true, true, true, true, true, true, true, false] rfl rfl (by kernel_rfl) (by decide) (fun K hK => ?_)
          refine goes_ Try.func14 (by kernel_rfl) rfl #[.slice Ax nx cx, .agg #[.string c.f0, .string c.f1, .bool c.f2]] (by rfl) rfl rfl (by simp only [List.map_toArray, List.map_cons, List.map_nil]; rfl) ?_
          refine (calls_of_args (by rw [HR.out.1]) (r10_One.calls k Ax cx (X i) c.f0 c.f1 c.f2 (X (i + 1)) V.drew (Kd.C_drew CV.out) (HR.out.1 ▸ HR.out.2.1) (by have h := HXX.out.2.1 i (by rw [HN.out.2]; exact HLT.out); rw [HCC.out] at h; exact h))).mono ?_
          rintro e w4 ⟨v4, rfl, hR4, hb4⟩
          refine ⟨_, rfl, ?_⟩
          obtain ⟨A4, c4, rfl, hc4, hC4⟩ := Kd.R_reads hR4
          have R4 := Aside0.mk (And.intro hc4 hC4)
          have B4 := Aside0.mk hb4
          clear hR4 hb4 hc4 hC4
          obtain ⟨n4, hn4⟩ : ∃ n4, (X (i + 1)).length = n4 := ⟨_, rfl⟩
          have HN4 := Aside0.mk hn4
          rw [hn4]
          clear hn4
          refine hK.out _ _ ?_
          clear hK K
          refine norm_ (a' := ?_) ?_ ?_
          rotate_left
          · show Act.put _ (some 53) _ = _
            simp only [Act.put, List.setIfInBounds_toArray, List.set_cons_zero, List.set_cons_succ, i64_w, i32_w]
            rfl
          refine pure_ (i := 18) (N := some 5) (v := ?_) (a' := ?_) #[true, true, true, true, true, true, true, true, true, true, true, true, true, true, true, true, true, true, true] rfl rfl (by kernel_rfl) (fun _ _ _ h => h) (Or.inl ⟨by rfl, ?_⟩) ?_ ?_
          rotate_left
          · intro w'
            go_simp
            with_reducible rfl
          rotate_left
          · simp only [Act.put, List.setIfInBounds_toArray, List.set_cons_zero, List.set_cons_succ, i64_w, i32_w]
            rfl
          refine done_ (by kernel_rfl) ?_
          go_wp2_with fail
          go_roundg k1
          case measure => omega
          case rel =>
            exact ⟨i + 1, A4, n4, c4, by rw [hwi.out], rfl, ⟨by have := HI.out; omega⟩, ⟨HN4.out.symm, HN4.out ▸ R4.out.1, R4.out.2⟩, ⟨BV.out.drew.trans (B4.out.mono BV.out.size)⟩⟩
    · have c60 : decide ((60 : Int) < (n : Int)) = true := decide_eq_true (by omega)
      have c60' : decide (60 < n) = true := decide_eq_true (by omega)
      clear h60
      go_wp2_with (first | (go_at_call 6; refine hcall.out.mono ?_; rintro e w1 ⟨rfl, hb1⟩; have B1 := Aside0.mk hb1; clear hb1) | (go_at_call 7; refine (lw_same.calls k true _ HW.out.same).mono ?_; rintro e w2 ⟨rfl, hb2⟩; have B2 := Aside0.mk hb2; clear hb2))
      go_ret
      exact ⟨rfl, B1.out.trans (B2.out.mono B1.out.size)⟩
end Go.Proofs.Ytmpdbblljofjfaa.G
namespace Go.Proofs.Ytmpdbblljofjfaa.Pure
open Go.RowKit Go.Proofs.Ytmpdbblljofjfaa.G Go.Proofs.YtmpdbblljofjfaaW.PrintWords Go.Proofs.YtmpdbblljofjfaaW.PrintLast
set_option linter.unusedVariables false
theorem drop_bt (s : ByteArray) (i : Int) (h0 : 0 ≤ i) (h : i < s.size) : ∃ b : UInt8, (b.toNat : Int) = bt s i ∧ s.toList.drop i.toNat = b :: s.toList.drop (i + 1).toNat := by
  have hl : s.toList.length = s.size := by rw [Lib.toList_data]; simp
  refine ⟨s.toList[i.toNat]'(by omega), ?_, ?_⟩
  · unfold bt
    rw [dif_pos (by omega)]
    congr 1
    simp only [Lib.toList_data]
    rfl
  · rw [List.drop_eq_getElem_cons (by omega), show (i + 1).toNat = i.toNat + 1 by omega]
theorem compare_l0 (x y : ByteArray) (hx : x.size ≤ 140737488351232) (d : Nat) : ∀ i : Int, 0 ≤ i → i ≤ x.size → i ≤ y.size → (x.size : Int) - i = d →
    ∃ t, Ev (fun k => r02_Compare.l0 k x y i) t ∧ (t > 0 ↔ Op.bytesLess (y.toList.drop i.toNat) (x.toList.drop i.toNat) = true) := by
  have hlx : x.toList.length = x.size := by rw [Lib.toList_data]; simp
  have hly : y.toList.length = y.size := by rw [Lib.toList_data]; simp
  induction d with
  | zero =>
    intro i h0 hix hiy hd; have e : x.toList.drop i.toNat = [] := List.drop_eq_nil_of_le (by omega)
    by_cases c : (x.size : Int) < y.size
    (refine ⟨-1, ((Ev.pure (-1)).step (f := fun k => r02_Compare.j1 k x y i false) (fun k => by rw [r02_Compare.j1, if_neg (by decide), if_pos c])).step (fun k => by rw [r02_Compare.l0, if_neg (by omega)]), ?_⟩; rw [e]; cases y.toList.drop i.toNat <;> simp [Op.bytesLess]); (refine ⟨0, ((Ev.pure 0).step (f := fun k => r02_Compare.j1 k x y i false) (fun k => by rw [r02_Compare.j1, if_neg (by decide), if_neg c, if_neg (by omega)])).step (fun k => by rw [r02_Compare.l0, if_neg (by omega)]), ?_⟩; rw [e]; cases y.toList.drop i.toNat <;> simp [Op.bytesLess])
  | succ d ih =>
    intro i h0 hix hiy hd; obtain ⟨bx, ex, dx⟩ := drop_bt x i h0 (by omega)
    by_cases c : i < (y.size : Int)
    · obtain ⟨by', ey, dy⟩ := drop_bt y i h0 c
      have st (g : Nat → Option Int) (t : Int) (hg : Ev g t) (h : ∀ k, r02_Compare.j1 (k + 1) x y i true = g k) : Ev (fun k => r02_Compare.l0 k x y i) t :=
        (hg.step (f := fun k => r02_Compare.j1 k x y i true) h).step (fun k => by rw [r02_Compare.l0, if_pos (by omega), decide_eq_true c])
      rw [dx, dy]
      have lt {a b : UInt8} : a < b ↔ (a.toNat : Int) < b.toNat := by rw [UInt8.lt_iff_toNat_lt]; omega
      by_cases c1 : bt x i < bt y i
      · refine ⟨-1, st _ _ (Ev.pure (-1)) (fun k => by rw [r02_Compare.j1, if_pos rfl, if_pos h0, if_pos (by omega), if_pos c, if_pos c1]), ?_⟩
        have h1 : ¬ by' < bx := by rw [lt]; omega
        have h2 : ¬ by' = bx := by intro e; subst e; omega
        simp [Op.bytesLess, h1, h2]
      · by_cases c2 : bt x i > bt y i
        · refine ⟨1, st _ _ (Ev.pure 1) (fun k => by rw [r02_Compare.j1, if_pos rfl, if_pos h0, if_pos (by omega), if_pos c, if_neg c1, if_pos c2]), ?_⟩
          have h1 : by' < bx := by rw [lt]; omega
          simp [Op.bytesLess, h1]
        · obtain ⟨t, ht, hi⟩ := ih (i + 1) (by omega) (by omega) (by omega) (by omega)
          refine ⟨t, st _ _ ht (fun k => by rw [r02_Compare.j1, if_pos rfl, if_pos h0, if_pos (by omega), if_pos c, if_neg c1, if_neg c2, w1 (by omega) (by omega)]), ?_⟩
          rw [hi]
          have h2 : by' = bx := by apply UInt8.toNat_inj.1; omega
          subst h2
          have h1 : ¬ by' < by' := by rw [lt]; omega
          simp [Op.bytesLess, h1]
    · have e : y.toList.drop i.toNat = [] := List.drop_eq_nil_of_le (by omega)
      refine ⟨1, ((Ev.pure 1).step (f := fun k => r02_Compare.j1 k x y i false) (fun k => by rw [r02_Compare.j1, if_neg (by decide), if_neg (by omega), if_pos (by omega)])).step (fun k => by rw [r02_Compare.l0, if_pos (by omega), decide_eq_false c]), ?_⟩; rw [dx, e]; simp [Op.bytesLess]
theorem compare (x y : ByteArray) (hx : x.size ≤ 140737488351232) : ∃ t, Ev (fun k => r02_Compare.f k x y) t ∧ (t > 0 ↔ Op.bytesLess y.toList x.toList = true) := by
  obtain ⟨t, ht, hi⟩ := compare_l0 x y hx x.size 0 (by omega) (by omega) (by omega) (by omega); exact ⟨t, ht.eq (fun k => rfl), by simpa using hi⟩
def lessB (a b : ByteArray) : Bool := Op.bytesLess a.toList b.toList
theorem lessB_lt (a b : ByteArray) : lessB a b = true ↔ a.toList < b.toList := by
  unfold lessB; rw [bytesLess_eq]; simp
theorem less_irrefl (a : ByteArray) : ¬ lessB a a = true := by rw [lessB_lt]; exact List.lt_irrefl _
theorem less_trans {a b c : ByteArray} (h : lessB a b = true) (k : lessB b c = true) : lessB a c = true := by rw [lessB_lt] at *; exact List.lt_trans h k
theorem less_total (a b : ByteArray) : lessB a b = true ∨ a.toList = b.toList ∨ lessB b a = true := by
  rw [lessB_lt, lessB_lt]
  by_cases h : a.toList < b.toList
  · exact .inl h
  · by_cases k : b.toList < a.toList
    · exact .inr (.inr k)
    · exact .inr (.inl (List.le_antisymm (List.not_lt.1 k) (List.not_lt.1 h)))
theorem isN_iff (n : ByteArray) (x : S43) : isN n x = true ↔ x.f0.toList = n.toList := by unfold isN; simp
theorem less_cases (n : ByteArray) (x : S43) : (¬ isN n x = true ∧ ¬ lessB x.f0 n = true) ↔ lessB n x.f0 = true := by
  rw [isN_iff]; constructor
  · rintro ⟨h, k⟩
    rcases less_total n x.f0 with a | a | a
    · exact a
    · exact absurd a.symm h
    · exact absurd a k
  · intro h
    refine ⟨fun e => ?_, fun k => less_irrefl _ (less_trans h k)⟩; rw [lessB, e] at h; exact less_irrefl n h
/-- The place of the first that is greater; behind all, if there is none. -/
def gtFrom (n : ByteArray) : List S43 → Int → Int
  | [], i => i
  | x :: xs, i => if lessB n x.f0 = true then i else gtFrom n xs (i + 1)
theorem gt_range (n : ByteArray) (l : List S43) : ∀ i : Int, i ≤ gtFrom n l i ∧ gtFrom n l i ≤ i + l.length := by
  induction l with
  | nil => intro i; simp [gtFrom]
  | cons x l ih =>
    intro i; rw [gtFrom]; split; (simp; omega); (have := ih (i + 1); simp; omega)
theorem gt_split (n : ByteArray) (l : List S43) : ∀ i : Int, (∀ x ∈ l.take (gtFrom n l i - i).toNat, ¬ lessB n x.f0 = true) ∧ (∀ x xs, l.drop (gtFrom n l i - i).toNat = x :: xs → lessB n x.f0 = true) := by
  induction l with
  | nil => intro i; simp [gtFrom]
  | cons x l ih =>
    intro i; rw [gtFrom]; split
    · next h => rw [Int.sub_self]; simp [h]
    · next h =>
      obtain ⟨a, b⟩ := ih (i + 1); have hr := gt_range n l (i + 1)
      have e : (gtFrom n l (i + 1) - i).toNat = (gtFrom n l (i + 1) - (i + 1)).toNat + 1 := by omega
      rw [e]; refine ⟨fun y hy => ?_, fun y ys hy => ?_⟩
      · rw [List.take_succ_cons] at hy
        rcases List.mem_cons.1 hy with rfl | hy
        · exact h
        · exact a y hy
      · rw [List.drop_succ_cons] at hy
        exact b y ys hy
theorem idx_all (n : ByteArray) (l : List S43) : ∀ i : Int, (∀ x ∈ l, ¬ isN n x = true) → idxFrom n l i = -1 := by
  induction l with
  | nil => intro i h; rfl
  | cons y l ih =>
    intro i h; rw [idxFrom, if_neg (h y (by simp)), ih _ (fun x hx => h x (by simp [hx]))]
theorem idx_at (n : ByteArray) (A : List S43) (x : S43) (B : List S43) (hx : isN n x = true) : ∀ i : Int, (∀ y ∈ A, ¬ isN n y = true) → idxFrom n (A ++ x :: B) i = i + A.length := by
  induction A with
  | nil => intro i h; simp [idxFrom, hx]
  | cons y A ih =>
    intro i h; rw [List.cons_append, idxFrom, if_neg (h y (by simp)), ih _ (fun z hz => h z (by simp [hz]))]; simp; omega
/-- A list with the name, or without. -/
theorem name_cases (n : ByteArray) (l : List S43) : (∃ A x B, l = A ++ x :: B ∧ (∀ y ∈ A, ¬ isN n y = true) ∧ isN n x = true) ∨ (∀ y ∈ l, ¬ isN n y = true) := by
  induction l with
  | nil => exact .inr (fun y hy => by cases hy)
  | cons y l ih =>
    by_cases h : isN n y = true
    · exact .inl ⟨[], y, l, rfl, (fun z hz => by cases hz), h⟩
    · rcases ih with ⟨A, x, B, rfl, hA, hx⟩ | ih
      · exact .inl ⟨y :: A, x, B, rfl, fun z hz => by rcases List.mem_cons.1 hz with rfl | hz; exact h; exact hA z hz, hx⟩
      · exact .inr fun z hz => by rcases List.mem_cons.1 hz with rfl | hz; exact h; exact ih z hz
theorem find_l0 (l : List S43) (n : ByteArray) (hl : l.length ≤ 140737488351232) (d : Nat) : ∀ i tq : Int, 0 ≤ i → (l.length : Int) - i = d → (tq = l.length ∨ tq < i) →
    Ev (fun k => attrs_find.l0 k l n tq l l.length i) (if idxFrom n (l.drop i.toNat) i = -1 then (if tq < l.length then tq else gtFrom n (l.drop i.toNat) i, false) else (idxFrom n (l.drop i.toNat) i, true)) := by
  induction d with
  | zero =>
    intro i tq h0 hd ht; refine (Ev.pure _).step (fun k => ?_); rw [attrs_find.l0, if_neg (by omega), List.drop_eq_nil_of_le (by omega), idxFrom, if_pos rfl, gtFrom]; split; (rfl)
    · congr 2; omega
  | succ d ih =>
    intro i tq h0 hd ht
    have h1 : i < (l.length : Int) := by omega
    have hw : wrap64 (i + 1) = i + 1 := w1 (by omega) (by omega); rw [drop_T43 l i h0 h1, idxFrom, gtFrom]
    by_cases c : isN n (rd_T43 l i) = true
    · rw [if_pos c, if_neg (by omega)]
      exact (Ev.pure _).step (fun k => by rw [attrs_find.l0, if_pos h1, if_pos h0, if_pos h1, if_pos ((isN_iff _ _).1 c)])
    · rw [if_neg c]
      have c' : ¬ (rd_T43 l i).f0.toList = n.toList := fun e => c ((isN_iff _ _).2 e)
      by_cases c2 : tq < (l.length : Int)
      · have := ih (i + 1) tq (by omega) (by omega) (.inr (by omega))
        rw [if_pos c2] at this ⊢
        exact this.step (fun k => by rw [attrs_find.l0, if_pos h1, if_pos h0, if_pos h1, if_neg c', if_pos c2, hw])
      · have hto : tq = l.length := by omega
        by_cases c3 : lessB (rd_T43 l i).f0 n = true
        · have c4 : ¬ lessB n (rd_T43 l i).f0 = true := fun h => ((less_cases _ _).2 h).2 c3
          have := ih (i + 1) tq (by omega) (by omega) (.inl hto)
          rw [if_neg c2] at this ⊢
          rw [if_neg c4]
          exact this.step (fun k => by rw [attrs_find.l0, if_pos h1, if_pos h0, if_pos h1, if_neg c', if_neg c2, if_pos (show Op.bytesLess _ _ = true from c3), hw])
        · have c4 := (less_cases n (rd_T43 l i)).1 ⟨c, c3⟩
          have := ih (i + 1) i (by omega) (by omega) (.inr (by omega))
          rw [if_pos h1] at this
          rw [if_neg c2, if_pos c4]
          exact this.step (fun k => by rw [attrs_find.l0, if_pos h1, if_pos h0, if_pos h1, if_neg c', if_neg c2, if_neg (show ¬ Op.bytesLess _ _ = true from c3), hw])
theorem find_ev (l : List S43) (n : ByteArray) (hl : l.length ≤ 140737488351232) : Ev (fun k => attrs_find.f k l n) (if idxFrom n l 0 = -1 then (gtFrom n l 0, false) else (idxFrom n l 0, true)) := by
  have := find_l0 l n hl l.length 0 l.length (by omega) (by omega) (.inl rfl); simp only [Int.toNat_zero, List.drop_zero, if_neg (show ¬ (l.length : Int) < l.length by omega)] at this; exact this.eq (fun k => rfl)
theorem refFind_l0 (l : List S43) (n : ByteArray) (hl : l.length ≤ 140737488351232) (d : Nat) : ∀ i : Int, 0 ≤ i → (l.length : Int) - i = d →
    Ev (fun k => r09_Find.l0 k l n l.length i) (idxFrom n (l.drop i.toNat) i) := by
  induction d with
  | zero =>
    intro i h0 hd; rw [List.drop_eq_nil_of_le (by omega), idxFrom]; exact (Ev.pure _).step (fun k => by rw [r09_Find.l0, if_neg (by omega)])
  | succ d ih =>
    intro i h0 hd
    have h1 : i < (l.length : Int) := by omega
    rw [drop_T43 l i h0 h1, idxFrom]
    by_cases c : isN n (rd_T43 l i) = true
    (rw [if_pos c]; exact (Ev.pure _).step (fun k => by rw [r09_Find.l0, if_pos h1, if_pos h0, if_pos h1, if_pos ((isN_iff _ _).1 c)])); (rw [if_neg c]; exact (ih (i + 1) (by omega) (by omega)).step (fun k => by rw [r09_Find.l0, if_pos h1, if_pos h0, if_pos h1, if_neg (fun e => c ((isN_iff _ _).2 e)), w1 (by omega) (by omega)]))
theorem refFind_ev (l : List S43) (n : ByteArray) (hl : l.length ≤ 140737488351232) : Ev (fun k => r09_Find.f k l n) (idxFrom n l 0) := by
  have := refFind_l0 l n hl l.length 0 (by omega) (by omega); simp only [Int.toNat_zero, List.drop_zero] at this; exact this.eq (fun k => rfl)
theorem rd_at (A : List S43) (x : S43) (B : List S43) : rd_T43 (A ++ x :: B) (A.length : Int) = x := by
  unfold rd_T43; simp [List.getD_eq_getElem?_getD]
theorem eta43 (x : S43) : (⟨x.f0, x.f1⟩ : S43) = x := by cases x; rfl
theorem rd_nat (l : List S43) (i : Nat) : rd_T43 l (i : Int) = (l[i]?).getD z43 := by
  unfold rd_T43; rw [List.getD_eq_getElem?_getD, Int.toNat_natCast]
/-- The place at which a name belongs. -/
def pl (n : ByteArray) (l : List S43) : Nat := (gtFrom n l 0).toNat
theorem pl_le (n : ByteArray) (l : List S43) : pl n l ≤ l.length := by
  have := gt_range n l 0; unfold pl; omega
theorem pl_eq (n : ByteArray) (l : List S43) : gtFrom n l 0 = (pl n l : Int) := by
  have := gt_range n l 0; unfold pl; omega
def ins (n v : ByteArray) (l : List S43) : List S43 := l.take (pl n l) ++ [⟨n, v⟩] ++ l.drop (pl n l)
theorem with_found (A : List S43) (x : S43) (B : List S43) (n v : ByteArray) (hl : (A ++ x :: B).length ≤ 4398046510000) (hA : ∀ y ∈ A, ¬ isN n y = true) (hx : isN n x = true) :
    Ev (fun k => attrs_With.f k (A ++ x :: B) n v) (A ++ ⟨x.f0, v⟩ :: B) := by
  have f1 := find_ev (A ++ x :: B) n (by omega); rw [idx_at n A x B hx 0 hA, Int.zero_add, if_neg (by omega)] at f1
  have hlen : (A.length : Int) < ((A ++ x :: B).length : Int) := by simp; omega
  refine f1.via0 (Ev.pure _) (fun k hk => ?_); rw [attrs_With.f, hk, Option.bind_some, withAt, if_pos ⟨hl, by simp, by simp; omega⟩, if_pos rfl, if_pos hlen, rd_at]
  congr 1
  simp
theorem with_none (l : List S43) (n v : ByteArray) (hl : l.length ≤ 4398046510000) (h : ∀ y ∈ l, ¬ isN n y = true) :
    Ev (fun k => attrs_With.f k l n v) (ins n v l) := by
  have f1 := find_ev l n (by omega); rw [idx_all n l 0 h, if_pos rfl] at f1; have := gt_range n l 0; refine f1.via0 (Ev.pure _) (fun k hk => ?_); rw [attrs_With.f, hk, Option.bind_some, withAt, if_pos ⟨hl, by dsimp only; omega, by dsimp only; omega⟩, if_neg (by simp)]; rfl
theorem refWith_l0 (l : List S43) (hl : l.length ≤ 140737488351232) (hs : ∀ y ∈ l, Sm43 y) (n v : ByteArray) (at' : Int) (r : List S43) (h : Ev (fun k => r09_With.j1 k l n v at' (gtFrom n l 0)) r) (d : Nat) : ∀ i : Int, 0 ≤ i → (l.length : Int) - i = d → gtFrom n (l.drop i.toNat) i = gtFrom n l 0 →
    Ev (fun k => r09_With.l0 k l n v at' i) r := by
  induction d with
  | zero =>
    intro i h0 hd hg; rw [List.drop_eq_nil_of_le (by omega), gtFrom] at hg; rw [← hg] at h; exact h.step (fun k => by rw [r09_With.l0, if_neg (by omega)])
  | succ d ih =>
    intro i h0 hd hg
    have h1 : i < (l.length : Int) := by omega
    rw [drop_T43 l i h0 h1, gtFrom] at hg
    have hm : rd_T43 l i ∈ l := by
      unfold rd_T43; rw [List.getD_eq_getElem?_getD, List.getElem?_eq_getElem (by omega)]; exact List.getElem_mem _
    obtain ⟨t, ht, hti⟩ := compare (rd_T43 l i).f0 n (hs _ hm).h0
    by_cases c : lessB n (rd_T43 l i).f0 = true
    · rw [if_pos c] at hg
      have : ¬ t ≤ 0 := by have := hti.2 c; omega
      rw [← hg] at h
      exact ht.via h (fun k hk => by rw [r09_With.l0, if_pos h1, if_pos h0, hk, Option.bind_some, if_neg this])
    · rw [if_neg c] at hg
      have : t ≤ 0 := by
        by_cases h2 : t > 0
        (exact absurd (hti.1 h2) c); (omega)
      exact ht.via (ih (i + 1) (by omega) (by omega) hg) (fun k hk => by rw [r09_With.l0, if_pos h1, if_pos h0, hk, Option.bind_some, if_pos this, w1 (by omega) (by omega)])
theorem refWith_found_l1 (A : List S43) (x : S43) (B : List S43) (n v : ByteArray) (g : Int) (hl : (A ++ x :: B).length ≤ 4398046510976) (d : Nat) : ∀ i : Nat, (A ++ x :: B).length - i = d → i ≤ (A ++ x :: B).length →
    Ev (fun k => r09_With.l1 k (A ++ x :: B) n v A.length g ((A ++ ⟨x.f0, v⟩ :: B).take i) (A ++ x :: B).length i) (A ++ ⟨x.f0, v⟩ :: B) := by
  induction d with
  | zero =>
    intro i hd hi; have : (A ++ (⟨x.f0, v⟩ : S43) :: B).take i = A ++ ⟨x.f0, v⟩ :: B := List.take_of_length_le (by simp at *; omega); rw [this]; exact (Ev.pure _).step (fun k => by rw [r09_With.l1, if_neg (by omega), if_neg (by omega)])
  | succ d ih =>
    intro i hd hi
    have h1 : i < (A ++ x :: B).length := by omega
    have e := ih (i + 1) (by omega) (by omega)
    have hlt : ((A ++ (⟨x.f0, v⟩ : S43) :: B).take i).length < 4398046511104 := by rw [List.length_take]; omega
    have hi2 : i < (A ++ (⟨x.f0, v⟩ : S43) :: B).length := by simp at *; omega
    have tk : (A ++ (⟨x.f0, v⟩ : S43) :: B).take (i + 1) = (A ++ ⟨x.f0, v⟩ :: B).take i ++ [rd_T43 (A ++ ⟨x.f0, v⟩ :: B) i] := by
      have := take_T43 (A ++ (⟨x.f0, v⟩ : S43) :: B) i (by omega) (by omega); rwa [show ((i : Int) + 1).toNat = i + 1 by omega, Int.toNat_natCast] at this
    have rdR : rd_T43 (A ++ (⟨x.f0, v⟩ : S43) :: B) i = if (i : Int) = A.length then ⟨(rd_T43 (A ++ x :: B) i).f0, v⟩ else rd_T43 (A ++ x :: B) i := by
      rw [rd_nat, rd_nat]
      by_cases c : i = A.length
      · subst c; simp
      · rw [if_neg (by omega)]
        by_cases c2 : i < A.length
        · rw [List.getElem?_append_left c2, List.getElem?_append_left c2]
        · rw [List.getElem?_append_right (by omega), List.getElem?_append_right (by omega)]
          obtain ⟨q, hq⟩ : ∃ q, i - A.length = q + 1 := ⟨i - A.length - 1, by omega⟩
          rw [hq, List.getElem?_cons_succ, List.getElem?_cons_succ]
    rw [tk, rdR] at e
    have hw : wrap64 ((i : Int) + 1) = ((i + 1 : Nat) : Int) := by rw [w1 (by omega) (by omega)]; rfl
    refine (e.step (f := fun k => r09_With.j3 k (A ++ x :: B) n v A.length g ((A ++ ⟨x.f0, v⟩ :: B).take i) i (A ++ x :: B).length i false) (fun k => ?_)).step (fun k => by rw [r09_With.l1, if_pos (by omega), if_neg (by omega)]); rw [r09_With.j3, if_neg (by decide), if_pos (by omega), if_pos (by omega), if_pos hlt, if_pos hlt, hw]
    by_cases c : (i : Int) = A.length
    (rw [if_pos c, if_pos c]); (rw [if_neg c, if_neg c, eta43])
theorem refWith_found (A : List S43) (x : S43) (B : List S43) (n v : ByteArray) (hl : (A ++ x :: B).length ≤ 4398046510000) (hs : ∀ y ∈ A ++ x :: B, Sm43 y) (hA : ∀ y ∈ A, ¬ isN n y = true) (hx : isN n x = true) :
    Ev (fun k => r09_With.f k (A ++ x :: B) n v) (A ++ ⟨x.f0, v⟩ :: B) := by
  have f2 := refFind_ev (A ++ x :: B) n (by omega); rw [idx_at n A x B hx 0 hA, Int.zero_add] at f2; have e := refWith_found_l1 A x B n v (gtFrom n (A ++ x :: B) 0) (by omega) (A ++ x :: B).length 0 (by omega) (by omega); rw [List.take_zero] at e; have e1 := e.step (f := fun k => r09_With.j1 k (A ++ x :: B) n v A.length (gtFrom n (A ++ x :: B) 0)) (fun k => by rw [r09_With.j1]; rfl); exact f2.via0 (refWith_l0 (A ++ x :: B) (by omega) hs n v _ _ e1 (A ++ x :: B).length 0 (by omega) (by omega) (by simp)) (fun k hk => by rw [r09_With.f, hk]; rfl)
theorem ins_len (n v : ByteArray) (l : List S43) : (ins n v l).length = l.length + 1 := by
  have := pl_le n l; unfold ins; simp only [List.length_append, List.length_take, List.length_drop, List.length_cons, List.length_nil]; omega
theorem ins_rd (n v : ByteArray) (l : List S43) (i : Nat) : rd_T43 (ins n v l) i = if i < pl n l then rd_T43 l i else if i = pl n l then ⟨n, v⟩ else rd_T43 l ((i - 1 : Nat) : Int) := by
  have hp := pl_le n l
  have hA : (l.take (pl n l)).length = pl n l := by rw [List.length_take]; omega
  rw [rd_nat]; unfold ins; rw [List.append_assoc]
  by_cases c : i < pl n l
  · rw [if_pos c, List.getElem?_append_left (by omega), List.getElem?_take, if_pos c, rd_nat]
  · rw [if_neg c, List.getElem?_append_right (by omega), hA]
    by_cases c2 : i = pl n l
    · rw [if_pos c2, c2, Nat.sub_self]; rfl
    · rw [if_neg c2]
      obtain ⟨q, hq⟩ : ∃ q, i - pl n l = q + 1 := ⟨i - pl n l - 1, by omega⟩
      rw [hq, List.singleton_append, List.getElem?_cons_succ, List.getElem?_drop, rd_nat]
      congr 2
      omega
theorem take_nat (R : List S43) (i : Nat) (h : i < R.length) : R.take (i + 1) = R.take i ++ [rd_T43 R i] := by
  have := take_T43 R i (by omega) (by omega); rwa [show ((i : Int) + 1).toNat = i + 1 by omega, Int.toNat_natCast] at this
theorem refWith_none_l1 (l : List S43) (n v : ByteArray) (hl : l.length ≤ 4398046510976) (d : Nat) : ∀ i : Nat, l.length - i = d → i ≤ l.length →
    Ev (fun k => r09_With.l1 k l n v (-1) (pl n l) (if i ≤ pl n l then (ins n v l).take i else (ins n v l).take (i + 1)) l.length i) (ins n v l) := by
  have hp := pl_le n l; have hil := ins_len n v l
  induction d with
  | zero =>
    intro i hd hi
    have hie : i = l.length := by omega
    subst hie
    by_cases c : pl n l = l.length
    · rw [if_pos (by omega)]
      have e : (ins n v l).take l.length ++ [⟨n, v⟩] = ins n v l := by
        have h1 := take_nat (ins n v l) l.length (by omega); rw [ins_rd, if_neg (by omega), if_pos c.symm, List.take_of_length_le (by omega)] at h1; exact h1.symm
      refine (Ev.pure _).step (fun k => ?_)
      rw [r09_With.l1, if_neg (by omega), if_pos (by decide), if_pos (by omega), if_pos (by rw [List.length_take]; omega), e]
    · rw [if_neg (by omega), List.take_of_length_le (by omega)]
      refine (Ev.pure _).step (fun k => ?_); rw [r09_With.l1, if_neg (by omega), if_pos (by decide), if_neg (by omega)]
  | succ d ih =>
    intro i hd hi; have e := ih (i + 1) (by omega) (by omega)
    have hw : wrap64 ((i : Int) + 1) = ((i + 1 : Nat) : Int) := by rw [w1 (by omega) (by omega)]; rfl
    have hx7 : ¬ (i : Int) = -1 := by omega
    by_cases c : i = pl n l
    · rw [if_pos (by omega)]
      have r1 : rd_T43 (ins n v l) ((i + 1 : Nat) : Int) = rd_T43 l i := by rw [ins_rd, if_neg (by omega), if_neg (by omega), Nat.add_sub_cancel]
      have r0 : rd_T43 (ins n v l) (i : Int) = ⟨n, v⟩ := by rw [ins_rd, if_neg (by omega), if_pos c]
      rw [if_neg (by omega), take_nat _ (i + 1) (by omega), take_nat _ i (by omega), r1, r0] at e
      have hlt : ((ins n v l).take i).length < 4398046511104 := by rw [List.length_take]; omega
      have hlt2 : ((ins n v l).take i ++ [(⟨n, v⟩ : S43)]).length < 4398046511104 := by rw [List.length_append, List.length_take]; simp; omega
      refine (e.step (f := fun k => r09_With.j3 k l n v (-1) (pl n l) ((ins n v l).take i) i l.length i true) (fun k => ?_)).step (fun k => by rw [r09_With.l1, if_pos (by omega), if_pos (by decide)]; congr 1; simp [c])
      rw [r09_With.j3, if_pos rfl, if_pos hlt, Option.bind_some, if_pos (by omega), if_pos (by omega), if_neg hx7, if_pos hlt2, hw, eta43]
    · have hne : (((i : Int) == ((pl n l : Nat) : Int)) = false) := by simp; omega
      by_cases c2 : i < pl n l
      · rw [if_pos (by omega)]
        rw [if_pos (by omega), take_nat _ i (by omega), ins_rd, if_pos c2] at e
        have hlt : ((ins n v l).take i).length < 4398046511104 := by rw [List.length_take]; omega
        refine (e.step (f := fun k => r09_With.j3 k l n v (-1) (pl n l) ((ins n v l).take i) i l.length i false) (fun k => ?_)).step (fun k => by rw [r09_With.l1, if_pos (by omega), if_pos (by decide), hne])
        rw [r09_With.j3, if_neg (by decide), if_pos (by omega), if_pos (by omega), if_neg hx7, if_pos hlt, hw, eta43]
      · rw [if_neg (by omega)]
        rw [if_neg (by omega), take_nat _ (i + 1) (by omega), ins_rd, if_neg (by omega), if_neg (by omega), Nat.add_sub_cancel] at e
        have hlt : ((ins n v l).take (i + 1)).length < 4398046511104 := by rw [List.length_take]; omega
        refine (e.step (f := fun k => r09_With.j3 k l n v (-1) (pl n l) ((ins n v l).take (i + 1)) i l.length i false) (fun k => ?_)).step (fun k => by rw [r09_With.l1, if_pos (by omega), if_pos (by decide), hne])
        rw [r09_With.j3, if_neg (by decide), if_pos (by omega), if_pos (by omega), if_neg hx7, if_pos hlt, hw, eta43]
theorem refWith_none (l : List S43) (n v : ByteArray) (hl : l.length ≤ 4398046510000) (hs : ∀ y ∈ l, Sm43 y) (h : ∀ y ∈ l, ¬ isN n y = true) :
    Ev (fun k => r09_With.f k l n v) (ins n v l) := by
  have f2 := refFind_ev l n (by omega); rw [idx_all n l 0 h] at f2; have e := refWith_none_l1 l n v (by omega) l.length 0 (by omega) (by omega); rw [if_pos (by omega), List.take_zero] at e; have e1 := e.step (f := fun k => r09_With.j1 k l n v (-1) (gtFrom n l 0)) (fun k => by rw [r09_With.j1, pl_eq]; rfl); exact f2.via0 (refWith_l0 l (by omega) hs n v _ _ e1 l.length 0 (by omega) (by omega) (by simp)) (fun k hk => by rw [r09_With.f, hk]; rfl)
/-- Without: both. -/
theorem refWithout_l0 (l : List S43) (n : ByteArray) (hl : l.length ≤ 4398046510976) (d : Nat) : ∀ i : Int, 0 ≤ i → (l.length : Int) - i = d →
    Ev (fun k => r09_Without.l0 k l n (keep n (l.take i.toNat)) l.length i) (keep n l, decide ((keep n l).length < l.length)) := by
  induction d with
  | zero =>
    intro i h0 hd; rw [List.take_of_length_le (by omega)]; refine (Ev.pure _).step (fun k => ?_); rw [r09_Without.l0, if_neg (by omega)]; simp
  | succ d ih =>
    intro i h0 hd
    have h1 : i < (l.length : Int) := by omega
    have e := ih (i + 1) (by omega) (by omega); rw [take_T43 l i h0 h1, keep_snoc] at e
    have hlt : (keep n (l.take i.toNat)).length < 4398046511104 := by
      have := keep_le n (l.take i.toNat); rw [List.length_take] at this; omega
    by_cases c : isN n (rd_T43 l i) = true
    (rw [if_pos c] at e; exact e.step (fun k => by rw [r09_Without.l0, if_pos h1, if_pos h0, if_pos h1, if_pos ((isN_iff _ _).1 c), w1 (by omega) (by omega)])); (rw [if_neg c] at e; exact e.step (fun k => by rw [r09_Without.l0, if_pos h1, if_pos h0, if_pos h1, if_neg (fun h => c ((isN_iff _ _).2 h)), if_pos hlt, w1 (by omega) (by omega), eta43]))
theorem refWithout_ev (l : List S43) (n : ByteArray) (hl : l.length ≤ 4398046510976) : Ev (fun k => r09_Without.f k l n) (keep n l, decide ((keep n l).length < l.length)) := by
  have := refWithout_l0 l n hl l.length 0 (by omega) (by omega); rw [show (0 : Int).toNat = 0 from rfl, List.take_zero] at this; exact this.eq (fun k => rfl)
theorem attrs_refl (l : List S43) (hl : l.length ≤ 140737488351232) (d : Nat) : ∀ i : Int, 0 ≤ i → (l.length : Int) - i = d → Ev (fun k => pl_Attrs.l0 k l l l.length i) true := by
  induction d with
  | zero =>
    intro i h0 hd; exact (Ev.pure _).step (fun k => by rw [pl_Attrs.l0, if_neg (by omega)])
  | succ d ih =>
    intro i h0 hd
    have h1 : i < (l.length : Int) := by omega
    exact (ih (i + 1) (by omega) (by omega)).step (fun k => by rw [pl_Attrs.l0, if_pos h1, if_pos h0, if_pos h1, if_pos h1, if_neg (by simp), w1 (by omega) (by omega)])
theorem attrs_refl_ev (l : List S43) (hl : l.length ≤ 140737488351232) : Ev (fun k => pl_Attrs.f k l l) true :=
  (attrs_refl l hl l.length 0 (by omega) (by omega)).eq (fun k => by rw [pl_Attrs.f, if_pos rfl])
theorem same : ∃ k, lw_same.f k = some true := ⟨40, by decide +kernel⟩
theorem same_ev : Ev (fun k => lw_same.f k) true := by
  obtain ⟨k, hk⟩ := same; exact Ev.of (fun k => lw_same.mono k) hk
theorem few_l1 (x : S40) (hl : x.f5.length ≤ 140737488351232) (d : Nat) : ∀ (i x5 : Int), 0 ≤ i → (x.f5.length : Int) - i = d → ∃ b, Ev (fun k => pl_FewRows.l1 k [x] x5 0 1 0 x.f5.length i) b := by
  induction d with
  | zero =>
    intro i x5 h0 hd; refine ⟨_, ((Ev.pure (decide (x5 ≥ 0))).step (f := fun k => pl_FewRows.l0 k [x] x5 1 1) (fun k => by rw [pl_FewRows.l0, if_neg (by omega)])).step (fun k => ?_)⟩; rw [pl_FewRows.l1, if_neg (by omega), show wrap64 ((0 : Int) + 1) = 1 by rw [w1 (by omega) (by omega)]; rfl]
  | succ d ih =>
    intro i x5 h0 hd; obtain ⟨b, hb⟩ := ih (i + 1) (wrap64 (x5 - (wrap64 (Int.tdiv (wrap64 (((rd_T43 x.f5 i).f1.size : Int) + ((rd_T43 x.f5 i).f0.size : Int))) 4096)))) (by omega) (by omega); refine ⟨b, hb.step (fun k => ?_)⟩; have hr : rd_T40 [x] 0 = x := rfl; rw [pl_FewRows.l1, if_pos (by omega), if_pos (by omega), if_pos (by simp), if_pos h0, hr, if_pos (by omega), w1 (by omega) (by omega)]
theorem heavy_ev (l : List S43) (hl : l.length ≤ 140737488351232) : ∃ b, Ev (fun k => lw_heavy.f k l) b ∧ (b = false → l.length ≤ 199) := by
  have hr : rd_T40 [(⟨0, 0, ⟨#[]⟩, ⟨#[]⟩, ⟨#[]⟩, l⟩ : S40)] 0 = ⟨0, 0, ⟨#[]⟩, ⟨#[]⟩, ⟨#[]⟩, l⟩ := rfl
  have hz : wrap64 (Int.tdiv (wrap64 ((wrap64 (((⟨#[]⟩ : ByteArray).size : Int) + ((⟨#[]⟩ : ByteArray).size : Int))) + ((⟨#[]⟩ : ByteArray).size : Int))) 4096) = 0 := by decide +kernel
  have hc : (wrap64 ((wrap64 ((wrap64 (200 - 1)) - (l.length : Int))) - (0 : Int))) = 199 - l.length := by
    rw [wm (by omega) (by omega), ww (i := 200 - 1 - (l.length : Int)) (by omega) (by omega), ww (by omega) (by omega)]; omega
  by_cases h : (199 : Int) - l.length < 0
  · refine ⟨true, ?_, by simp⟩
    have e : Ev (fun k => pl_FewRows.f k [(⟨0, 0, ⟨#[]⟩, ⟨#[]⟩, ⟨#[]⟩, l⟩ : S40)] 200) false := by
      refine (Ev.pure false).step (f := fun k => pl_FewRows.l0 k [(⟨0, 0, ⟨#[]⟩, ⟨#[]⟩, ⟨#[]⟩, l⟩ : S40)] 200 1 0) (fun k => ?_) |>.eq (fun k => rfl)
      rw [pl_FewRows.l0, if_pos (by omega), if_pos (by omega), if_pos (by simp), hr]; dsimp only; rw [hz, hc, if_pos h]
    exact e.via0 (Ev.pure _) (fun k hk => by rw [lw_heavy.f, hk]; rfl)
  · obtain ⟨b, hb⟩ := few_l1 ⟨0, 0, ⟨#[]⟩, ⟨#[]⟩, ⟨#[]⟩, l⟩ hl l.length 0 (199 - l.length) (by omega) (by simp)
    have e : Ev (fun k => pl_FewRows.f k [(⟨0, 0, ⟨#[]⟩, ⟨#[]⟩, ⟨#[]⟩, l⟩ : S40)] 200) b := by
      refine hb.step (f := fun k => pl_FewRows.l0 k [(⟨0, 0, ⟨#[]⟩, ⟨#[]⟩, ⟨#[]⟩, l⟩ : S40)] 200 1 0) (fun k => ?_) |>.eq (fun k => rfl)
      rw [pl_FewRows.l0, if_pos (by omega), if_pos (by omega), if_pos (by simp), hr]; dsimp only; rw [hz, hc, if_neg h]
    exact ⟨!b, e.via0 (Ev.pure _) (fun k hk => by rw [lw_heavy.f, hk]; rfl), fun _ => by omega⟩
end Go.Proofs.Ytmpdbblljofjfaa.Pure
namespace Go.Proofs.Ytmpdbblljofjfaa.Pure
open Go.RowKit Go.Proofs.Ytmpdbblljofjfaa.G Go.Proofs.YtmpdbblljofjfaaW.PrintWords Go.Proofs.YtmpdbblljofjfaaW.PrintLast Go.Proofs.Ytmpdbblljofjfaa.Srt
set_option linter.unusedVariables false
theorem bytes_eq {a b : ByteArray} (h : a.toList = b.toList) : a = b := by
  rw [Lib.toList_data, Lib.toList_data] at h; cases a; cases b
  congr 1
  exact Array.toList_inj.1 h
def Last (l : List S43) (x : S43) : Prop := ∃ A B, l = A ++ x :: B ∧ ∀ y ∈ B, ¬ isN x.f0 y = true
theorem last_snoc (l : List S43) (z x : S43) : Last (l ++ [z]) x ↔ x = z ∨ (Last l x ∧ ¬ isN x.f0 z = true) := by
  constructor
  · rintro ⟨A, B, e, hB⟩
    rcases List.eq_nil_or_concat B with rfl | ⟨B', b, rfl⟩
    · obtain ⟨_, e2⟩ := List.append_inj' e rfl
      injection e2 with e2
      exact .inl e2.symm
    · right
      rw [List.concat_eq_append] at e hB
      have e' : l ++ [z] = (A ++ x :: B') ++ [b] := by rw [e]; simp
      obtain ⟨e1, e2⟩ := List.append_inj' e' rfl
      injection e2 with e2
      subst e2
      exact ⟨⟨A, B', e1, fun y hy => hB y (by simp [hy])⟩, hB z (by simp)⟩
  · rintro (rfl | ⟨⟨A, B, rfl, hB⟩, hz⟩)
    · exact ⟨l, [], rfl, fun y hy => by cases hy⟩
    · refine ⟨A, B ++ [z], by simp, fun y hy => ?_⟩
      rcases List.mem_append.1 hy with hy | hy
      · exact hB y hy
      · rw [List.mem_singleton.1 hy]; exact hz
theorem last_nil (x : S43) : ¬ Last [] x := by
  rintro ⟨A, B, e, _⟩; simp at e
/-- By what a name leaves of a list. -/
theorem last_filter : ∀ (n : Nat) (l : List S43) (x : S43), l.length = n → (Last l x ↔ (l.filter (isN x.f0)).getLast? = some x)
  | 0, l, x, h => by
    obtain rfl := List.length_eq_zero_iff.1 h
    simp [last_nil]
  | n + 1, l, x, h => by
    rcases List.eq_nil_or_concat l with rfl | ⟨l', z, rfl⟩
    · simp at h
    · rw [List.concat_eq_append] at h ⊢
      have ih := last_filter n l' x (by simpa using h)
      rw [last_snoc, List.filter_append, List.filter_cons]
      by_cases c : isN x.f0 z = true
      · rw [if_pos c, List.filter_nil, List.getLast?_append]
        simp only [List.getLast?_singleton, Option.some_or, Option.some.injEq]
        constructor
        · rintro (e | ⟨_, e⟩)
          · exact e.symm
          · exact absurd c e
        · intro e; exact .inl e.symm
      · rw [if_neg c, List.filter_nil, List.append_nil, ← ih]
        constructor
        · rintro (e | ⟨e, _⟩)
          · exact absurd (by rw [e]; exact (isN_iff _ _).2 rfl) c
          · exact e
        · intro e; exact .inr ⟨e, c⟩
/-- Strictly rising by name. -/
def Up (l : List S43) : Prop := l.Pairwise (fun a b => lessB a.f0 b.f0 = true)
theorem up_uniq : ∀ (X Y : List S43), Up X → Up Y → (∀ x, x ∈ X ↔ x ∈ Y) → X = Y
  | [], [], _, _, _ => rfl
  | [], y :: Y, _, _, h => by have := (h y).2 (by simp); cases this
  | x :: X, [], _, _, h => by have := (h x).1 (by simp); cases this
  | x :: X, y :: Y, hx, hy, h => by
    unfold Up at hx hy
    rw [List.pairwise_cons] at hx hy
    have e : x = y := by
      rcases List.mem_cons.1 ((h x).1 (by simp)) with h1 | h1
      · exact h1
      · rcases List.mem_cons.1 ((h y).2 (by simp)) with h2 | h2
        · exact h2.symm
        · exact absurd (less_trans (hy.1 x h1) (hx.1 y h2)) (less_irrefl _)
    subst e
    rw [up_uniq X Y hx.2 hy.2 (fun z => ?_)]
    constructor
    · intro hz
      rcases List.mem_cons.1 ((h z).1 (by simp [hz])) with rfl | h1
      · exact absurd (hx.1 z hz) (less_irrefl _)
      · exact h1
    · intro hz
      rcases List.mem_cons.1 ((h z).2 (by simp [hz])) with rfl | h1
      · exact absurd (hy.1 z hz) (less_irrefl _)
      · exact h1
theorem isN_congr {a b : ByteArray} {x y : S43} (h : isN x.f0 y = true) : x.f0 = y.f0 := (bytes_eq ((isN_iff _ _).1 h)).symm
theorem up_last {l : List S43} (h : Up l) (x : S43) : Last l x ↔ x ∈ l := by
  constructor; (rintro ⟨A, B, rfl, _⟩; simp); (intro hx; obtain ⟨A, B, rfl⟩ := List.append_of_mem hx; refine ⟨A, B, rfl, fun y hy hn => ?_⟩; have h2 := (List.pairwise_append.1 h).2.1; have := (List.pairwise_cons.1 h2).1 y hy; rw [isN_congr (a := x.f0) (b := x.f0) hn] at this; exact less_irrefl _ this)
/-- One by one. -/
def putN (l : List S43) (x : S43) : List S43 := if h : ∃ y ∈ l, isN x.f0 y = true then l.map (fun y => if isN x.f0 y = true then ⟨y.f0, x.f1⟩ else y) else ins x.f0 x.f1 l
theorem map_split {n v : ByteArray} {A B : List S43} {x : S43} (hA : ∀ y ∈ A, ¬ isN n y = true) (hB : ∀ y ∈ B, ¬ isN n y = true) (hx : isN n x = true) :
    (A ++ x :: B).map (fun y => if isN n y = true then (⟨y.f0, v⟩ : S43) else y) = A ++ ⟨x.f0, v⟩ :: B := by
  rw [List.map_append, List.map_cons, if_pos hx]
  congr 1
  · conv => rhs; rw [← List.map_id A]
    exact List.map_congr_left (fun y hy => by rw [if_neg (hA y hy)]; rfl)
  · congr 1
    conv => rhs; rw [← List.map_id B]
    exact List.map_congr_left (fun y hy => by rw [if_neg (hB y hy)]; rfl)
theorem up_split {A B : List S43} {x : S43} {n : ByteArray} (h : Up (A ++ x :: B)) (hx : isN n x = true) : (∀ y ∈ A, ¬ isN n y = true) ∧ (∀ y ∈ B, ¬ isN n y = true) := by
  obtain ⟨_, h2, h3⟩ := List.pairwise_append.1 h; have e := (isN_iff _ _).1 hx; constructor; (intro y hy hn; have := h3 y hy x (by simp); rw [bytes_eq (((isN_iff _ _).1 hn).trans e.symm)] at this; exact less_irrefl _ this); (intro y hy hn; have := (List.pairwise_cons.1 h2).1 y hy; rw [bytes_eq (((isN_iff _ _).1 hn).trans e.symm)] at this; exact less_irrefl _ this)
theorem ins_up {l : List S43} {n v : ByteArray} (h : Up l) (hn : ∀ y ∈ l, ¬ isN n y = true) : Up (ins n v l) ∧ ∀ x, x ∈ ins n v l ↔ x = ⟨n, v⟩ ∨ x ∈ l := by
  have hs := gt_split n l 0; have hpe := pl_eq n l; rw [hpe] at hs; simp only [Int.sub_zero, Int.toNat_natCast] at hs
  have hlt : ∀ x ∈ l.take (pl n l), lessB x.f0 n = true := fun x hx => by
    have h1 := hs.1 x hx
    rcases less_total n x.f0 with q | q | q
    (exact absurd q h1); (exact absurd ((isN_iff _ _).2 q.symm) (hn x (List.mem_of_mem_take hx))); (exact q)
  have hgt : ∀ x ∈ l.drop (pl n l), lessB n x.f0 = true := fun x hx => by
    cases hd : l.drop (pl n l) with
    | nil => rw [hd] at hx; cases hx
    | cons y ys =>
      have h1 := hs.2 y ys hd; have hp : Up (l.drop (pl n l)) := h.sublist (List.drop_sublist _ _); unfold Up at hp; rw [hd] at hx hp
      rcases List.mem_cons.1 hx with rfl | hx
      (exact h1); (exact less_trans h1 ((List.pairwise_cons.1 hp).1 x hx))
  refine ⟨?_, fun x => ?_⟩
  · unfold ins Up
    rw [List.append_assoc]
    refine List.pairwise_append.2 ⟨h.sublist (List.take_sublist _ _), List.pairwise_cons.2 ⟨fun y hy => hgt y hy, h.sublist (List.drop_sublist _ _)⟩, ?_⟩
    intro a ha b hb
    rcases List.mem_append.1 hb with hb | hb
    · rw [List.mem_singleton.1 hb]; exact hlt a ha
    · exact less_trans (hlt a ha) (hgt b hb)
  · unfold ins
    have e : x ∈ l ↔ x ∈ l.take (pl n l) ∨ x ∈ l.drop (pl n l) := by
      conv => lhs; rw [← List.take_append_drop (pl n l) l]
      exact List.mem_append
    rw [List.append_assoc, List.mem_append, e]
    simp only [List.singleton_append, List.mem_cons]
    constructor
    · rintro (h | h | h)
      · exact .inr (.inl h)
      · exact .inl h
      · exact .inr (.inr h)
    · rintro (h | h | h)
      · exact .inr (.inl h)
      · exact .inl h
      · exact .inr (.inr h)
theorem putN_ok {l : List S43} (h : Up l) (x : S43) : Up (putN l x) ∧ (∀ y, y ∈ putN l x ↔ y = x ∨ (y ∈ l ∧ ¬ isN y.f0 x = true)) ∧ (putN l x).length ≤ l.length + 1 := by
  unfold putN
  by_cases c : ∃ y ∈ l, isN x.f0 y = true
  · rw [dif_pos c]
    obtain ⟨y, hy, hn⟩ := c
    obtain ⟨A, B, rfl⟩ := List.append_of_mem hy
    obtain ⟨hA, hB⟩ := up_split h hn
    rw [map_split hA hB hn]
    have ey : y.f0 = x.f0 := bytes_eq ((isN_iff _ _).1 hn)
    have ex : (⟨y.f0, x.f1⟩ : S43) = x := by rw [ey]
    rw [ex]
    refine ⟨?_, fun z => ?_, by simp⟩
    · obtain ⟨h1, h2, h3⟩ := List.pairwise_append.1 h
      rw [List.pairwise_cons] at h2
      refine List.pairwise_append.2 ⟨h1, List.pairwise_cons.2 ⟨fun b hb => by rw [← ey]; exact h2.1 b hb, h2.2⟩, fun a ha b hb => ?_⟩
      rcases List.mem_cons.1 hb with rfl | hb
      · rw [← ey]; exact h3 a ha y (by simp)
      · exact h3 a ha b (by simp [hb])
    · have hzz : ∀ z : S43, z.f0 = x.f0 → isN z.f0 x = true := fun z e => (isN_iff _ _).2 (by rw [e])
      constructor
      · intro hz
        rcases List.mem_append.1 hz with hz | hz
        · exact .inr ⟨by simp [hz], fun e => hA z hz ((isN_iff _ _).2 ((isN_iff _ _).1 e).symm)⟩
        · rcases List.mem_cons.1 hz with rfl | hz
          · exact .inl rfl
          · exact .inr ⟨by simp [hz], fun e => hB z hz ((isN_iff _ _).2 ((isN_iff _ _).1 e).symm)⟩
      · rintro (rfl | ⟨hz, hne⟩)
        · simp
        · rcases List.mem_append.1 hz with hz | hz
          · simp [hz]
          · rcases List.mem_cons.1 hz with rfl | hz
            · exact absurd (hzz z ey) hne
            · simp [hz]
  · rw [dif_neg c]
    have hn : ∀ y ∈ l, ¬ isN x.f0 y = true := fun y hy e => c ⟨y, hy, e⟩
    obtain ⟨h1, h2⟩ := ins_up (v := x.f1) h hn
    refine ⟨h1, fun y => ?_, by rw [ins_len]; exact Nat.le_refl _⟩
    rw [h2 y]
    constructor
    · rintro (e | e)
      · exact .inl (by rw [e])
      · exact .inr ⟨e, fun q => hn y e ((isN_iff _ _).2 ((isN_iff _ _).1 q).symm)⟩
    · rintro (e | e)
      · exact .inl (by rw [e])
      · exact .inr e.1
def normR (l : List S43) : List S43 := l.foldl putN []
theorem normR_snoc (l : List S43) (x : S43) : normR (l ++ [x]) = putN (normR l) x := by unfold normR; rw [List.foldl_append]; rfl
theorem normR_ok : ∀ (n : Nat) (l : List S43), l.length = n → Up (normR l) ∧ (∀ x, x ∈ normR l ↔ Last l x) ∧ (normR l).length ≤ n
  | 0, l, h => by
    obtain rfl := List.length_eq_zero_iff.1 h
    exact ⟨List.Pairwise.nil, fun x => by simp [normR, last_nil], Nat.le_refl _⟩
  | n + 1, l, h => by
    rcases List.eq_nil_or_concat l with rfl | ⟨l', z, rfl⟩
    · simp at h
    · rw [List.concat_eq_append] at h ⊢
      obtain ⟨h1, h2, h3⟩ := normR_ok n l' (by simpa using h)
      obtain ⟨g1, g2, g3⟩ := putN_ok h1 z
      rw [normR_snoc]
      refine ⟨g1, fun x => ?_, by omega⟩
      rw [g2 x, last_snoc, h2 x]
/-- By sorting. -/
theorem ltA (x y : S43) : lt cmA x y = lessB x.f0 y.f0 := lt_cmA x y
theorem eqvA (z y : S43) : eqv (lt cmA) z y = isN z.f0 y := by
  unfold eqv; rw [ltA, ltA, Bool.eq_iff_iff, isN_iff]; simp only [Bool.and_eq_true, Bool.not_eq_true']; constructor
  · rintro ⟨h1, h2⟩
    rcases less_total z.f0 y.f0 with q | q | q
    · rw [h1] at q; cases q
    · exact q.symm
    · rw [h2] at q; cases q
  · intro e
    rw [bytes_eq e]; have := less_irrefl z.f0; simp [this]
theorem dedT_mem (M : List S43) (x : S43) : ∀ i, i ≤ M.length → (x ∈ dedT M i ↔ ∃ j : Nat, j < i ∧ rd_T43 M (j : Int) = x ∧ keepAt M j = true)
  | 0, _ => by simp [dedT]
  | i + 1, hi => by
    have ih := dedT_mem M x i (by omega)
    unfold dedT
    by_cases c : keepAt M i = true
    · rw [if_pos c, List.mem_append, ih, List.mem_singleton]
      constructor
      · rintro (⟨j, a, b⟩ | e)
        · exact ⟨j, by omega, b⟩
        · exact ⟨i, by omega, e.symm, c⟩
      · rintro ⟨j, a, b, d⟩
        by_cases e : j = i
        · subst e; exact .inr b.symm
        · exact .inl ⟨j, by omega, b, d⟩
    · rw [if_neg c, ih]
      constructor
      · rintro ⟨j, a, b⟩
        exact ⟨j, by omega, b⟩
      · rintro ⟨j, a, b, d⟩
        by_cases e : j = i
        · subst e; exact absurd d c
        · exact ⟨j, by omega, b, d⟩
theorem srt_le {M : List S43} (h : Srt (lt cmA) M) (i j : Nat) (hij : i ≤ j) (hj : j < M.length) : ¬ lessB (rd_T43 M (j : Int)).f0 (rd_T43 M (i : Int)).f0 = true := by
  rcases Nat.eq_or_lt_of_le hij with rfl | hlt
  (exact less_irrefl _); (have := List.pairwise_iff_getElem.1 h i j (by omega) hj hlt; rw [ltA] at this; rw [rd43_get M i (by omega), rd43_get M j hj, this]; decide)
theorem keep_less {M : List S43} (h : Srt (lt cmA) M) (i j : Nat) (hk : keepAt M i = true) (hij : i < j) (hj : j < M.length) : lessB (rd_T43 M (i : Int)).f0 (rd_T43 M (j : Int)).f0 = true := by
  unfold keepAt at hk; rw [show (i + 1 == M.length) = false from by simp; omega, Bool.false_or] at hk
  have hne : (rd_T43 M ((i + 1 : Nat) : Int)).f0.toList ≠ (rd_T43 M (i : Int)).f0.toList := by simpa using hk
  have h1 := srt_le h i (i + 1) (by omega) (by omega); have h2 := srt_le h (i + 1) j (by omega) hj
  have h3 : lessB (rd_T43 M (i : Int)).f0 (rd_T43 M ((i + 1 : Nat) : Int)).f0 = true := by
    rcases less_total (rd_T43 M (i : Int)).f0 (rd_T43 M ((i + 1 : Nat) : Int)).f0 with q | q | q
    (exact q); (exact absurd q.symm hne); (exact absurd q h1)
  rcases less_total (rd_T43 M ((i + 1 : Nat) : Int)).f0 (rd_T43 M (j : Int)).f0 with q | q | q
  (exact less_trans h3 q); (rw [← bytes_eq q]; exact h3); (exact absurd q h2)
theorem dedT_up {M : List S43} (h : Srt (lt cmA) M) : ∀ i, i ≤ M.length → Up (dedT M i)
  | 0, _ => List.Pairwise.nil
  | i + 1, hi => by
    have ih := dedT_up h i (by omega)
    unfold dedT
    by_cases c : keepAt M i = true
    · rw [if_pos c]
      refine List.pairwise_append.2 ⟨ih, List.pairwise_singleton _ _, fun a ha b hb => ?_⟩
      rw [List.mem_singleton.1 hb]
      obtain ⟨j, h1, h2, h3⟩ := (dedT_mem M a i (by omega)).1 ha
      rw [← h2]
      exact keep_less h j i h3 h1 (by omega)
    · rw [if_neg c]; exact ih
theorem drop43 (M : List S43) (i : Nat) (h : i < M.length) : M.drop i = rd_T43 M (i : Int) :: M.drop (i + 1) := by
  rw [List.drop_eq_getElem_cons h, rd43_get M i h]
theorem keep_last {M : List S43} (h : Srt (lt cmA) M) (x : S43) : (∃ j : Nat, j < M.length ∧ rd_T43 M (j : Int) = x ∧ keepAt M j = true) ↔ Last M x := by
  constructor; (rintro ⟨j, hj, rfl, hk⟩; refine ⟨M.take j, M.drop (j + 1), by rw [← drop43 M j hj, List.take_append_drop], fun y hy hn => ?_⟩; obtain ⟨t, ht, e⟩ := List.getElem_of_mem hy; rw [List.length_drop] at ht; rw [List.getElem_drop] at e; have := keep_less h j (j + 1 + t) hk (by omega) (by omega); rw [rd43_get M (j + 1 + t) (by omega), e, isN_congr (a := ⟨#[]⟩) (b := ⟨#[]⟩) hn] at this; exact less_irrefl _ this)
  · rintro ⟨A, B, rfl, hB⟩
    refine ⟨A.length, by simp, rd_at A x B, ?_⟩
    unfold keepAt
    rw [rd_at A x B]
    cases B with
    | nil => simp
    | cons b B =>
      have e : rd_T43 (A ++ x :: b :: B) ((A.length + 1 : Nat) : Int) = b := by
        have := rd_at (A ++ [x]) b B; rw [List.length_append, List.length_singleton, show A ++ [x] ++ b :: B = A ++ x :: b :: B from by simp] at this; exact this
      rw [e]; have := hB b (by simp); rw [isN_iff] at this; simp [this]
theorem normP_ok (l : List S43) : Up (normP l) ∧ ∀ x, x ∈ normP l ↔ Last l x := by
  obtain ⟨h1, h2⟩ := isort_ok swoA l _ rfl; unfold normP; refine ⟨dedT_up h1 _ (Nat.le_refl _), fun x => ?_⟩; rw [dedT_mem _ x _ (Nat.le_refl _), keep_last h1, last_filter _ _ x rfl, last_filter _ l x rfl]; have e : isN x.f0 = eqv (lt cmA) x := funext (fun y => (eqvA x y).symm); rw [e, h2.fl x]
theorem norm_eq (l : List S43) : normR l = normP l := by
  obtain ⟨a, b, _⟩ := normR_ok _ l rfl; obtain ⟨c, d⟩ := normP_ok l; exact up_uniq _ _ a c (fun x => (b x).trans (d x).symm)
theorem norm_up {l : List S43} (h : Up l) : normP l = l := by
  obtain ⟨c, d⟩ := normP_ok l; exact up_uniq _ _ c h (fun x => (d x).trans (up_last h x))
end Go.Proofs.Ytmpdbblljofjfaa.Pure
namespace Go.Proofs.Ytmpdbblljofjfaa.Pure
open Go.RowKit Go.Proofs.Ytmpdbblljofjfaa.G Go.Proofs.YtmpdbblljofjfaaW.PrintWords Go.Proofs.YtmpdbblljofjfaaW.PrintLast
set_option linter.unusedVariables false
theorem leS_eq (a b : ByteArray) : leS a b = !(lessB b a) := by
  have h := Go.Proofs.Ytmpdbblljofjfaa.Str.bytesLess_swap a.toList b.toList; unfold leS lessB; rw [← h, Bool.not_not]
theorem ne_of_less {a b : ByteArray} (h : lessB a b = true) : a ≠ b := fun e => by
  subst e
  exact less_irrefl _ h
theorem both_le {a b : ByteArray} (h : leS a b = true) (g : leS b a = true) : a = b := by
  rw [leS_eq] at h g
  rcases less_total a b with h1 | h1 | h1
  (rw [h1] at g; cases g); (exact bytes_eq h1); (rw [h1] at h; cases h)
theorem less_of {a b : ByteArray} (h : leS a b = false) : lessB b a = true := by
  rw [leS_eq] at h
  cases hb : lessB b a with
  | true => rfl
  | false => rw [hb] at h; cases h
def pk (el : Option S43 × Option S43) : S43 := match el.1, el.2 with
  | _, some y => y
  | some x, none => x
  | none, none => z43
def Sp (A B : List S43) (el : Option S43 × Option S43) : Prop := match el.1, el.2 with
  | some x, some y => x ∈ A ∧ y ∈ B ∧ x.f0 = y.f0
  | some x, none => x ∈ A ∧ ∀ z ∈ B, z.f0 ≠ x.f0
  | none, some y => y ∈ B ∧ ∀ z ∈ A, z.f0 ≠ y.f0
  | none, none => False
theorem up_cons {x : S43} {A : List S43} : Up (x :: A) ↔ (∀ z ∈ A, lessB x.f0 z.f0 = true) ∧ Up A := List.pairwise_cons
theorem up_all {x : ByteArray} {y : S43} {B : List S43} (h : Up (y :: B)) (hl : lessB x y.f0 = true) : ∀ z ∈ y :: B, lessB x z.f0 = true := by
  intro z hz
  rcases List.mem_cons.1 hz with rfl | hz
  (exact hl); (exact less_trans hl ((up_cons.1 h).1 z hz))
theorem prs_spec : ∀ (n : Nat) (A B : List S43), Up A → Up B → A.length + B.length ≤ n →
    (∀ el ∈ prs n A B, Sp A B el) ∧ Up ((prs n A B).map pk) ∧ (∀ z, z ∈ (prs n A B).map pk ↔ z ∈ B ∨ (z ∈ A ∧ ∀ y ∈ B, y.f0 ≠ z.f0)) := by
  intro n
  induction n with
  | zero =>
    intro A B _ _ h; obtain rfl : A = [] := List.length_eq_zero_iff.1 (by omega); obtain rfl : B = [] := List.length_eq_zero_iff.1 (by omega); exact ⟨fun el h => by (cases h), List.Pairwise.nil, fun z => by simp [prs]⟩
  | succ n ih =>
    intro A B uA uB h
    cases A with
    | nil =>
      cases B with
      | nil => exact ⟨fun el h => by (cases h), List.Pairwise.nil, fun z => by simp [prs]⟩
      | cons y B =>
        obtain ⟨i1, i2, i3⟩ := ih [] B uA (up_cons.1 uB).2 (by simp at h ⊢; omega); refine ⟨?_, ?_, ?_⟩
        · intro el he
          rcases List.mem_cons.1 he with rfl | he
          · exact ⟨List.mem_cons_self, fun z hz => by cases hz⟩
          · have := i1 el he
            obtain ⟨o1, o2⟩ := el
            cases o1 <;> cases o2 <;> simp only [Sp] at this ⊢
            · exact ⟨List.mem_cons_of_mem _ this.1, this.2⟩
            · exact absurd this.1 (by simp)
            · exact absurd this.1 (by simp)
        · show Up (y :: (prs n [] B).map pk)
          refine up_cons.2 ⟨fun z hz => ?_, i2⟩
          rcases (i3 z).1 hz with hz | hz
          · exact (up_cons.1 uB).1 z hz
          · exact absurd hz.1 (by simp)
        · intro z
          show z ∈ y :: (prs n [] B).map pk ↔ _
          rw [List.mem_cons, i3]
          simp
    | cons x A =>
      cases B with
      | nil =>
        obtain ⟨i1, i2, i3⟩ := ih A [] (up_cons.1 uA).2 uB (by simp at h ⊢; omega); refine ⟨?_, ?_, ?_⟩
        · intro el he
          rcases List.mem_cons.1 he with rfl | he
          · exact ⟨List.mem_cons_self, fun z hz => by cases hz⟩
          · have := i1 el he
            obtain ⟨o1, o2⟩ := el
            cases o1 <;> cases o2 <;> simp only [Sp] at this ⊢
            · exact absurd this.1 (by simp)
            · exact ⟨List.mem_cons_of_mem _ this.1, this.2⟩
            · exact absurd this.2.1 (by simp)
        · show Up (x :: (prs n A []).map pk)
          refine up_cons.2 ⟨fun z hz => ?_, i2⟩
          rcases (i3 z).1 hz with hz | hz
          · exact absurd hz (by simp)
          · exact (up_cons.1 uA).1 z hz.1
        · intro z
          show z ∈ x :: (prs n A []).map pk ↔ _
          rw [List.mem_cons, i3]
          simp
      | cons y B =>
        cases c1 : leS x.f0 y.f0 with
        | false =>
          have hl := less_of c1
          have e : prs (n + 1) (x :: A) (y :: B) = (none, some y) :: prs n (x :: A) B := by rw [prs, c1]; rfl
          obtain ⟨i1, i2, i3⟩ := ih (x :: A) B uA (up_cons.1 uB).2 (by simp at h ⊢; omega); rw [e]; have big := up_all uA hl; refine ⟨?_, ?_, ?_⟩
          · intro el he
            rcases List.mem_cons.1 he with rfl | he
            · exact ⟨List.mem_cons_self, fun z hz => (ne_of_less (big z hz)).symm⟩
            · have := i1 el he
              obtain ⟨o1, o2⟩ := el
              cases o1 <;> cases o2 <;> simp only [Sp] at this ⊢
              · exact ⟨List.mem_cons_of_mem _ this.1, this.2⟩
              · refine ⟨this.1, fun z hz => ?_⟩
                rcases List.mem_cons.1 hz with rfl | hz
                · exact ne_of_less (big _ this.1)
                · exact this.2 z hz
              · exact ⟨this.1, List.mem_cons_of_mem _ this.2.1, this.2.2⟩
          · show Up (y :: (prs n (x :: A) B).map pk)
            refine up_cons.2 ⟨fun z hz => ?_, i2⟩
            rcases (i3 z).1 hz with hz | hz
            · exact (up_cons.1 uB).1 z hz
            · exact big z hz.1
          · intro z
            show z ∈ y :: (prs n (x :: A) B).map pk ↔ _
            rw [List.mem_cons, i3]
            constructor
            · rintro (rfl | hz | ⟨hz, hn⟩)
              · exact .inl List.mem_cons_self
              · exact .inl (List.mem_cons_of_mem _ hz)
              · refine .inr ⟨hz, fun w hw => ?_⟩
                rcases List.mem_cons.1 hw with rfl | hw
                · exact ne_of_less (big _ hz)
                · exact hn w hw
            · rintro (hz | ⟨hz, hn⟩)
              · rcases List.mem_cons.1 hz with rfl | hz
                · exact .inl rfl
                · exact .inr (.inl hz)
              · exact .inr (.inr ⟨hz, fun w hw => hn w (List.mem_cons_of_mem _ hw)⟩)
        | true =>
          cases c2 : leS y.f0 x.f0 with
          | false =>
            have hl := less_of c2
            have e : prs (n + 1) (x :: A) (y :: B) = (some x, none) :: prs n A (y :: B) := by rw [prs, c1, c2]; rfl
            obtain ⟨i1, i2, i3⟩ := ih A (y :: B) (up_cons.1 uA).2 uB (by simp at h ⊢; omega); rw [e]; have big := up_all uB hl; refine ⟨?_, ?_, ?_⟩
            · intro el he
              rcases List.mem_cons.1 he with rfl | he
              · exact ⟨List.mem_cons_self, fun z hz => (ne_of_less (big z hz)).symm⟩
              · have := i1 el he
                obtain ⟨o1, o2⟩ := el
                cases o1 <;> cases o2 <;> simp only [Sp] at this ⊢
                · refine ⟨this.1, fun z hz => ?_⟩
                  rcases List.mem_cons.1 hz with rfl | hz
                  · exact ne_of_less (big _ this.1)
                  · exact this.2 z hz
                · exact ⟨List.mem_cons_of_mem _ this.1, this.2⟩
                · exact ⟨List.mem_cons_of_mem _ this.1, this.2⟩
            · show Up (x :: (prs n A (y :: B)).map pk)
              refine up_cons.2 ⟨fun z hz => ?_, i2⟩
              rcases (i3 z).1 hz with hz | hz
              · exact big z hz
              · exact (up_cons.1 uA).1 z hz.1
            · intro z
              show z ∈ x :: (prs n A (y :: B)).map pk ↔ _
              rw [List.mem_cons, i3]
              constructor
              · rintro (rfl | hz | ⟨hz, hn⟩)
                · exact .inr ⟨List.mem_cons_self, fun w hw => (ne_of_less (big _ hw)).symm⟩
                · exact .inl hz
                · exact .inr ⟨List.mem_cons_of_mem _ hz, hn⟩
              · rintro (hz | ⟨hz, hn⟩)
                · exact .inr (.inl hz)
                · rcases List.mem_cons.1 hz with rfl | hz
                  · exact .inl rfl
                  · exact .inr (.inr ⟨hz, hn⟩)
          | true =>
            have he0 := both_le c1 c2
            have e : prs (n + 1) (x :: A) (y :: B) = (some x, some y) :: prs n A B := by rw [prs, c1, c2]; rfl
            obtain ⟨i1, i2, i3⟩ := ih A B (up_cons.1 uA).2 (up_cons.1 uB).2 (by simp at h ⊢; omega); rw [e]; have bA := (up_cons.1 uA).1; have bB := (up_cons.1 uB).1; refine ⟨?_, ?_, ?_⟩
            · intro el he
              rcases List.mem_cons.1 he with rfl | he
              · exact ⟨List.mem_cons_self, List.mem_cons_self, he0⟩
              · have := i1 el he
                obtain ⟨o1, o2⟩ := el
                cases o1 <;> cases o2 <;> simp only [Sp] at this ⊢
                · refine ⟨List.mem_cons_of_mem _ this.1, fun z hz => ?_⟩
                  rcases List.mem_cons.1 hz with rfl | hz
                  · rw [he0]; exact ne_of_less (bB _ this.1)
                  · exact this.2 z hz
                · refine ⟨List.mem_cons_of_mem _ this.1, fun z hz => ?_⟩
                  rcases List.mem_cons.1 hz with rfl | hz
                  · rw [← he0]; exact ne_of_less (bA _ this.1)
                  · exact this.2 z hz
                · exact ⟨List.mem_cons_of_mem _ this.1, List.mem_cons_of_mem _ this.2.1, this.2.2⟩
            · show Up (y :: (prs n A B).map pk)
              refine up_cons.2 ⟨fun z hz => ?_, i2⟩
              rcases (i3 z).1 hz with hz | hz
              · exact bB z hz
              · rw [← he0]; exact bA z hz.1
            · intro z
              show z ∈ y :: (prs n A B).map pk ↔ _
              rw [List.mem_cons, i3]
              constructor
              · rintro (rfl | hz | ⟨hz, hn⟩)
                · exact .inl List.mem_cons_self
                · exact .inl (List.mem_cons_of_mem _ hz)
                · refine .inr ⟨List.mem_cons_of_mem _ hz, fun w hw => ?_⟩
                  rcases List.mem_cons.1 hw with rfl | hw
                  · rw [← he0]; exact ne_of_less (bA _ hz)
                  · exact hn w hw
              · rintro (hz | ⟨hz, hn⟩)
                · rcases List.mem_cons.1 hz with rfl | hz
                  · exact .inl rfl
                  · exact .inr (.inl hz)
                · rcases List.mem_cons.1 hz with rfl | hz
                  · exact absurd he0.symm (hn y List.mem_cons_self)
                  · exact .inr (.inr ⟨hz, fun w hw => hn w (List.mem_cons_of_mem _ hw)⟩)
/-- right is Norm. -/
theorem incU_up (l : List S43) : ∀ n, n ≤ l.length → incU l n = true → Up (l.take n)
  | 0, _, _ => by simp [Up]
  | 1, h, _ => by
    cases l with
    | nil => simp [Up]
    | cons x l => simp [Up]
  | n + 2, h, e => by
    unfold incU at e
    rw [Bool.and_eq_true] at e
    have ih := incU_up l (n + 1) (by omega) e.1
    rw [take_nat l (n + 1) (by omega)]
    unfold Up
    refine List.pairwise_append.2 ⟨ih, List.pairwise_singleton _ _, fun a ha b hb => ?_⟩
    rw [List.mem_singleton] at hb
    subst hb
    have hl : lessB (rd_T43 l (n : Int)).f0 (rd_T43 l ((n + 1 : Nat) : Int)).f0 = true := e.2
    rw [take_nat l n (by omega)] at ha ih
    rcases List.mem_append.1 ha with ha | ha
    · exact less_trans ((List.pairwise_append.1 ih).2.2 a ha _ (List.mem_singleton.2 rfl)) hl
    · rw [List.mem_singleton.1 ha]; exact hl
theorem right_norm (l : List S43) : rightP l = normP l := by
  unfold rightP; split
  · rename_i h
    have := incU_up l l.length (Nat.le_refl _) h
    rw [List.take_length] at this
    exact (norm_up this).symm
  · rfl
theorem isN_eq (n : ByteArray) (x : S43) : isN n x = true ↔ x.f0 = n := by
  rw [isN_iff]; exact ⟨bytes_eq, fun e => by rw [e]⟩
def getV (l : List S43) (n : ByteArray) : ByteArray × Bool := match l.find? (isN n) with
  | some x => (x.f1, true)
  | none => (⟨#[]⟩, false)
def gO (A B : List S43) (u : S43) : Option S32 :=
  if (getV B u.f0).2 = true then (if (getV A u.f0).2 = true then (if (getV A u.f0).1.toList = (getV B u.f0).1.toList then none else some ⟨u.f0, (getV B u.f0).1, false⟩) else some ⟨u.f0, (getV B u.f0).1, false⟩) else some ⟨u.f0, ⟨#[]⟩, true⟩
theorem up_name {l : List S43} (h : Up l) {x z : S43} (hx : x ∈ l) (hz : z ∈ l) (e : z.f0 = x.f0) : z = x := by
  induction l with
  | nil => cases hx
  | cons y l ih =>
    obtain ⟨h1, h2⟩ := up_cons.1 h
    rcases List.mem_cons.1 hx with ax | ax <;> rcases List.mem_cons.1 hz with az | az
    (rw [ax, az]); (rw [ax] at e; exact absurd e.symm (ne_of_less (h1 z az))); (rw [az] at e; exact absurd e (ne_of_less (h1 x ax))); (exact ih h2 ax az)
theorem getV_mem {l : List S43} (h : Up l) {x : S43} (hx : x ∈ l) : getV l x.f0 = (x.f1, true) := by
  unfold getV
  cases hf : l.find? (isN x.f0) with
  | none => exact absurd ((isN_eq _ _).2 rfl) (by simpa using List.find?_eq_none.1 hf x hx)
  | some z =>
    have h1 := List.mem_of_find?_eq_some hf; have h2 : isN x.f0 z = true := List.find?_some hf; rw [up_name h hx h1 ((isN_eq _ _).1 h2)]
theorem getV_none {l : List S43} {n : ByteArray} (h : ∀ z ∈ l, z.f0 ≠ n) : getV l n = (⟨#[]⟩, false) := by
  unfold getV; rw [List.find?_eq_none.2 (fun z hz => fun hh => h z hz ((isN_eq _ _).1 hh))]
def conv (c : S31) : S32 := ⟨c.f0, c.f1, c.f2⟩
theorem of_el {A B : List S43} (uA : Up A) (uB : Up B) {el : Option S43 × Option S43} (h : Sp A B el) : (ofP el).map conv = gO A B (pk el) := by
  obtain ⟨o1, o2⟩ := el
  cases o1 with
  | none =>
    cases o2 with
    | none => exact h.elim
    | some y =>
      have hA := getV_none h.2; have hB := getV_mem uB h.1; simp [ofP, pk, gO, hA, hB, conv]
  | some x =>
    cases o2 with
    | none =>
      have hB := getV_none h.2; simp [ofP, pk, gO, hB, conv]
    | some y =>
      have hA := getV_mem uA h.1; have hB := getV_mem uB h.2.1; rw [h.2.2] at hA; have e0 : x.f0 = y.f0 := h.2.2; simp only [ofP, pk, gO, hA, hB, ↓reduceIte]; unfold eqS; rw [e0]
      by_cases c : x.f1.toList = y.f1.toList
      (simp [c]); (simp [c, conv])
theorem filterMap_conv {A B : List S43} (uA : Up A) (uB : Up B) : ∀ (l : List (Option S43 × Option S43)), (∀ el ∈ l, Sp A B el) → (l.filterMap ofP).map conv = (l.map pk).filterMap (gO A B)
  | [], _ => rfl
  | el :: l, h => by
    have ih := filterMap_conv uA uB l (fun e he => h e (List.mem_cons_of_mem _ he))
    have h1 := of_el uA uB (h el List.mem_cons_self)
    rw [List.filterMap_cons, List.map_cons, List.filterMap_cons, ← h1]
    cases ofP el with
    | none => exact ih
    | some c => rw [Option.map_some, List.map_cons, ih]
theorem last_app (A : List S43) (x : S43) : ∀ (n : Nat) (B : List S43), B.length = n → (Last (A ++ B) x ↔ Last B x ∨ (Last A x ∧ ∀ y ∈ B, ¬ isN x.f0 y = true)) := by
  intro n
  induction n with
  | zero =>
    intro B h; obtain rfl := List.length_eq_zero_iff.1 h; rw [List.append_nil]; exact ⟨fun h => .inr ⟨h, fun y hy => by cases hy⟩, fun h => h.elim (fun h => absurd h (last_nil x)) (·.1)⟩
  | succ n ih =>
    intro B h
    rcases List.eq_nil_or_concat B with rfl | ⟨B', z, rfl⟩
    · cases h
    · rw [List.concat_eq_append] at h ⊢
      rw [← List.append_assoc, last_snoc, last_snoc, ih B' (by simpa using h)]
      constructor
      · rintro (rfl | ⟨h1 | ⟨h1, h2⟩, h3⟩)
        · exact .inl (.inl rfl)
        · exact .inl (.inr ⟨h1, h3⟩)
        · refine .inr ⟨h1, fun y hy => ?_⟩
          rcases List.mem_append.1 hy with hy | hy
          · exact h2 y hy
          · rw [List.mem_singleton.1 hy]; exact h3
      · rintro ((rfl | ⟨h1, h3⟩) | ⟨h1, h2⟩)
        · exact .inl rfl
        · exact .inr ⟨.inl h1, h3⟩
        · exact .inr ⟨.inr ⟨h1, fun y hy => h2 y (List.mem_append.2 (.inl hy))⟩, h2 z (List.mem_append.2 (.inr (List.mem_singleton.2 rfl)))⟩
theorem mrg_eq {A B : List S43} (uA : Up A) (uB : Up B) : (prs (A.length + B.length) A B).map pk = normR (A ++ B) := by
  obtain ⟨h1, h2, h3⟩ := prs_spec _ A B uA uB (Nat.le_refl _); obtain ⟨h4, h5, _⟩ := normR_ok _ (A ++ B) rfl; refine up_uniq _ _ h2 h4 (fun z => ?_); rw [h3, h5, last_app A z _ B rfl, up_last uA, up_last uB]; constructor
  · rintro (h | ⟨h, g⟩)
    · exact .inl h
    · exact .inr ⟨h, fun y hy hh => g y hy ((isN_eq _ _).1 hh)⟩
  · rintro (h | ⟨h, g⟩)
    · exact .inl h
    · exact .inr ⟨h, fun y hy hh => g y hy ((isN_eq _ _).2 hh)⟩
def ofR (a b : List S43) : List S32 := (normR (normR a ++ normR b)).filterMap (gO (normR a) (normR b))
theorem of_conv (a b : List S43) : (ofN a b).map conv = ofR a b := by
  unfold ofN ofR; rw [right_norm, right_norm, norm_eq, norm_eq]; have uA := (normP_ok a).1; have uB := (normP_ok b).1; rw [filterMap_conv uA uB _ (prs_spec _ _ _ uA uB (Nat.le_refl _)).1, mrg_eq uA uB]
def setF (n v : ByteArray) : List S43 → List S43
  | [] => []
  | x :: l => if isN n x = true then ⟨x.f0, v⟩ :: l else x :: setF n v l
theorem setF_split {n v : ByteArray} {x : S43} {B : List S43} (hx : isN n x = true) : ∀ (A : List S43), (∀ y ∈ A, ¬ isN n y = true) → setF n v (A ++ x :: B) = A ++ ⟨x.f0, v⟩ :: B
  | [], _ => by
    show (if isN n x = true then _ else _) = _
    rw [if_pos hx]
    rfl
  | y :: A, h => by
    have e := setF_split (v := v) (B := B) hx A (fun z hz => h z (List.mem_cons_of_mem _ hz))
    show (if isN n y = true then _ else y :: setF n v (A ++ x :: B)) = _
    rw [if_neg (h y List.mem_cons_self), e]
    rfl
def withP (n v : ByteArray) (l : List S43) : List S43 := if l.any (isN n) = true then setF n v l else ins n v l
theorem any_split {n : ByteArray} {A B : List S43} {x : S43} (hx : isN n x = true) : (A ++ x :: B).any (isN n) = true := List.any_eq_true.2 ⟨x, by simp, hx⟩
theorem any_none {n : ByteArray} {l : List S43} (h : ∀ y ∈ l, ¬ isN n y = true) : ¬ l.any (isN n) = true := fun e => by
  obtain ⟨y, hy, hn⟩ := List.any_eq_true.1 e
  exact h y hy hn
theorem with_any (l : List S43) (n v : ByteArray) (hl : l.length ≤ 4398046510000) : Ev (fun k => attrs_With.f k l n v) (withP n v l) := by
  rcases name_cases n l with ⟨A, x, B, rfl, hA, hx⟩ | h
  (unfold withP; rw [if_pos (any_split hx), setF_split hx A hA]; exact with_found A x B n v hl hA hx); (unfold withP; rw [if_neg (any_none h)]; exact with_none l n v hl h)
theorem refWith_any (l : List S43) (n v : ByteArray) (hl : l.length ≤ 4398046510000) (hs : ∀ y ∈ l, Sm43 y) : Ev (fun k => r09_With.f k l n v) (withP n v l) := by
  rcases name_cases n l with ⟨A, x, B, rfl, hA, hx⟩ | h
  (unfold withP; rw [if_pos (any_split hx), setF_split hx A hA]; exact refWith_found A x B n v hl hs hA hx); (unfold withP; rw [if_neg (any_none h)]; exact refWith_none l n v hl hs h)
def oneP (l : List S43) (c : S31) : List S43 := if c.f2 = true then keep c.f0 l else withP c.f0 c.f1 l
theorem setF_len (n v : ByteArray) : ∀ l : List S43, (setF n v l).length = l.length
  | [] => rfl
  | x :: l => by
    show (if isN n x = true then _ else _ : List S43).length = _
    split
    · rfl
    · rw [List.length_cons, setF_len n v l, List.length_cons]
theorem setF_mem (n v : ByteArray) : ∀ (l : List S43) (y : S43), y ∈ setF n v l → y ∈ l ∨ (∃ x ∈ l, y = ⟨x.f0, v⟩)
  | [], y, h => by cases h
  | x :: l, y, h => by
    have h : y ∈ (if isN n x = true then ⟨x.f0, v⟩ :: l else x :: setF n v l) := h
    split at h
    · rcases List.mem_cons.1 h with rfl | h
      · exact .inr ⟨x, List.mem_cons_self, rfl⟩
      · exact .inl (List.mem_cons_of_mem _ h)
    · rcases List.mem_cons.1 h with rfl | h
      · exact .inl List.mem_cons_self
      · rcases setF_mem n v l y h with h | ⟨z, hz, e⟩
        · exact .inl (List.mem_cons_of_mem _ h)
        · exact .inr ⟨z, List.mem_cons_of_mem _ hz, e⟩
theorem oneP_len (l : List S43) (c : S31) : (oneP l c).length ≤ l.length + 1 := by
  unfold oneP withP; split; (exact Nat.le_trans (List.length_filter_le _ _) (Nat.le_succ _))
  · split
    · rw [setF_len]; omega
    · rw [ins_len]; exact Nat.le_refl _
theorem oneP_sm {l : List S43} {c : S31} (hs : ∀ y ∈ l, Sm43 y) (h0 : c.f0.size ≤ 140737488351232) (h1 : c.f1.size ≤ 140737488351232) : ∀ y ∈ oneP l c, Sm43 y := by
  intro y hy; unfold oneP withP at hy; split at hy; (exact hs y ((List.mem_filter.1 hy).1))
  · split at hy
    · rcases setF_mem _ _ _ _ hy with h | ⟨x, hx, rfl⟩
      · exact hs y h
      · exact ⟨(hs x hx).1, h1⟩
    · unfold ins at hy
      rcases List.mem_append.1 hy with hy | hy
      · rcases List.mem_append.1 hy with hy | hy
        · exact hs y (List.mem_of_mem_take hy)
        · rw [List.mem_singleton.1 hy]; exact ⟨h0, h1⟩
      · exact hs y (List.mem_of_mem_drop hy)
theorem one_ev (l : List S43) (c : S31) (hl : l.length ≤ 4398046510000) (hs : ∀ y ∈ l, Sm43 y) : Ev (fun k => r10_One.f k l c.f0 c.f1 c.f2) (oneP l c) := by
  unfold r10_One.f oneP
  by_cases g : c.f2 = true
  (simp only [g, ↓reduceIte]; exact Ev.bind (refWithout_ev l c.f0 (by omega)) (Ev.pure _)); (simp only [g, ↓reduceIte, Bool.false_eq_true]; exact Ev.bind (refWith_any l c.f0 c.f1 hl hs) (Ev.pure _))
theorem doA_l0 (l : List S31) (hl : l.length ≤ 2000000) (d : Nat) : ∀ (i : Nat) (acc : List S43), i ≤ l.length → l.length - i = d → acc.length ≤ 1000000 + i →
    Ev (fun k => adiff_Do.l0 k acc l l.length i) ((l.drop i).foldl oneP acc) := by
  induction d with
  | zero =>
    intro i acc hi hd ha
    obtain rfl : i = l.length := by omega
    rw [List.drop_length]; exact (Ev.pure acc).step (fun k => by rw [adiff_Do.l0, if_neg (by omega)])
  | succ d ih =>
    intro i acc hi hd ha
    have hlt : i < l.length := by omega
    have hw : wrap64 ((i : Int) + 1) = ((i + 1 : Nat) : Int) := by rw [w1 (by omega) (by omega)]; omega
    have hdr : l.drop i = rd_T31 l (i : Int) :: l.drop (i + 1) := by
      rw [List.drop_eq_getElem_cons hlt]; unfold rd_T31; rw [List.getD_eq_getElem?_getD, Int.toNat_natCast, List.getElem?_eq_getElem hlt]; rfl
    rw [hdr]; obtain ⟨c, hc⟩ : ∃ c, rd_T31 l (i : Int) = c := ⟨_, rfl⟩; rw [hc]; have h1 := oneP_len acc c; have h2 := ih (i + 1) (oneP acc c) (by omega) (by omega) (by omega); rw [List.foldl_cons]
    by_cases g : c.f2 = true
    · have e : oneP acc c = keep c.f0 acc := if_pos g
      rw [e] at h2 ⊢; refine h2.step (fun k => ?_); rw [adiff_Do.l0, if_pos (by omega), if_pos (by omega), if_pos (by omega), hc, if_pos g]; unfold attrs_Without.f; rw [if_pos (by omega), Option.bind_some, hw]
    · have e : oneP acc c = withP c.f0 c.f1 acc := if_neg g
      rw [e] at h2 ⊢
      refine Ev.step (g := fun k => (attrs_With.f k acc c.f0 c.f1).bind fun t127 => (adiff_Do.l0 k t127 l l.length (wrap64 ((i : Int) + 1)))) (Ev.bind (with_any acc c.f0 c.f1 (by omega)) ?_) (fun k => ?_)
      · rw [hw]; exact h2
      · rw [adiff_Do.l0, if_pos (by omega), if_pos (by omega), if_pos (by omega), hc, if_neg g]
theorem doA_ev {a : List S43} (l : List S31) (ha : a.length ≤ 1000000) (hl : l.length ≤ 2000000) : Ev (fun k => adiff_Do.f k a l) (l.foldl oneP a) := by
  have h := doA_l0 l hl l.length 0 a (Nat.zero_le _) rfl ha; refine Ev.eq (g := fun k => adiff_Do.l0 k a l l.length 0) h (fun k => ?_); unfold adiff_Do.f api_Attr_20.f; rw [if_pos (by omega), Option.bind_some]
theorem filt_setF {n n' v : ByteArray} (hne : n ≠ n') : ∀ l : List S43, (setF n' v l).filter (isN n) = l.filter (isN n)
  | [] => rfl
  | x :: l => by
    show (if isN n' x = true then _ else _ : List S43).filter (isN n) = _
    split
    · rename_i h
      have e : x.f0 = n' := (isN_eq _ _).1 h
      have h1 : ¬ isN n x = true := fun g => hne (((isN_eq _ _).1 g).symm.trans e)
      have h2 : ¬ isN n (⟨x.f0, v⟩ : S43) = true := fun g => hne (((isN_eq _ _).1 g).symm.trans e)
      rw [List.filter_cons, if_neg h2, List.filter_cons, if_neg h1]
    · rw [List.filter_cons, List.filter_cons, filt_setF hne l]
theorem filt_one {n : ByteArray} (l : List S43) (c : S31) (hne : n ≠ c.f0) : (oneP l c).filter (isN n) = l.filter (isN n) := by
  unfold oneP withP; split
  · unfold keep
    rw [List.filter_filter]
    refine List.filter_congr (fun x _ => ?_)
    cases h : isN n x with
    | false => rfl
    | true =>
      have e : x.f0 = n := (isN_eq _ _).1 h
      have h1 : isN c.f0 x = false := by
        cases g : isN c.f0 x with
        | false => rfl
        | true => exact absurd (e.symm.trans ((isN_eq _ _).1 g)) hne
      rw [h1]; rfl
  · split
    · exact filt_setF hne l
    · unfold ins
      have h2 : ¬ isN n (⟨c.f0, c.f1⟩ : S43) = true := fun g => hne ((isN_eq _ _).1 g).symm
      rw [List.filter_append, List.filter_append, List.filter_cons, if_neg h2, List.filter_nil, List.append_nil, ← List.filter_append, List.take_append_drop]
theorem getV_congr {L L' : List S43} (h : Up L) (h' : Up L') {n : ByteArray} (e : ∀ z, z.f0 = n → (z ∈ L ↔ z ∈ L')) : getV L n = getV L' n := by
  by_cases hx : ∃ z ∈ L, z.f0 = n
  (obtain ⟨z, hz, rfl⟩ := hx; rw [getV_mem h hz, getV_mem h' ((e z rfl).1 hz)]); (rw [getV_none (fun z hz hn => hx ⟨z, hz, hn⟩), getV_none (fun z hz hn => hx ⟨z, (e z hn).2 hz, hn⟩)])
theorem one_other (b : List S43) (c : S31) {n : ByteArray} (hne : n ≠ c.f0) : getV (normR (oneP b c)) n = getV (normR b) n := by
  refine getV_congr (normR_ok _ _ rfl).1 (normR_ok _ _ rfl).1 (fun z hz => ?_); rw [(normR_ok _ _ rfl).2.1, (normR_ok _ _ rfl).2.1, last_filter _ _ _ rfl, last_filter _ _ _ rfl, filt_one b c (by rw [hz]; exact hne)]
noncomputable def difN (A B U : List S43) : List ByteArray := by
  classical exact (U.filter (fun u => decide (getV A u.f0 ≠ getV B u.f0))).map (·.f0)
theorem sub_len : ∀ (L M : List ByteArray), L.Nodup → (∀ x ∈ L, x ∈ M) → L.length ≤ M.length
  | [], _, _, _ => Nat.zero_le _
  | x :: L, M, h, hs => by
    obtain ⟨h1, h2⟩ := List.nodup_cons.1 h
    obtain ⟨M1, M2, rfl⟩ := List.append_of_mem (hs x List.mem_cons_self)
    have := sub_len L (M1 ++ M2) h2 (fun y hy => by
      have := hs y (List.mem_cons_of_mem _ hy)
      rcases List.mem_append.1 this with g | g
      · exact List.mem_append.2 (.inl g)
      · rcases List.mem_cons.1 g with rfl | g
        · exact absurd hy h1
        · exact List.mem_append.2 (.inr g))
    simp only [List.length_append, List.length_cons] at this ⊢
    omega
theorem up_nodup {U : List S43} (h : Up U) : (U.map (·.f0)).Nodup := by
  unfold List.Nodup; rw [List.pairwise_map]; exact h.imp (fun h => ne_of_less h)
theorem difN_nodup {A B U : List S43} (h : Up U) : (difN A B U).Nodup := by
  unfold difN; exact up_nodup (List.Pairwise.sublist List.filter_sublist h)
theorem difN_mem {A B U : List S43} (uA : Up A) (uB : Up B) (hU : ∀ z, (z ∈ A ∨ z ∈ B) → ∃ u ∈ U, u.f0 = z.f0) (n : ByteArray) : n ∈ difN A B U ↔ getV A n ≠ getV B n := by
  unfold difN; rw [List.mem_map]; constructor; (rintro ⟨u, hu, rfl⟩; simpa using (List.mem_filter.1 hu).2)
  · intro h
    have : ∃ u ∈ U, u.f0 = n := by
      by_cases hx : ∃ z, (z ∈ A ∨ z ∈ B) ∧ z.f0 = n
      (obtain ⟨z, hz, rfl⟩ := hx; exact hU z hz); (exact absurd ((getV_none (fun z hz hn => hx ⟨z, .inl hz, hn⟩)).trans (getV_none (fun z hz hn => hx ⟨z, .inr hz, hn⟩)).symm) h)
    obtain ⟨u, hu, rfl⟩ := this
    exact ⟨u, List.mem_filter.2 ⟨hu, by simpa using h⟩, rfl⟩
theorem gO_some {A B : List S43} (uA : Up A) (uB : Up B) {u : S43} (hu : ∃ z, (z ∈ A ∨ z ∈ B) ∧ z.f0 = u.f0) : (gO A B u).isSome = true ↔ getV A u.f0 ≠ getV B u.f0 := by
  have two : ∀ L : List S43, Up L → getV L u.f0 = (⟨#[]⟩, false) ∨ ∃ v, getV L u.f0 = (v, true) := by
    intro L hL
    by_cases hx : ∃ z ∈ L, z.f0 = u.f0
    (obtain ⟨z, hz, e⟩ := hx; exact .inr ⟨z.f1, by rw [← e]; exact getV_mem hL hz⟩); (exact .inl (getV_none (fun z hz hn => hx ⟨z, hz, hn⟩)))
  have one : ∀ L : List S43, Up L → (∃ z ∈ L, z.f0 = u.f0) → ∃ v, getV L u.f0 = (v, true) := by
    rintro L hL ⟨z, hz, e⟩; exact ⟨z.f1, by rw [← e]; exact getV_mem hL hz⟩
  obtain ⟨z, hz, e⟩ := hu
  rcases two A uA with a | ⟨va, a⟩ <;> rcases two B uB with b | ⟨vb, b⟩
  · rcases hz with hz | hz
    · obtain ⟨v, h⟩ := one A uA ⟨z, hz, e⟩
      rw [h] at a; cases a
    · obtain ⟨v, h⟩ := one B uB ⟨z, hz, e⟩
      rw [h] at b; cases b
  (simp [gO, a, b]); (simp [gO, a, b])
  · unfold gO
    rw [a, b]
    by_cases c : va.toList = vb.toList
    · have : va = vb := bytes_eq c
      simp [this]
    · have : va ≠ vb := fun e => c (by rw [e])
      simp [c, this]
theorem len_dif {A B : List S43} (uA : Up A) (uB : Up B) : ∀ (U : List S43), (∀ u ∈ U, ∃ z, (z ∈ A ∨ z ∈ B) ∧ z.f0 = u.f0) → (U.filterMap (gO A B)).length = (difN A B U).length
  | [], _ => rfl
  | u :: U, h => by
    have ih := len_dif uA uB U (fun v hv => h v (List.mem_cons_of_mem _ hv))
    have h1 := gO_some uA uB (h u List.mem_cons_self)
    unfold difN at ih ⊢
    rw [List.filterMap_cons, List.filter_cons]
    cases hg : gO A B u with
    | none =>
      rw [hg] at h1
      have h2 : ¬ getV A u.f0 ≠ getV B u.f0 := fun g => by have := h1.2 g; cases this
      rw [if_neg (by simpa using h2)]
      exact ih
    | some c =>
      rw [hg] at h1
      rw [if_pos (by simpa using h1.1 rfl), List.length_cons, List.map_cons, List.length_cons, ih]
theorem mem_U (A B : List S43) (uA : Up A) (uB : Up B) (z : S43) : z ∈ normR (A ++ B) ↔ z ∈ B ∨ (z ∈ A ∧ ∀ y ∈ B, ¬ isN z.f0 y = true) := by
  rw [(normR_ok _ (A ++ B) rfl).2.1, last_app A z _ B rfl, up_last uA, up_last uB]
theorem dist_eq (a b : List S43) : (ofN a b).length = (difN (normR a) (normR b) (normR (normR a ++ normR b))).length ∧ (difN (normR a) (normR b) (normR (normR a ++ normR b))).Nodup ∧
    ∀ n, n ∈ difN (normR a) (normR b) (normR (normR a ++ normR b)) ↔ getV (normR a) n ≠ getV (normR b) n := by
  have uA := (normR_ok _ a rfl).1; have uB := (normR_ok _ b rfl).1; have uU := (normR_ok _ (normR a ++ normR b) rfl).1; refine ⟨?_, difN_nodup uU, difN_mem uA uB (fun z hz => ?_)⟩
  · rw [← len_dif uA uB]
    · have := congrArg List.length (of_conv a b)
      rw [List.length_map] at this
      exact this
    · intro u hu
      rcases (mem_U _ _ uA uB u).1 hu with h | ⟨h, _⟩
      · exact ⟨u, .inr h, rfl⟩
      · exact ⟨u, .inl h, rfl⟩
  · rcases hz with hz | hz
    · by_cases g : ∃ y ∈ normR b, isN z.f0 y = true
      · obtain ⟨y, hy, hn⟩ := g
        exact ⟨y, (mem_U _ _ uA uB y).2 (.inl hy), (isN_eq _ _).1 hn⟩
      · exact ⟨z, (mem_U _ _ uA uB z).2 (.inr ⟨hz, fun y hy hn => g ⟨y, hy, hn⟩⟩), rfl⟩
    · exact ⟨z, (mem_U _ _ uA uB z).2 (.inl hz), rfl⟩
theorem dist_one (a b : List S43) (c : S31) : (ofN a (oneP b c)).length ≤ (ofN a b).length + 1 := by
  obtain ⟨e1, n1, m1⟩ := dist_eq a (oneP b c); obtain ⟨e2, n2, m2⟩ := dist_eq a b; rw [e1, e2]; refine sub_len _ (c.f0 :: difN (normR a) (normR b) (normR (normR a ++ normR b))) n1 (fun x hx => ?_)
  by_cases h : x = c.f0
  (rw [h]; exact List.mem_cons_self); (have h1 := (m1 x).1 hx; rw [one_other b c h] at h1; exact List.mem_cons_of_mem _ ((m2 x).2 h1))
theorem dist_self (a : List S43) : (ofN a a).length = 0 := by
  obtain ⟨e1, n1, m1⟩ := dist_eq a a; rw [e1]; refine Nat.le_zero.1 (sub_len _ [] n1 (fun x hx => absurd rfl ((m1 x).1 hx)))
theorem dist_fold (a : List S43) : ∀ (m : List S31) (b : List S43), (ofN a (m.foldl oneP b)).length ≤ (ofN a b).length + m.length
  | [], b => Nat.le_refl _
  | c :: m, b => by
    have h1 := dist_fold a m (oneP b c)
    have h2 := dist_one a b c
    rw [List.foldl_cons, List.length_cons]
    omega
theorem ev_all {α : Type} (f : Nat → Nat → Option α) (r : Nat → α) : ∀ n, (∀ i, i < n → Ev (f i) (r i)) → ∃ K, ∀ k, K ≤ k → ∀ i, i < n → f i k = some (r i)
  | 0, _ => ⟨0, fun _ _ i h => absurd h (Nat.not_lt_zero i)⟩
  | n + 1, h => by
    obtain ⟨K, hK⟩ := ev_all f r n (fun i hi => h i (by omega))
    obtain ⟨K2, h2⟩ := h n (by omega)
    refine ⟨max K K2, fun k hk i hi => ?_⟩
    by_cases e : i = n
    · rw [e]; exact h2 k (by omega)
    · exact hK k (by omega) i (by omega)
def chX (l : List S43) (m : List S31) (i : Nat) : List S43 := (m.take i).foldl oneP l
theorem chX_step (l : List S43) (m : List S31) (i : Nat) (h : i < m.length) : chX l m (i + 1) = oneP (chX l m i) (rd_T31 m (i : Int)) := by
  unfold chX rd_T31; rw [List.take_succ_eq_append_getElem h, List.foldl_append, List.getD_eq_getElem?_getD, Int.toNat_natCast, List.getElem?_eq_getElem h]; rfl
theorem chX_len (l : List S43) (m : List S31) : ∀ i, i ≤ m.length → (chX l m i).length ≤ l.length + i
  | 0, _ => Nat.le_refl _
  | i + 1, h => by
    have := chX_len l m i (by omega)
    rw [chX_step l m i (by omega)]
    have := oneP_len (chX l m i) (rd_T31 m (i : Int))
    omega
theorem chX_sm (l : List S43) (m : List S31) (hs : ∀ y ∈ l, Sm43 y) (hm : ∀ y ∈ m, Sm31 y) : ∀ i, i ≤ m.length → ∀ y ∈ chX l m i, Sm43 y
  | 0, _ => hs
  | i + 1, h => by
    have ih := chX_sm l m hs hm i (by omega)
    rw [chX_step l m i (by omega)]
    have hmem : rd_T31 m (i : Int) ∈ m := by
      unfold rd_T31
      rw [List.getD_eq_getElem?_getD, Int.toNat_natCast, List.getElem?_eq_getElem (show i < m.length by omega)]
      exact List.getElem_mem _
    exact oneP_sm ih (hm _ hmem).1 (hm _ hmem).2
theorem AdiffLeast : ∀ (x0 : List (S43)) (x1 : List (S31)), (x0.length * 32 ≤ 140737488351232 ∧ ∀ y ∈ x0, Sm43 y) → (x1.length * 40 ≤ 140737488351232 ∧ ∀ y ∈ x1, Sm31 y) → ∃ k, LW k x0 x1 := by
  rintro l m ⟨h1, hs⟩ ⟨h2, hm⟩; obtain ⟨ks, hks⟩ := same_ev; obtain ⟨b, ⟨kh, hkh⟩, hbi⟩ := heavy_ev l (by omega)
  by_cases g : b = false ∧ m.length ≤ 60
  · obtain ⟨rfl, g⟩ := g
    have ll := hbi rfl
    obtain ⟨kd, hkd⟩ := doA_ev (a := l) m (by omega) (by omega)
    have hlen := chX_len l m m.length (Nat.le_refl _)
    obtain ⟨ka, hka⟩ := attrs_refl_ev (chX l m m.length) (by omega)
    obtain ⟨ko, hko⟩ := ev_all (fun i k => r10_One.f k (chX l m i) (rd_T31 m (i : Int)).f0 (rd_T31 m (i : Int)).f1 (rd_T31 m (i : Int)).f2) (fun i => chX l m (i + 1)) m.length (fun i hi => by
      have h3 := chX_len l m i (by omega)
      show Ev _ (chX l m (i + 1))
      rw [chX_step l m i hi]
      exact one_ev (chX l m i) (rd_T31 m (i : Int)) (by omega) (chX_sm l m hs hm i (by omega)))
    have hfin : chX l m m.length = m.foldl oneP l := by unfold chX; rw [List.take_length]
    have e2 : adiff_Names.f l (chX l m m.length) = some (((ofN l (chX l m m.length)).length : Nat) : Int) := if_pos (by omega)
    refine ⟨ks + kh + kd + ka + ko, ⟨by omega, hks _ (by omega), false, hkh _ (by omega), fun _ _ => ⟨chX l m, rfl, fun i hi => hko _ (by omega) i hi, _, _, hkd _ (by omega), ?_, e2, ?_⟩⟩⟩
    · have := hka (ks + kh + kd + ka + ko) (by omega)
      rw [← hfin]
      exact this
    · have h5 := dist_fold l m l
      rw [dist_self, ← hfin] at h5
      omega
  · refine ⟨ks + kh, ⟨by omega, hks _ (by omega), b, hkh _ (by omega), fun e1 e2 => absurd ⟨e1, e2⟩ g⟩⟩
end Go.Proofs.Ytmpdbblljofjfaa.Pure
