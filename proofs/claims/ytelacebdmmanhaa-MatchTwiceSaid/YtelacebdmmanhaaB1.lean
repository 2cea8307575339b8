/- What the claim LawMatchTwice rests on, part 1 of 7: the kit's words, the printed walks, the walks by hand, the plain laws. -/
import Derived.Test.YtelacebdmmanhaaB0
import Derived.Lib.Strings
import Derived.Lib.Slices
import Derived.Lib.Walk
import Derived.Lib.Bytealg
import Derived.Maps.OwnSet
namespace Go.Proofs.Ytelacebdmmanhaa.G
open Go.RowKit Go.Proofs.YtelacebdmmanhaaW.PrintWords Go.Proofs.YtelacebdmmanhaaW.PrintLast Go.Proofs.YtelacebdmmanhaaW.PrintMore
attribute [local go_sem] max2_int min2_int max_two min_two max_three min_three max_four min_four
set_option linter.unusedVariables false
set_option linter.unusedSimpArgs false
def flat_deep.l0 : Nat → List (S32) → List Int → List (S32) → Int → Int → Option (Bool)
 | 0, _, _, _, _, _ => none
 | k + 1, x0, x3, x10, x11, x12 => if x12 < x11 then (if 0 ≤ x12 then (if x12 < (x10.length : Int) then (if 0 ≤ ((rd_T32 x10 x12).f1) then (if ((rd_T32 x10 x12).f1) < (x3.length : Int) then (if 0 ≤ (wrap64 (x12 + 1)) then (if (wrap64 (x12 + 1)) < (x3.length : Int) then ((some (x3.set ((wrap64 (x12 + 1)) : Int).toNat (wrap64 ((rd x3 ((rd_T32 x10 x12).f1)) + 1)) : List Int)).bind fun y144 => (if (rd y144 (wrap64 (x12 + 1))) > 64 then (some true) else (flat_deep.l0 k x0 y144 x10 x11 (wrap64 (x12 + 1))))) else (none)) else (none)) else (none)) else (none)) else (none)) else (none)) else (some (decide ((x0.length : Int) > 4096)))
def flat_deep.f (k : Nat) (l0 : List (S32)) : Option (Bool) := if 0 ≤ (wrap64 ((l0.length : Int) + 1)) then (if (wrap64 ((l0.length : Int) + 1) : Int).toNat ≤ 35184372088832 then (flat_deep.l0 k l0 (List.replicate (wrap64 ((l0.length : Int) + 1) : Int).toNat 0) l0 (l0.length : Int) 0) else (none)) else (none)
theorem flat_deep.mono_l : ∀ k, (∀ y0 y1 y2 y3 y4, LeO (flat_deep.l0 k y0 y1 y2 y3 y4) (flat_deep.l0 (k + 1) y0 y1 y2 y3 y4))
 | 0 => fun _ _ _ _ _ r h => by simp [flat_deep.l0] at h
 | k + 1 => by
  have ih0 := flat_deep.mono_l k
  ·
   intro y0 y1 y2 y3 y4
   unfold flat_deep.l0
   with_reducible repeat' first | exact ih0 _ _ _ _ _ | exact LeO.refl _ | exact LeO.none _ | refine LeO.ite ?_ ?_ | refine LeO.bind ?_ (fun _ => ?_)
theorem flat_deep.mono : ∀ a0 k, LeO (flat_deep.f k a0) (flat_deep.f (k + 1) a0) := by
 intro a0 k
 have ih0 := flat_deep.mono_l k
 unfold flat_deep.f
 with_reducible repeat' first | exact ih0 _ _ _ _ _ | exact LeO.refl _ | exact LeO.none _ | refine LeO.ite ?_ ?_ | refine LeO.bind ?_ (fun _ => ?_)
set_option maxHeartbeats 8000000 in
set_option maxRecDepth 100000 in
theorem flat_deep.calls (k : Nat) (A0 : Option Addr) (c0 : Nat) (l0 : List (S32)) (r : Bool) (w : World) (hr0 : Kd.C k32 w A0 l0.length l0) (hc0 : l0.length ≤ c0) (h : flat_deep.f k l0 = some r) :
  Calls Try.prog 42 #[.slice A0 l0.length c0] w fun e w' => e = .returned (.bool r) ∧ Below w.heap.size w w' := by
 have hu32 := Try.underlying32
 have HR0 := zk hr0
 have HC0 := zk hc0
 clear hr0 hc0
 have HB := zk (Below.refl w.heap.size w)
 have H : (if 0 ≤ (wrap64 ((l0.length : Int) + 1)) then (if (wrap64 ((l0.length : Int) + 1) : Int).toNat ≤ 35184372088832 then (flat_deep.l0 k l0 (List.replicate (wrap64 ((l0.length : Int) + 1) : Int).toNat 0) l0 (l0.length : Int) 0) else (none)) else (none)) = some r := h
 clear h
 obtain ⟨ji2, hji2⟩ : ∃ j_ : Int, (wrap64 ((l0.length : Int) + 1)) = j_ := ⟨_, rfl⟩
 replace H : (if 0 ≤ (ji2) then (if (ji2 : Int).toNat ≤ 35184372088832 then (flat_deep.l0 k l0 (List.replicate (ji2 : Int).toNat 0) l0 (l0.length : Int) 0) else (none)) else (none)) = some r := by first | (rw [hji2] at H; exact H) | (simp only [hji2] at H ⊢; exact H)
 have hji2w : (IntKind.i64.wrap ((l0.length : Int) + 1)) = ji2 := (i64_w _).trans hji2
 by_cases c3 : 0 ≤ (ji2)
 ·
  rw [if_pos c3] at H; have c3b0 := eq_true c3; have c3b1 := decide_eq_true c3; clear c3
  by_cases c4 : (ji2 : Int).toNat ≤ 35184372088832
  ·
   rw [if_pos c4] at H; have c4b0 := eq_true c4; have c4b1 := decide_eq_true c4; clear c4; obtain ⟨y138, hy138⟩ : ∃ y_ : List Int, y_ = (List.replicate (ji2 : Int).toNat 0) := ⟨_, rfl⟩
   replace H : (flat_deep.l0 k l0 y138 l0 (l0.length : Int) 0) = some r := by first | (rw [hy138]; with_reducible exact H) | (have H2_ := (Option.bind_some _ _).symm.trans H; rw [hy138]; with_reducible exact H2_) | (have H2_ := (Option.bind_some _ _).symm.trans H; with_reducible exact H2_) | with_reducible exact H | (rw [hy138]; exact H) | exact H
   have Ny138 := zk hy138; clear hy138; have H' := zk H; clear H
   go_enter Try.func42, Try.ntmps42
   go_wp2_with (first | ((with_reducible refine zgd (N := 9) rfl ?_); refine Kd.R_make (Kd.int .i64) _ 3 rfl (N := 9) rfl 25 _ _ rfl ji2 rfl rfl Try.underlying25 (.int .i64 0) 8 info3 rfl (by decide) (by omega) 0 (ok := fun _ => True) (okp := fun _ => True) rfl (fun _ hk => hk) trivial (zo (by assumption)) (Nat.le_trans (Nat.mul_le_mul_right _ (zo (by assumption) : ji2.toNat ≤ 35184372088832)) (by omega)) (Below.refl _ _) (Nat.le_refl _) ?_; intro v139 w5 ho6 hb hg_ hnew_; clear hg_ hnew_; (first | rw [← Ny138.out] at ho6 | (simp only [Int.reduceToNat] at ho6; rw [← Ny138.out] at ho6)); have n0_ := zk (Kd.R_lower ho6 (zq (by with_reducible repeat first | exact HB.out | apply zA | apply zN | apply zD))); have n1_ := zk (zs (by with_reducible repeat first | exact HB.out | apply zA | apply zN | apply zD) hb); clear HB; have HO140 := n0_; have HB := n1_; clear n0_ n1_; clear hb ho6))
   go_loopg [12] k (fun kq v12 w' => ∃ (x3_1 : List Int) (x12_1 : Int), v12 = .int .i64 x12_1 ∧ Aside0 (flat_deep.l0 kq l0 x3_1 l0 (l0.length : Int) x12_1 = some r) ∧ Aside0 (kq ≤ k) ∧ Aside0 (Kd.R (Kd.int .i64) 3 w' w.heap.size (fun _ => True) v139 x3_1) ∧ Aside0 (Below w.heap.size w w'))
   case atStart => exact ⟨(y138), (0), (by first | rfl | (simp; done) | (simp [*]; done)), H', ⟨Nat.le_refl _⟩, ⟨by (with_reducible repeat (first | apply Kd.R_alloc | apply Kd.R_drewN | apply Kd.R_drew)); exact HO140.out⟩, ⟨by with_reducible repeat first | exact HB.out | apply zA | apply zN | apply zD⟩⟩
   case round =>
    clear H'; (try clear p2); (try clear c3); (try clear c3b0); (try clear c3b1); (try clear c4); (try clear c4b0); (try clear c4b1); (try clear p6); obtain ⟨x3_1, x12_1, rfl, HA, HK1, HO_3, HB⟩ := hrel
    cases gk with
    | zero => exact absurd HA.out (by simp [flat_deep.l0])
    | succ k1 =>
     have H := HA.out; clear HA; simp only [flat_deep.l0] at H
     by_cases c7 : x12_1 < (l0.length : Int)
     ·
      rw [if_pos c7] at H; have c7b0 := decide_eq_true c7; clear c7
      by_cases c8 : 0 ≤ x12_1
      ·
       rw [if_pos c8] at H; have c8b0 := decide_eq_true c8; clear c8
       by_cases c9 : x12_1 < (l0.length : Int)
       ·
        rw [if_pos c9] at H; have c9b0 := decide_eq_true c9; clear c9
        by_cases c10 : 0 ≤ ((rd_T32 l0 x12_1).f1)
        ·
         rw [if_pos c10] at H; have c10b0 := decide_eq_true c10; clear c10
         by_cases c11 : ((rd_T32 l0 x12_1).f1) < (x3_1.length : Int)
         ·
          rw [if_pos c11] at H; have c11b0 := decide_eq_true c11; clear c11; obtain ⟨ji12, hji12⟩ : ∃ j_ : Int, (wrap64 (x12_1 + 1)) = j_ := ⟨_, rfl⟩
          replace H : (if 0 ≤ (ji12) then (if (ji12) < (x3_1.length : Int) then ((some (x3_1.set ((ji12) : Int).toNat (wrap64 ((rd x3_1 ((rd_T32 l0 x12_1).f1)) + 1)) : List Int)).bind fun y144 => (if (rd y144 (ji12)) > 64 then (some true) else (flat_deep.l0 k1 l0 y144 l0 (l0.length : Int) ji12))) else (none)) else (none)) = some r := by first | (rw [hji12] at H; exact H) | (simp only [hji12] at H ⊢; exact H)
          have hji12w : (IntKind.i64.wrap (x12_1 + 1)) = ji12 := (i64_w _).trans hji12
          by_cases c13 : 0 ≤ (ji12)
          ·
           rw [if_pos c13] at H; have c13b0 := decide_eq_true c13; clear c13
           by_cases c14 : (ji12) < (x3_1.length : Int)
           ·
            rw [if_pos c14] at H; have c14b0 := decide_eq_true c14; clear c14; obtain ⟨y144, hy144⟩ : ∃ y_ : List Int, y_ = (x3_1.set ((ji12) : Int).toNat (wrap64 ((rd x3_1 ((rd_T32 l0 x12_1).f1)) + 1))) := ⟨_, rfl⟩
            replace H : (if (rd y144 (ji12)) > 64 then (some true) else (flat_deep.l0 k1 l0 y144 l0 (l0.length : Int) ji12)) = some r := by first | (rw [hy144]; with_reducible exact H) | (have H2_ := (Option.bind_some _ _).symm.trans H; rw [hy144]; with_reducible exact H2_) | (have H2_ := (Option.bind_some _ _).symm.trans H; with_reducible exact H2_) | with_reducible exact H | (rw [hy144]; exact H) | exact H
            have Ny144 := zk hy144; clear hy144
            by_cases c16 : (rd y144 (ji12)) > 64
            ·
             rw [if_pos c16] at H; have c16b0 : decide (64 < (rd y144 (ji12))) = true := decide_eq_true c16; clear c16; obtain rfl := Option.some.inj H; have p141 : 0 ≤ (x12_1 : Int) := zo (by assumption); have q141 : x12_1 < (l0.length : Int) := zo (by assumption); obtain ⟨ad141, A141_5, c141_5, e141, hx141_0, hx141_1, hx141_2, hx141_3, hx141_4, hx141_5, hl141_5, hi141_5⟩ := at_T32 HR0.out x12_1 p141 q141; cases e141; replace hx141_0 := zB HB hx141_0; replace hx141_1 := zB HB hx141_1; replace hx141_2 := zB HB hx141_2; replace hx141_3 := zB HB hx141_3; replace hx141_4 := zB HB hx141_4; replace hx141_5 := zB HB hx141_5; have HR141_5 := zk hi141_5; have HC141_5 := zk hl141_5; clear hi141_5 hl141_5; replace p141 := eq_true p141; replace q141 := eq_true q141
             go_wp2_with (first | ((with_reducible refine zgd (N := 5) rfl ?_); refine zb ?hg (N := 5) ?hd (cs := #[.int .i64 0, .int .i64 0, .string ⟨#[]⟩, .string ⟨#[]⟩, .string ⟨#[]⟩, .slice none 0 0]) (t := 32) ?hr ?_; (case hd => rfl); (case hg => rfl); (case hr => go_simp; first | done | rfl); intro gb142 hg w17 hbox hb; have n0_ := zk (Kd.R_below (by (with_reducible repeat (first | apply Kd.R_alloc | apply Kd.R_drewN | apply Kd.R_drew)); exact HO_3.out) hb); have n1_ := zk (zs (by with_reducible repeat first | exact HB.out | apply zA | apply zN | apply zD) hb); have n2_ := zk (hbox); have n3_ := zk ((by rw [hg]; exact (zq (by with_reducible repeat first | exact HB.out | apply zA | apply zN | apply zD)) : w.heap.size ≤ gb142)); have n4_ := n3_; clear HO_3; clear HB; have HO_3 := n0_; have HB := n1_; have BK142 := n2_; have GW142 := n3_; have GE142 := n4_; clear n0_ n1_ n2_ n3_ n4_; clear hb hbox hg; obtain ⟨hcz18_0, hcz18_1, hcz18_2, hcz18_3, hcz18_4, hcz18_5, hfz18_0, hfz18_1, hfz18_2, hfz18_3, hfz18_4, hfz18_5⟩ := zc6 BK142.out) | ((with_reducible refine zgw (t := 32) (p := 5) rfl ?_); refine store_event (t := 32) (p := 5) (v := ?vo_w19) (w1 := ((((((w17.setCell ⟨gb142, 0, none⟩ (.int .i64 ((rd_T32 l0 x12_1).f0))).setCell ⟨gb142, 1, none⟩ (.int .i64 ((rd_T32 l0 x12_1).f1))).setCell ⟨gb142, 2, none⟩ (.string ((rd_T32 l0 x12_1).f2))).setCell ⟨gb142, 3, none⟩ (.string ((rd_T32 l0 x12_1).f3))).setCell ⟨gb142, 4, none⟩ (.string ((rd_T32 l0 x12_1).f4))).setCell ⟨gb142, 5, none⟩ (.slice A141_5 ((rd_T32 l0 x12_1).f5).length c141_5))) ?hg ?ho ?hn ?hr ?_; (case ho => rfl); (case hg => rfl); (case hn => rfl); (case hr => go_simp; first | done | rfl); intro w19 hw; have n0_ : Aside0 (Kd.R (Kd.int .i64) 3 w19 w.heap.size (fun _ => True) v139 x3_1) := ⟨(by rw [hw]; exact (by (with_reducible repeat (first | apply Kd.R_alloc | apply Kd.R_drewN | apply Kd.R_drew)); exact Kd.R_mono (Kd.R_far (p := ⟨gb142, 5, none⟩) (Kd.R_far (p := ⟨gb142, 4, none⟩) (Kd.R_far (p := ⟨gb142, 3, none⟩) (Kd.R_far (p := ⟨gb142, 2, none⟩) (Kd.R_far (p := ⟨gb142, 1, none⟩) (Kd.R_far (p := ⟨gb142, 0, none⟩) (Kd.R_types HO_3.out BK142.out (by decide)) (fun _ hk => hk.2) (.int .i64 ((rd_T32 l0 x12_1).f0))) (fun _ hk => hk.2) (.int .i64 ((rd_T32 l0 x12_1).f1))) (fun _ hk => hk.2) (.string ((rd_T32 l0 x12_1).f2))) (fun _ hk => hk.2) (.string ((rd_T32 l0 x12_1).f3))) (fun _ hk => hk.2) (.string ((rd_T32 l0 x12_1).f4))) (fun _ hk => hk.2) (.slice A141_5 ((rd_T32 l0 x12_1).f5).length c141_5)) (fun _ hk => trivial)))⟩; have n1_ : Aside0 (w19.heap[gb142]? = some (.cells #[.int .i64 ((rd_T32 l0 x12_1).f0), .int .i64 ((rd_T32 l0 x12_1).f1), .string ((rd_T32 l0 x12_1).f2), .string ((rd_T32 l0 x12_1).f3), .string ((rd_T32 l0 x12_1).f4), .slice A141_5 ((rd_T32 l0 x12_1).f5).length c141_5] 32 (0, 0))) := ⟨(by rw [hw]; exact (by (with_reducible repeat first | apply zM | apply zE | apply zF); refine zP (cs := #[.int .i64 ((rd_T32 l0 x12_1).f0), .int .i64 ((rd_T32 l0 x12_1).f1), .string ((rd_T32 l0 x12_1).f2), .string ((rd_T32 l0 x12_1).f3), .string ((rd_T32 l0 x12_1).f4), .slice none 0 0]) ?_ 5 _ rfl; (with_reducible repeat first | apply zM | apply zE | apply zF); refine zP (cs := #[.int .i64 ((rd_T32 l0 x12_1).f0), .int .i64 ((rd_T32 l0 x12_1).f1), .string ((rd_T32 l0 x12_1).f2), .string ((rd_T32 l0 x12_1).f3), .string ⟨#[]⟩, .slice none 0 0]) ?_ 4 _ rfl; (with_reducible repeat first | apply zM | apply zE | apply zF); refine zP (cs := #[.int .i64 ((rd_T32 l0 x12_1).f0), .int .i64 ((rd_T32 l0 x12_1).f1), .string ((rd_T32 l0 x12_1).f2), .string ⟨#[]⟩, .string ⟨#[]⟩, .slice none 0 0]) ?_ 3 _ rfl; (with_reducible repeat first | apply zM | apply zE | apply zF); refine zP (cs := #[.int .i64 ((rd_T32 l0 x12_1).f0), .int .i64 ((rd_T32 l0 x12_1).f1), .string ⟨#[]⟩, .string ⟨#[]⟩, .string ⟨#[]⟩, .slice none 0 0]) ?_ 2 _ rfl; (with_reducible repeat first | apply zM | apply zE | apply zF); refine zP (cs := #[.int .i64 ((rd_T32 l0 x12_1).f0), .int .i64 0, .string ⟨#[]⟩, .string ⟨#[]⟩, .string ⟨#[]⟩, .slice none 0 0]) ?_ 1 _ rfl; (with_reducible repeat first | apply zM | apply zE | apply zF); refine zP (cs := #[.int .i64 0, .int .i64 0, .string ⟨#[]⟩, .string ⟨#[]⟩, .string ⟨#[]⟩, .slice none 0 0]) ?_ 0 _ rfl; (with_reducible repeat first | apply zM | apply zE | apply zF); exact BK142.out))⟩; have n2_ : Aside0 (Below w.heap.size w w19) := ⟨(by rw [hw]; exact (by with_reducible repeat first | exact HB.out | apply zA | apply zN | apply zD | refine zS ?_ GE142.out))⟩; clear hw; clear HO_3; clear BK142; clear HB; have HO_3 := n0_; have BK142 := n1_; have HB := n2_; clear n0_ n1_ n2_; obtain ⟨hcz20_0, hcz20_1, hcz20_2, hcz20_3, hcz20_4, hcz20_5, hfz20_0, hfz20_1, hfz20_2, hfz20_3, hfz20_4, hfz20_5⟩ := zc6 BK142.out; obtain ⟨Ao21, co21, eo21⟩ := Kd.R_slice HO_3.out; subst eo21; have p143 : 0 ≤ (((rd_T32 l0 x12_1).f1) : Int) := zo (by assumption); have q143 : ((rd_T32 l0 x12_1).f1) < (x3_1.length : Int) := zo (by assumption); obtain ⟨ad143, e143, hx143_0⟩ := Kd.at_int (Kd.R_reads' HO_3.out).2.2 ((rd_T32 l0 x12_1).f1) p143 q143; cases e143; replace p143 := eq_true p143; replace q143 := eq_true q143; have p15 : 0 ≤ ((ji12) : Int) := zo (by assumption); have q15 : ((ji12) : Int) < ((x3_1.length : Int) : Int) := zo (by assumption); obtain ⟨go15, co15, eo15, gb15, gl15, cl15, HG15⟩ := Kd.R_form HO_3.out (by omega); (first | cases eo15 | (injection eo15 with ea_ en_ ec_; (first | subst ea_ | (injection ea_ with ea_; subst ea_)); subst ec_; clear en_)); have GB15 := zk gb15; have GG15 := zk HG15; clear gb15 gl15 HG15; (first | simp only [add_plain] at hx143_0 | skip); obtain ⟨hx15_0, hf15_0⟩ := Kd.R_celln 0 HO_3.out ((ji12) : Int) p15 q15; replace p15 := eq_true p15; replace q15 := eq_true q15; obtain ⟨hy22_, hz22_⟩ := Kd.R_celln 0 HO_3.out ((ji12) : Int) (zo (by assumption)) (zo (by assumption)); have HP22 := Kd.R_putg HO_3.out ((ji12) : Int) (wrap64 ((rd x3_1 ((rd_T32 l0 x12_1).f1)) + 1))) | ((with_reducible refine zgw (t := 3) (p := 26) rfl ?_); refine store_event (t := 3) (p := 26) (v := ?vo_w23) (w1 := (w19.setCell ⟨go15, ((ji12) : Int).toNat, none⟩ (.int .i64 (wrap64 ((rd x3_1 ((rd_T32 l0 x12_1).f1)) + 1))))) ?hg ?ho ?hn ?hr ?_; (case ho => rfl); (case hg => rfl); (case hn => rfl); (case hr => go_simp; first | done | rfl); intro w23 hw; have hg : w19.grownBy w23 (some go15) := (by rw [hw]; exact HP22.2); have hp_ : Kd.R (Kd.int .i64) 3 w23 w.heap.size (fun _ => True) (.slice (some ⟨go15, 0, none⟩) x3_1.length co21) y144 := (by rw [hw, Ny144.out]; exact HP22.1); clear HP22; have n0_ := zk (hp_); have n1_ := zk (blk_grown (g := gb142) (o := .cells #[.int .i64 ((rd_T32 l0 x12_1).f0), .int .i64 ((rd_T32 l0 x12_1).f1), .string ((rd_T32 l0 x12_1).f2), .string ((rd_T32 l0 x12_1).f3), .string ((rd_T32 l0 x12_1).f4), .slice A141_5 ((rd_T32 l0 x12_1).f5).length c141_5] 32 (0, 0)) (by (with_reducible repeat first | apply zM | apply zE | apply zF); exact BK142.out) hg (Kd.R_ne HO_3.out BK142.out (by decide))); have n2_ := zk ((by rw [hw]; exact zS (HB.out) GB15.out : Below w.heap.size w w23)); clear HO_3; clear BK142; clear HB; have HO_3 := n0_; have BK142 := n1_; have HB := n2_; clear n0_ n1_ n2_; clear hg hw hp_; have p145 : 0 ≤ ((ji12) : Int) := zo (by assumption); have q145 : (ji12) < (y144.length : Int) := (by have h_ : ((ji12) : Int) < ((x3_1.length : Int) : Int) := zo (by assumption); first | (have e_ := (Kd.R_reads' HO_3.out).1; omega) | simpa only [Ny144.out, List.length_set] using h_); have ql145 : (((ji12) : Int) < ((x3_1.length : Int) : Int)) = True := eq_true (zo (by assumption)); obtain ⟨ad145, e145, hx145_0⟩ := Kd.at_int (Kd.R_reads' HO_3.out).2.2 (ji12) p145 q145; obtain rfl : (⟨go15, 0, none⟩ : Addr) = ad145 := (by injection e145); (first | simp only [add_plain] at hx145_0 | simp only [add_at] at hx145_0 | simp only [Addr.add, Nat.zero_add] at hx145_0 | skip); replace p145 := eq_true p145; replace q145 := eq_true q145))
             go_ret; exact ⟨by first | rfl | (simp [wN, wS] <;> rfl) | (simp only [← hji2, ← hji12]; first | rfl | (simp [wN, wS] <;> rfl)) | (simp [*, wN, wS] <;> rfl), by with_reducible repeat first | exact HB.out | apply zA | apply zN | apply zD | refine zS ?_ GE142.out⟩
            ·
             rw [if_neg c16] at H; have c16b0 : decide (64 < (rd y144 (ji12))) = false := decide_eq_false c16; clear c16; have H' := zk H; clear H; have p141 : 0 ≤ (x12_1 : Int) := zo (by assumption); have q141 : x12_1 < (l0.length : Int) := zo (by assumption); obtain ⟨ad141, A141_5, c141_5, e141, hx141_0, hx141_1, hx141_2, hx141_3, hx141_4, hx141_5, hl141_5, hi141_5⟩ := at_T32 HR0.out x12_1 p141 q141; cases e141; replace hx141_0 := zB HB hx141_0; replace hx141_1 := zB HB hx141_1; replace hx141_2 := zB HB hx141_2; replace hx141_3 := zB HB hx141_3; replace hx141_4 := zB HB hx141_4; replace hx141_5 := zB HB hx141_5; have HR141_5 := zk hi141_5; have HC141_5 := zk hl141_5; clear hi141_5 hl141_5; replace p141 := eq_true p141; replace q141 := eq_true q141
             go_wp2_with (first | ((with_reducible refine zgd (N := 5) rfl ?_); refine zb ?hg (N := 5) ?hd (cs := #[.int .i64 0, .int .i64 0, .string ⟨#[]⟩, .string ⟨#[]⟩, .string ⟨#[]⟩, .slice none 0 0]) (t := 32) ?hr ?_; (case hd => rfl); (case hg => rfl); (case hr => go_simp; first | done | rfl); intro gb142 hg w24 hbox hb; have n0_ := zk (Kd.R_below (by (with_reducible repeat (first | apply Kd.R_alloc | apply Kd.R_drewN | apply Kd.R_drew)); exact HO_3.out) hb); have n1_ := zk (zs (by with_reducible repeat first | exact HB.out | apply zA | apply zN | apply zD) hb); have n2_ := zk (hbox); have n3_ := zk ((by rw [hg]; exact (zq (by with_reducible repeat first | exact HB.out | apply zA | apply zN | apply zD)) : w.heap.size ≤ gb142)); have n4_ := n3_; clear HO_3; clear HB; have HO_3 := n0_; have HB := n1_; have BK142 := n2_; have GW142 := n3_; have GE142 := n4_; clear n0_ n1_ n2_ n3_ n4_; clear hb hbox hg; obtain ⟨hcz25_0, hcz25_1, hcz25_2, hcz25_3, hcz25_4, hcz25_5, hfz25_0, hfz25_1, hfz25_2, hfz25_3, hfz25_4, hfz25_5⟩ := zc6 BK142.out) | ((with_reducible refine zgw (t := 32) (p := 5) rfl ?_); refine store_event (t := 32) (p := 5) (v := ?vo_w26) (w1 := ((((((w24.setCell ⟨gb142, 0, none⟩ (.int .i64 ((rd_T32 l0 x12_1).f0))).setCell ⟨gb142, 1, none⟩ (.int .i64 ((rd_T32 l0 x12_1).f1))).setCell ⟨gb142, 2, none⟩ (.string ((rd_T32 l0 x12_1).f2))).setCell ⟨gb142, 3, none⟩ (.string ((rd_T32 l0 x12_1).f3))).setCell ⟨gb142, 4, none⟩ (.string ((rd_T32 l0 x12_1).f4))).setCell ⟨gb142, 5, none⟩ (.slice A141_5 ((rd_T32 l0 x12_1).f5).length c141_5))) ?hg ?ho ?hn ?hr ?_; (case ho => rfl); (case hg => rfl); (case hn => rfl); (case hr => go_simp; first | done | rfl); intro w26 hw; have n0_ : Aside0 (Kd.R (Kd.int .i64) 3 w26 w.heap.size (fun _ => True) v139 x3_1) := ⟨(by rw [hw]; exact (by (with_reducible repeat (first | apply Kd.R_alloc | apply Kd.R_drewN | apply Kd.R_drew)); exact Kd.R_mono (Kd.R_far (p := ⟨gb142, 5, none⟩) (Kd.R_far (p := ⟨gb142, 4, none⟩) (Kd.R_far (p := ⟨gb142, 3, none⟩) (Kd.R_far (p := ⟨gb142, 2, none⟩) (Kd.R_far (p := ⟨gb142, 1, none⟩) (Kd.R_far (p := ⟨gb142, 0, none⟩) (Kd.R_types HO_3.out BK142.out (by decide)) (fun _ hk => hk.2) (.int .i64 ((rd_T32 l0 x12_1).f0))) (fun _ hk => hk.2) (.int .i64 ((rd_T32 l0 x12_1).f1))) (fun _ hk => hk.2) (.string ((rd_T32 l0 x12_1).f2))) (fun _ hk => hk.2) (.string ((rd_T32 l0 x12_1).f3))) (fun _ hk => hk.2) (.string ((rd_T32 l0 x12_1).f4))) (fun _ hk => hk.2) (.slice A141_5 ((rd_T32 l0 x12_1).f5).length c141_5)) (fun _ hk => trivial)))⟩; have n1_ : Aside0 (w26.heap[gb142]? = some (.cells #[.int .i64 ((rd_T32 l0 x12_1).f0), .int .i64 ((rd_T32 l0 x12_1).f1), .string ((rd_T32 l0 x12_1).f2), .string ((rd_T32 l0 x12_1).f3), .string ((rd_T32 l0 x12_1).f4), .slice A141_5 ((rd_T32 l0 x12_1).f5).length c141_5] 32 (0, 0))) := ⟨(by rw [hw]; exact (by (with_reducible repeat first | apply zM | apply zE | apply zF); refine zP (cs := #[.int .i64 ((rd_T32 l0 x12_1).f0), .int .i64 ((rd_T32 l0 x12_1).f1), .string ((rd_T32 l0 x12_1).f2), .string ((rd_T32 l0 x12_1).f3), .string ((rd_T32 l0 x12_1).f4), .slice none 0 0]) ?_ 5 _ rfl; (with_reducible repeat first | apply zM | apply zE | apply zF); refine zP (cs := #[.int .i64 ((rd_T32 l0 x12_1).f0), .int .i64 ((rd_T32 l0 x12_1).f1), .string ((rd_T32 l0 x12_1).f2), .string ((rd_T32 l0 x12_1).f3), .string ⟨#[]⟩, .slice none 0 0]) ?_ 4 _ rfl; (with_reducible repeat first | apply zM | apply zE | apply zF); refine zP (cs := #[.int .i64 ((rd_T32 l0 x12_1).f0), .int .i64 ((rd_T32 l0 x12_1).f1), .string ((rd_T32 l0 x12_1).f2), .string ⟨#[]⟩, .string ⟨#[]⟩, .slice none 0 0]) ?_ 3 _ rfl; (with_reducible repeat first | apply zM | apply zE | apply zF); refine zP (cs := #[.int .i64 ((rd_T32 l0 x12_1).f0), .int .i64 ((rd_T32 l0 x12_1).f1), .string ⟨#[]⟩, .string ⟨#[]⟩, .string ⟨#[]⟩, .slice none 0 0]) ?_ 2 _ rfl; (with_reducible repeat first | apply zM | apply zE | apply zF); refine zP (cs := #[.int .i64 ((rd_T32 l0 x12_1).f0), .int .i64 0, .string ⟨#[]⟩, .string ⟨#[]⟩, .string ⟨#[]⟩, .slice none 0 0]) ?_ 1 _ rfl; (with_reducible repeat first | apply zM | apply zE | apply zF); refine zP (cs := #[.int .i64 0, .int .i64 0, .string ⟨#[]⟩, .string ⟨#[]⟩, .string ⟨#[]⟩, .slice none 0 0]) ?_ 0 _ rfl; (with_reducible repeat first | apply zM | apply zE | apply zF); exact BK142.out))⟩; have n2_ : Aside0 (Below w.heap.size w w26) := ⟨(by rw [hw]; exact (by with_reducible repeat first | exact HB.out | apply zA | apply zN | apply zD | refine zS ?_ GE142.out))⟩; clear hw; clear HO_3; clear BK142; clear HB; have HO_3 := n0_; have BK142 := n1_; have HB := n2_; clear n0_ n1_ n2_; obtain ⟨hcz27_0, hcz27_1, hcz27_2, hcz27_3, hcz27_4, hcz27_5, hfz27_0, hfz27_1, hfz27_2, hfz27_3, hfz27_4, hfz27_5⟩ := zc6 BK142.out; obtain ⟨Ao28, co28, eo28⟩ := Kd.R_slice HO_3.out; subst eo28; have p143 : 0 ≤ (((rd_T32 l0 x12_1).f1) : Int) := zo (by assumption); have q143 : ((rd_T32 l0 x12_1).f1) < (x3_1.length : Int) := zo (by assumption); obtain ⟨ad143, e143, hx143_0⟩ := Kd.at_int (Kd.R_reads' HO_3.out).2.2 ((rd_T32 l0 x12_1).f1) p143 q143; cases e143; replace p143 := eq_true p143; replace q143 := eq_true q143; have p15 : 0 ≤ ((ji12) : Int) := zo (by assumption); have q15 : ((ji12) : Int) < ((x3_1.length : Int) : Int) := zo (by assumption); obtain ⟨go15, co15, eo15, gb15, gl15, cl15, HG15⟩ := Kd.R_form HO_3.out (by omega); (first | cases eo15 | (injection eo15 with ea_ en_ ec_; (first | subst ea_ | (injection ea_ with ea_; subst ea_)); subst ec_; clear en_)); have GB15 := zk gb15; have GG15 := zk HG15; clear gb15 gl15 HG15; (first | simp only [add_plain] at hx143_0 | skip); obtain ⟨hx15_0, hf15_0⟩ := Kd.R_celln 0 HO_3.out ((ji12) : Int) p15 q15; replace p15 := eq_true p15; replace q15 := eq_true q15; obtain ⟨hy29_, hz29_⟩ := Kd.R_celln 0 HO_3.out ((ji12) : Int) (zo (by assumption)) (zo (by assumption)); have HP29 := Kd.R_putg HO_3.out ((ji12) : Int) (wrap64 ((rd x3_1 ((rd_T32 l0 x12_1).f1)) + 1))) | ((with_reducible refine zgw (t := 3) (p := 26) rfl ?_); refine store_event (t := 3) (p := 26) (v := ?vo_w30) (w1 := (w26.setCell ⟨go15, ((ji12) : Int).toNat, none⟩ (.int .i64 (wrap64 ((rd x3_1 ((rd_T32 l0 x12_1).f1)) + 1))))) ?hg ?ho ?hn ?hr ?_; (case ho => rfl); (case hg => rfl); (case hn => rfl); (case hr => go_simp; first | done | rfl); intro w30 hw; have hg : w26.grownBy w30 (some go15) := (by rw [hw]; exact HP29.2); have hp_ : Kd.R (Kd.int .i64) 3 w30 w.heap.size (fun _ => True) (.slice (some ⟨go15, 0, none⟩) x3_1.length co28) y144 := (by rw [hw, Ny144.out]; exact HP29.1); clear HP29; have n0_ := zk (hp_); have n1_ := zk (blk_grown (g := gb142) (o := .cells #[.int .i64 ((rd_T32 l0 x12_1).f0), .int .i64 ((rd_T32 l0 x12_1).f1), .string ((rd_T32 l0 x12_1).f2), .string ((rd_T32 l0 x12_1).f3), .string ((rd_T32 l0 x12_1).f4), .slice A141_5 ((rd_T32 l0 x12_1).f5).length c141_5] 32 (0, 0)) (by (with_reducible repeat first | apply zM | apply zE | apply zF); exact BK142.out) hg (Kd.R_ne HO_3.out BK142.out (by decide))); have n2_ := zk ((by rw [hw]; exact zS (HB.out) GB15.out : Below w.heap.size w w30)); clear HO_3; clear BK142; clear HB; have HO_3 := n0_; have BK142 := n1_; have HB := n2_; clear n0_ n1_ n2_; clear hg hw hp_; have p145 : 0 ≤ ((ji12) : Int) := zo (by assumption); have q145 : (ji12) < (y144.length : Int) := (by have h_ : ((ji12) : Int) < ((x3_1.length : Int) : Int) := zo (by assumption); first | (have e_ := (Kd.R_reads' HO_3.out).1; omega) | simpa only [Ny144.out, List.length_set] using h_); have ql145 : (((ji12) : Int) < ((x3_1.length : Int) : Int)) = True := eq_true (zo (by assumption)); obtain ⟨ad145, e145, hx145_0⟩ := Kd.at_int (Kd.R_reads' HO_3.out).2.2 (ji12) p145 q145; obtain rfl : (⟨go15, 0, none⟩ : Addr) = ad145 := (by injection e145); (first | simp only [add_plain] at hx145_0 | simp only [add_at] at hx145_0 | simp only [Addr.add, Nat.zero_add] at hx145_0 | skip); replace p145 := eq_true p145; replace q145 := eq_true q145))
             go_roundg k1
             case measure => have := HK1.out; omega
             case rel => exact ⟨(y144), (ji12), (by first | rfl | (simp; done) | (simp only [← hji12] <;> (first | rfl | simp)) | (simp [*]; done)), H', ⟨by have := HK1.out; omega⟩, ⟨by (with_reducible repeat (first | apply Kd.R_alloc | apply Kd.R_drewN | apply Kd.R_drew)); exact HO_3.out⟩, ⟨by with_reducible repeat first | exact HB.out | apply zA | apply zN | apply zD | refine zS ?_ GE142.out⟩⟩
           ·
            rw [if_neg c14] at H; exact absurd H (by simp)
          ·
           rw [if_neg c13] at H; exact absurd H (by simp)
         ·
          rw [if_neg c11] at H; exact absurd H (by simp)
        ·
         rw [if_neg c10] at H; exact absurd H (by simp)
       ·
        rw [if_neg c9] at H; exact absurd H (by simp)
      ·
       rw [if_neg c8] at H; exact absurd H (by simp)
     ·
      rw [if_neg c7] at H; have c7b0 := decide_eq_false c7; clear c7; obtain rfl := Option.some.inj H; go_wp2; go_ret; exact ⟨by first | rfl | (simp [wN, wS] <;> rfl) | (simp only [← hji2]; first | rfl | (simp [wN, wS] <;> rfl)) | (simp [*, wN, wS] <;> rfl), by with_reducible repeat first | exact HB.out | apply zA | apply zN | apply zD⟩
  ·
   rw [if_neg c4] at H; exact absurd H (by simp)
 ·
  rw [if_neg c3] at H; exact absurd H (by simp)
def flat_cut.l0 : Nat → List (S32) → List Int → List (S32) → Int → Int → Option ((List (S32)))
 | 0, _, _, _, _, _ => none
 | k + 1, x0, x3, x10, x11, x12 => if x12 < x11 then (if 0 ≤ x12 then (if x12 < (x10.length : Int) then (if 0 ≤ ((rd_T32 x10 x12).f1) then (if ((rd_T32 x10 x12).f1) < (x3.length : Int) then (if 0 ≤ (wrap64 (x12 + 1)) then (if (wrap64 (x12 + 1)) < (x3.length : Int) then ((some (x3.set ((wrap64 (x12 + 1)) : Int).toNat (wrap64 ((rd x3 ((rd_T32 x10 x12).f1)) + 1)) : List Int)).bind fun y152 => (if (rd y152 (wrap64 (x12 + 1))) > 64 then (if (wrap64 (x12 + 1)) ≤ (x0.length : Int) then (some (x0.take ((wrap64 (x12 + 1)) : Int).toNat)) else (none)) else (if x12 = 4096 then (if (wrap64 (x12 + 1)) ≤ (x0.length : Int) then (some (x0.take ((wrap64 (x12 + 1)) : Int).toNat)) else (none)) else (flat_cut.l0 k x0 y152 x10 x11 (wrap64 (x12 + 1)))))) else (none)) else (none)) else (none)) else (none)) else (none)) else (none)) else (some x0)
def flat_cut.f (k : Nat) (l0 : List (S32)) : Option ((List (S32))) := if 0 ≤ (wrap64 ((l0.length : Int) + 1)) then (if (wrap64 ((l0.length : Int) + 1) : Int).toNat ≤ 35184372088832 then (flat_cut.l0 k l0 (List.replicate (wrap64 ((l0.length : Int) + 1) : Int).toNat 0) l0 (l0.length : Int) 0) else (none)) else (none)
theorem flat_cut.mono_l : ∀ k, (∀ y0 y1 y2 y3 y4, LeO (flat_cut.l0 k y0 y1 y2 y3 y4) (flat_cut.l0 (k + 1) y0 y1 y2 y3 y4))
 | 0 => fun _ _ _ _ _ r h => by simp [flat_cut.l0] at h
 | k + 1 => by
  have ih0 := flat_cut.mono_l k
  ·
   intro y0 y1 y2 y3 y4
   unfold flat_cut.l0
   with_reducible repeat' first | exact ih0 _ _ _ _ _ | exact LeO.refl _ | exact LeO.none _ | refine LeO.ite ?_ ?_ | refine LeO.bind ?_ (fun _ => ?_)
theorem flat_cut.mono : ∀ a0 k, LeO (flat_cut.f k a0) (flat_cut.f (k + 1) a0) := by
 intro a0 k
 have ih0 := flat_cut.mono_l k
 unfold flat_cut.f
 with_reducible repeat' first | exact ih0 _ _ _ _ _ | exact LeO.refl _ | exact LeO.none _ | refine LeO.ite ?_ ?_ | refine LeO.bind ?_ (fun _ => ?_)
set_option maxHeartbeats 8000000 in
set_option maxRecDepth 100000 in
theorem flat_cut.calls (k : Nat) (P0_ : Nat → Prop) (A0 : Option Addr) (c0 : Nat) (l0 : List (S32)) (r : List (S32)) (w : World) (hs0 : Kd.V k32 32 w w.heap.size (fun k_ => P0_ k_) (.slice A0 l0.length c0) l0) (h : flat_cut.f k l0 = some r) :
  Calls Try.prog 43 #[.slice A0 l0.length c0] w fun e w' => ∃ v0_ : Value, e = .returned (v0_) ∧ Kd.V k32 32 w' w.heap.size (fun k_ => (P0_ k_ ∨ w.heap.size ≤ k_)) v0_ r ∧ Below w.heap.size w w' := by
 have hu32 := Try.underlying32
 have HO0 := zk (show Kd.V k32 32 w w.heap.size (fun k_ => (P0_ k_ ∨ w.heap.size ≤ k_)) (.slice A0 l0.length c0) l0 from Kd.V_mono hs0 (fun k_ hk => .inl hk))
 have HB := zk (Below.refl w.heap.size w)
 have H : (if 0 ≤ (wrap64 ((l0.length : Int) + 1)) then (if (wrap64 ((l0.length : Int) + 1) : Int).toNat ≤ 35184372088832 then (flat_cut.l0 k l0 (List.replicate (wrap64 ((l0.length : Int) + 1) : Int).toNat 0) l0 (l0.length : Int) 0) else (none)) else (none)) = some r := h
 clear h
 obtain ⟨ji2, hji2⟩ : ∃ j_ : Int, (wrap64 ((l0.length : Int) + 1)) = j_ := ⟨_, rfl⟩
 replace H : (if 0 ≤ (ji2) then (if (ji2 : Int).toNat ≤ 35184372088832 then (flat_cut.l0 k l0 (List.replicate (ji2 : Int).toNat 0) l0 (l0.length : Int) 0) else (none)) else (none)) = some r := by first | (rw [hji2] at H; exact H) | (simp only [hji2] at H ⊢; exact H)
 have hji2w : (IntKind.i64.wrap ((l0.length : Int) + 1)) = ji2 := (i64_w _).trans hji2
 by_cases c3 : 0 ≤ (ji2)
 ·
  rw [if_pos c3] at H; have c3b0 := eq_true c3; have c3b1 := decide_eq_true c3; clear c3
  by_cases c4 : (ji2 : Int).toNat ≤ 35184372088832
  ·
   rw [if_pos c4] at H; have c4b0 := eq_true c4; have c4b1 := decide_eq_true c4; clear c4; obtain ⟨y146, hy146⟩ : ∃ y_ : List Int, y_ = (List.replicate (ji2 : Int).toNat 0) := ⟨_, rfl⟩
   replace H : (flat_cut.l0 k l0 y146 l0 (l0.length : Int) 0) = some r := by first | (rw [hy146]; with_reducible exact H) | (have H2_ := (Option.bind_some _ _).symm.trans H; rw [hy146]; with_reducible exact H2_) | (have H2_ := (Option.bind_some _ _).symm.trans H; with_reducible exact H2_) | with_reducible exact H | (rw [hy146]; exact H) | exact H
   have Ny146 := zk hy146; clear hy146; have H' := zk H; clear H
   go_enter Try.func43, Try.ntmps43
   go_wp2_with (first | ((with_reducible refine zgd (N := 9) rfl ?_); refine Kd.R_make (Kd.int .i64) _ 3 rfl (N := 9) rfl 25 _ _ rfl ji2 rfl rfl Try.underlying25 (.int .i64 0) 8 info3 rfl (by decide) (by omega) 0 (ok := fun _ => True) (okp := fun _ => True) rfl (fun _ hk => hk) trivial (zo (by assumption)) (Nat.le_trans (Nat.mul_le_mul_right _ (zo (by assumption) : ji2.toNat ≤ 35184372088832)) (by omega)) (Below.refl _ _) (Nat.le_refl _) ?_; intro v147 w5 ho6 hb hg_ hnew_; clear hg_ hnew_; (first | rw [← Ny146.out] at ho6 | (simp only [Int.reduceToNat] at ho6; rw [← Ny146.out] at ho6)); have n0_ := zk (Kd.V_elder' (by (with_reducible repeat (first | apply Kd.V_alloc | apply Kd.V_drewN | apply Kd.V_drew)); exact HO0.out) (Kd.R_base ho6) hb); have n1_ := zk (Kd.R_lower (Kd.R_newM (M := fun k_ => (w.heap.size ≤ k_)) ho6 (zq (by with_reducible repeat first | exact HB.out | apply zA | apply zN | apply zD)) (fun k_ h_ => h_)) (zq (by with_reducible repeat first | exact HB.out | apply zA | apply zN | apply zD))); have n2_ := zk (zs (by with_reducible repeat first | exact HB.out | apply zA | apply zN | apply zD) hb); clear HO0; clear HB; have HO0 := n0_; have HO148 := n1_; have HB := n2_; clear n0_ n1_ n2_; clear hb ho6))
   go_loopg [12] k (fun kq v12 w' => ∃ (x3_1 : List Int) (x12_1 : Int), v12 = .int .i64 x12_1 ∧ Aside0 (flat_cut.l0 kq l0 x3_1 l0 (l0.length : Int) x12_1 = some r) ∧ Aside0 (kq ≤ k) ∧ Aside0 (Kd.V k32 32 w' w.heap.size (fun k_ => (P0_ k_ ∨ w.heap.size ≤ k_) ∧ some k_ ≠ (v147 : Value).ownBlock) (.slice A0 l0.length c0) l0) ∧ Aside0 (Kd.R (Kd.int .i64) 3 w' w.heap.size (fun k_ => (w.heap.size ≤ k_)) v147 x3_1) ∧ Aside0 (Kd.V k32 32 w' w.heap.size (fun k_ => (P0_ k_ ∨ w.heap.size ≤ k_) ∧ some k_ ≠ (v147 : Value).ownBlock) (.slice A0 l0.length c0) l0) ∧ Aside0 (Below w.heap.size w w'))
   case atStart => exact ⟨(y146), (0), (by first | rfl | (simp; done) | (simp [*]; done)), H', ⟨Nat.le_refl _⟩, ⟨by (with_reducible repeat (first | apply Kd.V_alloc | apply Kd.V_drewN | apply Kd.V_drew)); exact HO0.out⟩, ⟨by (with_reducible repeat (first | apply Kd.R_alloc | apply Kd.R_drewN | apply Kd.R_drew)); exact Kd.R_mono HO148.out (fun _ hk => hk.1)⟩, ⟨by (with_reducible repeat (first | apply Kd.V_alloc | apply Kd.V_drewN | apply Kd.V_drew)); exact HO0.out⟩, ⟨by with_reducible repeat first | exact HB.out | apply zA | apply zN | apply zD⟩⟩
   case round =>
    clear H'; (try clear p2); (try clear c3); (try clear c3b0); (try clear c3b1); (try clear c4); (try clear c4b0); (try clear c4b1); (try clear p6); obtain ⟨x3_1, x12_1, rfl, HA, HK1, HO_0, HO_3, HO_10, HB⟩ := hrel
    cases gk with
    | zero => exact absurd HA.out (by simp [flat_cut.l0])
    | succ k1 =>
     have H := HA.out; clear HA; simp only [flat_cut.l0] at H
     by_cases c7 : x12_1 < (l0.length : Int)
     ·
      rw [if_pos c7] at H; have c7b0 := decide_eq_true c7; clear c7
      by_cases c8 : 0 ≤ x12_1
      ·
       rw [if_pos c8] at H; have c8b0 := decide_eq_true c8; clear c8
       by_cases c9 : x12_1 < (l0.length : Int)
       ·
        rw [if_pos c9] at H; have c9b0 := decide_eq_true c9; clear c9
        by_cases c10 : 0 ≤ ((rd_T32 l0 x12_1).f1)
        ·
         rw [if_pos c10] at H; have c10b0 := decide_eq_true c10; clear c10
         by_cases c11 : ((rd_T32 l0 x12_1).f1) < (x3_1.length : Int)
         ·
          rw [if_pos c11] at H; have c11b0 := decide_eq_true c11; clear c11; obtain ⟨ji12, hji12⟩ : ∃ j_ : Int, (wrap64 (x12_1 + 1)) = j_ := ⟨_, rfl⟩
          replace H : (if 0 ≤ (ji12) then (if (ji12) < (x3_1.length : Int) then ((some (x3_1.set ((ji12) : Int).toNat (wrap64 ((rd x3_1 ((rd_T32 l0 x12_1).f1)) + 1)) : List Int)).bind fun y152 => (if (rd y152 (ji12)) > 64 then (if (ji12) ≤ (l0.length : Int) then (some (l0.take ((ji12) : Int).toNat)) else (none)) else (if x12_1 = 4096 then (if (ji12) ≤ (l0.length : Int) then (some (l0.take ((ji12) : Int).toNat)) else (none)) else (flat_cut.l0 k1 l0 y152 l0 (l0.length : Int) ji12)))) else (none)) else (none)) = some r := by first | (rw [hji12] at H; exact H) | (simp only [hji12] at H ⊢; exact H)
          have hji12w : (IntKind.i64.wrap (x12_1 + 1)) = ji12 := (i64_w _).trans hji12
          by_cases c13 : 0 ≤ (ji12)
          ·
           rw [if_pos c13] at H; have c13b0 := decide_eq_true c13; clear c13
           by_cases c14 : (ji12) < (x3_1.length : Int)
           ·
            rw [if_pos c14] at H; have c14b0 := decide_eq_true c14; clear c14; obtain ⟨y152, hy152⟩ : ∃ y_ : List Int, y_ = (x3_1.set ((ji12) : Int).toNat (wrap64 ((rd x3_1 ((rd_T32 l0 x12_1).f1)) + 1))) := ⟨_, rfl⟩
            replace H : (if (rd y152 (ji12)) > 64 then (if (ji12) ≤ (l0.length : Int) then (some (l0.take ((ji12) : Int).toNat)) else (none)) else (if x12_1 = 4096 then (if (ji12) ≤ (l0.length : Int) then (some (l0.take ((ji12) : Int).toNat)) else (none)) else (flat_cut.l0 k1 l0 y152 l0 (l0.length : Int) ji12))) = some r := by first | (rw [hy152]; with_reducible exact H) | (have H2_ := (Option.bind_some _ _).symm.trans H; rw [hy152]; with_reducible exact H2_) | (have H2_ := (Option.bind_some _ _).symm.trans H; with_reducible exact H2_) | with_reducible exact H | (rw [hy152]; exact H) | exact H
            have Ny152 := zk hy152; clear hy152
            by_cases c16 : (rd y152 (ji12)) > 64
            ·
             rw [if_pos c16] at H; have c16b0 : decide (64 < (rd y152 (ji12))) = true := decide_eq_true c16; clear c16; have c17b0 := eq_true (zo (by assumption) : 0 ≤ (ji12))
             by_cases c18 : (ji12) ≤ (l0.length : Int)
             ·
              rw [if_pos c18] at H; have c18b0 := eq_true c18; have c18b1 := decide_eq_true c18; clear c18; obtain ⟨y154, hy154⟩ : ∃ y_ : List (S32), y_ = (l0.take ((ji12) : Int).toNat) := ⟨_, rfl⟩
              replace H : (some y154) = some r := by first | (rw [hy154]; with_reducible exact H) | (have H2_ := (Option.bind_some _ _).symm.trans H; rw [hy154]; with_reducible exact H2_) | (have H2_ := (Option.bind_some _ _).symm.trans H; with_reducible exact H2_) | with_reducible exact H | (rw [hy154]; exact H) | exact H
              have Ny154 := zk hy154; clear hy154; obtain rfl := Option.some.inj H; have p149 : 0 ≤ (x12_1 : Int) := zo (by assumption); have q149 : x12_1 < (l0.length : Int) := zo (by assumption); obtain ⟨ad149, A149_5, c149_5, e149, hx149_0, hx149_1, hx149_2, hx149_3, hx149_4, hx149_5, hl149_5, hi149_5⟩ := at_T32 (Kd.V_reads' HO_10.out).2.2 x12_1 p149 q149; cases e149; obtain ⟨ce149, hce149, hMe149, hcc149⟩ := Kd.V_get HO_10.out z32 x12_1 p149 (by first | exact q149 | exact zo (by assumption) | (have e_ := (Kd.V_reads' HO_10.out).1; omega)); obtain ⟨ua149_5, uc149_5, rfl, ul149_5, ge149_5⟩ := k32_openF hMe149; have hv149_5 := hcc149 5 _ rfl; rw [add_field _ _ 5 (by omega)] at hv149_5; replace hv149_5 := Option.some.inj (hv149_5.symm.trans hx149_5); injection hv149_5 with hva_ hvn_ hvc_; rw [hva_] at ge149_5; rw [hvc_] at ul149_5; have HL149_5 := zk (show Kd.V k39 39 _ w.heap.size _ _ ((rd_T32 l0 x12_1).f5) from Kd.V_mk ul149_5 ge149_5); clear hva_ hvn_ hvc_ ge149_5 ul149_5; clear hcc149 hce149; have HR149_5 := zk hi149_5; have HC149_5 := zk hl149_5; clear hi149_5 hl149_5; replace p149 := eq_true p149; replace q149 := eq_true q149
              go_wp2_with (first | ((with_reducible refine zgd (N := 5) rfl ?_); refine zb ?hg (N := 5) ?hd (cs := #[.int .i64 0, .int .i64 0, .string ⟨#[]⟩, .string ⟨#[]⟩, .string ⟨#[]⟩, .slice none 0 0]) (t := 32) ?hr ?_; (case hd => rfl); (case hg => rfl); (case hr => go_simp; first | done | rfl); intro gb150 hg w19 hbox hb; have n0_ := zk (Kd.V_below (Kd.V_elderB (by (with_reducible repeat (first | apply Kd.V_alloc | apply Kd.V_drewN | apply Kd.V_drew)); exact HO_0.out) gb150 (Nat.le_of_eq hg.symm)) hb); have n1_ := zk (Kd.R_below (by (with_reducible repeat (first | apply Kd.R_alloc | apply Kd.R_drewN | apply Kd.R_drew)); exact HO_3.out) hb); have n2_ := zk (Kd.V_below (Kd.V_elderB (by (with_reducible repeat (first | apply Kd.V_alloc | apply Kd.V_drewN | apply Kd.V_drew)); exact HO_10.out) gb150 (Nat.le_of_eq hg.symm)) hb); have n3_ := zk (Kd.V_below (Kd.V_elderB (by (with_reducible repeat (first | apply Kd.V_alloc | apply Kd.V_drewN | apply Kd.V_drew)); exact HL149_5.out) gb150 (Nat.le_of_eq hg.symm)) hb); have n4_ := zk (Kd.C_below (by repeat (first | (with_reducible exact HR149_5.out) | (with_reducible refine Kd.C_alloc ?_ _) | (with_reducible refine Kd.C_drewN ?_ _) | (with_reducible refine Kd.C_drew ?_) | exact HR149_5.out)) hb); have n5_ := zk (zs (by with_reducible repeat first | exact HB.out | apply zA | apply zN | apply zD) hb); have n6_ := zk (hbox); have n7_ := zk ((by rw [hg]; exact (zq (by with_reducible repeat first | exact HB.out | apply zA | apply zN | apply zD)) : w.heap.size ≤ gb150)); have n8_ := n7_; clear HO_0; clear HO_3; clear HO_10; clear HL149_5; clear HR149_5; clear HB; have HO_0 := n0_; have HO_3 := n1_; have HO_10 := n2_; have HL149_5 := n3_; have HR149_5 := n4_; have HB := n5_; have BK150 := n6_; have GW150 := n7_; have GE150 := n8_; clear n0_ n1_ n2_ n3_ n4_ n5_ n6_ n7_ n8_; clear hb hbox hg; obtain ⟨hcz20_0, hcz20_1, hcz20_2, hcz20_3, hcz20_4, hcz20_5, hfz20_0, hfz20_1, hfz20_2, hfz20_3, hfz20_4, hfz20_5⟩ := zc6 BK150.out) | ((with_reducible refine zgw (t := 32) (p := 5) rfl ?_); refine store_event (t := 32) (p := 5) (v := ?vo_w21) (w1 := ((((((w19.setCell ⟨gb150, 0, none⟩ (.int .i64 ((rd_T32 l0 x12_1).f0))).setCell ⟨gb150, 1, none⟩ (.int .i64 ((rd_T32 l0 x12_1).f1))).setCell ⟨gb150, 2, none⟩ (.string ((rd_T32 l0 x12_1).f2))).setCell ⟨gb150, 3, none⟩ (.string ((rd_T32 l0 x12_1).f3))).setCell ⟨gb150, 4, none⟩ (.string ((rd_T32 l0 x12_1).f4))).setCell ⟨gb150, 5, none⟩ (.slice A149_5 ((rd_T32 l0 x12_1).f5).length c149_5))) ?hg ?ho ?hn ?hr ?_; (case ho => rfl); (case hg => rfl); (case hn => rfl); (case hr => go_simp; first | done | rfl); intro w21 hw; have n0_ : Aside0 (Kd.V k32 32 w21 w.heap.size (fun k_ => (P0_ k_ ∨ w.heap.size ≤ k_) ∧ some k_ ≠ (v147 : Value).ownBlock ∧ k_ ≠ gb150) (.slice (some ad149) l0.length c0) l0) := ⟨(by rw [hw]; exact (by (with_reducible repeat (first | apply Kd.V_alloc | apply Kd.V_drewN | apply Kd.V_drew)); exact Kd.V_mono (Kd.V_far (p := ⟨gb150, 5, none⟩) (Kd.V_far (p := ⟨gb150, 4, none⟩) (Kd.V_far (p := ⟨gb150, 3, none⟩) (Kd.V_far (p := ⟨gb150, 2, none⟩) (Kd.V_far (p := ⟨gb150, 1, none⟩) (Kd.V_far (p := ⟨gb150, 0, none⟩) (Kd.V_mono HO_0.out (fun k_ hk => (⟨hk, hk.2⟩ : _ ∧ k_ ≠ gb150))) (fun _ hk => hk.2) (.int .i64 ((rd_T32 l0 x12_1).f0))) (fun _ hk => hk.2) (.int .i64 ((rd_T32 l0 x12_1).f1))) (fun _ hk => hk.2) (.string ((rd_T32 l0 x12_1).f2))) (fun _ hk => hk.2) (.string ((rd_T32 l0 x12_1).f3))) (fun _ hk => hk.2) (.string ((rd_T32 l0 x12_1).f4))) (fun _ hk => hk.2) (.slice A149_5 ((rd_T32 l0 x12_1).f5).length c149_5)) (fun _ hk => ⟨hk.1.1.1, ⟨hk.1.1.2, hk.1.2⟩⟩)))⟩; have n1_ : Aside0 (Kd.R (Kd.int .i64) 3 w21 w.heap.size (fun k_ => (w.heap.size ≤ k_)) v147 x3_1) := ⟨(by rw [hw]; exact (by (with_reducible repeat (first | apply Kd.R_alloc | apply Kd.R_drewN | apply Kd.R_drew)); exact Kd.R_mono (Kd.R_far (p := ⟨gb150, 5, none⟩) (Kd.R_far (p := ⟨gb150, 4, none⟩) (Kd.R_far (p := ⟨gb150, 3, none⟩) (Kd.R_far (p := ⟨gb150, 2, none⟩) (Kd.R_far (p := ⟨gb150, 1, none⟩) (Kd.R_far (p := ⟨gb150, 0, none⟩) (Kd.R_types HO_3.out BK150.out (by decide)) (fun _ hk => hk.2) (.int .i64 ((rd_T32 l0 x12_1).f0))) (fun _ hk => hk.2) (.int .i64 ((rd_T32 l0 x12_1).f1))) (fun _ hk => hk.2) (.string ((rd_T32 l0 x12_1).f2))) (fun _ hk => hk.2) (.string ((rd_T32 l0 x12_1).f3))) (fun _ hk => hk.2) (.string ((rd_T32 l0 x12_1).f4))) (fun _ hk => hk.2) (.slice A149_5 ((rd_T32 l0 x12_1).f5).length c149_5)) (fun _ hk => hk.1)))⟩; have n2_ : Aside0 (Kd.V k32 32 w21 w.heap.size (fun k_ => (P0_ k_ ∨ w.heap.size ≤ k_) ∧ some k_ ≠ (v147 : Value).ownBlock ∧ k_ ≠ gb150) (.slice (some ad149) l0.length c0) l0) := ⟨(by rw [hw]; exact (by (with_reducible repeat (first | apply Kd.V_alloc | apply Kd.V_drewN | apply Kd.V_drew)); exact Kd.V_mono (Kd.V_far (p := ⟨gb150, 5, none⟩) (Kd.V_far (p := ⟨gb150, 4, none⟩) (Kd.V_far (p := ⟨gb150, 3, none⟩) (Kd.V_far (p := ⟨gb150, 2, none⟩) (Kd.V_far (p := ⟨gb150, 1, none⟩) (Kd.V_far (p := ⟨gb150, 0, none⟩) (Kd.V_mono HO_10.out (fun k_ hk => (⟨hk, hk.2⟩ : _ ∧ k_ ≠ gb150))) (fun _ hk => hk.2) (.int .i64 ((rd_T32 l0 x12_1).f0))) (fun _ hk => hk.2) (.int .i64 ((rd_T32 l0 x12_1).f1))) (fun _ hk => hk.2) (.string ((rd_T32 l0 x12_1).f2))) (fun _ hk => hk.2) (.string ((rd_T32 l0 x12_1).f3))) (fun _ hk => hk.2) (.string ((rd_T32 l0 x12_1).f4))) (fun _ hk => hk.2) (.slice A149_5 ((rd_T32 l0 x12_1).f5).length c149_5)) (fun _ hk => ⟨hk.1.1.1, ⟨hk.1.1.2, hk.1.2⟩⟩)))⟩; have n3_ : Aside0 (Kd.V k39 39 w21 w.heap.size (fun k_ => (P0_ k_ ∨ w.heap.size ≤ k_) ∧ some k_ ≠ (v147 : Value).ownBlock ∧ k_ ≠ gb150) (.slice A149_5 ((rd_T32 l0 x12_1).f5).length c149_5) ((rd_T32 l0 x12_1).f5)) := ⟨(by rw [hw]; exact (by (with_reducible repeat (first | apply Kd.V_alloc | apply Kd.V_drewN | apply Kd.V_drew)); exact Kd.V_mono (Kd.V_far (p := ⟨gb150, 5, none⟩) (Kd.V_far (p := ⟨gb150, 4, none⟩) (Kd.V_far (p := ⟨gb150, 3, none⟩) (Kd.V_far (p := ⟨gb150, 2, none⟩) (Kd.V_far (p := ⟨gb150, 1, none⟩) (Kd.V_far (p := ⟨gb150, 0, none⟩) (Kd.V_mono HL149_5.out (fun k_ hk => (⟨hk, hk.2⟩ : _ ∧ k_ ≠ gb150))) (fun _ hk => hk.2) (.int .i64 ((rd_T32 l0 x12_1).f0))) (fun _ hk => hk.2) (.int .i64 ((rd_T32 l0 x12_1).f1))) (fun _ hk => hk.2) (.string ((rd_T32 l0 x12_1).f2))) (fun _ hk => hk.2) (.string ((rd_T32 l0 x12_1).f3))) (fun _ hk => hk.2) (.string ((rd_T32 l0 x12_1).f4))) (fun _ hk => hk.2) (.slice A149_5 ((rd_T32 l0 x12_1).f5).length c149_5)) (fun _ hk => ⟨hk.1.1.1, ⟨hk.1.1.2, hk.1.2⟩⟩)))⟩; have n4_ : Aside0 (w21.heap[gb150]? = some (.cells #[.int .i64 ((rd_T32 l0 x12_1).f0), .int .i64 ((rd_T32 l0 x12_1).f1), .string ((rd_T32 l0 x12_1).f2), .string ((rd_T32 l0 x12_1).f3), .string ((rd_T32 l0 x12_1).f4), .slice A149_5 ((rd_T32 l0 x12_1).f5).length c149_5] 32 (0, 0))) := ⟨(by rw [hw]; exact (by (with_reducible repeat first | apply zM | apply zE | apply zF); refine zP (cs := #[.int .i64 ((rd_T32 l0 x12_1).f0), .int .i64 ((rd_T32 l0 x12_1).f1), .string ((rd_T32 l0 x12_1).f2), .string ((rd_T32 l0 x12_1).f3), .string ((rd_T32 l0 x12_1).f4), .slice none 0 0]) ?_ 5 _ rfl; (with_reducible repeat first | apply zM | apply zE | apply zF); refine zP (cs := #[.int .i64 ((rd_T32 l0 x12_1).f0), .int .i64 ((rd_T32 l0 x12_1).f1), .string ((rd_T32 l0 x12_1).f2), .string ((rd_T32 l0 x12_1).f3), .string ⟨#[]⟩, .slice none 0 0]) ?_ 4 _ rfl; (with_reducible repeat first | apply zM | apply zE | apply zF); refine zP (cs := #[.int .i64 ((rd_T32 l0 x12_1).f0), .int .i64 ((rd_T32 l0 x12_1).f1), .string ((rd_T32 l0 x12_1).f2), .string ⟨#[]⟩, .string ⟨#[]⟩, .slice none 0 0]) ?_ 3 _ rfl; (with_reducible repeat first | apply zM | apply zE | apply zF); refine zP (cs := #[.int .i64 ((rd_T32 l0 x12_1).f0), .int .i64 ((rd_T32 l0 x12_1).f1), .string ⟨#[]⟩, .string ⟨#[]⟩, .string ⟨#[]⟩, .slice none 0 0]) ?_ 2 _ rfl; (with_reducible repeat first | apply zM | apply zE | apply zF); refine zP (cs := #[.int .i64 ((rd_T32 l0 x12_1).f0), .int .i64 0, .string ⟨#[]⟩, .string ⟨#[]⟩, .string ⟨#[]⟩, .slice none 0 0]) ?_ 1 _ rfl; (with_reducible repeat first | apply zM | apply zE | apply zF); refine zP (cs := #[.int .i64 0, .int .i64 0, .string ⟨#[]⟩, .string ⟨#[]⟩, .string ⟨#[]⟩, .slice none 0 0]) ?_ 0 _ rfl; (with_reducible repeat first | apply zM | apply zE | apply zF); exact BK150.out))⟩; have n5_ : Aside0 (Below w.heap.size w w21) := ⟨(by rw [hw]; exact (by with_reducible repeat first | exact HB.out | apply zA | apply zN | apply zD | refine zS ?_ GE150.out))⟩; clear hw; clear HO_0; clear HO_3; clear HO_10; clear HL149_5; clear BK150; clear HB; have HO_0 := n0_; have HO_3 := n1_; have HO_10 := n2_; have HL149_5 := n3_; have BK150 := n4_; have HB := n5_; clear n0_ n1_ n2_ n3_ n4_ n5_; obtain ⟨hcz22_0, hcz22_1, hcz22_2, hcz22_3, hcz22_4, hcz22_5, hfz22_0, hfz22_1, hfz22_2, hfz22_3, hfz22_4, hfz22_5⟩ := zc6 BK150.out; obtain ⟨Ao23, co23, eo23⟩ := Kd.R_slice HO_3.out; subst eo23; have p151 : 0 ≤ (((rd_T32 l0 x12_1).f1) : Int) := zo (by assumption); have q151 : ((rd_T32 l0 x12_1).f1) < (x3_1.length : Int) := zo (by assumption); obtain ⟨ad151, e151, hx151_0⟩ := Kd.at_int (Kd.R_reads' HO_3.out).2.2 ((rd_T32 l0 x12_1).f1) p151 q151; cases e151; replace p151 := eq_true p151; replace q151 := eq_true q151; have p15 : 0 ≤ ((ji12) : Int) := zo (by assumption); have q15 : ((ji12) : Int) < ((x3_1.length : Int) : Int) := zo (by assumption); obtain ⟨go15, co15, eo15, gb15, gl15, cl15, HG15⟩ := Kd.R_form HO_3.out (by omega); (first | cases eo15 | (injection eo15 with ea_ en_ ec_; (first | subst ea_ | (injection ea_ with ea_; subst ea_)); subst ec_; clear en_)); have GB15 := zk gb15; have GG15 := zk HG15; clear gb15 gl15 HG15; (first | simp only [add_plain] at hx151_0 | skip); obtain ⟨hx15_0, hf15_0⟩ := Kd.R_celln 0 HO_3.out ((ji12) : Int) p15 q15; replace p15 := eq_true p15; replace q15 := eq_true q15; obtain ⟨hy24_, hz24_⟩ := Kd.R_celln 0 HO_3.out ((ji12) : Int) (zo (by assumption)) (zo (by assumption)); have HP24 := Kd.R_putg HO_3.out ((ji12) : Int) (wrap64 ((rd x3_1 ((rd_T32 l0 x12_1).f1)) + 1))) | ((with_reducible refine zgw (t := 3) (p := 26) rfl ?_); refine store_event (t := 3) (p := 26) (v := ?vo_w25) (w1 := (w21.setCell ⟨go15, ((ji12) : Int).toNat, none⟩ (.int .i64 (wrap64 ((rd x3_1 ((rd_T32 l0 x12_1).f1)) + 1))))) ?hg ?ho ?hn ?hr ?_; (case ho => rfl); (case hg => rfl); (case hn => rfl); (case hr => go_simp; first | done | rfl); intro w25 hw; have hg : w21.grownBy w25 (some go15) := (by rw [hw]; exact HP24.2); have hp_ : Kd.R (Kd.int .i64) 3 w25 w.heap.size (fun k_ => (w.heap.size ≤ k_)) (.slice (some ⟨go15, 0, none⟩) x3_1.length co23) y152 := (by rw [hw, Ny152.out]; exact HP24.1); clear HP24; have n0_ := zk (Kd.V_afterv (v := (.slice (some ⟨go15, 0, none⟩) x3_1.length co23)) (v1 := (.slice (some ⟨go15, 0, none⟩) x3_1.length co23)) (ok := (fun k_ => (P0_ k_ ∨ w.heap.size ≤ k_) ∧ k_ ≠ gb150)) (by (with_reducible repeat (first | apply Kd.V_alloc | apply Kd.V_drewN | apply Kd.V_drew)); exact Kd.V_mono HO_0.out (fun _ hk => ⟨⟨hk.1, hk.2.2⟩, hk.2.1⟩)) hg (.inl rfl)); have n1_ := zk (hp_); have n2_ := zk (Kd.V_afterv (v := (.slice (some ⟨go15, 0, none⟩) x3_1.length co23)) (v1 := (.slice (some ⟨go15, 0, none⟩) x3_1.length co23)) (ok := (fun k_ => (P0_ k_ ∨ w.heap.size ≤ k_) ∧ k_ ≠ gb150)) (by (with_reducible repeat (first | apply Kd.V_alloc | apply Kd.V_drewN | apply Kd.V_drew)); exact Kd.V_mono HO_10.out (fun _ hk => ⟨⟨hk.1, hk.2.2⟩, hk.2.1⟩)) hg (.inl rfl)); have n3_ := zk (Kd.V_afterv (v := (.slice (some ⟨go15, 0, none⟩) x3_1.length co23)) (v1 := (.slice (some ⟨go15, 0, none⟩) x3_1.length co23)) (ok := (fun k_ => (P0_ k_ ∨ w.heap.size ≤ k_) ∧ k_ ≠ gb150)) (by (with_reducible repeat (first | apply Kd.V_alloc | apply Kd.V_drewN | apply Kd.V_drew)); exact Kd.V_mono HL149_5.out (fun _ hk => ⟨⟨hk.1, hk.2.2⟩, hk.2.1⟩)) hg (.inl rfl)); have n4_ := zk (blk_grown (g := gb150) (o := .cells #[.int .i64 ((rd_T32 l0 x12_1).f0), .int .i64 ((rd_T32 l0 x12_1).f1), .string ((rd_T32 l0 x12_1).f2), .string ((rd_T32 l0 x12_1).f3), .string ((rd_T32 l0 x12_1).f4), .slice A149_5 ((rd_T32 l0 x12_1).f5).length c149_5] 32 (0, 0)) (by (with_reducible repeat first | apply zM | apply zE | apply zF); exact BK150.out) hg (Kd.R_ne HO_3.out BK150.out (by decide))); have n5_ := zk ((by rw [hw]; exact zS (HB.out) GB15.out : Below w.heap.size w w25)); clear HO_0; clear HO_3; clear HO_10; clear HL149_5; clear BK150; clear HB; have HO_0 := n0_; have HO_3 := n1_; have HO_10 := n2_; have HL149_5 := n3_; have BK150 := n4_; have HB := n5_; clear n0_ n1_ n2_ n3_ n4_ n5_; clear hg hw hp_; have p153 : 0 ≤ ((ji12) : Int) := zo (by assumption); have q153 : (ji12) < (y152.length : Int) := (by have h_ : ((ji12) : Int) < ((x3_1.length : Int) : Int) := zo (by assumption); first | (have e_ := (Kd.R_reads' HO_3.out).1; omega) | simpa only [Ny152.out, List.length_set] using h_); have ql153 : (((ji12) : Int) < ((x3_1.length : Int) : Int)) = True := eq_true (zo (by assumption)); obtain ⟨ad153, e153, hx153_0⟩ := Kd.at_int (Kd.R_reads' HO_3.out).2.2 (ji12) p153 q153; obtain rfl : (⟨go15, 0, none⟩ : Addr) = ad153 := (by injection e153); (first | simp only [add_plain] at hx153_0 | simp only [add_at] at hx153_0 | simp only [Addr.add, Nat.zero_add] at hx153_0 | skip); replace p153 := eq_true p153; replace q153 := eq_true q153; have q26 : ((ji12) : Int) ≤ ((l0.length : Int) : Int) := zo (by assumption); obtain ⟨i026, hi026, _, hsz26, _⟩ := info_parts info32; have hroom26 : l0.length ≤ c0 := (Kd.V_reads' HO_0.out).2.1; have hC26 : Kd.F k32 _ _ (some ad149) l0.length l0 := (Kd.V_at (base := w.heap.size) HO_0.out).2.2; have hcut26 := cut_to (P := Try.prog) 22 32 .i64 Try.underlying22 hi026 (some ad149) l0.length c0 (ji12) (zo (by assumption)) q26 hroom26; have hr26 := Kd.F_take (m := ((ji12) : Int).toNat) hC26 (by omega); have hy26 : y154.length = ((ji12) : Int).toNat := (by rw [Ny154.out, List.length_take]; omega); rw [← Ny154.out] at hr26; rw [← hy26] at hcut26; have HO158 := zk (show Kd.V k32 32 _ w.heap.size _ (.slice (some ad149) y154.length c0) y154 from Kd.V_mk (by omega) hr26); have HC158 := zk (show y154.length ≤ c0 from by omega); clear hr26 hC26 hroom26 hi026 hsz26; have KY26 := zk hy26; clear hy26; replace q26 := eq_true q26))
              go_ret; exact ⟨_, by first | rfl | (simp [wN, wS] <;> rfl) | (simp only [← hji2, ← hji12]; first | rfl | (simp [wN, wS] <;> rfl)) | (simp [*, wN, wS] <;> rfl), by (with_reducible repeat (first | apply Kd.V_alloc | apply Kd.V_drewN | apply Kd.V_drew)); exact Kd.V_mono HO158.out (fun _ hk => hk.1.1), by with_reducible repeat first | exact HB.out | apply zA | apply zN | apply zD | refine zS ?_ GE150.out⟩
             ·
              rw [if_neg c18] at H; exact absurd H (by simp)
            ·
             rw [if_neg c16] at H; have c16b0 : decide (64 < (rd y152 (ji12))) = false := decide_eq_false c16; clear c16
             by_cases c27 : x12_1 = 4096
             ·
              rw [if_pos c27] at H; have c27b0 := beq_iff_eq.mpr c27; have c27b1 := bne_eq_false_iff_eq.mpr c27; clear c27; have c28b0 := eq_true (zo (by assumption) : 0 ≤ (ji12))
              by_cases c29 : (ji12) ≤ (l0.length : Int)
              ·
               rw [if_pos c29] at H; have c29b0 := eq_true c29; have c29b1 := decide_eq_true c29; clear c29; obtain ⟨y159, hy159⟩ : ∃ y_ : List (S32), y_ = (l0.take ((ji12) : Int).toNat) := ⟨_, rfl⟩
               replace H : (some y159) = some r := by first | (rw [hy159]; with_reducible exact H) | (have H2_ := (Option.bind_some _ _).symm.trans H; rw [hy159]; with_reducible exact H2_) | (have H2_ := (Option.bind_some _ _).symm.trans H; with_reducible exact H2_) | with_reducible exact H | (rw [hy159]; exact H) | exact H
               have Ny159 := zk hy159; clear hy159; obtain rfl := Option.some.inj H; have p149 : 0 ≤ (x12_1 : Int) := zo (by assumption); have q149 : x12_1 < (l0.length : Int) := zo (by assumption); obtain ⟨ad149, A149_5, c149_5, e149, hx149_0, hx149_1, hx149_2, hx149_3, hx149_4, hx149_5, hl149_5, hi149_5⟩ := at_T32 (Kd.V_reads' HO_10.out).2.2 x12_1 p149 q149; cases e149; obtain ⟨ce149, hce149, hMe149, hcc149⟩ := Kd.V_get HO_10.out z32 x12_1 p149 (by first | exact q149 | exact zo (by assumption) | (have e_ := (Kd.V_reads' HO_10.out).1; omega)); obtain ⟨ua149_5, uc149_5, rfl, ul149_5, ge149_5⟩ := k32_openF hMe149; have hv149_5 := hcc149 5 _ rfl; rw [add_field _ _ 5 (by omega)] at hv149_5; replace hv149_5 := Option.some.inj (hv149_5.symm.trans hx149_5); injection hv149_5 with hva_ hvn_ hvc_; rw [hva_] at ge149_5; rw [hvc_] at ul149_5; have HL149_5 := zk (show Kd.V k39 39 _ w.heap.size _ _ ((rd_T32 l0 x12_1).f5) from Kd.V_mk ul149_5 ge149_5); clear hva_ hvn_ hvc_ ge149_5 ul149_5; clear hcc149 hce149; have HR149_5 := zk hi149_5; have HC149_5 := zk hl149_5; clear hi149_5 hl149_5; replace p149 := eq_true p149; replace q149 := eq_true q149
               go_wp2_with (first | ((with_reducible refine zgd (N := 5) rfl ?_); refine zb ?hg (N := 5) ?hd (cs := #[.int .i64 0, .int .i64 0, .string ⟨#[]⟩, .string ⟨#[]⟩, .string ⟨#[]⟩, .slice none 0 0]) (t := 32) ?hr ?_; (case hd => rfl); (case hg => rfl); (case hr => go_simp; first | done | rfl); intro gb150 hg w30 hbox hb; have n0_ := zk (Kd.V_below (Kd.V_elderB (by (with_reducible repeat (first | apply Kd.V_alloc | apply Kd.V_drewN | apply Kd.V_drew)); exact HO_0.out) gb150 (Nat.le_of_eq hg.symm)) hb); have n1_ := zk (Kd.R_below (by (with_reducible repeat (first | apply Kd.R_alloc | apply Kd.R_drewN | apply Kd.R_drew)); exact HO_3.out) hb); have n2_ := zk (Kd.V_below (Kd.V_elderB (by (with_reducible repeat (first | apply Kd.V_alloc | apply Kd.V_drewN | apply Kd.V_drew)); exact HO_10.out) gb150 (Nat.le_of_eq hg.symm)) hb); have n3_ := zk (Kd.V_below (Kd.V_elderB (by (with_reducible repeat (first | apply Kd.V_alloc | apply Kd.V_drewN | apply Kd.V_drew)); exact HL149_5.out) gb150 (Nat.le_of_eq hg.symm)) hb); have n4_ := zk (Kd.C_below (by repeat (first | (with_reducible exact HR149_5.out) | (with_reducible refine Kd.C_alloc ?_ _) | (with_reducible refine Kd.C_drewN ?_ _) | (with_reducible refine Kd.C_drew ?_) | exact HR149_5.out)) hb); have n5_ := zk (zs (by with_reducible repeat first | exact HB.out | apply zA | apply zN | apply zD) hb); have n6_ := zk (hbox); have n7_ := zk ((by rw [hg]; exact (zq (by with_reducible repeat first | exact HB.out | apply zA | apply zN | apply zD)) : w.heap.size ≤ gb150)); have n8_ := n7_; clear HO_0; clear HO_3; clear HO_10; clear HL149_5; clear HR149_5; clear HB; have HO_0 := n0_; have HO_3 := n1_; have HO_10 := n2_; have HL149_5 := n3_; have HR149_5 := n4_; have HB := n5_; have BK150 := n6_; have GW150 := n7_; have GE150 := n8_; clear n0_ n1_ n2_ n3_ n4_ n5_ n6_ n7_ n8_; clear hb hbox hg; obtain ⟨hcz31_0, hcz31_1, hcz31_2, hcz31_3, hcz31_4, hcz31_5, hfz31_0, hfz31_1, hfz31_2, hfz31_3, hfz31_4, hfz31_5⟩ := zc6 BK150.out) | ((with_reducible refine zgw (t := 32) (p := 5) rfl ?_); refine store_event (t := 32) (p := 5) (v := ?vo_w32) (w1 := ((((((w30.setCell ⟨gb150, 0, none⟩ (.int .i64 ((rd_T32 l0 x12_1).f0))).setCell ⟨gb150, 1, none⟩ (.int .i64 ((rd_T32 l0 x12_1).f1))).setCell ⟨gb150, 2, none⟩ (.string ((rd_T32 l0 x12_1).f2))).setCell ⟨gb150, 3, none⟩ (.string ((rd_T32 l0 x12_1).f3))).setCell ⟨gb150, 4, none⟩ (.string ((rd_T32 l0 x12_1).f4))).setCell ⟨gb150, 5, none⟩ (.slice A149_5 ((rd_T32 l0 x12_1).f5).length c149_5))) ?hg ?ho ?hn ?hr ?_; (case ho => rfl); (case hg => rfl); (case hn => rfl); (case hr => go_simp; first | done | rfl); intro w32 hw; have n0_ : Aside0 (Kd.V k32 32 w32 w.heap.size (fun k_ => (P0_ k_ ∨ w.heap.size ≤ k_) ∧ some k_ ≠ (v147 : Value).ownBlock ∧ k_ ≠ gb150) (.slice (some ad149) l0.length c0) l0) := ⟨(by rw [hw]; exact (by (with_reducible repeat (first | apply Kd.V_alloc | apply Kd.V_drewN | apply Kd.V_drew)); exact Kd.V_mono (Kd.V_far (p := ⟨gb150, 5, none⟩) (Kd.V_far (p := ⟨gb150, 4, none⟩) (Kd.V_far (p := ⟨gb150, 3, none⟩) (Kd.V_far (p := ⟨gb150, 2, none⟩) (Kd.V_far (p := ⟨gb150, 1, none⟩) (Kd.V_far (p := ⟨gb150, 0, none⟩) (Kd.V_mono HO_0.out (fun k_ hk => (⟨hk, hk.2⟩ : _ ∧ k_ ≠ gb150))) (fun _ hk => hk.2) (.int .i64 ((rd_T32 l0 x12_1).f0))) (fun _ hk => hk.2) (.int .i64 ((rd_T32 l0 x12_1).f1))) (fun _ hk => hk.2) (.string ((rd_T32 l0 x12_1).f2))) (fun _ hk => hk.2) (.string ((rd_T32 l0 x12_1).f3))) (fun _ hk => hk.2) (.string ((rd_T32 l0 x12_1).f4))) (fun _ hk => hk.2) (.slice A149_5 ((rd_T32 l0 x12_1).f5).length c149_5)) (fun _ hk => ⟨hk.1.1.1, ⟨hk.1.1.2, hk.1.2⟩⟩)))⟩; have n1_ : Aside0 (Kd.R (Kd.int .i64) 3 w32 w.heap.size (fun k_ => (w.heap.size ≤ k_)) v147 x3_1) := ⟨(by rw [hw]; exact (by (with_reducible repeat (first | apply Kd.R_alloc | apply Kd.R_drewN | apply Kd.R_drew)); exact Kd.R_mono (Kd.R_far (p := ⟨gb150, 5, none⟩) (Kd.R_far (p := ⟨gb150, 4, none⟩) (Kd.R_far (p := ⟨gb150, 3, none⟩) (Kd.R_far (p := ⟨gb150, 2, none⟩) (Kd.R_far (p := ⟨gb150, 1, none⟩) (Kd.R_far (p := ⟨gb150, 0, none⟩) (Kd.R_types HO_3.out BK150.out (by decide)) (fun _ hk => hk.2) (.int .i64 ((rd_T32 l0 x12_1).f0))) (fun _ hk => hk.2) (.int .i64 ((rd_T32 l0 x12_1).f1))) (fun _ hk => hk.2) (.string ((rd_T32 l0 x12_1).f2))) (fun _ hk => hk.2) (.string ((rd_T32 l0 x12_1).f3))) (fun _ hk => hk.2) (.string ((rd_T32 l0 x12_1).f4))) (fun _ hk => hk.2) (.slice A149_5 ((rd_T32 l0 x12_1).f5).length c149_5)) (fun _ hk => hk.1)))⟩; have n2_ : Aside0 (Kd.V k32 32 w32 w.heap.size (fun k_ => (P0_ k_ ∨ w.heap.size ≤ k_) ∧ some k_ ≠ (v147 : Value).ownBlock ∧ k_ ≠ gb150) (.slice (some ad149) l0.length c0) l0) := ⟨(by rw [hw]; exact (by (with_reducible repeat (first | apply Kd.V_alloc | apply Kd.V_drewN | apply Kd.V_drew)); exact Kd.V_mono (Kd.V_far (p := ⟨gb150, 5, none⟩) (Kd.V_far (p := ⟨gb150, 4, none⟩) (Kd.V_far (p := ⟨gb150, 3, none⟩) (Kd.V_far (p := ⟨gb150, 2, none⟩) (Kd.V_far (p := ⟨gb150, 1, none⟩) (Kd.V_far (p := ⟨gb150, 0, none⟩) (Kd.V_mono HO_10.out (fun k_ hk => (⟨hk, hk.2⟩ : _ ∧ k_ ≠ gb150))) (fun _ hk => hk.2) (.int .i64 ((rd_T32 l0 x12_1).f0))) (fun _ hk => hk.2) (.int .i64 ((rd_T32 l0 x12_1).f1))) (fun _ hk => hk.2) (.string ((rd_T32 l0 x12_1).f2))) (fun _ hk => hk.2) (.string ((rd_T32 l0 x12_1).f3))) (fun _ hk => hk.2) (.string ((rd_T32 l0 x12_1).f4))) (fun _ hk => hk.2) (.slice A149_5 ((rd_T32 l0 x12_1).f5).length c149_5)) (fun _ hk => ⟨hk.1.1.1, ⟨hk.1.1.2, hk.1.2⟩⟩)))⟩; have n3_ : Aside0 (Kd.V k39 39 w32 w.heap.size (fun k_ => (P0_ k_ ∨ w.heap.size ≤ k_) ∧ some k_ ≠ (v147 : Value).ownBlock ∧ k_ ≠ gb150) (.slice A149_5 ((rd_T32 l0 x12_1).f5).length c149_5) ((rd_T32 l0 x12_1).f5)) := ⟨(by rw [hw]; exact (by (with_reducible repeat (first | apply Kd.V_alloc | apply Kd.V_drewN | apply Kd.V_drew)); exact Kd.V_mono (Kd.V_far (p := ⟨gb150, 5, none⟩) (Kd.V_far (p := ⟨gb150, 4, none⟩) (Kd.V_far (p := ⟨gb150, 3, none⟩) (Kd.V_far (p := ⟨gb150, 2, none⟩) (Kd.V_far (p := ⟨gb150, 1, none⟩) (Kd.V_far (p := ⟨gb150, 0, none⟩) (Kd.V_mono HL149_5.out (fun k_ hk => (⟨hk, hk.2⟩ : _ ∧ k_ ≠ gb150))) (fun _ hk => hk.2) (.int .i64 ((rd_T32 l0 x12_1).f0))) (fun _ hk => hk.2) (.int .i64 ((rd_T32 l0 x12_1).f1))) (fun _ hk => hk.2) (.string ((rd_T32 l0 x12_1).f2))) (fun _ hk => hk.2) (.string ((rd_T32 l0 x12_1).f3))) (fun _ hk => hk.2) (.string ((rd_T32 l0 x12_1).f4))) (fun _ hk => hk.2) (.slice A149_5 ((rd_T32 l0 x12_1).f5).length c149_5)) (fun _ hk => ⟨hk.1.1.1, ⟨hk.1.1.2, hk.1.2⟩⟩)))⟩; have n4_ : Aside0 (w32.heap[gb150]? = some (.cells #[.int .i64 ((rd_T32 l0 x12_1).f0), .int .i64 ((rd_T32 l0 x12_1).f1), .string ((rd_T32 l0 x12_1).f2), .string ((rd_T32 l0 x12_1).f3), .string ((rd_T32 l0 x12_1).f4), .slice A149_5 ((rd_T32 l0 x12_1).f5).length c149_5] 32 (0, 0))) := ⟨(by rw [hw]; exact (by (with_reducible repeat first | apply zM | apply zE | apply zF); refine zP (cs := #[.int .i64 ((rd_T32 l0 x12_1).f0), .int .i64 ((rd_T32 l0 x12_1).f1), .string ((rd_T32 l0 x12_1).f2), .string ((rd_T32 l0 x12_1).f3), .string ((rd_T32 l0 x12_1).f4), .slice none 0 0]) ?_ 5 _ rfl; (with_reducible repeat first | apply zM | apply zE | apply zF); refine zP (cs := #[.int .i64 ((rd_T32 l0 x12_1).f0), .int .i64 ((rd_T32 l0 x12_1).f1), .string ((rd_T32 l0 x12_1).f2), .string ((rd_T32 l0 x12_1).f3), .string ⟨#[]⟩, .slice none 0 0]) ?_ 4 _ rfl; (with_reducible repeat first | apply zM | apply zE | apply zF); refine zP (cs := #[.int .i64 ((rd_T32 l0 x12_1).f0), .int .i64 ((rd_T32 l0 x12_1).f1), .string ((rd_T32 l0 x12_1).f2), .string ⟨#[]⟩, .string ⟨#[]⟩, .slice none 0 0]) ?_ 3 _ rfl; (with_reducible repeat first | apply zM | apply zE | apply zF); refine zP (cs := #[.int .i64 ((rd_T32 l0 x12_1).f0), .int .i64 ((rd_T32 l0 x12_1).f1), .string ⟨#[]⟩, .string ⟨#[]⟩, .string ⟨#[]⟩, .slice none 0 0]) ?_ 2 _ rfl; (with_reducible repeat first | apply zM | apply zE | apply zF); refine zP (cs := #[.int .i64 ((rd_T32 l0 x12_1).f0), .int .i64 0, .string ⟨#[]⟩, .string ⟨#[]⟩, .string ⟨#[]⟩, .slice none 0 0]) ?_ 1 _ rfl; (with_reducible repeat first | apply zM | apply zE | apply zF); refine zP (cs := #[.int .i64 0, .int .i64 0, .string ⟨#[]⟩, .string ⟨#[]⟩, .string ⟨#[]⟩, .slice none 0 0]) ?_ 0 _ rfl; (with_reducible repeat first | apply zM | apply zE | apply zF); exact BK150.out))⟩; have n5_ : Aside0 (Below w.heap.size w w32) := ⟨(by rw [hw]; exact (by with_reducible repeat first | exact HB.out | apply zA | apply zN | apply zD | refine zS ?_ GE150.out))⟩; clear hw; clear HO_0; clear HO_3; clear HO_10; clear HL149_5; clear BK150; clear HB; have HO_0 := n0_; have HO_3 := n1_; have HO_10 := n2_; have HL149_5 := n3_; have BK150 := n4_; have HB := n5_; clear n0_ n1_ n2_ n3_ n4_ n5_; obtain ⟨hcz33_0, hcz33_1, hcz33_2, hcz33_3, hcz33_4, hcz33_5, hfz33_0, hfz33_1, hfz33_2, hfz33_3, hfz33_4, hfz33_5⟩ := zc6 BK150.out; obtain ⟨Ao34, co34, eo34⟩ := Kd.R_slice HO_3.out; subst eo34; have p151 : 0 ≤ (((rd_T32 l0 x12_1).f1) : Int) := zo (by assumption); have q151 : ((rd_T32 l0 x12_1).f1) < (x3_1.length : Int) := zo (by assumption); obtain ⟨ad151, e151, hx151_0⟩ := Kd.at_int (Kd.R_reads' HO_3.out).2.2 ((rd_T32 l0 x12_1).f1) p151 q151; cases e151; replace p151 := eq_true p151; replace q151 := eq_true q151; have p15 : 0 ≤ ((ji12) : Int) := zo (by assumption); have q15 : ((ji12) : Int) < ((x3_1.length : Int) : Int) := zo (by assumption); obtain ⟨go15, co15, eo15, gb15, gl15, cl15, HG15⟩ := Kd.R_form HO_3.out (by omega); (first | cases eo15 | (injection eo15 with ea_ en_ ec_; (first | subst ea_ | (injection ea_ with ea_; subst ea_)); subst ec_; clear en_)); have GB15 := zk gb15; have GG15 := zk HG15; clear gb15 gl15 HG15; (first | simp only [add_plain] at hx151_0 | skip); obtain ⟨hx15_0, hf15_0⟩ := Kd.R_celln 0 HO_3.out ((ji12) : Int) p15 q15; replace p15 := eq_true p15; replace q15 := eq_true q15; obtain ⟨hy35_, hz35_⟩ := Kd.R_celln 0 HO_3.out ((ji12) : Int) (zo (by assumption)) (zo (by assumption)); have HP35 := Kd.R_putg HO_3.out ((ji12) : Int) (wrap64 ((rd x3_1 ((rd_T32 l0 x12_1).f1)) + 1))) | ((with_reducible refine zgw (t := 3) (p := 26) rfl ?_); refine store_event (t := 3) (p := 26) (v := ?vo_w36) (w1 := (w32.setCell ⟨go15, ((ji12) : Int).toNat, none⟩ (.int .i64 (wrap64 ((rd x3_1 ((rd_T32 l0 x12_1).f1)) + 1))))) ?hg ?ho ?hn ?hr ?_; (case ho => rfl); (case hg => rfl); (case hn => rfl); (case hr => go_simp; first | done | rfl); intro w36 hw; have hg : w32.grownBy w36 (some go15) := (by rw [hw]; exact HP35.2); have hp_ : Kd.R (Kd.int .i64) 3 w36 w.heap.size (fun k_ => (w.heap.size ≤ k_)) (.slice (some ⟨go15, 0, none⟩) x3_1.length co34) y152 := (by rw [hw, Ny152.out]; exact HP35.1); clear HP35; have n0_ := zk (Kd.V_afterv (v := (.slice (some ⟨go15, 0, none⟩) x3_1.length co34)) (v1 := (.slice (some ⟨go15, 0, none⟩) x3_1.length co34)) (ok := (fun k_ => (P0_ k_ ∨ w.heap.size ≤ k_) ∧ k_ ≠ gb150)) (by (with_reducible repeat (first | apply Kd.V_alloc | apply Kd.V_drewN | apply Kd.V_drew)); exact Kd.V_mono HO_0.out (fun _ hk => ⟨⟨hk.1, hk.2.2⟩, hk.2.1⟩)) hg (.inl rfl)); have n1_ := zk (hp_); have n2_ := zk (Kd.V_afterv (v := (.slice (some ⟨go15, 0, none⟩) x3_1.length co34)) (v1 := (.slice (some ⟨go15, 0, none⟩) x3_1.length co34)) (ok := (fun k_ => (P0_ k_ ∨ w.heap.size ≤ k_) ∧ k_ ≠ gb150)) (by (with_reducible repeat (first | apply Kd.V_alloc | apply Kd.V_drewN | apply Kd.V_drew)); exact Kd.V_mono HO_10.out (fun _ hk => ⟨⟨hk.1, hk.2.2⟩, hk.2.1⟩)) hg (.inl rfl)); have n3_ := zk (Kd.V_afterv (v := (.slice (some ⟨go15, 0, none⟩) x3_1.length co34)) (v1 := (.slice (some ⟨go15, 0, none⟩) x3_1.length co34)) (ok := (fun k_ => (P0_ k_ ∨ w.heap.size ≤ k_) ∧ k_ ≠ gb150)) (by (with_reducible repeat (first | apply Kd.V_alloc | apply Kd.V_drewN | apply Kd.V_drew)); exact Kd.V_mono HL149_5.out (fun _ hk => ⟨⟨hk.1, hk.2.2⟩, hk.2.1⟩)) hg (.inl rfl)); have n4_ := zk (blk_grown (g := gb150) (o := .cells #[.int .i64 ((rd_T32 l0 x12_1).f0), .int .i64 ((rd_T32 l0 x12_1).f1), .string ((rd_T32 l0 x12_1).f2), .string ((rd_T32 l0 x12_1).f3), .string ((rd_T32 l0 x12_1).f4), .slice A149_5 ((rd_T32 l0 x12_1).f5).length c149_5] 32 (0, 0)) (by (with_reducible repeat first | apply zM | apply zE | apply zF); exact BK150.out) hg (Kd.R_ne HO_3.out BK150.out (by decide))); have n5_ := zk ((by rw [hw]; exact zS (HB.out) GB15.out : Below w.heap.size w w36)); clear HO_0; clear HO_3; clear HO_10; clear HL149_5; clear BK150; clear HB; have HO_0 := n0_; have HO_3 := n1_; have HO_10 := n2_; have HL149_5 := n3_; have BK150 := n4_; have HB := n5_; clear n0_ n1_ n2_ n3_ n4_ n5_; clear hg hw hp_; have p153 : 0 ≤ ((ji12) : Int) := zo (by assumption); have q153 : (ji12) < (y152.length : Int) := (by have h_ : ((ji12) : Int) < ((x3_1.length : Int) : Int) := zo (by assumption); first | (have e_ := (Kd.R_reads' HO_3.out).1; omega) | simpa only [Ny152.out, List.length_set] using h_); have ql153 : (((ji12) : Int) < ((x3_1.length : Int) : Int)) = True := eq_true (zo (by assumption)); obtain ⟨ad153, e153, hx153_0⟩ := Kd.at_int (Kd.R_reads' HO_3.out).2.2 (ji12) p153 q153; obtain rfl : (⟨go15, 0, none⟩ : Addr) = ad153 := (by injection e153); (first | simp only [add_plain] at hx153_0 | simp only [add_at] at hx153_0 | simp only [Addr.add, Nat.zero_add] at hx153_0 | skip); replace p153 := eq_true p153; replace q153 := eq_true q153; have q37 : ((ji12) : Int) ≤ ((l0.length : Int) : Int) := zo (by assumption); obtain ⟨i037, hi037, _, hsz37, _⟩ := info_parts info32; have hroom37 : l0.length ≤ c0 := (Kd.V_reads' HO_0.out).2.1; have hC37 : Kd.F k32 _ _ (some ad149) l0.length l0 := (Kd.V_at (base := w.heap.size) HO_0.out).2.2; have hcut37 := cut_to (P := Try.prog) 22 32 .i64 Try.underlying22 hi037 (some ad149) l0.length c0 (ji12) (zo (by assumption)) q37 hroom37; have hr37 := Kd.F_take (m := ((ji12) : Int).toNat) hC37 (by omega); have hy37 : y159.length = ((ji12) : Int).toNat := (by rw [Ny159.out, List.length_take]; omega); rw [← Ny159.out] at hr37; rw [← hy37] at hcut37; have HO163 := zk (show Kd.V k32 32 _ w.heap.size _ (.slice (some ad149) y159.length c0) y159 from Kd.V_mk (by omega) hr37); have HC163 := zk (show y159.length ≤ c0 from by omega); clear hr37 hC37 hroom37 hi037 hsz37; have KY37 := zk hy37; clear hy37; replace q37 := eq_true q37))
               go_ret; exact ⟨_, by first | rfl | (simp [wN, wS] <;> rfl) | (simp only [← hji2, ← hji12]; first | rfl | (simp [wN, wS] <;> rfl)) | (simp [*, wN, wS] <;> rfl), by (with_reducible repeat (first | apply Kd.V_alloc | apply Kd.V_drewN | apply Kd.V_drew)); exact Kd.V_mono HO163.out (fun _ hk => hk.1.1), by with_reducible repeat first | exact HB.out | apply zA | apply zN | apply zD | refine zS ?_ GE150.out⟩
              ·
               rw [if_neg c29] at H; exact absurd H (by simp)
             ·
              rw [if_neg c27] at H; have c27b0 := beq_eq_false_iff_ne.mpr c27; have c27b1 := bne_iff_ne.mpr c27; have H' := zk H; clear H; have p149 : 0 ≤ (x12_1 : Int) := zo (by assumption); have q149 : x12_1 < (l0.length : Int) := zo (by assumption); obtain ⟨ad149, A149_5, c149_5, e149, hx149_0, hx149_1, hx149_2, hx149_3, hx149_4, hx149_5, hl149_5, hi149_5⟩ := at_T32 (Kd.V_reads' HO_10.out).2.2 x12_1 p149 q149; cases e149; obtain ⟨ce149, hce149, hMe149, hcc149⟩ := Kd.V_get HO_10.out z32 x12_1 p149 (by first | exact q149 | exact zo (by assumption) | (have e_ := (Kd.V_reads' HO_10.out).1; omega)); obtain ⟨ua149_5, uc149_5, rfl, ul149_5, ge149_5⟩ := k32_openF hMe149; have hv149_5 := hcc149 5 _ rfl; rw [add_field _ _ 5 (by omega)] at hv149_5; replace hv149_5 := Option.some.inj (hv149_5.symm.trans hx149_5); injection hv149_5 with hva_ hvn_ hvc_; rw [hva_] at ge149_5; rw [hvc_] at ul149_5; have HL149_5 := zk (show Kd.V k39 39 _ w.heap.size _ _ ((rd_T32 l0 x12_1).f5) from Kd.V_mk ul149_5 ge149_5); clear hva_ hvn_ hvc_ ge149_5 ul149_5; clear hcc149 hce149; have HR149_5 := zk hi149_5; have HC149_5 := zk hl149_5; clear hi149_5 hl149_5; replace p149 := eq_true p149; replace q149 := eq_true q149
              go_wp2_with (first | ((with_reducible refine zgd (N := 5) rfl ?_); refine zb ?hg (N := 5) ?hd (cs := #[.int .i64 0, .int .i64 0, .string ⟨#[]⟩, .string ⟨#[]⟩, .string ⟨#[]⟩, .slice none 0 0]) (t := 32) ?hr ?_; (case hd => rfl); (case hg => rfl); (case hr => go_simp; first | done | rfl); intro gb150 hg w38 hbox hb; have n0_ := zk (Kd.V_below (Kd.V_elderB (by (with_reducible repeat (first | apply Kd.V_alloc | apply Kd.V_drewN | apply Kd.V_drew)); exact HO_0.out) gb150 (Nat.le_of_eq hg.symm)) hb); have n1_ := zk (Kd.R_below (by (with_reducible repeat (first | apply Kd.R_alloc | apply Kd.R_drewN | apply Kd.R_drew)); exact HO_3.out) hb); have n2_ := zk (Kd.V_below (Kd.V_elderB (by (with_reducible repeat (first | apply Kd.V_alloc | apply Kd.V_drewN | apply Kd.V_drew)); exact HO_10.out) gb150 (Nat.le_of_eq hg.symm)) hb); have n3_ := zk (Kd.V_below (Kd.V_elderB (by (with_reducible repeat (first | apply Kd.V_alloc | apply Kd.V_drewN | apply Kd.V_drew)); exact HL149_5.out) gb150 (Nat.le_of_eq hg.symm)) hb); have n4_ := zk (Kd.C_below (by repeat (first | (with_reducible exact HR149_5.out) | (with_reducible refine Kd.C_alloc ?_ _) | (with_reducible refine Kd.C_drewN ?_ _) | (with_reducible refine Kd.C_drew ?_) | exact HR149_5.out)) hb); have n5_ := zk (zs (by with_reducible repeat first | exact HB.out | apply zA | apply zN | apply zD) hb); have n6_ := zk (hbox); have n7_ := zk ((by rw [hg]; exact (zq (by with_reducible repeat first | exact HB.out | apply zA | apply zN | apply zD)) : w.heap.size ≤ gb150)); have n8_ := n7_; clear HO_0; clear HO_3; clear HO_10; clear HL149_5; clear HR149_5; clear HB; have HO_0 := n0_; have HO_3 := n1_; have HO_10 := n2_; have HL149_5 := n3_; have HR149_5 := n4_; have HB := n5_; have BK150 := n6_; have GW150 := n7_; have GE150 := n8_; clear n0_ n1_ n2_ n3_ n4_ n5_ n6_ n7_ n8_; clear hb hbox hg; obtain ⟨hcz39_0, hcz39_1, hcz39_2, hcz39_3, hcz39_4, hcz39_5, hfz39_0, hfz39_1, hfz39_2, hfz39_3, hfz39_4, hfz39_5⟩ := zc6 BK150.out) | ((with_reducible refine zgw (t := 32) (p := 5) rfl ?_); refine store_event (t := 32) (p := 5) (v := ?vo_w40) (w1 := ((((((w38.setCell ⟨gb150, 0, none⟩ (.int .i64 ((rd_T32 l0 x12_1).f0))).setCell ⟨gb150, 1, none⟩ (.int .i64 ((rd_T32 l0 x12_1).f1))).setCell ⟨gb150, 2, none⟩ (.string ((rd_T32 l0 x12_1).f2))).setCell ⟨gb150, 3, none⟩ (.string ((rd_T32 l0 x12_1).f3))).setCell ⟨gb150, 4, none⟩ (.string ((rd_T32 l0 x12_1).f4))).setCell ⟨gb150, 5, none⟩ (.slice A149_5 ((rd_T32 l0 x12_1).f5).length c149_5))) ?hg ?ho ?hn ?hr ?_; (case ho => rfl); (case hg => rfl); (case hn => rfl); (case hr => go_simp; first | done | rfl); intro w40 hw; have n0_ : Aside0 (Kd.V k32 32 w40 w.heap.size (fun k_ => (P0_ k_ ∨ w.heap.size ≤ k_) ∧ some k_ ≠ (v147 : Value).ownBlock ∧ k_ ≠ gb150) (.slice (some ad149) l0.length c0) l0) := ⟨(by rw [hw]; exact (by (with_reducible repeat (first | apply Kd.V_alloc | apply Kd.V_drewN | apply Kd.V_drew)); exact Kd.V_mono (Kd.V_far (p := ⟨gb150, 5, none⟩) (Kd.V_far (p := ⟨gb150, 4, none⟩) (Kd.V_far (p := ⟨gb150, 3, none⟩) (Kd.V_far (p := ⟨gb150, 2, none⟩) (Kd.V_far (p := ⟨gb150, 1, none⟩) (Kd.V_far (p := ⟨gb150, 0, none⟩) (Kd.V_mono HO_0.out (fun k_ hk => (⟨hk, hk.2⟩ : _ ∧ k_ ≠ gb150))) (fun _ hk => hk.2) (.int .i64 ((rd_T32 l0 x12_1).f0))) (fun _ hk => hk.2) (.int .i64 ((rd_T32 l0 x12_1).f1))) (fun _ hk => hk.2) (.string ((rd_T32 l0 x12_1).f2))) (fun _ hk => hk.2) (.string ((rd_T32 l0 x12_1).f3))) (fun _ hk => hk.2) (.string ((rd_T32 l0 x12_1).f4))) (fun _ hk => hk.2) (.slice A149_5 ((rd_T32 l0 x12_1).f5).length c149_5)) (fun _ hk => ⟨hk.1.1.1, ⟨hk.1.1.2, hk.1.2⟩⟩)))⟩; have n1_ : Aside0 (Kd.R (Kd.int .i64) 3 w40 w.heap.size (fun k_ => (w.heap.size ≤ k_)) v147 x3_1) := ⟨(by rw [hw]; exact (by (with_reducible repeat (first | apply Kd.R_alloc | apply Kd.R_drewN | apply Kd.R_drew)); exact Kd.R_mono (Kd.R_far (p := ⟨gb150, 5, none⟩) (Kd.R_far (p := ⟨gb150, 4, none⟩) (Kd.R_far (p := ⟨gb150, 3, none⟩) (Kd.R_far (p := ⟨gb150, 2, none⟩) (Kd.R_far (p := ⟨gb150, 1, none⟩) (Kd.R_far (p := ⟨gb150, 0, none⟩) (Kd.R_types HO_3.out BK150.out (by decide)) (fun _ hk => hk.2) (.int .i64 ((rd_T32 l0 x12_1).f0))) (fun _ hk => hk.2) (.int .i64 ((rd_T32 l0 x12_1).f1))) (fun _ hk => hk.2) (.string ((rd_T32 l0 x12_1).f2))) (fun _ hk => hk.2) (.string ((rd_T32 l0 x12_1).f3))) (fun _ hk => hk.2) (.string ((rd_T32 l0 x12_1).f4))) (fun _ hk => hk.2) (.slice A149_5 ((rd_T32 l0 x12_1).f5).length c149_5)) (fun _ hk => hk.1)))⟩; have n2_ : Aside0 (Kd.V k32 32 w40 w.heap.size (fun k_ => (P0_ k_ ∨ w.heap.size ≤ k_) ∧ some k_ ≠ (v147 : Value).ownBlock ∧ k_ ≠ gb150) (.slice (some ad149) l0.length c0) l0) := ⟨(by rw [hw]; exact (by (with_reducible repeat (first | apply Kd.V_alloc | apply Kd.V_drewN | apply Kd.V_drew)); exact Kd.V_mono (Kd.V_far (p := ⟨gb150, 5, none⟩) (Kd.V_far (p := ⟨gb150, 4, none⟩) (Kd.V_far (p := ⟨gb150, 3, none⟩) (Kd.V_far (p := ⟨gb150, 2, none⟩) (Kd.V_far (p := ⟨gb150, 1, none⟩) (Kd.V_far (p := ⟨gb150, 0, none⟩) (Kd.V_mono HO_10.out (fun k_ hk => (⟨hk, hk.2⟩ : _ ∧ k_ ≠ gb150))) (fun _ hk => hk.2) (.int .i64 ((rd_T32 l0 x12_1).f0))) (fun _ hk => hk.2) (.int .i64 ((rd_T32 l0 x12_1).f1))) (fun _ hk => hk.2) (.string ((rd_T32 l0 x12_1).f2))) (fun _ hk => hk.2) (.string ((rd_T32 l0 x12_1).f3))) (fun _ hk => hk.2) (.string ((rd_T32 l0 x12_1).f4))) (fun _ hk => hk.2) (.slice A149_5 ((rd_T32 l0 x12_1).f5).length c149_5)) (fun _ hk => ⟨hk.1.1.1, ⟨hk.1.1.2, hk.1.2⟩⟩)))⟩; have n3_ : Aside0 (Kd.V k39 39 w40 w.heap.size (fun k_ => (P0_ k_ ∨ w.heap.size ≤ k_) ∧ some k_ ≠ (v147 : Value).ownBlock ∧ k_ ≠ gb150) (.slice A149_5 ((rd_T32 l0 x12_1).f5).length c149_5) ((rd_T32 l0 x12_1).f5)) := ⟨(by rw [hw]; exact (by (with_reducible repeat (first | apply Kd.V_alloc | apply Kd.V_drewN | apply Kd.V_drew)); exact Kd.V_mono (Kd.V_far (p := ⟨gb150, 5, none⟩) (Kd.V_far (p := ⟨gb150, 4, none⟩) (Kd.V_far (p := ⟨gb150, 3, none⟩) (Kd.V_far (p := ⟨gb150, 2, none⟩) (Kd.V_far (p := ⟨gb150, 1, none⟩) (Kd.V_far (p := ⟨gb150, 0, none⟩) (Kd.V_mono HL149_5.out (fun k_ hk => (⟨hk, hk.2⟩ : _ ∧ k_ ≠ gb150))) (fun _ hk => hk.2) (.int .i64 ((rd_T32 l0 x12_1).f0))) (fun _ hk => hk.2) (.int .i64 ((rd_T32 l0 x12_1).f1))) (fun _ hk => hk.2) (.string ((rd_T32 l0 x12_1).f2))) (fun _ hk => hk.2) (.string ((rd_T32 l0 x12_1).f3))) (fun _ hk => hk.2) (.string ((rd_T32 l0 x12_1).f4))) (fun _ hk => hk.2) (.slice A149_5 ((rd_T32 l0 x12_1).f5).length c149_5)) (fun _ hk => ⟨hk.1.1.1, ⟨hk.1.1.2, hk.1.2⟩⟩)))⟩; have n4_ : Aside0 (w40.heap[gb150]? = some (.cells #[.int .i64 ((rd_T32 l0 x12_1).f0), .int .i64 ((rd_T32 l0 x12_1).f1), .string ((rd_T32 l0 x12_1).f2), .string ((rd_T32 l0 x12_1).f3), .string ((rd_T32 l0 x12_1).f4), .slice A149_5 ((rd_T32 l0 x12_1).f5).length c149_5] 32 (0, 0))) := ⟨(by rw [hw]; exact (by (with_reducible repeat first | apply zM | apply zE | apply zF); refine zP (cs := #[.int .i64 ((rd_T32 l0 x12_1).f0), .int .i64 ((rd_T32 l0 x12_1).f1), .string ((rd_T32 l0 x12_1).f2), .string ((rd_T32 l0 x12_1).f3), .string ((rd_T32 l0 x12_1).f4), .slice none 0 0]) ?_ 5 _ rfl; (with_reducible repeat first | apply zM | apply zE | apply zF); refine zP (cs := #[.int .i64 ((rd_T32 l0 x12_1).f0), .int .i64 ((rd_T32 l0 x12_1).f1), .string ((rd_T32 l0 x12_1).f2), .string ((rd_T32 l0 x12_1).f3), .string ⟨#[]⟩, .slice none 0 0]) ?_ 4 _ rfl; (with_reducible repeat first | apply zM | apply zE | apply zF); refine zP (cs := #[.int .i64 ((rd_T32 l0 x12_1).f0), .int .i64 ((rd_T32 l0 x12_1).f1), .string ((rd_T32 l0 x12_1).f2), .string ⟨#[]⟩, .string ⟨#[]⟩, .slice none 0 0]) ?_ 3 _ rfl; (with_reducible repeat first | apply zM | apply zE | apply zF); refine zP (cs := #[.int .i64 ((rd_T32 l0 x12_1).f0), .int .i64 ((rd_T32 l0 x12_1).f1), .string ⟨#[]⟩, .string ⟨#[]⟩, .string ⟨#[]⟩, .slice none 0 0]) ?_ 2 _ rfl; (with_reducible repeat first | apply zM | apply zE | apply zF); refine zP (cs := #[.int .i64 ((rd_T32 l0 x12_1).f0), .int .i64 0, .string ⟨#[]⟩, .string ⟨#[]⟩, .string ⟨#[]⟩, .slice none 0 0]) ?_ 1 _ rfl; (with_reducible repeat first | apply zM | apply zE | apply zF); refine zP (cs := #[.int .i64 0, .int .i64 0, .string ⟨#[]⟩, .string ⟨#[]⟩, .string ⟨#[]⟩, .slice none 0 0]) ?_ 0 _ rfl; (with_reducible repeat first | apply zM | apply zE | apply zF); exact BK150.out))⟩; have n5_ : Aside0 (Below w.heap.size w w40) := ⟨(by rw [hw]; exact (by with_reducible repeat first | exact HB.out | apply zA | apply zN | apply zD | refine zS ?_ GE150.out))⟩; clear hw; clear HO_0; clear HO_3; clear HO_10; clear HL149_5; clear BK150; clear HB; have HO_0 := n0_; have HO_3 := n1_; have HO_10 := n2_; have HL149_5 := n3_; have BK150 := n4_; have HB := n5_; clear n0_ n1_ n2_ n3_ n4_ n5_; obtain ⟨hcz41_0, hcz41_1, hcz41_2, hcz41_3, hcz41_4, hcz41_5, hfz41_0, hfz41_1, hfz41_2, hfz41_3, hfz41_4, hfz41_5⟩ := zc6 BK150.out; obtain ⟨Ao42, co42, eo42⟩ := Kd.R_slice HO_3.out; subst eo42; have p151 : 0 ≤ (((rd_T32 l0 x12_1).f1) : Int) := zo (by assumption); have q151 : ((rd_T32 l0 x12_1).f1) < (x3_1.length : Int) := zo (by assumption); obtain ⟨ad151, e151, hx151_0⟩ := Kd.at_int (Kd.R_reads' HO_3.out).2.2 ((rd_T32 l0 x12_1).f1) p151 q151; cases e151; replace p151 := eq_true p151; replace q151 := eq_true q151; have p15 : 0 ≤ ((ji12) : Int) := zo (by assumption); have q15 : ((ji12) : Int) < ((x3_1.length : Int) : Int) := zo (by assumption); obtain ⟨go15, co15, eo15, gb15, gl15, cl15, HG15⟩ := Kd.R_form HO_3.out (by omega); (first | cases eo15 | (injection eo15 with ea_ en_ ec_; (first | subst ea_ | (injection ea_ with ea_; subst ea_)); subst ec_; clear en_)); have GB15 := zk gb15; have GG15 := zk HG15; clear gb15 gl15 HG15; (first | simp only [add_plain] at hx151_0 | skip); obtain ⟨hx15_0, hf15_0⟩ := Kd.R_celln 0 HO_3.out ((ji12) : Int) p15 q15; replace p15 := eq_true p15; replace q15 := eq_true q15; obtain ⟨hy43_, hz43_⟩ := Kd.R_celln 0 HO_3.out ((ji12) : Int) (zo (by assumption)) (zo (by assumption)); have HP43 := Kd.R_putg HO_3.out ((ji12) : Int) (wrap64 ((rd x3_1 ((rd_T32 l0 x12_1).f1)) + 1))) | ((with_reducible refine zgw (t := 3) (p := 26) rfl ?_); refine store_event (t := 3) (p := 26) (v := ?vo_w44) (w1 := (w40.setCell ⟨go15, ((ji12) : Int).toNat, none⟩ (.int .i64 (wrap64 ((rd x3_1 ((rd_T32 l0 x12_1).f1)) + 1))))) ?hg ?ho ?hn ?hr ?_; (case ho => rfl); (case hg => rfl); (case hn => rfl); (case hr => go_simp; first | done | rfl); intro w44 hw; have hg : w40.grownBy w44 (some go15) := (by rw [hw]; exact HP43.2); have hp_ : Kd.R (Kd.int .i64) 3 w44 w.heap.size (fun k_ => (w.heap.size ≤ k_)) (.slice (some ⟨go15, 0, none⟩) x3_1.length co42) y152 := (by rw [hw, Ny152.out]; exact HP43.1); clear HP43; have n0_ := zk (Kd.V_afterv (v := (.slice (some ⟨go15, 0, none⟩) x3_1.length co42)) (v1 := (.slice (some ⟨go15, 0, none⟩) x3_1.length co42)) (ok := (fun k_ => (P0_ k_ ∨ w.heap.size ≤ k_) ∧ k_ ≠ gb150)) (by (with_reducible repeat (first | apply Kd.V_alloc | apply Kd.V_drewN | apply Kd.V_drew)); exact Kd.V_mono HO_0.out (fun _ hk => ⟨⟨hk.1, hk.2.2⟩, hk.2.1⟩)) hg (.inl rfl)); have n1_ := zk (hp_); have n2_ := zk (Kd.V_afterv (v := (.slice (some ⟨go15, 0, none⟩) x3_1.length co42)) (v1 := (.slice (some ⟨go15, 0, none⟩) x3_1.length co42)) (ok := (fun k_ => (P0_ k_ ∨ w.heap.size ≤ k_) ∧ k_ ≠ gb150)) (by (with_reducible repeat (first | apply Kd.V_alloc | apply Kd.V_drewN | apply Kd.V_drew)); exact Kd.V_mono HO_10.out (fun _ hk => ⟨⟨hk.1, hk.2.2⟩, hk.2.1⟩)) hg (.inl rfl)); have n3_ := zk (Kd.V_afterv (v := (.slice (some ⟨go15, 0, none⟩) x3_1.length co42)) (v1 := (.slice (some ⟨go15, 0, none⟩) x3_1.length co42)) (ok := (fun k_ => (P0_ k_ ∨ w.heap.size ≤ k_) ∧ k_ ≠ gb150)) (by (with_reducible repeat (first | apply Kd.V_alloc | apply Kd.V_drewN | apply Kd.V_drew)); exact Kd.V_mono HL149_5.out (fun _ hk => ⟨⟨hk.1, hk.2.2⟩, hk.2.1⟩)) hg (.inl rfl)); have n4_ := zk (blk_grown (g := gb150) (o := .cells #[.int .i64 ((rd_T32 l0 x12_1).f0), .int .i64 ((rd_T32 l0 x12_1).f1), .string ((rd_T32 l0 x12_1).f2), .string ((rd_T32 l0 x12_1).f3), .string ((rd_T32 l0 x12_1).f4), .slice A149_5 ((rd_T32 l0 x12_1).f5).length c149_5] 32 (0, 0)) (by (with_reducible repeat first | apply zM | apply zE | apply zF); exact BK150.out) hg (Kd.R_ne HO_3.out BK150.out (by decide))); have n5_ := zk ((by rw [hw]; exact zS (HB.out) GB15.out : Below w.heap.size w w44)); clear HO_0; clear HO_3; clear HO_10; clear HL149_5; clear BK150; clear HB; have HO_0 := n0_; have HO_3 := n1_; have HO_10 := n2_; have HL149_5 := n3_; have BK150 := n4_; have HB := n5_; clear n0_ n1_ n2_ n3_ n4_ n5_; clear hg hw hp_; have p153 : 0 ≤ ((ji12) : Int) := zo (by assumption); have q153 : (ji12) < (y152.length : Int) := (by have h_ : ((ji12) : Int) < ((x3_1.length : Int) : Int) := zo (by assumption); first | (have e_ := (Kd.R_reads' HO_3.out).1; omega) | simpa only [Ny152.out, List.length_set] using h_); have ql153 : (((ji12) : Int) < ((x3_1.length : Int) : Int)) = True := eq_true (zo (by assumption)); obtain ⟨ad153, e153, hx153_0⟩ := Kd.at_int (Kd.R_reads' HO_3.out).2.2 (ji12) p153 q153; obtain rfl : (⟨go15, 0, none⟩ : Addr) = ad153 := (by injection e153); (first | simp only [add_plain] at hx153_0 | simp only [add_at] at hx153_0 | simp only [Addr.add, Nat.zero_add] at hx153_0 | skip); replace p153 := eq_true p153; replace q153 := eq_true q153))
              go_roundg k1
              case measure => have := HK1.out; omega
              case rel => exact ⟨(y152), (ji12), (by first | rfl | (simp; done) | (simp only [← hji12] <;> (first | rfl | simp)) | (simp [*]; done)), H', ⟨by have := HK1.out; omega⟩, ⟨by (with_reducible repeat (first | apply Kd.V_alloc | apply Kd.V_drewN | apply Kd.V_drew)); exact Kd.V_mono HO_0.out (fun _ hk => ⟨hk.1.1, hk.2⟩)⟩, ⟨by (with_reducible repeat (first | apply Kd.R_alloc | apply Kd.R_drewN | apply Kd.R_drew)); exact HO_3.out⟩, ⟨by (with_reducible repeat (first | apply Kd.V_alloc | apply Kd.V_drewN | apply Kd.V_drew)); exact Kd.V_mono HO_10.out (fun _ hk => ⟨hk.1.1, hk.2⟩)⟩, ⟨by with_reducible repeat first | exact HB.out | apply zA | apply zN | apply zD | refine zS ?_ GE150.out⟩⟩
           ·
            rw [if_neg c14] at H; exact absurd H (by simp)
          ·
           rw [if_neg c13] at H; exact absurd H (by simp)
         ·
          rw [if_neg c11] at H; exact absurd H (by simp)
        ·
         rw [if_neg c10] at H; exact absurd H (by simp)
       ·
        rw [if_neg c9] at H; exact absurd H (by simp)
      ·
       rw [if_neg c8] at H; exact absurd H (by simp)
     ·
      rw [if_neg c7] at H; have c7b0 := decide_eq_false c7; clear c7; obtain rfl := Option.some.inj H; go_wp2; go_ret; exact ⟨_, by first | rfl | (simp [wN, wS] <;> rfl) | (simp only [← hji2]; first | rfl | (simp [wN, wS] <;> rfl)) | (simp [*, wN, wS] <;> rfl), by (with_reducible repeat (first | apply Kd.V_alloc | apply Kd.V_drewN | apply Kd.V_drew)); exact Kd.V_mono HO_0.out (fun _ hk => hk.1), by with_reducible repeat first | exact HB.out | apply zA | apply zN | apply zD⟩
  ·
   rw [if_neg c4] at H; exact absurd H (by simp)
 ·
  rw [if_neg c3] at H; exact absurd H (by simp)
def r13_Depth.l0 : Nat → List (S32) → Int → Int → Option (Int)
  | 0, _, _, _ => none
  | k + 1, x0, x1, x5 => if x1 > 0 then (if 0 ≤ (wrap64 (x1 - 1)) then (if (wrap64 (x1 - 1)) < (x0.length : Int) then (r13_Depth.l0 k x0 ((rd_T32 x0 (wrap64 (x1 - 1))).f1) (wrap64 (x5 + 1))) else (none)) else (none)) else (some x5)
def r13_Depth.f (k : Nat) (l0 : List (S32)) (a1 : Int) : Option (Int) := r13_Depth.l0 k l0 a1 0
set_option maxHeartbeats 8000000 in
set_option maxRecDepth 100000 in
theorem r13_Depth.calls (k : Nat) (A0 : Option Addr) (c0 : Nat) (l0 : List (S32)) (a1 : Int) (r : Int) (w : World) (hr0 : Kd.C k32 w A0 l0.length l0) (hc0 : l0.length ≤ c0) (h : r13_Depth.f k l0 a1 = some r) :
    Calls Try.prog 27 #[.slice A0 l0.length c0, .int .i64 a1] w fun e w' => e = .returned (.int .i64 r) ∧ Drawn0 w w' := by
  have HR0 := zk hr0; have HC0 := zk hc0; clear hr0 hc0; have H : (r13_Depth.l0 k l0 a1 0) = some r := h; clear h; have H' := zk H; clear H
  go_enter Try.func27, Try.ntmps27
  go_wp2
  go_loopg [1, 5] k (fun kq v1 v5 w' => ∃ (x1_1 : Int) (x5_1 : Int), v1 = .int .i64 x1_1 ∧ v5 = .int .i64 x5_1 ∧ Aside0 (r13_Depth.l0 kq l0 x1_1 x5_1 = some r) ∧ Aside0 (kq ≤ k) ∧ Drawn0 w w')
  case atStart => exact ⟨(a1), (0), (by first | rfl | (simp; done) | (simp [*]; done)), (by first | rfl | (simp; done) | (simp [*]; done)), H', ⟨Nat.le_refl _⟩, by repeat (first | exact Drawn0.refl _ | apply Drawn0.step)⟩
  case round =>
    clear H'; (try clear c2); (try clear p2); obtain ⟨x1_1, x5_1, rfl, rfl, HA, HK1, ⟨m1, rfl⟩⟩ := hrel
    cases gk with
    | zero => exact absurd HA.out (by simp [r13_Depth.l0])
    | succ k1 =>
      have H := HA.out; clear HA; simp only [r13_Depth.l0] at H
      by_cases c3 : x1_1 > 0
      · rw [if_pos c3] at H
        have c3b0 : decide (0 < x1_1) = true := decide_eq_true c3
        clear c3
        obtain ⟨ji4, hji4⟩ : ∃ j_ : Int, (wrap64 (x1_1 - 1)) = j_ := ⟨_, rfl⟩
        replace H : (if 0 ≤ (ji4) then (if (ji4) < (l0.length : Int) then (r13_Depth.l0 k1 l0 ((rd_T32 l0 (ji4)).f1) (wrap64 (x5_1 + 1))) else (none)) else (none)) = some r := by first | (rw [hji4] at H; exact H) | (simp only [hji4] at H ⊢; exact H)
        have hji4w : (IntKind.i64.wrap (x1_1 - 1)) = ji4 := (i64_w _).trans hji4
        by_cases c5 : 0 ≤ (ji4)
        · rw [if_pos c5] at H
          have c5b0 : decide (0 ≤ (ji4)) = true := decide_eq_true c5
          clear c5
          by_cases c6 : (ji4) < (l0.length : Int)
          · rw [if_pos c6] at H
            have c6b0 : decide ((ji4) < (l0.length : Int)) = true := decide_eq_true c6
            clear c6
            have H' := zk H
            clear H
            have p289 : 0 ≤ ((ji4) : Int) := zo (by assumption)
            have q289 : (ji4) < (l0.length : Int) := zo (by assumption)
            obtain ⟨ad289, A289_5, c289_5, e289, hx289_0, hx289_1, hx289_2, hx289_3, hx289_4, hx289_5, hl289_5, hi289_5⟩ := at_T32 HR0.out (ji4) p289 q289
            cases e289
            have HR289_5 := zk hi289_5
            have HC289_5 := zk hl289_5
            clear hi289_5 hl289_5
            replace p289 := eq_true p289
            replace q289 := eq_true q289
            go_wp2
            go_roundg k1
            case measure => have := HK1.out; omega
            case rel => exact ⟨((rd_T32 l0 (ji4)).f1), (wrap64 (x5_1 + 1)), (by first | rfl | (simp; done) | (simp only [← hji4] <;> (first | rfl | simp)) | (simp [*]; done)), (by first | rfl | (simp; done) | (simp [*]; done)), H', ⟨by have := HK1.out; omega⟩, by repeat (first | exact Drawn0.refl _ | apply Drawn0.step)⟩
          · rw [if_neg c6] at H
            exact absurd H (by simp)
        · rw [if_neg c5] at H
          exact absurd H (by simp)
      · rw [if_neg c3] at H
        have c3b0 : decide (0 < x1_1) = false := decide_eq_false c3; clear c3; obtain rfl := Option.some.inj H; go_wp2; go_ret; exact ⟨by first | rfl | (simp; done) | (simp [*]; done), by repeat (first | exact Drawn0.refl _ | apply Drawn0.step)⟩
def r02_inner.f (a0 : Int) (a1 : Bool) : Option (Bool) := if a0 ≥ 97 then (if a0 ≤ 122 then (some true) else (if a0 ≥ 48 then (if a0 ≤ 57 then (some true) else (if a0 = 45 then (some true) else (if a1 = true then (if a0 = 58 then (some true) else (some (a0 == 46))) else (some false)))) else (if a0 = 45 then (some true) else (if a1 = true then (if a0 = 58 then (some true) else (some (a0 == 46))) else (some false))))) else (if a0 ≥ 48 then (if a0 ≤ 57 then (some true) else (if a0 = 45 then (some true) else (if a1 = true then (if a0 = 58 then (some true) else (some (a0 == 46))) else (some false)))) else (if a0 = 45 then (some true) else (if a1 = true then (if a0 = 58 then (some true) else (some (a0 == 46))) else (some false))))
set_option maxHeartbeats 8000000 in
set_option maxRecDepth 100000 in
theorem r02_inner.calls (a0 : Int) (a1 : Bool) (r : Bool) (w : World) (h : r02_inner.f a0 a1 = some r) :
    Calls Try.prog 39 #[.int .u8 a0, .bool a1] w fun e w' => e = .returned (.bool r) ∧ Drawn0 w w' := by
  have H : (if a0 ≥ 97 then (if a0 ≤ 122 then (some true) else (if a0 ≥ 48 then (if a0 ≤ 57 then (some true) else (if a0 = 45 then (some true) else (if a1 = true then (if a0 = 58 then (some true) else (some (a0 == 46))) else (some false)))) else (if a0 = 45 then (some true) else (if a1 = true then (if a0 = 58 then (some true) else (some (a0 == 46))) else (some false))))) else (if a0 ≥ 48 then (if a0 ≤ 57 then (some true) else (if a0 = 45 then (some true) else (if a1 = true then (if a0 = 58 then (some true) else (some (a0 == 46))) else (some false)))) else (if a0 = 45 then (some true) else (if a1 = true then (if a0 = 58 then (some true) else (some (a0 == 46))) else (some false))))) = some r := h; clear h
  by_cases c3 : a0 ≥ 97
  · rw [if_pos c3] at H
    have c3b0 : decide (97 ≤ a0) = true := decide_eq_true c3
    clear c3
    by_cases c4 : a0 ≤ 122
    · rw [if_pos c4] at H
      have c4b0 : decide (a0 ≤ 122) = true := decide_eq_true c4
      clear c4
      obtain rfl := Option.some.inj H
      go_enter Try.func39, Try.ntmps39
      go_wp2
      go_ret
      exact ⟨by first | rfl | (simp; done) | (simp [*]; done), by repeat (first | exact Drawn0.refl _ | apply Drawn0.step)⟩
    · rw [if_neg c4] at H
      have c4b0 : decide (a0 ≤ 122) = false := decide_eq_false c4
      clear c4
      by_cases c5 : a0 ≥ 48
      · rw [if_pos c5] at H
        have c5b0 : decide (48 ≤ a0) = true := decide_eq_true c5
        clear c5
        by_cases c6 : a0 ≤ 57
        · rw [if_pos c6] at H
          have c6b0 : decide (a0 ≤ 57) = true := decide_eq_true c6
          clear c6
          obtain rfl := Option.some.inj H
          go_enter Try.func39, Try.ntmps39
          go_wp2
          go_ret
          exact ⟨by first | rfl | (simp; done) | (simp [*]; done), by repeat (first | exact Drawn0.refl _ | apply Drawn0.step)⟩
        · rw [if_neg c6] at H
          have c6b0 : decide (a0 ≤ 57) = false := decide_eq_false c6
          clear c6
          by_cases c7 : a0 = 45
          · rw [if_pos c7] at H
            have c7b0 := beq_iff_eq.mpr c7
            have c7b1 := bne_eq_false_iff_eq.mpr c7
            clear c7
            obtain rfl := Option.some.inj H
            go_enter Try.func39, Try.ntmps39
            go_wp2
            go_ret
            exact ⟨by first | rfl | (simp; done) | (simp [*]; done), by repeat (first | exact Drawn0.refl _ | apply Drawn0.step)⟩
          · rw [if_neg c7] at H
            have c7b0 := beq_eq_false_iff_ne.mpr c7
            have c7b1 := bne_iff_ne.mpr c7
            by_cases c8 : a1 = true
            · subst c8
              have H1 : (if a0 = 58 then (some true) else (some (a0 == 46))) = some r := by rw [if_pos rfl] at H; exact H
              clear H
              have H := H1
              clear H1
              by_cases c9 : a0 = 58
              · rw [if_pos c9] at H
                have c9b0 := beq_iff_eq.mpr c9
                have c9b1 := bne_eq_false_iff_eq.mpr c9
                clear c9
                obtain rfl := Option.some.inj H
                go_enter Try.func39, Try.ntmps39
                go_wp2
                go_ret
                exact ⟨by first | rfl | (simp; done) | (simp [*]; done), by repeat (first | exact Drawn0.refl _ | apply Drawn0.step)⟩
              · rw [if_neg c9] at H
                have c9b0 := beq_eq_false_iff_ne.mpr c9
                have c9b1 := bne_iff_ne.mpr c9
                obtain rfl := Option.some.inj H
                go_enter Try.func39, Try.ntmps39
                go_wp2
                go_ret
                exact ⟨by first | rfl | (simp; done) | (simp [*]; done), by repeat (first | exact Drawn0.refl _ | apply Drawn0.step)⟩
            · replace c8 := Bool.eq_false_iff.mpr c8
              subst c8
              have H1 : (some false) = some r := by rw [if_neg (show ¬ (false = true) by decide)] at H; exact H
              clear H
              have H := H1
              clear H1
              obtain rfl := Option.some.inj H
              go_enter Try.func39, Try.ntmps39
              go_wp2
              go_ret
              exact ⟨by first | rfl | (simp; done) | (simp [*]; done), by repeat (first | exact Drawn0.refl _ | apply Drawn0.step)⟩
      · rw [if_neg c5] at H
        have c5b0 : decide (48 ≤ a0) = false := decide_eq_false c5
        clear c5
        by_cases c10 : a0 = 45
        · rw [if_pos c10] at H
          have c10b0 : (a0 == 45) = true := beq_iff_eq.mpr c10
          have c10b1 : (a0 != 45) = false := bne_eq_false_iff_eq.mpr c10
          clear c10
          obtain rfl := Option.some.inj H
          go_enter Try.func39, Try.ntmps39
          go_wp2
          go_ret
          exact ⟨by first | rfl | (simp; done) | (simp [*]; done), by repeat (first | exact Drawn0.refl _ | apply Drawn0.step)⟩
        · rw [if_neg c10] at H
          have c10b0 : (a0 == 45) = false := beq_eq_false_iff_ne.mpr c10
          have c10b1 : (a0 != 45) = true := bne_iff_ne.mpr c10
          by_cases c11 : a1 = true
          · subst c11
            have H1 : (if a0 = 58 then (some true) else (some (a0 == 46))) = some r := by rw [if_pos rfl] at H; exact H
            clear H
            have H := H1
            clear H1
            by_cases c12 : a0 = 58
            · rw [if_pos c12] at H
              have c12b0 : (a0 == 58) = true := beq_iff_eq.mpr c12
              have c12b1 : (a0 != 58) = false := bne_eq_false_iff_eq.mpr c12
              clear c12
              obtain rfl := Option.some.inj H
              go_enter Try.func39, Try.ntmps39
              go_wp2
              go_ret
              exact ⟨by first | rfl | (simp; done) | (simp [*]; done), by repeat (first | exact Drawn0.refl _ | apply Drawn0.step)⟩
            · rw [if_neg c12] at H
              have c12b0 : (a0 == 58) = false := beq_eq_false_iff_ne.mpr c12
              have c12b1 : (a0 != 58) = true := bne_iff_ne.mpr c12
              obtain rfl := Option.some.inj H
              go_enter Try.func39, Try.ntmps39
              go_wp2
              go_ret
              exact ⟨by first | rfl | (simp; done) | (simp [*]; done), by repeat (first | exact Drawn0.refl _ | apply Drawn0.step)⟩
          · replace c11 := Bool.eq_false_iff.mpr c11
            subst c11
            have H1 : (some false) = some r := by rw [if_neg (show ¬ (false = true) by decide)] at H; exact H
            clear H
            have H := H1
            clear H1
            obtain rfl := Option.some.inj H
            go_enter Try.func39, Try.ntmps39
            go_wp2
            go_ret
            exact ⟨by first | rfl | (simp; done) | (simp [*]; done), by repeat (first | exact Drawn0.refl _ | apply Drawn0.step)⟩
  · rw [if_neg c3] at H
    have c3b0 : decide (97 ≤ a0) = false := decide_eq_false c3
    clear c3
    by_cases c13 : a0 ≥ 48
    · rw [if_pos c13] at H
      have c13b0 : decide (48 ≤ a0) = true := decide_eq_true c13
      clear c13
      by_cases c14 : a0 ≤ 57
      · rw [if_pos c14] at H
        have c14b0 := decide_eq_true c14
        clear c14
        obtain rfl := Option.some.inj H
        go_enter Try.func39, Try.ntmps39
        go_wp2
        go_ret
        exact ⟨by first | rfl | (simp; done) | (simp [*]; done), by repeat (first | exact Drawn0.refl _ | apply Drawn0.step)⟩
      · rw [if_neg c14] at H
        have c14b0 := decide_eq_false c14
        clear c14
        by_cases c15 : a0 = 45
        · rw [if_pos c15] at H
          have c15b0 : (a0 == 45) = true := beq_iff_eq.mpr c15
          have c15b1 : (a0 != 45) = false := bne_eq_false_iff_eq.mpr c15
          clear c15
          obtain rfl := Option.some.inj H
          go_enter Try.func39, Try.ntmps39
          go_wp2
          go_ret
          exact ⟨by first | rfl | (simp; done) | (simp [*]; done), by repeat (first | exact Drawn0.refl _ | apply Drawn0.step)⟩
        · rw [if_neg c15] at H
          have c15b0 : (a0 == 45) = false := beq_eq_false_iff_ne.mpr c15
          have c15b1 : (a0 != 45) = true := bne_iff_ne.mpr c15
          by_cases c16 : a1 = true
          · subst c16
            have H1 : (if a0 = 58 then (some true) else (some (a0 == 46))) = some r := by rw [if_pos rfl] at H; exact H
            clear H
            have H := H1
            clear H1
            by_cases c17 : a0 = 58
            · rw [if_pos c17] at H
              have c17b0 := beq_iff_eq.mpr c17
              have c17b1 := bne_eq_false_iff_eq.mpr c17
              clear c17
              obtain rfl := Option.some.inj H
              go_enter Try.func39, Try.ntmps39
              go_wp2
              go_ret
              exact ⟨by first | rfl | (simp; done) | (simp [*]; done), by repeat (first | exact Drawn0.refl _ | apply Drawn0.step)⟩
            · rw [if_neg c17] at H
              have c17b0 := beq_eq_false_iff_ne.mpr c17
              have c17b1 := bne_iff_ne.mpr c17
              obtain rfl := Option.some.inj H
              go_enter Try.func39, Try.ntmps39
              go_wp2
              go_ret
              exact ⟨by first | rfl | (simp; done) | (simp [*]; done), by repeat (first | exact Drawn0.refl _ | apply Drawn0.step)⟩
          · replace c16 := Bool.eq_false_iff.mpr c16
            subst c16
            have H1 : (some false) = some r := by rw [if_neg (show ¬ (false = true) by decide)] at H; exact H
            clear H
            have H := H1
            clear H1
            obtain rfl := Option.some.inj H
            go_enter Try.func39, Try.ntmps39
            go_wp2
            go_ret
            exact ⟨by first | rfl | (simp; done) | (simp [*]; done), by repeat (first | exact Drawn0.refl _ | apply Drawn0.step)⟩
    · rw [if_neg c13] at H
      have c13b0 : decide (48 ≤ a0) = false := decide_eq_false c13
      clear c13
      by_cases c18 : a0 = 45
      · rw [if_pos c18] at H
        have c18b0 := beq_iff_eq.mpr c18
        have c18b1 := bne_eq_false_iff_eq.mpr c18
        clear c18
        obtain rfl := Option.some.inj H
        go_enter Try.func39, Try.ntmps39
        go_wp2
        go_ret
        exact ⟨by first | rfl | (simp; done) | (simp [*]; done), by repeat (first | exact Drawn0.refl _ | apply Drawn0.step)⟩
      · rw [if_neg c18] at H
        have c18b0 := beq_eq_false_iff_ne.mpr c18
        have c18b1 := bne_iff_ne.mpr c18
        by_cases c19 : a1 = true
        · subst c19
          have H1 : (if a0 = 58 then (some true) else (some (a0 == 46))) = some r := by rw [if_pos rfl] at H; exact H
          clear H
          have H := H1
          clear H1
          by_cases c20 : a0 = 58
          · rw [if_pos c20] at H
            have c20b0 := beq_iff_eq.mpr c20
            have c20b1 := bne_eq_false_iff_eq.mpr c20
            clear c20
            obtain rfl := Option.some.inj H
            go_enter Try.func39, Try.ntmps39
            go_wp2
            go_ret
            exact ⟨by first | rfl | (simp; done) | (simp [*]; done), by repeat (first | exact Drawn0.refl _ | apply Drawn0.step)⟩
          · rw [if_neg c20] at H
            have c20b0 := beq_eq_false_iff_ne.mpr c20
            have c20b1 := bne_iff_ne.mpr c20
            obtain rfl := Option.some.inj H
            go_enter Try.func39, Try.ntmps39
            go_wp2
            go_ret
            exact ⟨by first | rfl | (simp; done) | (simp [*]; done), by repeat (first | exact Drawn0.refl _ | apply Drawn0.step)⟩
        · replace c19 := Bool.eq_false_iff.mpr c19
          subst c19
          have H1 : (some false) = some r := by rw [if_neg (show ¬ (false = true) by decide)] at H; exact H
          clear H
          have H := H1
          clear H1
          obtain rfl := Option.some.inj H
          go_enter Try.func39, Try.ntmps39
          go_wp2
          go_ret
          exact ⟨by first | rfl | (simp; done) | (simp [*]; done), by repeat (first | exact Drawn0.refl _ | apply Drawn0.step)⟩
mutual
def r02_Named.j0 : Nat → ByteArray → Bool → Bool → Option (Bool)
  | 0, _, _, _ => none
  | k + 1, x0, x1, x23 => if x23 = true then (some false) else (r02_Named.l0 k x0 x1 1)
def r02_Named.l0 : Nat → ByteArray → Bool → Int → Option (Bool)
  | 0, _, _, _ => none
  | k + 1, x0, x1, x5 => if x5 < (x0.size : Int) then (if 0 ≤ x5 then ((r02_inner.f (bt x0 x5) x1).bind fun t290 => (if t290 = true then (r02_Named.l0 k x0 x1 (wrap64 (x5 + 1))) else (some false))) else (none)) else (some true)
end
def r02_Named.f (k : Nat) (a0 : ByteArray) (a1 : Bool) : Option (Bool) := if (a0.size : Int) < 1 then (r02_Named.j0 k a0 a1 true) else (if (a0.size : Int) > 32 then (r02_Named.j0 k a0 a1 true) else (if 0 < (a0.size : Int) then (if (bt a0 0) < 97 then (r02_Named.j0 k a0 a1 true) else (r02_Named.j0 k a0 a1 (decide ((bt a0 0) > 122)))) else (none)))
set_option maxHeartbeats 8000000 in
set_option maxRecDepth 100000 in
theorem r02_Named.calls (k : Nat) (a0 : ByteArray) (a1 : Bool) (r : Bool) (w : World) (h : r02_Named.f k a0 a1 = some r) :
    Calls Try.prog 34 #[.string a0, .bool a1] w fun e w' => e = .returned (.bool r) ∧ Drawn0 w w' := by
  have H : (if (a0.size : Int) < 1 then (r02_Named.j0 k a0 a1 true) else (if (a0.size : Int) > 32 then (r02_Named.j0 k a0 a1 true) else (if 0 < (a0.size : Int) then (if (bt a0 0) < 97 then (r02_Named.j0 k a0 a1 true) else (r02_Named.j0 k a0 a1 (decide ((bt a0 0) > 122)))) else (none)))) = some r := h; clear h; have HC3 := zk H; clear H
  go_enter Try.func34, Try.ntmps34
  go_upto_region 1 with (fail)
  go_cut [23] (fun v23 wc => ∃ (kq : Nat) (x23_2 : Bool), v23 = .bool x23_2 ∧ Aside0 (r02_Named.j0 kq a0 a1 x23_2 = some r) ∧ Aside0 (kq ≤ k) ∧ Drawn0 w wc)
  case first =>
    have H := HC3.out; clear HC3
    by_cases c4 : (a0.size : Int) < 1
    · rw [if_pos c4] at H
      have c4b0 : decide ((a0.size : Int) < 1) = true := decide_eq_true c4
      have c4b1 : decide (a0.size < 1) = true := decide_eq_true (by omega)
      clear c4
      (first | rw [c4b0] | (simp only [i64_w, i32_w]; rw [c4b0]) | skip)
      have H' := zk H
      clear H
      go_wp2
      go_meet
      case rel => exact ⟨_, (true), (by first | rfl | (simp; done) | (simp [*]; done)), H', ⟨by first | omega | exact Nat.le_refl _⟩, by repeat (first | exact Drawn0.refl _ | apply Drawn0.step)⟩
    · rw [if_neg c4] at H
      have c4b0 : decide ((a0.size : Int) < 1) = false := decide_eq_false c4
      have c4b1 : decide (a0.size < 1) = false := decide_eq_false (by omega)
      clear c4
      (first | rw [c4b0] | (simp only [i64_w, i32_w]; rw [c4b0]) | skip)
      by_cases c5 : (a0.size : Int) > 32
      · rw [if_pos c5] at H
        have c5b0 : decide (32 < (a0.size : Int)) = true := decide_eq_true c5
        have c5b1 : decide (32 < a0.size) = true := decide_eq_true (by omega)
        clear c5
        have H' := zk H
        clear H
        go_wp2
        go_meet
        case rel => exact ⟨_, (true), (by first | rfl | (simp; done) | (simp [*]; done)), H', ⟨by first | omega | exact Nat.le_refl _⟩, by repeat (first | exact Drawn0.refl _ | apply Drawn0.step)⟩
      · rw [if_neg c5] at H
        have c5b0 : decide (32 < (a0.size : Int)) = false := decide_eq_false c5
        have c5b1 : decide (32 < a0.size) = false := decide_eq_false (by omega)
        clear c5
        by_cases c6 : 0 < (a0.size : Int)
        · rw [if_pos c6] at H
          have c6b0 : decide (0 < (a0.size : Int)) = true := decide_eq_true c6
          have c6b1 : decide (0 < a0.size) = true := decide_eq_true (by omega)
          clear c6
          by_cases c8 : (bt a0 0) < 97
          · rw [if_pos c8] at H
            have c8b0 : decide ((bt a0 0) < 97) = true := decide_eq_true c8
            clear c8
            have H' := zk H
            clear H
            have p7 : 0 ≤ (0 : Int) := (by omega)
            have q7 : 0 < a0.size := (by have : (0 : Int) < (a0.size : Int) := zo (by assumption); omega)
            have hx7 : ∀ h : 0 < a0.size, ((a0[0]'h).toNat : Int) = bt a0 0 := bt_at a0 0
            clear p7
            have qi7 : (0 < (a0.size : Int)) = True := eq_true (zo (by assumption))
            replace q7 := eq_true q7
            go_wp2
            go_meet
            case rel => exact ⟨_, (true), (by first | rfl | (simp; done) | (simp [*]; done)), H', ⟨by first | omega | exact Nat.le_refl _⟩, by repeat (first | exact Drawn0.refl _ | apply Drawn0.step)⟩
          · rw [if_neg c8] at H
            have c8b0 : decide ((bt a0 0) < 97) = false := decide_eq_false c8
            clear c8
            have H' := zk H
            clear H
            have p7 : 0 ≤ (0 : Int) := (by omega)
            have q7 : 0 < a0.size := (by have : (0 : Int) < (a0.size : Int) := zo (by assumption); omega)
            have hx7 : ∀ h : 0 < a0.size, ((a0[0]'h).toNat : Int) = bt a0 0 := bt_at a0 0
            clear p7
            have qi7 : (0 < (a0.size : Int)) = True := eq_true (zo (by assumption))
            replace q7 := eq_true q7
            have p9 : 0 ≤ (0 : Int) := (by omega)
            have q9 : 0 < a0.size := (by have : (0 : Int) < (a0.size : Int) := zo (by assumption); omega)
            have hx9 : ∀ h : 0 < a0.size, ((a0[0]'h).toNat : Int) = bt a0 0 := bt_at a0 0
            clear p9
            have qi9 : (0 < (a0.size : Int)) = True := eq_true (zo (by assumption))
            replace q9 := eq_true q9
            go_wp2
            go_meet
            case rel => exact ⟨_, (decide ((bt a0 0) > 122)), (by first | rfl | (simp; done) | (simp [*]; done)), H', ⟨by first | omega | exact Nat.le_refl _⟩, by repeat (first | exact Drawn0.refl _ | apply Drawn0.step)⟩
        · rw [if_neg c6] at H
          exact absurd H (by simp)
  case rest =>
    clear HC3; (try clear p2); (try clear c3); (try clear c4); (try clear c4b0); (try clear c4b1); (try clear c5); (try clear c5b0); (try clear c5b1); (try clear c6); (try clear c6b0); (try clear c6b1); (try clear p7); (try clear q7); (try clear hx7); (try clear qi7); (try clear c8); (try clear c8b0); (try clear p9); (try clear q9); (try clear hx9); (try clear qi9); (try clear p7); (try clear p9); (try clear q7); (try clear q9); obtain ⟨kq, x23_2, rfl, HA, HJ2, ⟨mc2, rfl⟩⟩ := hcut
    cases kq with
    | zero => exact absurd HA.out (by simp [r02_Named.j0])
    | succ kj2 =>
      have H := HA.out; clear HA; simp only [r02_Named.j0] at H
      by_cases c10 : x23_2 = true
      · subst c10
        have H1 : (some false) = some r := by rw [if_pos rfl] at H; exact H
        clear H
        have H := H1
        clear H1
        obtain rfl := Option.some.inj H
        go_wp2
        go_ret
        exact ⟨by first | rfl | (simp; done) | (simp [*]; done), by repeat (first | exact Drawn0.refl _ | apply Drawn0.step)⟩
      · replace c10 := Bool.eq_false_iff.mpr c10
        subst c10
        have H1 : (r02_Named.l0 kj2 a0 a1 1) = some r := by rw [if_neg (show ¬ (false = true) by decide)] at H; exact H
        clear H
        have H := H1
        clear H1
        have H' := zk H
        clear H
        go_wp2
        go_loopg [5] kj2 (fun kq v5 w' => ∃ (x5_2 : Int), v5 = .int .i64 x5_2 ∧ Aside0 (r02_Named.l0 kq a0 a1 x5_2 = some r) ∧ Aside0 (kq ≤ kj2) ∧ Drawn0 w w')
        case atStart => exact ⟨(1), (by first | rfl | (simp; done) | (simp [*]; done)), H', ⟨Nat.le_refl _⟩, by repeat (first | exact Drawn0.refl _ | apply Drawn0.step)⟩
        case round =>
          clear H'; (try clear c1); (try clear c2); (try clear p2); (try clear c3); (try clear c4); (try clear c4b0); (try clear c4b1); (try clear c5); (try clear c5b0); (try clear c5b1); (try clear c6); (try clear c6b0); (try clear c6b1); (try clear p7); (try clear q7); (try clear hx7); (try clear qi7); (try clear c8); (try clear c8b0); (try clear p9); (try clear q9); (try clear hx9); (try clear qi9); (try clear c10); (try clear p2); (try clear p7); (try clear p9); (try clear q7); (try clear q9); obtain ⟨x5_2, rfl, HA, HK2, ⟨m2, rfl⟩⟩ := hrel
          cases gk with
          | zero => exact absurd HA.out (by simp [r02_Named.l0])
          | succ k2 =>
            have H := HA.out; clear HA; simp only [r02_Named.l0] at H
            by_cases c11 : x5_2 < (a0.size : Int)
            · rw [if_pos c11] at H
              have c11b0 : decide (x5_2 < (a0.size : Int)) = true := decide_eq_true c11
              clear c11
              by_cases c12 : 0 ≤ x5_2
              · rw [if_pos c12] at H
                have c12b0 : decide (0 ≤ x5_2) = true := decide_eq_true c12
                clear c12
                replace H := Option.bind_eq_some_iff.mp H
                obtain ⟨t290, A140, H⟩ := H
                replace H : (if t290 = true then (r02_Named.l0 k2 a0 a1 (wrap64 (x5_2 + 1))) else (some false)) = some r := H
                have A14 := zk A140
                clear A140
                by_cases c15 : t290 = true
                · subst c15
                  have H1 : (r02_Named.l0 k2 a0 a1 (wrap64 (x5_2 + 1))) = some r := by rw [if_pos rfl] at H; exact H
                  clear H
                  have H := H1
                  clear H1
                  have H' := zk H
                  clear H
                  have p13 : 0 ≤ (x5_2 : Int) := zo (by assumption)
                  have q13 : x5_2 < (a0.size : Int) := zo (by assumption)
                  have hx13 := bt_at a0 x5_2
                  replace p13 := eq_true p13
                  replace q13 := eq_true q13
                  go_wp2_with (first | ((with_reducible refine zgk (f := 39) rfl ?_); refine zgl (some 34) rfl rfl Try.func39 (by kernel_rfl) rfl #[.int .u8 (bt a0 x5_2), .bool a1] rfl (by (try simp only [List.map_toArray, List.map_cons, List.map_nil]); first | done | rfl | (simp only [List.length_drop, List.length_take]; rfl)) ?_; (with_reducible refine (r02_inner.calls (bt a0 x5_2) a1 true _ A14.out).mono ?_); rintro e w' ⟨rfl, ⟨nd, rfl⟩⟩; refine ⟨_, rfl, ?_⟩))
                  go_roundg k2
                  case measure => have := HJ2.out; have := HK2.out; omega
                  case rel => exact ⟨(wrap64 (x5_2 + 1)), (by first | rfl | (simp; done) | (simp [*]; done)), H', ⟨by have := HJ2.out; have := HK2.out; omega⟩, by repeat (first | exact Drawn0.refl _ | apply Drawn0.step)⟩
                · replace c15 := Bool.eq_false_iff.mpr c15
                  subst c15
                  have H1 : (some false) = some r := by rw [if_neg (show ¬ (false = true) by decide)] at H; exact H
                  clear H
                  have H := H1
                  clear H1
                  obtain rfl := Option.some.inj H
                  have p13 : 0 ≤ (x5_2 : Int) := zo (by assumption)
                  have q13 : x5_2 < (a0.size : Int) := zo (by assumption)
                  have hx13 := bt_at a0 x5_2
                  replace p13 := eq_true p13
                  replace q13 := eq_true q13
                  go_wp2_with (first | ((with_reducible refine zgk (f := 39) rfl ?_); refine zgl (some 34) rfl rfl Try.func39 (by kernel_rfl) rfl #[.int .u8 (bt a0 x5_2), .bool a1] rfl (by (try simp only [List.map_toArray, List.map_cons, List.map_nil]); first | done | rfl | (simp only [List.length_drop, List.length_take]; rfl)) ?_; (with_reducible refine (r02_inner.calls (bt a0 x5_2) a1 false _ A14.out).mono ?_); rintro e w' ⟨rfl, ⟨nd, rfl⟩⟩; refine ⟨_, rfl, ?_⟩))
                  go_ret
                  exact ⟨by first | rfl | (simp; done) | (simp [*]; done), by repeat (first | exact Drawn0.refl _ | apply Drawn0.step)⟩
              · rw [if_neg c12] at H
                exact absurd H (by simp)
            · rw [if_neg c11] at H
              have c11b0 : decide (x5_2 < (a0.size : Int)) = false := decide_eq_false c11; clear c11; obtain rfl := Option.some.inj H; go_wp2; go_ret; exact ⟨by first | rfl | (simp; done) | (simp [*]; done), by repeat (first | exact Drawn0.refl _ | apply Drawn0.step)⟩
mutual
def r02_Compare.l0 : Nat → ByteArray → ByteArray → Int → Option (Int)
  | 0, _, _, _ => none
  | k + 1, x0, x1, x5 => if x5 < (x0.size : Int) then (r02_Compare.j1 k x0 x1 x5 (decide (x5 < (x1.size : Int)))) else (r02_Compare.j1 k x0 x1 x5 false)
def r02_Compare.j1 : Nat → ByteArray → ByteArray → Int → Bool → Option (Int)
  | 0, _, _, _, _ => none
  | k + 1, x0, x1, x5, x15 => if x15 = true then (if 0 ≤ x5 then (if x5 < (x0.size : Int) then (if x5 < (x1.size : Int) then (if (bt x0 x5) < (bt x1 x5) then (some (-1)) else (if (bt x0 x5) > (bt x1 x5) then (some 1) else (r02_Compare.l0 k x0 x1 (wrap64 (x5 + 1))))) else (none)) else (none)) else (none)) else (if (x0.size : Int) < (x1.size : Int) then (some (-1)) else (if (x0.size : Int) > (x1.size : Int) then (some 1) else (some 0)))
end
def r02_Compare.f (k : Nat) (a0 : ByteArray) (a1 : ByteArray) : Option (Int) := r02_Compare.l0 k a0 a1 0
set_option maxHeartbeats 8000000 in
set_option maxRecDepth 100000 in
theorem r02_Compare.calls (k : Nat) (a0 : ByteArray) (a1 : ByteArray) (r : Int) (w : World) (h : r02_Compare.f k a0 a1 = some r) :
    Calls Try.prog 40 #[.string a0, .string a1] w fun e w' => e = .returned (.int .i64 r) ∧ Drawn0 w w' := by
  have H : (r02_Compare.l0 k a0 a1 0) = some r := h; clear h; have H' := zk H; clear H
  go_enter Try.func40, Try.ntmps40
  go_wp2
  repeat (go_quiet (fail); try go_wp2)
  go_loopg [5] k (fun kq v5 w' => ∃ (x5_1 : Int), v5 = .int .i64 x5_1 ∧ Aside0 (r02_Compare.l0 kq a0 a1 x5_1 = some r) ∧ Aside0 (kq ≤ k) ∧ Drawn0 w w')
  case atStart => exact ⟨(0), (by first | rfl | (simp; done) | (simp [*]; done)), H', ⟨Nat.le_refl _⟩, by repeat (first | exact Drawn0.refl _ | apply Drawn0.step)⟩
  case round =>
    clear H'; (try clear p2); obtain ⟨x5_1, rfl, HA, HK1, ⟨m1, rfl⟩⟩ := hrel
    cases gk with
    | zero => exact absurd HA.out (by simp [r02_Compare.l0])
    | succ k1 =>
      have H := HA.out; clear HA; simp only [r02_Compare.l0] at H; have HC3 := zk H; clear H
      go_upto_region 2 with (fail)
      repeat (go_quiet (fail); go_upto_region 2 with (fail))
      go_cut [15] (fun v15 wc => ∃ (kq : Nat) (x15_2 : Bool), v15 = .bool x15_2 ∧ Aside0 (r02_Compare.j1 kq a0 a1 x5_1 x15_2 = some r) ∧ Aside0 (kq ≤ k1) ∧ Drawn0 w wc)
      case first =>
        have H := HC3.out; clear HC3
        by_cases c4 : x5_1 < (a0.size : Int)
        · rw [if_pos c4] at H
          have c4b0 : decide (x5_1 < (a0.size : Int)) = true := decide_eq_true c4
          clear c4
          (first | rw [c4b0] | (simp only [i64_w, i32_w]; rw [c4b0]) | skip)
          have H' := zk H
          clear H
          go_wp2
          repeat (go_quiet (fail); try go_wp2)
          go_meet
          case rel => exact ⟨_, (decide (x5_1 < (a1.size : Int))), (by first | rfl | (simp; done) | (simp [*]; done)), H', ⟨by have := HK1.out; first | omega | exact Nat.le_refl _⟩, by repeat (first | exact Drawn0.refl _ | apply Drawn0.step)⟩
        · rw [if_neg c4] at H
          have c4b0 : decide (x5_1 < (a0.size : Int)) = false := decide_eq_false c4
          clear c4
          (first | rw [c4b0] | (simp only [i64_w, i32_w]; rw [c4b0]) | skip)
          have H' := zk H
          clear H
          go_wp2
          repeat (go_quiet (fail); try go_wp2)
          go_meet
          case rel => exact ⟨_, (false), (by first | rfl | (simp; done) | (simp [*]; done)), H', ⟨by have := HK1.out; first | omega | exact Nat.le_refl _⟩, by repeat (first | exact Drawn0.refl _ | apply Drawn0.step)⟩
      case rest =>
        clear HC3; (try clear p2); (try clear c4); (try clear c4b0); (try clear p2); obtain ⟨kq, x15_2, rfl, HA, HJ2, ⟨mc2, rfl⟩⟩ := hcut
        cases kq with
        | zero => exact absurd HA.out (by simp [r02_Compare.j1])
        | succ kj2 =>
          have H := HA.out; clear HA; simp only [r02_Compare.j1] at H
          by_cases c5 : x15_2 = true
          · subst c5
            have H1 : (if 0 ≤ x5_1 then (if x5_1 < (a0.size : Int) then (if x5_1 < (a1.size : Int) then (if (bt a0 x5_1) < (bt a1 x5_1) then (some (-1)) else (if (bt a0 x5_1) > (bt a1 x5_1) then (some 1) else (r02_Compare.l0 kj2 a0 a1 (wrap64 (x5_1 + 1))))) else (none)) else (none)) else (none)) = some r := by rw [if_pos rfl] at H; exact H
            clear H
            have H := H1
            clear H1
            by_cases c6 : 0 ≤ x5_1
            · rw [if_pos c6] at H
              have c6b0 := decide_eq_true c6
              clear c6
              by_cases c7 : x5_1 < (a0.size : Int)
              · rw [if_pos c7] at H
                have c7b0 : decide (x5_1 < (a0.size : Int)) = true := decide_eq_true c7
                clear c7
                by_cases c9 : x5_1 < (a1.size : Int)
                · rw [if_pos c9] at H
                  have c9b0 := decide_eq_true c9
                  clear c9
                  by_cases c11 : (bt a0 x5_1) < (bt a1 x5_1)
                  · rw [if_pos c11] at H
                    have c11b0 := decide_eq_true c11
                    clear c11
                    obtain rfl := Option.some.inj H
                    have p8 : 0 ≤ (x5_1 : Int) := zo (by assumption)
                    have q8 : x5_1 < (a0.size : Int) := zo (by assumption)
                    have hx8 := bt_at a0 x5_1
                    replace p8 := eq_true p8
                    replace q8 := eq_true q8
                    have p10 : 0 ≤ (x5_1 : Int) := zo (by assumption)
                    have q10 : x5_1 < (a1.size : Int) := zo (by assumption)
                    have hx10 := bt_at a1 x5_1
                    replace p10 := eq_true p10
                    replace q10 := eq_true q10
                    go_wp2
                    repeat (go_quiet (fail); try go_wp2)
                    go_ret
                    exact ⟨by first | rfl | (simp; done) | (simp [*]; done), by repeat (first | exact Drawn0.refl _ | apply Drawn0.step)⟩
                  · rw [if_neg c11] at H
                    have c11b0 := decide_eq_false c11
                    clear c11
                    by_cases c14 : (bt a0 x5_1) > (bt a1 x5_1)
                    · rw [if_pos c14] at H
                      have c14b0 : decide ((bt a1 x5_1) < (bt a0 x5_1)) = true := decide_eq_true c14
                      clear c14
                      obtain rfl := Option.some.inj H
                      have p8 : 0 ≤ (x5_1 : Int) := zo (by assumption)
                      have q8 : x5_1 < (a0.size : Int) := zo (by assumption)
                      have hx8 := bt_at a0 x5_1
                      replace p8 := eq_true p8
                      replace q8 := eq_true q8
                      have p10 : 0 ≤ (x5_1 : Int) := zo (by assumption)
                      have q10 : x5_1 < (a1.size : Int) := zo (by assumption)
                      have hx10 := bt_at a1 x5_1
                      replace p10 := eq_true p10
                      replace q10 := eq_true q10
                      have p12 : 0 ≤ (x5_1 : Int) := zo (by assumption)
                      have q12 : x5_1 < (a0.size : Int) := zo (by assumption)
                      have hx12 := bt_at a0 x5_1
                      replace p12 := eq_true p12
                      replace q12 := eq_true q12
                      have p13 : 0 ≤ (x5_1 : Int) := zo (by assumption)
                      have q13 : x5_1 < (a1.size : Int) := zo (by assumption)
                      have hx13 := bt_at a1 x5_1
                      replace p13 := eq_true p13
                      replace q13 := eq_true q13
                      go_wp2
                      repeat (go_quiet (fail); try go_wp2)
                      go_ret
                      exact ⟨by first | rfl | (simp; done) | (simp [*]; done), by repeat (first | exact Drawn0.refl _ | apply Drawn0.step)⟩
                    · rw [if_neg c14] at H
                      have c14b0 : decide ((bt a1 x5_1) < (bt a0 x5_1)) = false := decide_eq_false c14
                      clear c14
                      have H' := zk H
                      clear H
                      have p8 : 0 ≤ (x5_1 : Int) := zo (by assumption)
                      have q8 : x5_1 < (a0.size : Int) := zo (by assumption)
                      have hx8 := bt_at a0 x5_1
                      replace p8 := eq_true p8
                      replace q8 := eq_true q8
                      have p10 : 0 ≤ (x5_1 : Int) := zo (by assumption)
                      have q10 : x5_1 < (a1.size : Int) := zo (by assumption)
                      have hx10 := bt_at a1 x5_1
                      replace p10 := eq_true p10
                      replace q10 := eq_true q10
                      have p12 : 0 ≤ (x5_1 : Int) := zo (by assumption)
                      have q12 : x5_1 < (a0.size : Int) := zo (by assumption)
                      have hx12 := bt_at a0 x5_1
                      replace p12 := eq_true p12
                      replace q12 := eq_true q12
                      have p13 : 0 ≤ (x5_1 : Int) := zo (by assumption)
                      have q13 : x5_1 < (a1.size : Int) := zo (by assumption)
                      have hx13 := bt_at a1 x5_1
                      replace p13 := eq_true p13
                      replace q13 := eq_true q13
                      go_wp2
                      repeat (go_quiet (fail); try go_wp2)
                      go_roundg kj2
                      case measure => have := HK1.out; have := HJ2.out; omega
                      case rel => exact ⟨(wrap64 (x5_1 + 1)), (by first | rfl | (simp; done) | (simp [*]; done)), H', ⟨by have := HK1.out; have := HJ2.out; omega⟩, by repeat (first | exact Drawn0.refl _ | apply Drawn0.step)⟩
                · rw [if_neg c9] at H
                  exact absurd H (by simp)
              · rw [if_neg c7] at H
                exact absurd H (by simp)
            · rw [if_neg c6] at H
              exact absurd H (by simp)
          · replace c5 := Bool.eq_false_iff.mpr c5
            subst c5
            have H1 : (if (a0.size : Int) < (a1.size : Int) then (some (-1)) else (if (a0.size : Int) > (a1.size : Int) then (some 1) else (some 0))) = some r := by rw [if_neg (show ¬ (false = true) by decide)] at H; exact H
            clear H
            have H := H1
            clear H1
            by_cases c15 : (a0.size : Int) < (a1.size : Int)
            · rw [if_pos c15] at H
              have c15b0 : decide ((a0.size : Int) < (a1.size : Int)) = true := decide_eq_true c15
              have c15b1 : decide (a0.size < a1.size) = true := decide_eq_true (Int.ofNat_lt.mp c15)
              clear c15
              obtain rfl := Option.some.inj H
              go_wp2
              repeat (go_quiet (fail); try go_wp2)
              go_ret
              exact ⟨by first | rfl | (simp; done) | (simp [*]; done), by repeat (first | exact Drawn0.refl _ | apply Drawn0.step)⟩
            · rw [if_neg c15] at H
              have c15b0 : decide ((a0.size : Int) < (a1.size : Int)) = false := decide_eq_false c15
              have c15b1 : decide (a0.size < a1.size) = false := decide_eq_false (fun h => c15 (Int.ofNat_lt.mpr h))
              clear c15
              by_cases c16 : (a0.size : Int) > (a1.size : Int)
              · rw [if_pos c16] at H
                have c16b0 : decide ((a1.size : Int) < (a0.size : Int)) = true := decide_eq_true c16
                have c16b1 : decide (a1.size < a0.size) = true := decide_eq_true (Int.ofNat_lt.mp c16)
                clear c16
                obtain rfl := Option.some.inj H
                go_wp2
                repeat (go_quiet (fail); try go_wp2)
                go_ret
                exact ⟨by first | rfl | (simp; done) | (simp [*]; done), by repeat (first | exact Drawn0.refl _ | apply Drawn0.step)⟩
              · rw [if_neg c16] at H
                have c16b0 : decide ((a1.size : Int) < (a0.size : Int)) = false := decide_eq_false c16
                have c16b1 : decide (a1.size < a0.size) = false := decide_eq_false (fun h => c16 (Int.ofNat_lt.mpr h))
                clear c16
                obtain rfl := Option.some.inj H
                go_wp2
                repeat (go_quiet (fail); try go_wp2)
                go_ret
                exact ⟨by first | rfl | (simp; done) | (simp [*]; done), by repeat (first | exact Drawn0.refl _ | apply Drawn0.step)⟩
mutual
def r09_Check.l0 : Nat → List (S39) → Int → Int → Option (Int × Int)
 | 0, _, _, _ => none
 | k + 1, x0, x6, x7 => if x7 < x6 then (if x7 = 64 then (some (x7, 12)) else (if 0 ≤ x7 then (if x7 < (x0.length : Int) then ((r02_Named.f k ((rd_T39 x0 x7).f0) true).bind fun t292 => (if t292 = true then (if (((rd_T39 x0 x7).f1).size : Int) > 65536 then (some (x7, 3)) else (if x7 > 0 then (if 0 ≤ (wrap64 (x7 - 1)) then (if (wrap64 (x7 - 1)) < (x0.length : Int) then (r09_Check.j1 k x0 x7 x6 x7 (((rd_T39 x0 (wrap64 (x7 - 1))).f0).toList == ((rd_T39 x0 x7).f0).toList)) else (none)) else (none)) else (r09_Check.j1 k x0 x7 x6 x7 false))) else (some (x7, 8)))) else (none)) else (none))) else (some (0, 0))
def r09_Check.j1 : Nat → List (S39) → Int → Int → Int → Bool → Option (Int × Int)
 | 0, _, _, _, _, _ => none
 | k + 1, x0, x4, x6, x7, x44 => if x44 = true then (some (x4, 10)) else (if x4 > 0 then (if 0 ≤ (wrap64 (x4 - 1)) then (if (wrap64 (x4 - 1)) < (x0.length : Int) then (if 0 ≤ x4 then (if x4 < (x0.length : Int) then ((r02_Compare.f k ((rd_T39 x0 (wrap64 (x4 - 1))).f0) ((rd_T39 x0 x4).f0)).bind fun t298 => (if t298 > 0 then (some (x4, 9)) else (r09_Check.l0 k x0 x6 (wrap64 (x7 + 1))))) else (none)) else (none)) else (none)) else (none)) else (r09_Check.l0 k x0 x6 (wrap64 (x7 + 1))))
end
def r09_Check.f (k : Nat) (l0 : List (S39)) : Option (Int × Int) := r09_Check.l0 k l0 (l0.length : Int) 0
set_option maxHeartbeats 8000000 in
set_option maxRecDepth 100000 in
theorem r09_Check.calls (k : Nat) (A0 : Option Addr) (c0 : Nat) (l0 : List (S39)) (r1 : Int) (r2 : Int) (w : World) (hr0 : Kd.C k39 w A0 l0.length l0) (hc0 : l0.length ≤ c0) (h : r09_Check.f k l0 = some (r1, r2)) :
  Calls Try.prog 35 #[.slice A0 l0.length c0] w fun e w' => e = .returned (.tuple #[.int .i64 r1, .int .i64 r2]) ∧ Drawn0 w w' := by
 have HR0 := zk hr0
 have HC0 := zk hc0
 clear hr0 hc0
 have H : (r09_Check.l0 k l0 (l0.length : Int) 0) = some (r1, r2) := h
 clear h
 have H' := zk H
 clear H
 go_enter Try.func35, Try.ntmps35
 go_wp2
 repeat (go_quiet (fail); try go_wp2)
 go_loopg [7] k (fun kq v7 w' => ∃ (x7_1 : Int), v7 = .int .i64 x7_1 ∧ Aside0 (r09_Check.l0 kq l0 (l0.length : Int) x7_1 = some (r1, r2)) ∧ Aside0 (kq ≤ k) ∧ Drawn0 w w')
 case atStart => exact ⟨(0), (by first | rfl | (simp; done) | (simp [*]; done)), H', ⟨Nat.le_refl _⟩, by repeat (first | exact Drawn0.refl _ | apply Drawn0.step)⟩
 case round =>
  clear H'; obtain ⟨x7_1, rfl, HA, HK1, ⟨m1, rfl⟩⟩ := hrel
  cases gk with
  | zero => exact absurd HA.out (by simp [r09_Check.l0])
  | succ k1 =>
   have H := HA.out; clear HA; simp only [r09_Check.l0] at H
   by_cases c2 : x7_1 < (l0.length : Int)
   ·
    rw [if_pos c2] at H; have c2b0 := decide_eq_true c2; clear c2
    by_cases c3 : x7_1 = 64
    ·
     rw [if_pos c3] at H; have c3b0 : (x7_1 == 64) = true := beq_iff_eq.mpr c3; have c3b1 : (x7_1 != 64) = false := bne_eq_false_iff_eq.mpr c3; clear c3; simp only [Option.some.injEq, Prod.mk.injEq] at H; obtain ⟨rfl, rfl⟩ := H; go_wp2
     repeat (go_quiet (fail); try go_wp2)
     go_ret2
     exact ⟨by first | rfl | (simp; done) | (simp [*]; done), by repeat (first | exact Drawn0.refl _ | apply Drawn0.step)⟩
    ·
     rw [if_neg c3] at H; have c3b0 : (x7_1 == 64) = false := beq_eq_false_iff_ne.mpr c3; have c3b1 : (x7_1 != 64) = true := bne_iff_ne.mpr c3
     by_cases c4 : 0 ≤ x7_1
     ·
      rw [if_pos c4] at H; have c4b0 : decide (0 ≤ x7_1) = true := decide_eq_true c4; clear c4
      by_cases c5 : x7_1 < (l0.length : Int)
      ·
       rw [if_pos c5] at H; have c5b0 : decide (x7_1 < (l0.length : Int)) = true := decide_eq_true c5; clear c5; replace H := Option.bind_eq_some_iff.mp H; obtain ⟨t292, A60, H⟩ := H; replace H : (if t292 = true then (if (((rd_T39 l0 x7_1).f1).size : Int) > 65536 then (some (x7_1, 3)) else (if x7_1 > 0 then (if 0 ≤ (wrap64 (x7_1 - 1)) then (if (wrap64 (x7_1 - 1)) < (l0.length : Int) then (r09_Check.j1 k1 l0 x7_1 (l0.length : Int) x7_1 (((rd_T39 l0 (wrap64 (x7_1 - 1))).f0).toList == ((rd_T39 l0 x7_1).f0).toList)) else (none)) else (none)) else (r09_Check.j1 k1 l0 x7_1 (l0.length : Int) x7_1 false))) else (some (x7_1, 8))) = some (r1, r2) := H; have A6 := zk A60; clear A60
       by_cases c7 : t292 = true
       ·
        subst c7
        have H1 : (if (((rd_T39 l0 x7_1).f1).size : Int) > 65536 then (some (x7_1, 3)) else (if x7_1 > 0 then (if 0 ≤ (wrap64 (x7_1 - 1)) then (if (wrap64 (x7_1 - 1)) < (l0.length : Int) then (r09_Check.j1 k1 l0 x7_1 (l0.length : Int) x7_1 (((rd_T39 l0 (wrap64 (x7_1 - 1))).f0).toList == ((rd_T39 l0 x7_1).f0).toList)) else (none)) else (none)) else (r09_Check.j1 k1 l0 x7_1 (l0.length : Int) x7_1 false))) = some (r1, r2) := by rw [if_pos rfl] at H; exact H
        clear H; have H := H1; clear H1
        by_cases c8 : (((rd_T39 l0 x7_1).f1).size : Int) > 65536
        ·
         rw [if_pos c8] at H; have c8b0 : decide (65536 < (((rd_T39 l0 x7_1).f1).size : Int)) = true := decide_eq_true c8; have c8b1 : decide (65536 < ((rd_T39 l0 x7_1).f1).size) = true := decide_eq_true (by omega); clear c8; simp only [Option.some.injEq, Prod.mk.injEq] at H; obtain ⟨rfl, rfl⟩ := H; have p291 : 0 ≤ (x7_1 : Int) := zo (by assumption); have q291 : x7_1 < (l0.length : Int) := zo (by assumption); obtain ⟨ad291, e291, hx291_0, hx291_1⟩ := at_T39 HR0.out x7_1 p291 q291; cases e291; replace p291 := eq_true p291; replace q291 := eq_true q291
         go_wp2_with (first | (go_at_call 34; (with_reducible refine (r02_Named.calls k1 ((rd_T39 l0 x7_1).f0) true true _ A6.out).mono ?_); rintro e w' ⟨rfl, ⟨nd, rfl⟩⟩; (try first | exact ⟨rfl, _, World.drewN_drewN _ _ _⟩ | exact ⟨rfl, _, Eq.trans (World.drewN_drewN _ _ _) (congrArg (World.drewN _) (Nat.add_assoc _ _ _))⟩); have p293 : 0 ≤ (x7_1 : Int) := zo (by assumption); have q293 : x7_1 < (l0.length : Int) := zo (by assumption); obtain ⟨ad293, e293, hx293_0, hx293_1⟩ := at_T39 HR0.out x7_1 p293 q293; obtain rfl : ad291 = ad293 := (by injection e293); replace p293 := eq_true p293; replace q293 := eq_true q293))
         repeat (go_quiet (first | (go_at_call 34; (with_reducible refine (r02_Named.calls k1 ((rd_T39 l0 x7_1).f0) true true _ A6.out).mono ?_); rintro e w' ⟨rfl, ⟨nd, rfl⟩⟩; (try first | exact ⟨rfl, _, World.drewN_drewN _ _ _⟩ | exact ⟨rfl, _, Eq.trans (World.drewN_drewN _ _ _) (congrArg (World.drewN _) (Nat.add_assoc _ _ _))⟩); have p293 : 0 ≤ (x7_1 : Int) := zo (by assumption); have q293 : x7_1 < (l0.length : Int) := zo (by assumption); obtain ⟨ad293, e293, hx293_0, hx293_1⟩ := at_T39 HR0.out x7_1 p293 q293; obtain rfl : ad291 = ad293 := (by injection e293); replace p293 := eq_true p293; replace q293 := eq_true q293)); try go_wp2_with (first | (go_at_call 34; (with_reducible refine (r02_Named.calls k1 ((rd_T39 l0 x7_1).f0) true true _ A6.out).mono ?_); rintro e w' ⟨rfl, ⟨nd, rfl⟩⟩; (try first | exact ⟨rfl, _, World.drewN_drewN _ _ _⟩ | exact ⟨rfl, _, Eq.trans (World.drewN_drewN _ _ _) (congrArg (World.drewN _) (Nat.add_assoc _ _ _))⟩); have p293 : 0 ≤ (x7_1 : Int) := zo (by assumption); have q293 : x7_1 < (l0.length : Int) := zo (by assumption); obtain ⟨ad293, e293, hx293_0, hx293_1⟩ := at_T39 HR0.out x7_1 p293 q293; obtain rfl : ad291 = ad293 := (by injection e293); replace p293 := eq_true p293; replace q293 := eq_true q293)))
         go_ret2
         exact ⟨by first | rfl | (simp; done) | (simp [*]; done), by repeat (first | exact Drawn0.refl _ | apply Drawn0.step)⟩
        ·
         rw [if_neg c8] at H; have c8b0 : decide (65536 < (((rd_T39 l0 x7_1).f1).size : Int)) = false := decide_eq_false c8; have c8b1 : decide (65536 < ((rd_T39 l0 x7_1).f1).size) = false := decide_eq_false (by omega); clear c8; have HC9 := zk H; clear H; have p291 : 0 ≤ (x7_1 : Int) := zo (by assumption); have q291 : x7_1 < (l0.length : Int) := zo (by assumption); obtain ⟨ad291, e291, hx291_0, hx291_1⟩ := at_T39 HR0.out x7_1 p291 q291; cases e291; replace p291 := eq_true p291; replace q291 := eq_true q291
         go_upto_region 10 with (first | (go_at_call 34; (with_reducible refine (r02_Named.calls k1 ((rd_T39 l0 x7_1).f0) true true _ A6.out).mono ?_); rintro e w' ⟨rfl, ⟨nd, rfl⟩⟩; (try first | exact ⟨rfl, _, World.drewN_drewN _ _ _⟩ | exact ⟨rfl, _, Eq.trans (World.drewN_drewN _ _ _) (congrArg (World.drewN _) (Nat.add_assoc _ _ _))⟩); have p293 : 0 ≤ (x7_1 : Int) := zo (by assumption); have q293 : x7_1 < (l0.length : Int) := zo (by assumption); obtain ⟨ad293, e293, hx293_0, hx293_1⟩ := at_T39 HR0.out x7_1 p293 q293; obtain rfl : ad291 = ad293 := (by injection e293); replace p293 := eq_true p293; replace q293 := eq_true q293))
         repeat (go_quiet (first | (go_at_call 34; (with_reducible refine (r02_Named.calls k1 ((rd_T39 l0 x7_1).f0) true true _ A6.out).mono ?_); rintro e w' ⟨rfl, ⟨nd, rfl⟩⟩; (try first | exact ⟨rfl, _, World.drewN_drewN _ _ _⟩ | exact ⟨rfl, _, Eq.trans (World.drewN_drewN _ _ _) (congrArg (World.drewN _) (Nat.add_assoc _ _ _))⟩); have p293 : 0 ≤ (x7_1 : Int) := zo (by assumption); have q293 : x7_1 < (l0.length : Int) := zo (by assumption); obtain ⟨ad293, e293, hx293_0, hx293_1⟩ := at_T39 HR0.out x7_1 p293 q293; obtain rfl : ad291 = ad293 := (by injection e293); replace p293 := eq_true p293; replace q293 := eq_true q293)); go_upto_region 10 with (first | (go_at_call 34; (with_reducible refine (r02_Named.calls k1 ((rd_T39 l0 x7_1).f0) true true _ A6.out).mono ?_); rintro e w' ⟨rfl, ⟨nd, rfl⟩⟩; (try first | exact ⟨rfl, _, World.drewN_drewN _ _ _⟩ | exact ⟨rfl, _, Eq.trans (World.drewN_drewN _ _ _) (congrArg (World.drewN _) (Nat.add_assoc _ _ _))⟩); have p293 : 0 ≤ (x7_1 : Int) := zo (by assumption); have q293 : x7_1 < (l0.length : Int) := zo (by assumption); obtain ⟨ad293, e293, hx293_0, hx293_1⟩ := at_T39 HR0.out x7_1 p293 q293; obtain rfl : ad291 = ad293 := (by injection e293); replace p293 := eq_true p293; replace q293 := eq_true q293)))
         (try simp only [Act.put, List.setIfInBounds_toArray, List.set_cons_zero, List.set_cons_succ])
         go_cut [44] (fun v44 wc => ∃ (kq : Nat) (x44_8 : Bool), v44 = .bool x44_8 ∧ Aside0 (r09_Check.j1 kq l0 x7_1 (l0.length : Int) x7_1 x44_8 = some (r1, r2)) ∧ Aside0 (kq ≤ k1) ∧ Drawn0 w wc)
         case first =>
          have H := HC9.out; clear HC9
          by_cases c10 : x7_1 > 0
          ·
           rw [if_pos c10] at H; have c10b0 : decide (0 < x7_1) = true := decide_eq_true c10; clear c10
           (first | rw [c10b0] | (simp only [i64_w, i32_w]; rw [c10b0]) | skip)
           obtain ⟨ji11, hji11⟩ : ∃ j_ : Int, (wrap64 (x7_1 - 1)) = j_ := ⟨_, rfl⟩
           replace H : (if 0 ≤ (ji11) then (if (ji11) < (l0.length : Int) then (r09_Check.j1 k1 l0 x7_1 (l0.length : Int) x7_1 (((rd_T39 l0 (ji11)).f0).toList == ((rd_T39 l0 x7_1).f0).toList)) else (none)) else (none)) = some (r1, r2) := by first | (rw [hji11] at H; exact H) | (simp only [hji11] at H ⊢; exact H)
           have hji11w : (IntKind.i64.wrap (x7_1 - 1)) = ji11 := (i64_w _).trans hji11
           by_cases c12 : 0 ≤ (ji11)
           ·
            rw [if_pos c12] at H; have c12b0 := decide_eq_true c12; clear c12
            by_cases c13 : (ji11) < (l0.length : Int)
            ·
             rw [if_pos c13] at H; have c13b0 := decide_eq_true c13; clear c13; have H' := zk H; clear H; have p294 : 0 ≤ ((ji11) : Int) := zo (by assumption); have q294 : (ji11) < (l0.length : Int) := zo (by assumption); obtain ⟨ad294, e294, hx294_0, hx294_1⟩ := at_T39 HR0.out (ji11) p294 q294; obtain rfl : ad291 = ad294 := (by injection e294); replace p294 := eq_true p294; replace q294 := eq_true q294; have p295 : 0 ≤ (x7_1 : Int) := zo (by assumption); have q295 : x7_1 < (l0.length : Int) := zo (by assumption); obtain ⟨ad295, e295, hx295_0, hx295_1⟩ := at_T39 HR0.out x7_1 p295 q295; obtain rfl : ad291 = ad295 := (by injection e295); replace p295 := eq_true p295; replace q295 := eq_true q295; go_wp2
             repeat (go_quiet (fail); try go_wp2)
             go_meet
             case rel => exact ⟨_, ((((rd_T39 l0 (ji11)).f0).toList == ((rd_T39 l0 x7_1).f0).toList)), (by first | rfl | (simp; done) | (simp only [← hji11] <;> (first | rfl | simp)) | (simp [*]; done)), H', ⟨by have := HK1.out; first | omega | exact Nat.le_refl _⟩, by repeat (first | exact Drawn0.refl _ | apply Drawn0.step)⟩
            ·
             rw [if_neg c13] at H; exact absurd H (by simp)
           ·
            rw [if_neg c12] at H; exact absurd H (by simp)
          ·
           rw [if_neg c10] at H; have c10b0 : decide (0 < x7_1) = false := decide_eq_false c10; clear c10
           (first | rw [c10b0] | (simp only [i64_w, i32_w]; rw [c10b0]) | skip)
           have H' := zk H; clear H; go_wp2
           repeat (go_quiet (fail); try go_wp2)
           go_meet
           case rel => exact ⟨_, (false), (by first | rfl | (simp; done) | (simp [*]; done)), H', ⟨by have := HK1.out; first | omega | exact Nat.le_refl _⟩, by repeat (first | exact Drawn0.refl _ | apply Drawn0.step)⟩
         case rest =>
          clear HC9; (try clear c1); (try clear c2); (try clear c2b0); (try clear p2); (try clear q2); (try clear hx2); (try clear c3); (try clear c3b0); (try clear c3b1); (try clear c4); (try clear c4b0); (try clear c5); (try clear c5b0); (try clear p6); (try clear c7); (try clear c8); (try clear c8b0); (try clear c8b1); (try clear c10); (try clear c10b0); (try clear c12); (try clear c12b0); (try clear c13); (try clear c13b0); (try clear hx291_0); (try clear hx291_1); (try clear hx293_0); (try clear hx293_1); (try clear hx294_0); (try clear hx294_1); (try clear hx295_0); (try clear hx295_1); (try clear p291); (try clear p293); (try clear p294); (try clear p295); (try clear q291); (try clear q293); (try clear q294); (try clear q295); obtain ⟨kq, x44_8, rfl, HA, HJ8, ⟨mc8, rfl⟩⟩ := hcut
          cases kq with
          | zero => exact absurd HA.out (by simp [r09_Check.j1])
          | succ kj8 =>
           have H := HA.out; clear HA; simp only [r09_Check.j1] at H
           by_cases c14 : x44_8 = true
           ·
            subst c14
            have H1 : (some (x7_1, 10)) = some (r1, r2) := by rw [if_pos rfl] at H; exact H
            clear H; have H := H1; clear H1; simp only [Option.some.injEq, Prod.mk.injEq] at H; obtain ⟨rfl, rfl⟩ := H; go_wp2
            repeat (go_quiet (fail); try go_wp2)
            go_ret2
            exact ⟨by first | rfl | (simp; done) | (simp [*]; done), by repeat (first | exact Drawn0.refl _ | apply Drawn0.step)⟩
           ·
            replace c14 := Bool.eq_false_iff.mpr c14; subst c14
            have H1 : (if x7_1 > 0 then (if 0 ≤ (wrap64 (x7_1 - 1)) then (if (wrap64 (x7_1 - 1)) < (l0.length : Int) then (if 0 ≤ x7_1 then (if x7_1 < (l0.length : Int) then ((r02_Compare.f kj8 ((rd_T39 l0 (wrap64 (x7_1 - 1))).f0) ((rd_T39 l0 x7_1).f0)).bind fun t298 => (if t298 > 0 then (some (x7_1, 9)) else (r09_Check.l0 kj8 l0 (l0.length : Int) (wrap64 (x7_1 + 1))))) else (none)) else (none)) else (none)) else (none)) else (r09_Check.l0 kj8 l0 (l0.length : Int) (wrap64 (x7_1 + 1)))) = some (r1, r2) := by rw [if_neg (show ¬ (false = true) by decide)] at H; exact H
            clear H; have H := H1; clear H1
            by_cases c15 : x7_1 > 0
            ·
             rw [if_pos c15] at H; have c15b0 : decide (0 < x7_1) = true := decide_eq_true c15; clear c15; obtain ⟨ji16, hji16⟩ : ∃ j_ : Int, (wrap64 (x7_1 - 1)) = j_ := ⟨_, rfl⟩
             replace H : (if 0 ≤ (ji16) then (if (ji16) < (l0.length : Int) then (if 0 ≤ x7_1 then (if x7_1 < (l0.length : Int) then ((r02_Compare.f kj8 ((rd_T39 l0 (ji16)).f0) ((rd_T39 l0 x7_1).f0)).bind fun t298 => (if t298 > 0 then (some (x7_1, 9)) else (r09_Check.l0 kj8 l0 (l0.length : Int) (wrap64 (x7_1 + 1))))) else (none)) else (none)) else (none)) else (none)) = some (r1, r2) := by first | (rw [hji16] at H; exact H) | (simp only [hji16] at H ⊢; exact H)
             have hji16w : (IntKind.i64.wrap (x7_1 - 1)) = ji16 := (i64_w _).trans hji16
             by_cases c17 : 0 ≤ (ji16)
             ·
              rw [if_pos c17] at H; have c17b0 := decide_eq_true c17; clear c17
              by_cases c18 : (ji16) < (l0.length : Int)
              ·
               rw [if_pos c18] at H; have c18b0 := decide_eq_true c18; clear c18
               by_cases c19 : 0 ≤ x7_1
               ·
                rw [if_pos c19] at H; have c19b0 := decide_eq_true c19; clear c19
                by_cases c20 : x7_1 < (l0.length : Int)
                ·
                 rw [if_pos c20] at H; have c20b0 := decide_eq_true c20; clear c20; replace H := Option.bind_eq_some_iff.mp H; obtain ⟨t298, A210, H⟩ := H; replace H : (if t298 > 0 then (some (x7_1, 9)) else (r09_Check.l0 kj8 l0 (l0.length : Int) (wrap64 (x7_1 + 1)))) = some (r1, r2) := H; have A21 := zk A210; clear A210
                 by_cases c22 : t298 > 0
                 ·
                  rw [if_pos c22] at H; have c22b0 : decide (0 < t298) = true := decide_eq_true c22; clear c22; simp only [Option.some.injEq, Prod.mk.injEq] at H; obtain ⟨rfl, rfl⟩ := H; have p296 : 0 ≤ ((ji16) : Int) := zo (by assumption); have q296 : (ji16) < (l0.length : Int) := zo (by assumption); obtain ⟨ad296, e296, hx296_0, hx296_1⟩ := at_T39 HR0.out (ji16) p296 q296; obtain rfl : ad291 = ad296 := (by injection e296); replace p296 := eq_true p296; replace q296 := eq_true q296; have p297 : 0 ≤ (x7_1 : Int) := zo (by assumption); have q297 : x7_1 < (l0.length : Int) := zo (by assumption); obtain ⟨ad297, e297, hx297_0, hx297_1⟩ := at_T39 HR0.out x7_1 p297 q297; obtain rfl : ad291 = ad297 := (by injection e297); replace p297 := eq_true p297; replace q297 := eq_true q297
                  go_wp2_with (first | (go_at_call 40; (with_reducible refine (r02_Compare.calls kj8 ((rd_T39 l0 (ji16)).f0) ((rd_T39 l0 x7_1).f0) t298 _ A21.out).mono ?_); rintro e w' ⟨rfl, ⟨nd, rfl⟩⟩; (try first | exact ⟨rfl, _, World.drewN_drewN _ _ _⟩ | exact ⟨rfl, _, Eq.trans (World.drewN_drewN _ _ _) (congrArg (World.drewN _) (Nat.add_assoc _ _ _))⟩)))
                  repeat (go_quiet (first | (go_at_call 40; (with_reducible refine (r02_Compare.calls kj8 ((rd_T39 l0 (ji16)).f0) ((rd_T39 l0 x7_1).f0) t298 _ A21.out).mono ?_); rintro e w' ⟨rfl, ⟨nd, rfl⟩⟩; (try first | exact ⟨rfl, _, World.drewN_drewN _ _ _⟩ | exact ⟨rfl, _, Eq.trans (World.drewN_drewN _ _ _) (congrArg (World.drewN _) (Nat.add_assoc _ _ _))⟩))); try go_wp2_with (first | (go_at_call 40; (with_reducible refine (r02_Compare.calls kj8 ((rd_T39 l0 (ji16)).f0) ((rd_T39 l0 x7_1).f0) t298 _ A21.out).mono ?_); rintro e w' ⟨rfl, ⟨nd, rfl⟩⟩; (try first | exact ⟨rfl, _, World.drewN_drewN _ _ _⟩ | exact ⟨rfl, _, Eq.trans (World.drewN_drewN _ _ _) (congrArg (World.drewN _) (Nat.add_assoc _ _ _))⟩))))
                  go_ret2
                  exact ⟨by first | rfl | (simp; done) | (simp only [← hji16] <;> (first | rfl | simp)) | (simp [*]; done), by repeat (first | exact Drawn0.refl _ | apply Drawn0.step)⟩
                 ·
                  rw [if_neg c22] at H; have c22b0 : decide (0 < t298) = false := decide_eq_false c22; clear c22; have H' := zk H; clear H; have p296 : 0 ≤ ((ji16) : Int) := zo (by assumption); have q296 : (ji16) < (l0.length : Int) := zo (by assumption); obtain ⟨ad296, e296, hx296_0, hx296_1⟩ := at_T39 HR0.out (ji16) p296 q296; obtain rfl : ad291 = ad296 := (by injection e296); replace p296 := eq_true p296; replace q296 := eq_true q296; have p297 : 0 ≤ (x7_1 : Int) := zo (by assumption); have q297 : x7_1 < (l0.length : Int) := zo (by assumption); obtain ⟨ad297, e297, hx297_0, hx297_1⟩ := at_T39 HR0.out x7_1 p297 q297; obtain rfl : ad291 = ad297 := (by injection e297); replace p297 := eq_true p297; replace q297 := eq_true q297
                  go_wp2_with (first | (go_at_call 40; (with_reducible refine (r02_Compare.calls kj8 ((rd_T39 l0 (ji16)).f0) ((rd_T39 l0 x7_1).f0) t298 _ A21.out).mono ?_); rintro e w' ⟨rfl, ⟨nd, rfl⟩⟩; (try first | exact ⟨rfl, _, World.drewN_drewN _ _ _⟩ | exact ⟨rfl, _, Eq.trans (World.drewN_drewN _ _ _) (congrArg (World.drewN _) (Nat.add_assoc _ _ _))⟩)))
                  repeat (go_quiet (first | (go_at_call 40; (with_reducible refine (r02_Compare.calls kj8 ((rd_T39 l0 (ji16)).f0) ((rd_T39 l0 x7_1).f0) t298 _ A21.out).mono ?_); rintro e w' ⟨rfl, ⟨nd, rfl⟩⟩; (try first | exact ⟨rfl, _, World.drewN_drewN _ _ _⟩ | exact ⟨rfl, _, Eq.trans (World.drewN_drewN _ _ _) (congrArg (World.drewN _) (Nat.add_assoc _ _ _))⟩))); try go_wp2_with (first | (go_at_call 40; (with_reducible refine (r02_Compare.calls kj8 ((rd_T39 l0 (ji16)).f0) ((rd_T39 l0 x7_1).f0) t298 _ A21.out).mono ?_); rintro e w' ⟨rfl, ⟨nd, rfl⟩⟩; (try first | exact ⟨rfl, _, World.drewN_drewN _ _ _⟩ | exact ⟨rfl, _, Eq.trans (World.drewN_drewN _ _ _) (congrArg (World.drewN _) (Nat.add_assoc _ _ _))⟩))))
                  go_roundg kj8
                  case measure => have := HK1.out; have := HJ8.out; omega
                  case rel => exact ⟨(wrap64 (x7_1 + 1)), (by first | rfl | (simp; done) | (simp [*]; done)), H', ⟨by have := HK1.out; have := HJ8.out; omega⟩, by repeat (first | exact Drawn0.refl _ | apply Drawn0.step)⟩
                ·
                 rw [if_neg c20] at H; exact absurd H (by simp)
               ·
                rw [if_neg c19] at H; exact absurd H (by simp)
              ·
               rw [if_neg c18] at H; exact absurd H (by simp)
             ·
              rw [if_neg c17] at H; exact absurd H (by simp)
            ·
             rw [if_neg c15] at H; have c15b0 : decide (0 < x7_1) = false := decide_eq_false c15; clear c15; have H' := zk H; clear H; go_wp2
             repeat (go_quiet (fail); try go_wp2)
             go_roundg kj8
             case measure => have := HK1.out; have := HJ8.out; omega
             case rel => exact ⟨(wrap64 (x7_1 + 1)), (by first | rfl | (simp; done) | (simp [*]; done)), H', ⟨by have := HK1.out; have := HJ8.out; omega⟩, by repeat (first | exact Drawn0.refl _ | apply Drawn0.step)⟩
       ·
        replace c7 := Bool.eq_false_iff.mpr c7; subst c7
        have H1 : (some (x7_1, 8)) = some (r1, r2) := by rw [if_neg (show ¬ (false = true) by decide)] at H; exact H
        clear H; have H := H1; clear H1; simp only [Option.some.injEq, Prod.mk.injEq] at H; obtain ⟨rfl, rfl⟩ := H; have p291 : 0 ≤ (x7_1 : Int) := zo (by assumption); have q291 : x7_1 < (l0.length : Int) := zo (by assumption); obtain ⟨ad291, e291, hx291_0, hx291_1⟩ := at_T39 HR0.out x7_1 p291 q291; cases e291; replace p291 := eq_true p291; replace q291 := eq_true q291
        go_wp2_with (first | (go_at_call 34; (with_reducible refine (r02_Named.calls k1 ((rd_T39 l0 x7_1).f0) true false _ A6.out).mono ?_); rintro e w' ⟨rfl, ⟨nd, rfl⟩⟩; (try first | exact ⟨rfl, _, World.drewN_drewN _ _ _⟩ | exact ⟨rfl, _, Eq.trans (World.drewN_drewN _ _ _) (congrArg (World.drewN _) (Nat.add_assoc _ _ _))⟩)))
        repeat (go_quiet (first | (go_at_call 34; (with_reducible refine (r02_Named.calls k1 ((rd_T39 l0 x7_1).f0) true false _ A6.out).mono ?_); rintro e w' ⟨rfl, ⟨nd, rfl⟩⟩; (try first | exact ⟨rfl, _, World.drewN_drewN _ _ _⟩ | exact ⟨rfl, _, Eq.trans (World.drewN_drewN _ _ _) (congrArg (World.drewN _) (Nat.add_assoc _ _ _))⟩))); try go_wp2_with (first | (go_at_call 34; (with_reducible refine (r02_Named.calls k1 ((rd_T39 l0 x7_1).f0) true false _ A6.out).mono ?_); rintro e w' ⟨rfl, ⟨nd, rfl⟩⟩; (try first | exact ⟨rfl, _, World.drewN_drewN _ _ _⟩ | exact ⟨rfl, _, Eq.trans (World.drewN_drewN _ _ _) (congrArg (World.drewN _) (Nat.add_assoc _ _ _))⟩))))
        go_ret2
        exact ⟨by first | rfl | (simp; done) | (simp [*]; done), by repeat (first | exact Drawn0.refl _ | apply Drawn0.step)⟩
      ·
       rw [if_neg c5] at H; exact absurd H (by simp)
     ·
      rw [if_neg c4] at H; exact absurd H (by simp)
   ·
    rw [if_neg c2] at H; have c2b0 := decide_eq_false c2; clear c2; simp only [Option.some.injEq, Prod.mk.injEq] at H; obtain ⟨rfl, rfl⟩ := H; go_wp2
    repeat (go_quiet (fail); try go_wp2)
    go_ret2
    exact ⟨by first | rfl | (simp; done) | (simp [*]; done), by repeat (first | exact Drawn0.refl _ | apply Drawn0.step)⟩
def r11_Alone.f (k : Nat) (a0_0 : ByteArray) (a0_1 : ByteArray) (a0_2 : ByteArray) (l0_3 : List (S39)) (l0_4 : List (S54)) : Option (Int) := (r02_Named.f k a0_0 false).bind fun t300 => (if t300 = true then (if (a0_1.size : Int) > 65536 then (some 3) else (if (a0_2.size : Int) > 65536 then (some 3) else ((r09_Check.f k l0_3).bind fun bt301 => (some bt301.2)))) else (some 7))
set_option maxHeartbeats 8000000 in
set_option maxRecDepth 100000 in
theorem r11_Alone.calls (k : Nat) (a0_0 : ByteArray) (a0_1 : ByteArray) (a0_2 : ByteArray) (A0_3 : Option Addr) (c0_3 : Nat) (l0_3 : List (S39)) (A0_4 : Option Addr) (c0_4 : Nat) (l0_4 : List (S54)) (r : Int) (w : World) (hr0_3 : Kd.C k39 w A0_3 l0_3.length l0_3) (hc0_3 : l0_3.length ≤ c0_3) (hr0_4 : Kd.C k54 w A0_4 l0_4.length l0_4) (hc0_4 : l0_4.length ≤ c0_4) (h : r11_Alone.f k a0_0 a0_1 a0_2 l0_3 l0_4 = some r) :
    Calls Try.prog 28 #[.agg #[.string a0_0, .string a0_1, .string a0_2, .slice A0_3 l0_3.length c0_3, .slice A0_4 l0_4.length c0_4]] w fun e w' => e = .returned (.int .i64 r) ∧ Below w.heap.size w w' := by
  have hu54 := Try.underlying54; have HR0_3 := zk hr0_3; have HC0_3 := zk hc0_3; clear hr0_3 hc0_3; have HR0_4 := zk hr0_4; have HC0_4 := zk hc0_4; clear hr0_4 hc0_4; have HB := zk (Below.refl w.heap.size w); have H : ((r02_Named.f k a0_0 false).bind fun t300 => (if t300 = true then (if (a0_1.size : Int) > 65536 then (some 3) else (if (a0_2.size : Int) > 65536 then (some 3) else ((r09_Check.f k l0_3).bind fun bt301 => (some bt301.2)))) else (some 7))) = some r := h; clear h; replace H := Option.bind_eq_some_iff.mp H; obtain ⟨t300, A20, H⟩ := H; replace H : (if t300 = true then (if (a0_1.size : Int) > 65536 then (some 3) else (if (a0_2.size : Int) > 65536 then (some 3) else ((r09_Check.f k l0_3).bind fun bt301 => (some bt301.2)))) else (some 7)) = some r := H; have A2 := zk A20; clear A20
  by_cases c3 : t300 = true
  · subst c3
    have H1 : (if (a0_1.size : Int) > 65536 then (some 3) else (if (a0_2.size : Int) > 65536 then (some 3) else ((r09_Check.f k l0_3).bind fun bt301 => (some bt301.2)))) = some r := by rw [if_pos rfl] at H; exact H
    clear H
    have H := H1
    clear H1
    by_cases c4 : (a0_1.size : Int) > 65536
    · rw [if_pos c4] at H
      have c4b0 : decide (65536 < (a0_1.size : Int)) = true := decide_eq_true c4
      have c4b1 : decide (65536 < a0_1.size) = true := decide_eq_true (by omega)
      clear c4
      obtain rfl := Option.some.inj H
      go_enter Try.func28, Try.ntmps28
      go_wp2_with (first | ((with_reducible refine zgd (N := 1) rfl ?_); (try (refine zgg (by rfl) ?_; dsimp only)); refine zb ?hg (N := 1) ?hd (cs := #[.string a0_0, .string a0_1, .string a0_2, .slice A0_3 l0_3.length c0_3, .slice A0_4 l0_4.length c0_4]) (t := 54) ?hr ?_; (case hd => rfl); (case hg => rfl); (case hr => go_simp; first | done | rfl); intro gb299 hg w5 hbox hb; have n0_ := zk (zs (by with_reducible repeat first | exact HB.out | apply zA | apply zN | apply zD) hb); have n1_ := zk (hbox); have n2_ := zk ((by rw [hg]; exact (zq (by with_reducible repeat first | exact HB.out | apply zA | apply zN | apply zD)) : w.heap.size ≤ gb299)); have n3_ := n2_; clear HB; have HB := n0_; have BK299 := n1_; have GW299 := n2_; have GE299 := n3_; clear n0_ n1_ n2_ n3_; clear hb hbox hg; obtain ⟨hcz6_0, hcz6_1, hcz6_2, hcz6_3, hcz6_4, hfz6_0, hfz6_1, hfz6_2, hfz6_3, hfz6_4⟩ := zc5 BK299.out) | ((with_reducible refine zgk (f := 34) rfl ?_); refine zgl (some 7) rfl rfl Try.func34 (by kernel_rfl) rfl #[.string a0_0, .bool false] rfl (by (try simp only [List.map_toArray, List.map_cons, List.map_nil]); first | done | rfl | (simp only [List.length_drop, List.length_take]; rfl)) ?_; (with_reducible refine (r02_Named.calls k a0_0 false true _ A2.out).mono ?_); rintro e w' ⟨rfl, ⟨nd, rfl⟩⟩; refine ⟨_, rfl, ?_⟩))
      go_ret
      exact ⟨by first | rfl | (simp [wN, wS] <;> rfl) | (simp [*, wN, wS] <;> rfl), by with_reducible repeat first | exact HB.out | apply zA | apply zN | apply zD | refine zS ?_ GE299.out⟩
    · rw [if_neg c4] at H
      have c4b0 : decide (65536 < (a0_1.size : Int)) = false := decide_eq_false c4
      have c4b1 : decide (65536 < a0_1.size) = false := decide_eq_false (by omega)
      clear c4
      by_cases c7 : (a0_2.size : Int) > 65536
      · rw [if_pos c7] at H
        have c7b0 : decide (65536 < (a0_2.size : Int)) = true := decide_eq_true c7
        have c7b1 : decide (65536 < a0_2.size) = true := decide_eq_true (by omega)
        clear c7
        obtain rfl := Option.some.inj H
        go_enter Try.func28, Try.ntmps28
        go_wp2_with (first | ((with_reducible refine zgd (N := 1) rfl ?_); (try (refine zgg (by rfl) ?_; dsimp only)); refine zb ?hg (N := 1) ?hd (cs := #[.string a0_0, .string a0_1, .string a0_2, .slice A0_3 l0_3.length c0_3, .slice A0_4 l0_4.length c0_4]) (t := 54) ?hr ?_; (case hd => rfl); (case hg => rfl); (case hr => go_simp; first | done | rfl); intro gb299 hg w8 hbox hb; have n0_ := zk (zs (by with_reducible repeat first | exact HB.out | apply zA | apply zN | apply zD) hb); have n1_ := zk (hbox); have n2_ := zk ((by rw [hg]; exact (zq (by with_reducible repeat first | exact HB.out | apply zA | apply zN | apply zD)) : w.heap.size ≤ gb299)); have n3_ := n2_; clear HB; have HB := n0_; have BK299 := n1_; have GW299 := n2_; have GE299 := n3_; clear n0_ n1_ n2_ n3_; clear hb hbox hg; obtain ⟨hcz9_0, hcz9_1, hcz9_2, hcz9_3, hcz9_4, hfz9_0, hfz9_1, hfz9_2, hfz9_3, hfz9_4⟩ := zc5 BK299.out) | ((with_reducible refine zgk (f := 34) rfl ?_); refine zgl (some 7) rfl rfl Try.func34 (by kernel_rfl) rfl #[.string a0_0, .bool false] rfl (by (try simp only [List.map_toArray, List.map_cons, List.map_nil]); first | done | rfl | (simp only [List.length_drop, List.length_take]; rfl)) ?_; (with_reducible refine (r02_Named.calls k a0_0 false true _ A2.out).mono ?_); rintro e w' ⟨rfl, ⟨nd, rfl⟩⟩; refine ⟨_, rfl, ?_⟩))
        go_ret
        exact ⟨by first | rfl | (simp [wN, wS] <;> rfl) | (simp [*, wN, wS] <;> rfl), by with_reducible repeat first | exact HB.out | apply zA | apply zN | apply zD | refine zS ?_ GE299.out⟩
      · rw [if_neg c7] at H
        have c7b0 : decide (65536 < (a0_2.size : Int)) = false := decide_eq_false c7
        have c7b1 : decide (65536 < a0_2.size) = false := decide_eq_false (by omega)
        clear c7
        replace H := Option.bind_eq_some_iff.mp H
        obtain ⟨⟨t301, t302⟩, A100, H⟩ := H
        replace H : (some t302) = some r := H
        have A10 := zk A100
        clear A100
        obtain rfl := Option.some.inj H
        go_enter Try.func28, Try.ntmps28
        go_wp2_with (first | ((with_reducible refine zgd (N := 1) rfl ?_); (try (refine zgg (by rfl) ?_; dsimp only)); refine zb ?hg (N := 1) ?hd (cs := #[.string a0_0, .string a0_1, .string a0_2, .slice A0_3 l0_3.length c0_3, .slice A0_4 l0_4.length c0_4]) (t := 54) ?hr ?_; (case hd => rfl); (case hg => rfl); (case hr => go_simp; first | done | rfl); intro gb299 hg w11 hbox hb; have n0_ := zk (zs (by with_reducible repeat first | exact HB.out | apply zA | apply zN | apply zD) hb); have n1_ := zk (hbox); have n2_ := zk ((by rw [hg]; exact (zq (by with_reducible repeat first | exact HB.out | apply zA | apply zN | apply zD)) : w.heap.size ≤ gb299)); have n3_ := n2_; clear HB; have HB := n0_; have BK299 := n1_; have GW299 := n2_; have GE299 := n3_; clear n0_ n1_ n2_ n3_; clear hb hbox hg; obtain ⟨hcz12_0, hcz12_1, hcz12_2, hcz12_3, hcz12_4, hfz12_0, hfz12_1, hfz12_2, hfz12_3, hfz12_4⟩ := zc5 BK299.out) | ((with_reducible refine zgk (f := 34) rfl ?_); refine zgl (some 7) rfl rfl Try.func34 (by kernel_rfl) rfl #[.string a0_0, .bool false] rfl (by (try simp only [List.map_toArray, List.map_cons, List.map_nil]); first | done | rfl | (simp only [List.length_drop, List.length_take]; rfl)) ?_; (with_reducible refine (r02_Named.calls k a0_0 false true _ A2.out).mono ?_); rintro e w' ⟨rfl, ⟨nd, rfl⟩⟩; refine ⟨_, rfl, ?_⟩) | ((with_reducible refine zgk (f := 35) rfl ?_); refine zgl (some 22) rfl rfl Try.func35 (by kernel_rfl) rfl #[.slice A0_3 l0_3.length c0_3] rfl (by (try simp only [List.map_toArray, List.map_cons, List.map_nil]); first | done | rfl | (simp only [List.length_drop, List.length_take]; rfl)) ?_; (with_reducible refine (r09_Check.calls k _ _ l0_3 t301 t302 _ ?side1 ?side2 A10.out).mono ?_); (case side1 => repeat (first | exact (Kd.C_below HR0_3.out (by with_reducible repeat first | exact HB.out | apply zA | apply zN | apply zD | refine zS ?_ GE299.out)) | (with_reducible refine Kd.C_alloc ?_ _) | (with_reducible refine Kd.C_drewN ?_ _) | (with_reducible refine Kd.C_drew ?_))); (case side2 => exact HC0_3.out); rintro e w' ⟨rfl, ⟨nd, rfl⟩⟩; refine ⟨_, rfl, ?_⟩))
        go_ret
        exact ⟨by first | rfl | (simp [wN, wS] <;> rfl) | (simp [*, wN, wS] <;> rfl), by with_reducible repeat first | exact HB.out | apply zA | apply zN | apply zD | refine zS ?_ GE299.out⟩
  · replace c3 := Bool.eq_false_iff.mpr c3
    subst c3
    have H1 : (some 7) = some r := by rw [if_neg (show ¬ (false = true) by decide)] at H; exact H
    clear H
    have H := H1
    clear H1
    obtain rfl := Option.some.inj H
    go_enter Try.func28, Try.ntmps28
    go_wp2_with (first | ((with_reducible refine zgd (N := 1) rfl ?_); (try (refine zgg (by rfl) ?_; dsimp only)); refine zb ?hg (N := 1) ?hd (cs := #[.string a0_0, .string a0_1, .string a0_2, .slice A0_3 l0_3.length c0_3, .slice A0_4 l0_4.length c0_4]) (t := 54) ?hr ?_; (case hd => rfl); (case hg => rfl); (case hr => go_simp; first | done | rfl); intro gb299 hg w13 hbox hb; have n0_ := zk (zs (by with_reducible repeat first | exact HB.out | apply zA | apply zN | apply zD) hb); have n1_ := zk (hbox); have n2_ := zk ((by rw [hg]; exact (zq (by with_reducible repeat first | exact HB.out | apply zA | apply zN | apply zD)) : w.heap.size ≤ gb299)); have n3_ := n2_; clear HB; have HB := n0_; have BK299 := n1_; have GW299 := n2_; have GE299 := n3_; clear n0_ n1_ n2_ n3_; clear hb hbox hg; obtain ⟨hcz14_0, hcz14_1, hcz14_2, hcz14_3, hcz14_4, hfz14_0, hfz14_1, hfz14_2, hfz14_3, hfz14_4⟩ := zc5 BK299.out) | ((with_reducible refine zgk (f := 34) rfl ?_); refine zgl (some 7) rfl rfl Try.func34 (by kernel_rfl) rfl #[.string a0_0, .bool false] rfl (by (try simp only [List.map_toArray, List.map_cons, List.map_nil]); first | done | rfl | (simp only [List.length_drop, List.length_take]; rfl)) ?_; (with_reducible refine (r02_Named.calls k a0_0 false false _ A2.out).mono ?_); rintro e w' ⟨rfl, ⟨nd, rfl⟩⟩; refine ⟨_, rfl, ?_⟩))
    go_ret
    exact ⟨by first | rfl | (simp [wN, wS] <;> rfl) | (simp [*, wN, wS] <;> rfl), by with_reducible repeat first | exact HB.out | apply zA | apply zN | apply zD | refine zS ?_ GE299.out⟩
end Go.Proofs.Ytelacebdmmanhaa.G
namespace Go.Proofs.Ytelacebdmmanhaa.G
open Go.RowKit Go.Proofs.YtelacebdmmanhaaW.PrintWords Go.Proofs.YtelacebdmmanhaaW.PrintLast Go.Proofs.YtelacebdmmanhaaW.PrintMore
set_option linter.unusedVariables false
set_option maxHeartbeats 1000000 in
set_option maxRecDepth 100000 in
theorem stringslite_IndexByte (s : ByteArray) (c : Int) (w : World) :
    Calls Try.prog 59 #[.string s, .int .u8 c] w fun e w' => e = .returned (.int .i64 (Lib.indexByte s.data.toList c.toNat.toUInt8)) ∧ w' = w := by
  go_enter Try.func59, Try.ntmps59
  go_wp2; rw [run_callFunc_extern Try.func60 (by kernel_rfl) (by kernel_rfl) (by kernel_rfl) (e := Extern.BytealgIndexByte.indexByte) (by kernel_rfl), Lib.run_indexByteString]; simp only [Result.andThen]; rw [Oper.upon_value]; go_wp2; go_ret; exact ⟨rfl, rfl⟩
def strings_IndexByte.f (a0 : ByteArray) (a1 : Int) : Option Int := some (Lib.indexByte a0.data.toList a1.toNat.toUInt8)
set_option maxHeartbeats 1000000 in
theorem strings_IndexByte.calls (a0 : ByteArray) (a1 : Int) (r : Int) (w : World) (h : strings_IndexByte.f a0 a1 = some r) :
    Calls Try.prog 58 #[.string a0, .int .u8 a1] w fun e w' => e = .returned (.int .i64 r) ∧ Drawn0 w w' := by
  obtain rfl : _ = r := Option.some.inj h
  go_enter Try.func58, Try.ntmps58
  go_wp2_with (go_at_call 59; refine (stringslite_IndexByte _ _ _).mono ?_; rintro e w' ⟨rfl, rfl⟩)
  go_ret; exact ⟨rfl, ⟨0, rfl⟩⟩
end Go.Proofs.Ytelacebdmmanhaa.G
namespace Go.Proofs.Ytelacebdmmanhaa.G
open Go.RowKit Go.Proofs.YtelacebdmmanhaaW.PrintWords Go.Proofs.YtelacebdmmanhaaW.PrintLast Go.Proofs.YtelacebdmmanhaaW.PrintMore
attribute [local go_sem] max2_int min2_int max_two min_two max_three min_three max_four min_four
set_option linter.unusedVariables false
set_option linter.unusedSimpArgs false
def chars_small.f (a0 : Int) : Option (Bool) := if a0 ≥ 97 then (some (decide (a0 ≤ 122))) else (some false)
set_option maxHeartbeats 8000000 in
set_option maxRecDepth 100000 in
theorem chars_small.calls (a0 : Int) (r : Bool) (w : World) (h : chars_small.f a0 = some r) :
    Calls Try.prog 57 #[.int .u8 a0] w fun e w' => e = .returned (.bool r) ∧ Drawn0 w w' := by
  have H : (if a0 ≥ 97 then (some (decide (a0 ≤ 122))) else (some false)) = some r := h; clear h
  by_cases c2 : a0 ≥ 97
  · rw [if_pos c2] at H
    have c2b0 : decide (97 ≤ a0) = true := decide_eq_true c2
    clear c2
    obtain rfl := Option.some.inj H
    go_enter Try.func57, Try.ntmps57
    go_wp2
    go_ret
    exact ⟨by first | rfl | (simp; done) | (simp [*]; done), by repeat (first | exact Drawn0.refl _ | apply Drawn0.step)⟩
  · rw [if_neg c2] at H
    have c2b0 : decide (97 ≤ a0) = false := decide_eq_false c2
    clear c2
    obtain rfl := Option.some.inj H
    go_enter Try.func57, Try.ntmps57
    go_wp2
    go_ret
    exact ⟨by first | rfl | (simp; done) | (simp [*]; done), by repeat (first | exact Drawn0.refl _ | apply Drawn0.step)⟩
mutual
def chars_named.j0 : Nat → ByteArray → ByteArray → Bool → Option (Bool)
 | 0, _, _, _ => none
 | k + 1, x0, x1, x19 => if x19 = true then (some false) else (chars_named.l0 k x0 x1 (x0.size : Int) 0)
def chars_named.l0 : Nat → ByteArray → ByteArray → Int → Int → Option (Bool)
 | 0, _, _, _, _ => none
 | k + 1, x0, x1, x21, x22 => if x22 < x21 then (if 0 ≤ x22 then (if x22 < (x0.size : Int) then ((chars_small.f (bt x0 x22)).bind fun t102 => (if t102 = true then (chars_named.l0 k x0 x1 x21 (wrap64 (x22 + 1))) else (if (bt x0 x22) < 48 then ((strings_IndexByte.f x1 (bt x0 x22)).bind fun t103 => (if t103 < 0 then (some false) else (chars_named.l0 k x0 x1 x21 (wrap64 (x22 + 1))))) else (if (bt x0 x22) > 57 then ((strings_IndexByte.f x1 (bt x0 x22)).bind fun t104 => (if t104 < 0 then (some false) else (chars_named.l0 k x0 x1 x21 (wrap64 (x22 + 1))))) else (chars_named.l0 k x0 x1 x21 (wrap64 (x22 + 1))))))) else (none)) else (none)) else (some true)
end
def chars_named.f (k : Nat) (a0 : ByteArray) (a1 : ByteArray) : Option (Bool) := if a0.toList = ([] : List UInt8) then (chars_named.j0 k a0 a1 true) else (if (a0.size : Int) > 32 then (chars_named.j0 k a0 a1 true) else (if 0 < (a0.size : Int) then ((chars_small.f (bt a0 0)).bind fun t101 => (chars_named.j0 k a0 a1 (!t101))) else (none)))
theorem chars_named.mono_l : ∀ k, (∀ y0 y1 y2, LeO (chars_named.j0 k y0 y1 y2) (chars_named.j0 (k + 1) y0 y1 y2)) ∧ (∀ y0 y1 y2 y3, LeO (chars_named.l0 k y0 y1 y2 y3) (chars_named.l0 (k + 1) y0 y1 y2 y3))
 | 0 => ⟨fun _ _ _ r h => by simp [chars_named.j0] at h, fun _ _ _ _ r h => by simp [chars_named.l0] at h⟩
 | k + 1 => by
  obtain ⟨ih0, ih1⟩ := chars_named.mono_l k
  refine ⟨?_, ?_⟩
  ·
   intro y0 y1 y2
   unfold chars_named.j0
   with_reducible repeat' first | exact ih0 _ _ _ | exact ih1 _ _ _ _ | exact LeO.refl _ | exact LeO.none _ | refine LeO.ite ?_ ?_ | refine LeO.bind ?_ (fun _ => ?_)
  ·
   intro y0 y1 y2 y3
   unfold chars_named.l0
   with_reducible repeat' first | exact ih0 _ _ _ | exact ih1 _ _ _ _ | exact LeO.refl _ | exact LeO.none _ | refine LeO.ite ?_ ?_ | refine LeO.bind ?_ (fun _ => ?_)
theorem chars_named.mono : ∀ a0 a1 k, LeO (chars_named.f k a0 a1) (chars_named.f (k + 1) a0 a1) := by
 intro a0 a1 k
 obtain ⟨ih0, ih1⟩ := chars_named.mono_l k
 unfold chars_named.f
 with_reducible repeat' first | exact ih0 _ _ _ | exact ih1 _ _ _ _ | exact LeO.refl _ | exact LeO.none _ | refine LeO.ite ?_ ?_ | refine LeO.bind ?_ (fun _ => ?_)
set_option maxHeartbeats 8000000 in
set_option maxRecDepth 100000 in
theorem chars_named.calls (k : Nat) (a0 : ByteArray) (a1 : ByteArray) (r : Bool) (w : World) (h : chars_named.f k a0 a1 = some r) :
  Calls Try.prog 55 #[.string a0, .string a1] w fun e w' => e = .returned (.bool r) ∧ Drawn0 w w' := by
 have H : (if a0.toList = ([] : List UInt8) then (chars_named.j0 k a0 a1 true) else (if (a0.size : Int) > 32 then (chars_named.j0 k a0 a1 true) else (if 0 < (a0.size : Int) then ((chars_small.f (bt a0 0)).bind fun t101 => (chars_named.j0 k a0 a1 (!t101))) else (none)))) = some r := h
 clear h
 have HC3 := zk H
 clear H
 go_enter Try.func55, Try.ntmps55
 go_upto_region 1 with (fail)
 go_cut [19] (fun v19 wc => ∃ (kq : Nat) (x19_2 : Bool), v19 = .bool x19_2 ∧ Aside0 (chars_named.j0 kq a0 a1 x19_2 = some r) ∧ Aside0 (kq ≤ k) ∧ Drawn0 w wc)
 case first =>
  have H := HC3.out; clear HC3
  by_cases c4 : a0.toList = ([] : List UInt8)
  ·
   rw [if_pos c4] at H; have c4b0 := beq_iff_eq.mpr c4; have c4b1 := bne_eq_false_iff_eq.mpr c4; clear c4
   (first | rw [c4b0] | (simp only [i64_w, i32_w]; rw [c4b0]) | skip)
   have H' := zk H; clear H; go_wp2
   go_meet
   case rel => exact ⟨_, (true), (by first | rfl | (simp; done) | (simp [*]; done)), H', ⟨by first | omega | exact Nat.le_refl _⟩, by repeat (first | exact Drawn0.refl _ | apply Drawn0.step)⟩
  ·
   rw [if_neg c4] at H; have c4b0 := beq_eq_false_iff_ne.mpr c4; have c4b1 := bne_iff_ne.mpr c4
   (first | rw [c4b0] | (simp only [i64_w, i32_w]; rw [c4b0]) | skip)
   by_cases c5 : (a0.size : Int) > 32
   ·
    rw [if_pos c5] at H; have c5b0 : decide (32 < (a0.size : Int)) = true := decide_eq_true c5; have c5b1 : decide (32 < a0.size) = true := decide_eq_true (by omega); clear c5; have H' := zk H; clear H; go_wp2
    go_meet
    case rel => exact ⟨_, (true), (by first | rfl | (simp; done) | (simp [*]; done)), H', ⟨by first | omega | exact Nat.le_refl _⟩, by repeat (first | exact Drawn0.refl _ | apply Drawn0.step)⟩
   ·
    rw [if_neg c5] at H; have c5b0 : decide (32 < (a0.size : Int)) = false := decide_eq_false c5; have c5b1 : decide (32 < a0.size) = false := decide_eq_false (by omega); clear c5
    by_cases c6 : 0 < (a0.size : Int)
    ·
     rw [if_pos c6] at H; have c6b0 := decide_eq_true c6; have c6b1 : decide (0 < a0.size) = true := decide_eq_true (by omega); clear c6; replace H := Option.bind_eq_some_iff.mp H; obtain ⟨t101, A80, H⟩ := H; replace H : (chars_named.j0 k a0 a1 (!t101)) = some r := H; have A8 := zk A80; clear A80; have H' := zk H; clear H; have p7 : 0 ≤ (0 : Int) := (by omega); have q7 : 0 < a0.size := (by have : (0 : Int) < (a0.size : Int) := zo (by assumption); omega); have hx7 : ∀ h : 0 < a0.size, ((a0[0]'h).toNat : Int) = bt a0 0 := bt_at a0 0; clear p7; have qi7 : (0 < (a0.size : Int)) = True := eq_true (zo (by assumption)); replace q7 := eq_true q7
     go_wp2_with (first | (go_at_call 57; (with_reducible refine (chars_small.calls (bt a0 0) t101 _ A8.out).mono ?_); rintro e w' ⟨rfl, ⟨nd, rfl⟩⟩))
     go_meet
     case rel => exact ⟨_, (!t101), (by first | rfl | (simp; done) | (simp [*]; done)), H', ⟨by first | omega | exact Nat.le_refl _⟩, by repeat (first | exact Drawn0.refl _ | apply Drawn0.step)⟩
    ·
     rw [if_neg c6] at H; exact absurd H (by simp)
 case rest =>
  clear HC3; (try clear p2); (try clear c4); (try clear c4b0); (try clear c4b1); (try clear c5); (try clear c5b0); (try clear c5b1); (try clear c6); (try clear c6b0); (try clear c6b1); (try clear p7); (try clear q7); (try clear hx7); (try clear qi7); (try clear p7); (try clear q7); obtain ⟨kq, x19_2, rfl, HA, HJ2, ⟨mc2, rfl⟩⟩ := hcut
  cases kq with
  | zero => exact absurd HA.out (by simp [chars_named.j0])
  | succ kj2 =>
   have H := HA.out; clear HA; simp only [chars_named.j0] at H
   by_cases c9 : x19_2 = true
   ·
    subst c9
    have H1 : (some false) = some r := by rw [if_pos rfl] at H; exact H
    clear H; have H := H1; clear H1; obtain rfl := Option.some.inj H; go_wp2; go_ret; exact ⟨by first | rfl | (simp; done) | (simp [*]; done), by repeat (first | exact Drawn0.refl _ | apply Drawn0.step)⟩
   ·
    replace c9 := Bool.eq_false_iff.mpr c9; subst c9
    have H1 : (chars_named.l0 kj2 a0 a1 (a0.size : Int) 0) = some r := by rw [if_neg (show ¬ (false = true) by decide)] at H; exact H
    clear H; have H := H1; clear H1; have H' := zk H; clear H; go_wp2
    go_loopg [22] kj2 (fun kq v22 w' => ∃ (x22_2 : Int), v22 = .int .i64 x22_2 ∧ Aside0 (chars_named.l0 kq a0 a1 (a0.size : Int) x22_2 = some r) ∧ Aside0 (kq ≤ kj2) ∧ Drawn0 w w')
    case atStart => exact ⟨(0), (by first | rfl | (simp; done) | (simp [*]; done)), H', ⟨Nat.le_refl _⟩, by repeat (first | exact Drawn0.refl _ | apply Drawn0.step)⟩
    case round =>
     clear H'; (try clear c2); (try clear p2); (try clear c4); (try clear c4b0); (try clear c4b1); (try clear c5); (try clear c5b0); (try clear c5b1); (try clear c6); (try clear c6b0); (try clear c6b1); (try clear p7); (try clear q7); (try clear hx7); (try clear qi7); (try clear c9); (try clear p2); (try clear p7); (try clear q7); obtain ⟨x22_2, rfl, HA, HK2, ⟨m2, rfl⟩⟩ := hrel
     cases gk with
     | zero => exact absurd HA.out (by simp [chars_named.l0])
     | succ k2 =>
      have H := HA.out; clear HA; simp only [chars_named.l0] at H
      by_cases c10 : x22_2 < (a0.size : Int)
      ·
       rw [if_pos c10] at H; have c10b0 := decide_eq_true c10; clear c10
       by_cases c11 : 0 ≤ x22_2
       ·
        rw [if_pos c11] at H; have c11b0 := decide_eq_true c11; clear c11
        by_cases c12 : x22_2 < (a0.size : Int)
        ·
         rw [if_pos c12] at H; have c12b0 := decide_eq_true c12; clear c12; replace H := Option.bind_eq_some_iff.mp H; obtain ⟨t102, A140, H⟩ := H; replace H : (if t102 = true then (chars_named.l0 k2 a0 a1 (a0.size : Int) (wrap64 (x22_2 + 1))) else (if (bt a0 x22_2) < 48 then ((strings_IndexByte.f a1 (bt a0 x22_2)).bind fun t103 => (if t103 < 0 then (some false) else (chars_named.l0 k2 a0 a1 (a0.size : Int) (wrap64 (x22_2 + 1))))) else (if (bt a0 x22_2) > 57 then ((strings_IndexByte.f a1 (bt a0 x22_2)).bind fun t104 => (if t104 < 0 then (some false) else (chars_named.l0 k2 a0 a1 (a0.size : Int) (wrap64 (x22_2 + 1))))) else (chars_named.l0 k2 a0 a1 (a0.size : Int) (wrap64 (x22_2 + 1)))))) = some r := H; have A14 := zk A140; clear A140
         by_cases c15 : t102 = true
         ·
          subst c15
          have H1 : (chars_named.l0 k2 a0 a1 (a0.size : Int) (wrap64 (x22_2 + 1))) = some r := by rw [if_pos rfl] at H; exact H
          clear H; have H := H1; clear H1; have H' := zk H; clear H; have p13 : 0 ≤ (x22_2 : Int) := zo (by assumption); have q13 : x22_2 < (a0.size : Int) := zo (by assumption); have hx13 := bt_at a0 x22_2; replace p13 := eq_true p13; replace q13 := eq_true q13
          go_wp2_with (first | ((with_reducible refine zgk (f := 57) rfl ?_); refine zgl (some 29) rfl rfl Try.func57 (by kernel_rfl) rfl #[.int .u8 (bt a0 x22_2)] rfl (by (try simp only [List.map_toArray, List.map_cons, List.map_nil]); first | done | rfl | (simp only [List.length_drop, List.length_take]; rfl)) ?_; (with_reducible refine (chars_small.calls (bt a0 x22_2) true _ A14.out).mono ?_); rintro e w' ⟨rfl, ⟨nd, rfl⟩⟩; refine ⟨_, rfl, ?_⟩))
          go_roundg k2
          case measure => have := HJ2.out; have := HK2.out; omega
          case rel => exact ⟨(wrap64 (x22_2 + 1)), (by first | rfl | (simp; done) | (simp [*]; done)), H', ⟨by have := HJ2.out; have := HK2.out; omega⟩, by repeat (first | exact Drawn0.refl _ | apply Drawn0.step)⟩
         ·
          replace c15 := Bool.eq_false_iff.mpr c15; subst c15
          have H1 : (if (bt a0 x22_2) < 48 then ((strings_IndexByte.f a1 (bt a0 x22_2)).bind fun t103 => (if t103 < 0 then (some false) else (chars_named.l0 k2 a0 a1 (a0.size : Int) (wrap64 (x22_2 + 1))))) else (if (bt a0 x22_2) > 57 then ((strings_IndexByte.f a1 (bt a0 x22_2)).bind fun t104 => (if t104 < 0 then (some false) else (chars_named.l0 k2 a0 a1 (a0.size : Int) (wrap64 (x22_2 + 1))))) else (chars_named.l0 k2 a0 a1 (a0.size : Int) (wrap64 (x22_2 + 1))))) = some r := by rw [if_neg (show ¬ (false = true) by decide)] at H; exact H
          clear H; have H := H1; clear H1
          by_cases c16 : (bt a0 x22_2) < 48
          ·
           rw [if_pos c16] at H; have c16b0 := decide_eq_true c16; clear c16; replace H := Option.bind_eq_some_iff.mp H; obtain ⟨t103, A170, H⟩ := H; replace H : (if t103 < 0 then (some false) else (chars_named.l0 k2 a0 a1 (a0.size : Int) (wrap64 (x22_2 + 1)))) = some r := H; have A17 := zk A170; clear A170
           by_cases c18 : t103 < 0
           ·
            rw [if_pos c18] at H; have c18b0 := decide_eq_true c18; clear c18; obtain rfl := Option.some.inj H; have p13 : 0 ≤ (x22_2 : Int) := zo (by assumption); have q13 : x22_2 < (a0.size : Int) := zo (by assumption); have hx13 := bt_at a0 x22_2; replace p13 := eq_true p13; replace q13 := eq_true q13
            go_wp2_with (first | ((with_reducible refine zgk (f := 57) rfl ?_); refine zgl (some 29) rfl rfl Try.func57 (by kernel_rfl) rfl #[.int .u8 (bt a0 x22_2)] rfl (by (try simp only [List.map_toArray, List.map_cons, List.map_nil]); first | done | rfl | (simp only [List.length_drop, List.length_take]; rfl)) ?_; (with_reducible refine (chars_small.calls (bt a0 x22_2) false _ A14.out).mono ?_); rintro e w' ⟨rfl, ⟨nd, rfl⟩⟩; refine ⟨_, rfl, ?_⟩) | (go_at_call 58; (with_reducible refine (strings_IndexByte.calls a1 (bt a0 x22_2) t103 _ A17.out).mono ?_); rintro e w' ⟨rfl, ⟨nd, rfl⟩⟩))
            go_ret; exact ⟨by first | rfl | (simp; done) | (simp [*]; done), by repeat (first | exact Drawn0.refl _ | apply Drawn0.step)⟩
           ·
            rw [if_neg c18] at H; have c18b0 := decide_eq_false c18; clear c18; have H' := zk H; clear H; have p13 : 0 ≤ (x22_2 : Int) := zo (by assumption); have q13 : x22_2 < (a0.size : Int) := zo (by assumption); have hx13 := bt_at a0 x22_2; replace p13 := eq_true p13; replace q13 := eq_true q13
            go_wp2_with (first | ((with_reducible refine zgk (f := 57) rfl ?_); refine zgl (some 29) rfl rfl Try.func57 (by kernel_rfl) rfl #[.int .u8 (bt a0 x22_2)] rfl (by (try simp only [List.map_toArray, List.map_cons, List.map_nil]); first | done | rfl | (simp only [List.length_drop, List.length_take]; rfl)) ?_; (with_reducible refine (chars_small.calls (bt a0 x22_2) false _ A14.out).mono ?_); rintro e w' ⟨rfl, ⟨nd, rfl⟩⟩; refine ⟨_, rfl, ?_⟩) | (go_at_call 58; (with_reducible refine (strings_IndexByte.calls a1 (bt a0 x22_2) t103 _ A17.out).mono ?_); rintro e w' ⟨rfl, ⟨nd, rfl⟩⟩))
            go_roundg k2
            case measure => have := HJ2.out; have := HK2.out; omega
            case rel => exact ⟨(wrap64 (x22_2 + 1)), (by first | rfl | (simp; done) | (simp [*]; done)), H', ⟨by have := HJ2.out; have := HK2.out; omega⟩, by repeat (first | exact Drawn0.refl _ | apply Drawn0.step)⟩
          ·
           rw [if_neg c16] at H; have c16b0 := decide_eq_false c16; clear c16
           by_cases c19 : (bt a0 x22_2) > 57
           ·
            rw [if_pos c19] at H; have c19b0 : decide (57 < (bt a0 x22_2)) = true := decide_eq_true c19; clear c19; replace H := Option.bind_eq_some_iff.mp H; obtain ⟨t104, A200, H⟩ := H; replace H : (if t104 < 0 then (some false) else (chars_named.l0 k2 a0 a1 (a0.size : Int) (wrap64 (x22_2 + 1)))) = some r := H; have A20 := zk A200; clear A200
            by_cases c21 : t104 < 0
            ·
             rw [if_pos c21] at H; have c21b0 := decide_eq_true c21; clear c21; obtain rfl := Option.some.inj H; have p13 : 0 ≤ (x22_2 : Int) := zo (by assumption); have q13 : x22_2 < (a0.size : Int) := zo (by assumption); have hx13 := bt_at a0 x22_2; replace p13 := eq_true p13; replace q13 := eq_true q13
             go_wp2_with (first | ((with_reducible refine zgk (f := 57) rfl ?_); refine zgl (some 29) rfl rfl Try.func57 (by kernel_rfl) rfl #[.int .u8 (bt a0 x22_2)] rfl (by (try simp only [List.map_toArray, List.map_cons, List.map_nil]); first | done | rfl | (simp only [List.length_drop, List.length_take]; rfl)) ?_; (with_reducible refine (chars_small.calls (bt a0 x22_2) false _ A14.out).mono ?_); rintro e w' ⟨rfl, ⟨nd, rfl⟩⟩; refine ⟨_, rfl, ?_⟩) | (go_at_call 58; (with_reducible refine (strings_IndexByte.calls a1 (bt a0 x22_2) t104 _ A20.out).mono ?_); rintro e w' ⟨rfl, ⟨nd, rfl⟩⟩))
             go_ret; exact ⟨by first | rfl | (simp; done) | (simp [*]; done), by repeat (first | exact Drawn0.refl _ | apply Drawn0.step)⟩
            ·
             rw [if_neg c21] at H; have c21b0 := decide_eq_false c21; clear c21; have H' := zk H; clear H; have p13 : 0 ≤ (x22_2 : Int) := zo (by assumption); have q13 : x22_2 < (a0.size : Int) := zo (by assumption); have hx13 := bt_at a0 x22_2; replace p13 := eq_true p13; replace q13 := eq_true q13
             go_wp2_with (first | ((with_reducible refine zgk (f := 57) rfl ?_); refine zgl (some 29) rfl rfl Try.func57 (by kernel_rfl) rfl #[.int .u8 (bt a0 x22_2)] rfl (by (try simp only [List.map_toArray, List.map_cons, List.map_nil]); first | done | rfl | (simp only [List.length_drop, List.length_take]; rfl)) ?_; (with_reducible refine (chars_small.calls (bt a0 x22_2) false _ A14.out).mono ?_); rintro e w' ⟨rfl, ⟨nd, rfl⟩⟩; refine ⟨_, rfl, ?_⟩) | (go_at_call 58; (with_reducible refine (strings_IndexByte.calls a1 (bt a0 x22_2) t104 _ A20.out).mono ?_); rintro e w' ⟨rfl, ⟨nd, rfl⟩⟩))
             go_roundg k2
             case measure => have := HJ2.out; have := HK2.out; omega
             case rel => exact ⟨(wrap64 (x22_2 + 1)), (by first | rfl | (simp; done) | (simp [*]; done)), H', ⟨by have := HJ2.out; have := HK2.out; omega⟩, by repeat (first | exact Drawn0.refl _ | apply Drawn0.step)⟩
           ·
            rw [if_neg c19] at H; have c19b0 : decide (57 < (bt a0 x22_2)) = false := decide_eq_false c19; clear c19; have H' := zk H; clear H; have p13 : 0 ≤ (x22_2 : Int) := zo (by assumption); have q13 : x22_2 < (a0.size : Int) := zo (by assumption); have hx13 := bt_at a0 x22_2; replace p13 := eq_true p13; replace q13 := eq_true q13
            go_wp2_with (first | ((with_reducible refine zgk (f := 57) rfl ?_); refine zgl (some 29) rfl rfl Try.func57 (by kernel_rfl) rfl #[.int .u8 (bt a0 x22_2)] rfl (by (try simp only [List.map_toArray, List.map_cons, List.map_nil]); first | done | rfl | (simp only [List.length_drop, List.length_take]; rfl)) ?_; (with_reducible refine (chars_small.calls (bt a0 x22_2) false _ A14.out).mono ?_); rintro e w' ⟨rfl, ⟨nd, rfl⟩⟩; refine ⟨_, rfl, ?_⟩))
            go_roundg k2
            case measure => have := HJ2.out; have := HK2.out; omega
            case rel => exact ⟨(wrap64 (x22_2 + 1)), (by first | rfl | (simp; done) | (simp [*]; done)), H', ⟨by have := HJ2.out; have := HK2.out; omega⟩, by repeat (first | exact Drawn0.refl _ | apply Drawn0.step)⟩
        ·
         rw [if_neg c12] at H; exact absurd H (by simp)
       ·
        rw [if_neg c11] at H; exact absurd H (by simp)
      ·
       rw [if_neg c10] at H; have c10b0 := decide_eq_false c10; clear c10; obtain rfl := Option.some.inj H; go_wp2; go_ret; exact ⟨by first | rfl | (simp; done) | (simp [*]; done), by repeat (first | exact Drawn0.refl _ | apply Drawn0.step)⟩
def chars_Tag.f (k : Nat) (a0 : ByteArray) : Option (Bool) := (chars_named.f k a0 (⟨#[45]⟩ : ByteArray)).bind fun t105 => (some t105)
theorem chars_Tag.mono : ∀ a0 k, LeO (chars_Tag.f k a0) (chars_Tag.f (k + 1) a0) := by
  intro a0 k; unfold chars_Tag.f
  with_reducible repeat' first | exact chars_named.mono _ _ _ | exact LeO.refl _ | exact LeO.none _ | refine LeO.ite ?_ ?_ | refine LeO.bind ?_ (fun _ => ?_)
set_option maxHeartbeats 8000000 in
set_option maxRecDepth 100000 in
theorem chars_Tag.calls (k : Nat) (a0 : ByteArray) (r : Bool) (w : World) (h : chars_Tag.f k a0 = some r) :
    Calls Try.prog 52 #[.string a0] w fun e w' => e = .returned (.bool r) ∧ Drawn0 w w' := by
  have H : ((chars_named.f k a0 (⟨#[45]⟩ : ByteArray)).bind fun t105 => (some t105)) = some r := h; clear h; replace H := Option.bind_eq_some_iff.mp H; obtain ⟨t105, A20, H⟩ := H; replace H : (some t105) = some r := H; have A2 := zk A20; clear A20; obtain rfl := Option.some.inj H
  go_enter Try.func52, Try.ntmps52
  go_wp2_with (first | ((with_reducible refine zgk (f := 55) rfl ?_); refine zgl (some 4) rfl rfl Try.func55 (by kernel_rfl) rfl #[.string a0, .string (⟨#[45]⟩ : ByteArray)] rfl (by (try simp only [List.map_toArray, List.map_cons, List.map_nil]); first | done | rfl | (simp only [List.length_drop, List.length_take]; rfl)) ?_; (with_reducible refine (chars_named.calls k a0 (⟨#[45]⟩ : ByteArray) t105 _ A2.out).mono ?_); rintro e w' ⟨rfl, ⟨nd, rfl⟩⟩; refine ⟨_, rfl, ?_⟩))
  go_ret; exact ⟨by first | rfl | (simp; done) | (simp [*]; done), by repeat (first | exact Drawn0.refl _ | apply Drawn0.step)⟩
def chars_Fits.f (a0 : ByteArray) : Option (Bool) := some (decide ((a0.size : Int) ≤ 65536))
set_option maxHeartbeats 8000000 in
set_option maxRecDepth 100000 in
theorem chars_Fits.calls (a0 : ByteArray) (r : Bool) (w : World) (h : chars_Fits.f a0 = some r) :
    Calls Try.prog 53 #[.string a0] w fun e w' => e = .returned (.bool r) ∧ Drawn0 w w' := by
  have H : (some (decide ((a0.size : Int) ≤ 65536))) = some r := h; clear h; obtain rfl := Option.some.inj H
  go_enter Try.func53, Try.ntmps53
  go_wp2; go_ret; exact ⟨by first | rfl | (simp; done) | (simp [*]; done), by repeat (first | exact Drawn0.refl _ | apply Drawn0.step)⟩
def chars_Name.f (k : Nat) (a0 : ByteArray) : Option (Bool) := (chars_named.f k a0 (⟨#[45, 58, 46]⟩ : ByteArray)).bind fun t106 => (some t106)
theorem chars_Name.mono : ∀ a0 k, LeO (chars_Name.f k a0) (chars_Name.f (k + 1) a0) := by
  intro a0 k; unfold chars_Name.f
  with_reducible repeat' first | exact chars_named.mono _ _ _ | exact LeO.refl _ | exact LeO.none _ | refine LeO.ite ?_ ?_ | refine LeO.bind ?_ (fun _ => ?_)
set_option maxHeartbeats 8000000 in
set_option maxRecDepth 100000 in
theorem chars_Name.calls (k : Nat) (a0 : ByteArray) (r : Bool) (w : World) (h : chars_Name.f k a0 = some r) :
    Calls Try.prog 56 #[.string a0] w fun e w' => e = .returned (.bool r) ∧ Drawn0 w w' := by
  have H : ((chars_named.f k a0 (⟨#[45, 58, 46]⟩ : ByteArray)).bind fun t106 => (some t106)) = some r := h; clear h; replace H := Option.bind_eq_some_iff.mp H; obtain ⟨t106, A20, H⟩ := H; replace H : (some t106) = some r := H; have A2 := zk A20; clear A20; obtain rfl := Option.some.inj H
  go_enter Try.func56, Try.ntmps56
  go_wp2_with (first | ((with_reducible refine zgk (f := 55) rfl ?_); refine zgl (some 4) rfl rfl Try.func55 (by kernel_rfl) rfl #[.string a0, .string (⟨#[45, 58, 46]⟩ : ByteArray)] rfl (by (try simp only [List.map_toArray, List.map_cons, List.map_nil]); first | done | rfl | (simp only [List.length_drop, List.length_take]; rfl)) ?_; (with_reducible refine (chars_named.calls k a0 (⟨#[45, 58, 46]⟩ : ByteArray) t106 _ A2.out).mono ?_); rintro e w' ⟨rfl, ⟨nd, rfl⟩⟩; refine ⟨_, rfl, ?_⟩))
  go_ret; exact ⟨by first | rfl | (simp; done) | (simp [*]; done), by repeat (first | exact Drawn0.refl _ | apply Drawn0.step)⟩
mutual
def attrs_Check.l0 : Nat → List (S39) → List (S39) → Int → Int → Option (Int × Int)
 | 0, _, _, _, _ => none
 | k + 1, x0, x7, x8, x9 => if x9 < x8 then (if 0 ≤ x9 then (if x9 < (x7.length : Int) then (if x9 = 64 then (if 12 = 0 then (attrs_Check.l0 k x0 x7 x8 (wrap64 (x9 + 1))) else (some (x9, 12))) else ((chars_Name.f k ((rd_T39 x7 x9).f0)).bind fun t109 => (if t109 = true then ((chars_Fits.f ((rd_T39 x7 x9).f1)).bind fun t110 => (if t110 = true then (if x9 > 0 then (if 0 ≤ (wrap64 (x9 - 1)) then (if (wrap64 (x9 - 1)) < (x0.length : Int) then (attrs_Check.j1 k x0 x9 0 x7 x8 x9 (((rd_T39 x0 (wrap64 (x9 - 1))).f0).toList == ((rd_T39 x7 x9).f0).toList) ((rd_T39 x7 x9).f0) ((rd_T39 x7 x9).f1)) else (none)) else (none)) else (attrs_Check.j1 k x0 x9 0 x7 x8 x9 false ((rd_T39 x7 x9).f0) ((rd_T39 x7 x9).f1))) else (if 3 = 0 then (attrs_Check.l0 k x0 x7 x8 (wrap64 (x9 + 1))) else (some (x9, 3))))) else (if 8 = 0 then (attrs_Check.l0 k x0 x7 x8 (wrap64 (x9 + 1))) else (some (x9, 8)))))) else (none)) else (none)) else (some (0, 0))
def attrs_Check.j1 : Nat → List (S39) → Int → Int → List (S39) → Int → Int → Bool → ByteArray → ByteArray → Option (Int × Int)
 | 0, _, _, _, _, _, _, _, _, _ => none
 | k + 1, x0, x4, x6, x7, x8, x9, x27, x109000, x109001 => if x27 = true then (if 10 = 0 then (attrs_Check.l0 k x0 x7 x8 (wrap64 (x9 + 1))) else (some (x4, 10))) else (if x4 > 0 then (if 0 ≤ (wrap64 (x4 - 1)) then (if (wrap64 (x4 - 1)) < (x0.length : Int) then (attrs_Check.j2 k x0 x4 x6 x7 x8 x9 (Op.bytesLess x109000.toList (((rd_T39 x0 (wrap64 (x4 - 1))).f0).toList))) else (none)) else (none)) else (attrs_Check.j2 k x0 x4 x6 x7 x8 x9 false))
def attrs_Check.j2 : Nat → List (S39) → Int → Int → List (S39) → Int → Int → Bool → Option (Int × Int)
 | 0, _, _, _, _, _, _, _ => none
 | k + 1, x0, x4, x6, x7, x8, x9, x41 => if x41 = true then (if 9 = 0 then (attrs_Check.l0 k x0 x7 x8 (wrap64 (x9 + 1))) else (some (x4, 9))) else (if x6 = 0 then (attrs_Check.l0 k x0 x7 x8 (wrap64 (x9 + 1))) else (some (x4, x6)))
end
def attrs_Check.f (k : Nat) (l0 : List (S39)) : Option (Int × Int) := attrs_Check.l0 k l0 l0 (l0.length : Int) 0
theorem attrs_Check.mono_l : ∀ k, (∀ y0 y1 y2 y3, LeO (attrs_Check.l0 k y0 y1 y2 y3) (attrs_Check.l0 (k + 1) y0 y1 y2 y3)) ∧ (∀ y0 y1 y2 y3 y4 y5 y6 y7 y8, LeO (attrs_Check.j1 k y0 y1 y2 y3 y4 y5 y6 y7 y8) (attrs_Check.j1 (k + 1) y0 y1 y2 y3 y4 y5 y6 y7 y8)) ∧ (∀ y0 y1 y2 y3 y4 y5 y6, LeO (attrs_Check.j2 k y0 y1 y2 y3 y4 y5 y6) (attrs_Check.j2 (k + 1) y0 y1 y2 y3 y4 y5 y6))
 | 0 => ⟨fun _ _ _ _ r h => by simp [attrs_Check.l0] at h, fun _ _ _ _ _ _ _ _ _ r h => by simp [attrs_Check.j1] at h, fun _ _ _ _ _ _ _ r h => by simp [attrs_Check.j2] at h⟩
 | k + 1 => by
  obtain ⟨ih0, ih1, ih2⟩ := attrs_Check.mono_l k
  refine ⟨?_, ?_, ?_⟩
  ·
   intro y0 y1 y2 y3
   unfold attrs_Check.l0
   with_reducible repeat' first | exact ih0 _ _ _ _ | exact ih1 _ _ _ _ _ _ _ _ _ | exact ih2 _ _ _ _ _ _ _ | exact chars_Name.mono _ _ | exact LeO.refl _ | exact LeO.none _ | refine LeO.ite ?_ ?_ | refine LeO.bind ?_ (fun _ => ?_)
  ·
   intro y0 y1 y2 y3 y4 y5 y6 y7 y8
   unfold attrs_Check.j1
   with_reducible repeat' first | exact ih0 _ _ _ _ | exact ih1 _ _ _ _ _ _ _ _ _ | exact ih2 _ _ _ _ _ _ _ | exact chars_Name.mono _ _ | exact LeO.refl _ | exact LeO.none _ | refine LeO.ite ?_ ?_ | refine LeO.bind ?_ (fun _ => ?_)
  ·
   intro y0 y1 y2 y3 y4 y5 y6
   unfold attrs_Check.j2
   with_reducible repeat' first | exact ih0 _ _ _ _ | exact ih1 _ _ _ _ _ _ _ _ _ | exact ih2 _ _ _ _ _ _ _ | exact chars_Name.mono _ _ | exact LeO.refl _ | exact LeO.none _ | refine LeO.ite ?_ ?_ | refine LeO.bind ?_ (fun _ => ?_)
theorem attrs_Check.mono : ∀ a0 k, LeO (attrs_Check.f k a0) (attrs_Check.f (k + 1) a0) := by
 intro a0 k
 obtain ⟨ih0, ih1, ih2⟩ := attrs_Check.mono_l k
 unfold attrs_Check.f
 with_reducible repeat' first | exact ih0 _ _ _ _ | exact ih1 _ _ _ _ _ _ _ _ _ | exact ih2 _ _ _ _ _ _ _ | exact chars_Name.mono _ _ | exact LeO.refl _ | exact LeO.none _ | refine LeO.ite ?_ ?_ | refine LeO.bind ?_ (fun _ => ?_)
set_option maxHeartbeats 8000000 in
set_option maxRecDepth 100000 in
theorem attrs_Check.calls (k : Nat) (A0 : Option Addr) (c0 : Nat) (l0 : List (S39)) (r1 : Int) (r2 : Int) (w : World) (hr0 : Kd.C k39 w A0 l0.length l0) (hc0 : l0.length ≤ c0) (h : attrs_Check.f k l0 = some (r1, r2)) :
  Calls Try.prog 54 #[.slice A0 l0.length c0] w fun e w' => e = .returned (.tuple #[.int .i64 r1, .int .i64 r2]) ∧ Below w.heap.size w w' := by
 have hu39 := Try.underlying39
 have HR0 := zk hr0
 have HC0 := zk hc0
 clear hr0 hc0
 have HB := zk (Below.refl w.heap.size w)
 have H : (attrs_Check.l0 k l0 l0 (l0.length : Int) 0) = some (r1, r2) := h
 clear h
 have H' := zk H
 clear H
 go_enter Try.func54, Try.ntmps54
 go_wp2
 repeat (go_quiet (fail); try go_wp2)
 go_loopg [9] k (fun kq v9 w' => ∃ (x9_1 : Int), v9 = .int .i64 x9_1 ∧ Aside0 (attrs_Check.l0 kq l0 l0 (l0.length : Int) x9_1 = some (r1, r2)) ∧ Aside0 (kq ≤ k) ∧ Aside0 (Below w.heap.size w w'))
 case atStart => exact ⟨(0), (by first | rfl | (simp; done) | (simp [*]; done)), H', ⟨Nat.le_refl _⟩, ⟨by with_reducible repeat first | exact HB.out | apply zA | apply zN | apply zD⟩⟩
 case round =>
  clear H'; obtain ⟨x9_1, rfl, HA, HK1, HB⟩ := hrel
  cases gk with
  | zero => exact absurd HA.out (by simp [attrs_Check.l0])
  | succ k1 =>
   have H := HA.out; clear HA; simp only [attrs_Check.l0] at H
   by_cases c2 : x9_1 < (l0.length : Int)
   ·
    rw [if_pos c2] at H; have c2b0 := decide_eq_true c2; clear c2
    by_cases c3 : 0 ≤ x9_1
    ·
     rw [if_pos c3] at H; have c3b0 : decide (0 ≤ x9_1) = true := decide_eq_true c3; clear c3
     by_cases c4 : x9_1 < (l0.length : Int)
     ·
      rw [if_pos c4] at H; have c4b0 := decide_eq_true c4; clear c4
      by_cases c5 : x9_1 = 64
      ·
       rw [if_pos c5] at H; have c5b0 : (x9_1 == 64) = true := beq_iff_eq.mpr c5; have c5b1 : (x9_1 != 64) = false := bne_eq_false_iff_eq.mpr c5; clear c5
       by_cases c6 : 12 = 0
       ·
        exact absurd c6 (by decide)
       ·
        rw [if_neg c6] at H; have c6b0 := beq_eq_false_iff_ne.mpr c6; have c6b1 := bne_iff_ne.mpr c6; simp only [Option.some.injEq, Prod.mk.injEq] at H; obtain ⟨rfl, rfl⟩ := H; have p107 : 0 ≤ (x9_1 : Int) := zo (by assumption); have q107 : x9_1 < (l0.length : Int) := zo (by assumption); obtain ⟨ad107, e107, hx107_0, hx107_1⟩ := at_T39 HR0.out x9_1 p107 q107; cases e107; replace hx107_0 := zB HB hx107_0; replace hx107_1 := zB HB hx107_1; replace p107 := eq_true p107; replace q107 := eq_true q107
        go_wp2_with (first | ((with_reducible refine zgd (N := 5) rfl ?_); refine zb ?hg (N := 5) ?hd (cs := #[.string ⟨#[]⟩, .string ⟨#[]⟩]) (t := 39) ?hr ?_; (case hd => rfl); (case hg => rfl); (case hr => go_simp; first | done | rfl); intro gb108 hg w9 hbox hb; have n0_ := zk (zs (by with_reducible repeat first | exact HB.out | apply zA | apply zN | apply zD) hb); have n1_ := zk (hbox); have n2_ := zk ((by rw [hg]; exact (zq (by with_reducible repeat first | exact HB.out | apply zA | apply zN | apply zD)) : w.heap.size ≤ gb108)); have n3_ := n2_; clear HB; have HB := n0_; have BK108 := n1_; have GW108 := n2_; have GE108 := n3_; clear n0_ n1_ n2_ n3_; clear hb hbox hg; obtain ⟨hcz10_0, hcz10_1, hfz10_0, hfz10_1⟩ := zc2 BK108.out))
        repeat (go_quiet (first | ((with_reducible refine zgd (N := 5) rfl ?_); refine zb ?hg (N := 5) ?hd (cs := #[.string ⟨#[]⟩, .string ⟨#[]⟩]) (t := 39) ?hr ?_; (case hd => rfl); (case hg => rfl); (case hr => go_simp; first | done | rfl); intro gb108 hg w9 hbox hb; have n0_ := zk (zs (by with_reducible repeat first | exact HB.out | apply zA | apply zN | apply zD) hb); have n1_ := zk (hbox); have n2_ := zk ((by rw [hg]; exact (zq (by with_reducible repeat first | exact HB.out | apply zA | apply zN | apply zD)) : w.heap.size ≤ gb108)); have n3_ := n2_; clear HB; have HB := n0_; have BK108 := n1_; have GW108 := n2_; have GE108 := n3_; clear n0_ n1_ n2_ n3_; clear hb hbox hg; obtain ⟨hcz10_0, hcz10_1, hfz10_0, hfz10_1⟩ := zc2 BK108.out)); try go_wp2_with (first | ((with_reducible refine zgd (N := 5) rfl ?_); refine zb ?hg (N := 5) ?hd (cs := #[.string ⟨#[]⟩, .string ⟨#[]⟩]) (t := 39) ?hr ?_; (case hd => rfl); (case hg => rfl); (case hr => go_simp; first | done | rfl); intro gb108 hg w9 hbox hb; have n0_ := zk (zs (by with_reducible repeat first | exact HB.out | apply zA | apply zN | apply zD) hb); have n1_ := zk (hbox); have n2_ := zk ((by rw [hg]; exact (zq (by with_reducible repeat first | exact HB.out | apply zA | apply zN | apply zD)) : w.heap.size ≤ gb108)); have n3_ := n2_; clear HB; have HB := n0_; have BK108 := n1_; have GW108 := n2_; have GE108 := n3_; clear n0_ n1_ n2_ n3_; clear hb hbox hg; obtain ⟨hcz10_0, hcz10_1, hfz10_0, hfz10_1⟩ := zc2 BK108.out)))
        go_ret2
        exact ⟨by first | rfl | (simp [wN, wS] <;> rfl) | (simp [*, wN, wS] <;> rfl), by with_reducible repeat first | exact HB.out | apply zA | apply zN | apply zD | refine zS ?_ GE108.out⟩
      ·
       rw [if_neg c5] at H; have c5b0 : (x9_1 == 64) = false := beq_eq_false_iff_ne.mpr c5; have c5b1 : (x9_1 != 64) = true := bne_iff_ne.mpr c5; replace H := Option.bind_eq_some_iff.mp H; obtain ⟨t109, A110, H⟩ := H; replace H : (if t109 = true then ((chars_Fits.f ((rd_T39 l0 x9_1).f1)).bind fun t110 => (if t110 = true then (if x9_1 > 0 then (if 0 ≤ (wrap64 (x9_1 - 1)) then (if (wrap64 (x9_1 - 1)) < (l0.length : Int) then (attrs_Check.j1 k1 l0 x9_1 0 l0 (l0.length : Int) x9_1 (((rd_T39 l0 (wrap64 (x9_1 - 1))).f0).toList == ((rd_T39 l0 x9_1).f0).toList) ((rd_T39 l0 x9_1).f0) ((rd_T39 l0 x9_1).f1)) else (none)) else (none)) else (attrs_Check.j1 k1 l0 x9_1 0 l0 (l0.length : Int) x9_1 false ((rd_T39 l0 x9_1).f0) ((rd_T39 l0 x9_1).f1))) else (if 3 = 0 then (attrs_Check.l0 k1 l0 l0 (l0.length : Int) (wrap64 (x9_1 + 1))) else (some (x9_1, 3))))) else (if 8 = 0 then (attrs_Check.l0 k1 l0 l0 (l0.length : Int) (wrap64 (x9_1 + 1))) else (some (x9_1, 8)))) = some (r1, r2) := H; have A11 := zk A110; clear A110
       by_cases c12 : t109 = true
       ·
        subst c12
        have H1 : ((chars_Fits.f ((rd_T39 l0 x9_1).f1)).bind fun t110 => (if t110 = true then (if x9_1 > 0 then (if 0 ≤ (wrap64 (x9_1 - 1)) then (if (wrap64 (x9_1 - 1)) < (l0.length : Int) then (attrs_Check.j1 k1 l0 x9_1 0 l0 (l0.length : Int) x9_1 (((rd_T39 l0 (wrap64 (x9_1 - 1))).f0).toList == ((rd_T39 l0 x9_1).f0).toList) ((rd_T39 l0 x9_1).f0) ((rd_T39 l0 x9_1).f1)) else (none)) else (none)) else (attrs_Check.j1 k1 l0 x9_1 0 l0 (l0.length : Int) x9_1 false ((rd_T39 l0 x9_1).f0) ((rd_T39 l0 x9_1).f1))) else (if 3 = 0 then (attrs_Check.l0 k1 l0 l0 (l0.length : Int) (wrap64 (x9_1 + 1))) else (some (x9_1, 3))))) = some (r1, r2) := by rw [if_pos rfl] at H; exact H
        clear H; have H := H1; clear H1; replace H := Option.bind_eq_some_iff.mp H; obtain ⟨t110, A130, H⟩ := H; replace H : (if t110 = true then (if x9_1 > 0 then (if 0 ≤ (wrap64 (x9_1 - 1)) then (if (wrap64 (x9_1 - 1)) < (l0.length : Int) then (attrs_Check.j1 k1 l0 x9_1 0 l0 (l0.length : Int) x9_1 (((rd_T39 l0 (wrap64 (x9_1 - 1))).f0).toList == ((rd_T39 l0 x9_1).f0).toList) ((rd_T39 l0 x9_1).f0) ((rd_T39 l0 x9_1).f1)) else (none)) else (none)) else (attrs_Check.j1 k1 l0 x9_1 0 l0 (l0.length : Int) x9_1 false ((rd_T39 l0 x9_1).f0) ((rd_T39 l0 x9_1).f1))) else (if 3 = 0 then (attrs_Check.l0 k1 l0 l0 (l0.length : Int) (wrap64 (x9_1 + 1))) else (some (x9_1, 3)))) = some (r1, r2) := H; have A13 := zk A130; clear A130
        by_cases c14 : t110 = true
        ·
         subst c14
         have H1 : (if x9_1 > 0 then (if 0 ≤ (wrap64 (x9_1 - 1)) then (if (wrap64 (x9_1 - 1)) < (l0.length : Int) then (attrs_Check.j1 k1 l0 x9_1 0 l0 (l0.length : Int) x9_1 (((rd_T39 l0 (wrap64 (x9_1 - 1))).f0).toList == ((rd_T39 l0 x9_1).f0).toList) ((rd_T39 l0 x9_1).f0) ((rd_T39 l0 x9_1).f1)) else (none)) else (none)) else (attrs_Check.j1 k1 l0 x9_1 0 l0 (l0.length : Int) x9_1 false ((rd_T39 l0 x9_1).f0) ((rd_T39 l0 x9_1).f1))) = some (r1, r2) := by rw [if_pos rfl] at H; exact H
         clear H; have H := H1; clear H1; have HC15 := zk H; clear H; have p107 : 0 ≤ (x9_1 : Int) := zo (by assumption); have q107 : x9_1 < (l0.length : Int) := zo (by assumption); obtain ⟨ad107, e107, hx107_0, hx107_1⟩ := at_T39 HR0.out x9_1 p107 q107; cases e107; replace hx107_0 := zB HB hx107_0; replace hx107_1 := zB HB hx107_1; replace p107 := eq_true p107; replace q107 := eq_true q107
         go_upto_region 11 with (first | ((with_reducible refine zgd (N := 5) rfl ?_); refine zb ?hg (N := 5) ?hd (cs := #[.string ⟨#[]⟩, .string ⟨#[]⟩]) (t := 39) ?hr ?_; (case hd => rfl); (case hg => rfl); (case hr => go_simp; first | done | rfl); intro gb108 hg w16 hbox hb; have n0_ := zk (zs (by with_reducible repeat first | exact HB.out | apply zA | apply zN | apply zD) hb); have n1_ := zk (hbox); have n2_ := zk ((by rw [hg]; exact (zq (by with_reducible repeat first | exact HB.out | apply zA | apply zN | apply zD)) : w.heap.size ≤ gb108)); have n3_ := n2_; clear HB; have HB := n0_; have BK108 := n1_; have GW108 := n2_; have GE108 := n3_; clear n0_ n1_ n2_ n3_; clear hb hbox hg; obtain ⟨hcz17_0, hcz17_1, hfz17_0, hfz17_1⟩ := zc2 BK108.out) | (go_at_call 56; (with_reducible refine (chars_Name.calls k1 ((rd_T39 l0 x9_1).f0) true _ A11.out).mono ?_); rintro e w' ⟨rfl, ⟨nd, rfl⟩⟩; (try first | exact ⟨rfl, _, World.drewN_drewN _ _ _⟩ | exact ⟨rfl, _, Eq.trans (World.drewN_drewN _ _ _) (congrArg (World.drewN _) (Nat.add_assoc _ _ _))⟩)) | (go_at_call 53; (with_reducible refine (chars_Fits.calls ((rd_T39 l0 x9_1).f1) true _ A13.out).mono ?_); rintro e w' ⟨rfl, ⟨nd, rfl⟩⟩; (try first | exact ⟨rfl, _, World.drewN_drewN _ _ _⟩ | exact ⟨rfl, _, Eq.trans (World.drewN_drewN _ _ _) (congrArg (World.drewN _) (Nat.add_assoc _ _ _))⟩)))
         repeat (go_quiet (first | ((with_reducible refine zgd (N := 5) rfl ?_); refine zb ?hg (N := 5) ?hd (cs := #[.string ⟨#[]⟩, .string ⟨#[]⟩]) (t := 39) ?hr ?_; (case hd => rfl); (case hg => rfl); (case hr => go_simp; first | done | rfl); intro gb108 hg w16 hbox hb; have n0_ := zk (zs (by with_reducible repeat first | exact HB.out | apply zA | apply zN | apply zD) hb); have n1_ := zk (hbox); have n2_ := zk ((by rw [hg]; exact (zq (by with_reducible repeat first | exact HB.out | apply zA | apply zN | apply zD)) : w.heap.size ≤ gb108)); have n3_ := n2_; clear HB; have HB := n0_; have BK108 := n1_; have GW108 := n2_; have GE108 := n3_; clear n0_ n1_ n2_ n3_; clear hb hbox hg; obtain ⟨hcz17_0, hcz17_1, hfz17_0, hfz17_1⟩ := zc2 BK108.out) | (go_at_call 56; (with_reducible refine (chars_Name.calls k1 ((rd_T39 l0 x9_1).f0) true _ A11.out).mono ?_); rintro e w' ⟨rfl, ⟨nd, rfl⟩⟩; (try first | exact ⟨rfl, _, World.drewN_drewN _ _ _⟩ | exact ⟨rfl, _, Eq.trans (World.drewN_drewN _ _ _) (congrArg (World.drewN _) (Nat.add_assoc _ _ _))⟩)) | (go_at_call 53; (with_reducible refine (chars_Fits.calls ((rd_T39 l0 x9_1).f1) true _ A13.out).mono ?_); rintro e w' ⟨rfl, ⟨nd, rfl⟩⟩; (try first | exact ⟨rfl, _, World.drewN_drewN _ _ _⟩ | exact ⟨rfl, _, Eq.trans (World.drewN_drewN _ _ _) (congrArg (World.drewN _) (Nat.add_assoc _ _ _))⟩))); go_upto_region 11 with (first | ((with_reducible refine zgd (N := 5) rfl ?_); refine zb ?hg (N := 5) ?hd (cs := #[.string ⟨#[]⟩, .string ⟨#[]⟩]) (t := 39) ?hr ?_; (case hd => rfl); (case hg => rfl); (case hr => go_simp; first | done | rfl); intro gb108 hg w16 hbox hb; have n0_ := zk (zs (by with_reducible repeat first | exact HB.out | apply zA | apply zN | apply zD) hb); have n1_ := zk (hbox); have n2_ := zk ((by rw [hg]; exact (zq (by with_reducible repeat first | exact HB.out | apply zA | apply zN | apply zD)) : w.heap.size ≤ gb108)); have n3_ := n2_; clear HB; have HB := n0_; have BK108 := n1_; have GW108 := n2_; have GE108 := n3_; clear n0_ n1_ n2_ n3_; clear hb hbox hg; obtain ⟨hcz17_0, hcz17_1, hfz17_0, hfz17_1⟩ := zc2 BK108.out) | (go_at_call 56; (with_reducible refine (chars_Name.calls k1 ((rd_T39 l0 x9_1).f0) true _ A11.out).mono ?_); rintro e w' ⟨rfl, ⟨nd, rfl⟩⟩; (try first | exact ⟨rfl, _, World.drewN_drewN _ _ _⟩ | exact ⟨rfl, _, Eq.trans (World.drewN_drewN _ _ _) (congrArg (World.drewN _) (Nat.add_assoc _ _ _))⟩)) | (go_at_call 53; (with_reducible refine (chars_Fits.calls ((rd_T39 l0 x9_1).f1) true _ A13.out).mono ?_); rintro e w' ⟨rfl, ⟨nd, rfl⟩⟩; (try first | exact ⟨rfl, _, World.drewN_drewN _ _ _⟩ | exact ⟨rfl, _, Eq.trans (World.drewN_drewN _ _ _) (congrArg (World.drewN _) (Nat.add_assoc _ _ _))⟩))))
         (try simp only [Act.put, List.setIfInBounds_toArray, List.set_cons_zero, List.set_cons_succ])
         go_cut [27] (fun v27 wc => ∃ (kq : Nat) (x27_14 : Bool), v27 = .bool x27_14 ∧ Aside0 (attrs_Check.j1 kq l0 x9_1 0 l0 (l0.length : Int) x9_1 x27_14 ((rd_T39 l0 x9_1).f0) ((rd_T39 l0 x9_1).f1) = some (r1, r2)) ∧ Aside0 (kq ≤ k1) ∧ Aside0 (wc.heap[gb108]? = some (.cells #[.string ((rd_T39 l0 x9_1).f0), .string ((rd_T39 l0 x9_1).f1)] 39 (0, 0))) ∧ Aside0 (Below w.heap.size w wc))
         case first =>
          have H := HC15.out; clear HC15
          by_cases c18 : x9_1 > 0
          ·
           rw [if_pos c18] at H; have c18b0 : decide (0 < x9_1) = true := decide_eq_true c18; clear c18
           (first | rw [c18b0] | (simp only [i64_w, i32_w]; rw [c18b0]) | skip)
           obtain ⟨ji19, hji19⟩ : ∃ j_ : Int, (wrap64 (x9_1 - 1)) = j_ := ⟨_, rfl⟩
           replace H : (if 0 ≤ (ji19) then (if (ji19) < (l0.length : Int) then (attrs_Check.j1 k1 l0 x9_1 0 l0 (l0.length : Int) x9_1 (((rd_T39 l0 (ji19)).f0).toList == ((rd_T39 l0 x9_1).f0).toList) ((rd_T39 l0 x9_1).f0) ((rd_T39 l0 x9_1).f1)) else (none)) else (none)) = some (r1, r2) := by first | (rw [hji19] at H; exact H) | (simp only [hji19] at H ⊢; exact H)
           have hji19w : (IntKind.i64.wrap (x9_1 - 1)) = ji19 := (i64_w _).trans hji19
           by_cases c20 : 0 ≤ (ji19)
           ·
            rw [if_pos c20] at H; have c20b0 := decide_eq_true c20; clear c20
            by_cases c21 : (ji19) < (l0.length : Int)
            ·
             rw [if_pos c21] at H; have c21b0 := decide_eq_true c21; clear c21; have H' := zk H; clear H; have p111 : 0 ≤ ((ji19) : Int) := zo (by assumption); have q111 : (ji19) < (l0.length : Int) := zo (by assumption); obtain ⟨ad111, e111, hx111_0, hx111_1⟩ := at_T39 HR0.out (ji19) p111 q111; obtain rfl : ad107 = ad111 := (by injection e111); have hn111_0 : ad107.block ≠ gb108 := Nat.ne_of_lt (Nat.lt_of_lt_of_le (by have := World.block_lt_of_cell? _ _ hx111_0; first | rwa [add_block] at this | exact this) GW108.out); have hn111_1 : ad107.block ≠ gb108 := Nat.ne_of_lt (Nat.lt_of_lt_of_le (by have := World.block_lt_of_cell? _ _ hx111_0; first | rwa [add_block] at this | exact this) GW108.out); replace hx111_0 := zB HB hx111_0; replace hx111_1 := zB HB hx111_1; replace hx111_0 := zY gb108 0 (.string ((rd_T39 l0 x9_1).f0)) (by first | exact zX hn111_0 | exact hn111_0) hx111_0; replace hx111_1 := zY gb108 0 (.string ((rd_T39 l0 x9_1).f0)) (by first | exact zX hn111_0 | exact hn111_0) hx111_1; replace hx111_0 := zY gb108 1 (.string ((rd_T39 l0 x9_1).f1)) (by first | exact zX hn111_1 | exact hn111_1) hx111_0; replace hx111_1 := zY gb108 1 (.string ((rd_T39 l0 x9_1).f1)) (by first | exact zX hn111_1 | exact hn111_1) hx111_1
             (try have hy111_0 := fun (n_ : Nat) => (show ((((w16.drewN n_).setCell ⟨gb108, 0, none⟩ (.string ((rd_T39 l0 x9_1).f0))).setCell ⟨gb108, 1, none⟩ (.string ((rd_T39 l0 x9_1).f1)))).cell? _ = some _ from hx111_0))
             (try have hy111_1 := fun (n_ : Nat) => (show ((((w16.drewN n_).setCell ⟨gb108, 0, none⟩ (.string ((rd_T39 l0 x9_1).f0))).setCell ⟨gb108, 1, none⟩ (.string ((rd_T39 l0 x9_1).f1)))).cell? _ = some _ from hx111_1))
             clear hn111_0; clear hn111_1; replace p111 := eq_true p111; replace q111 := eq_true q111; have hcz22_0 : w16.cell? ⟨gb108, 0, none⟩ = some (.string ⟨#[]⟩) := (zC BK108.out 0).trans rfl; have hcz22_1 : w16.cell? ⟨gb108, 1, none⟩ = some (.string ⟨#[]⟩) := (zC BK108.out 1).trans rfl; have hfz22_0 := zR BK108.out 0; have hfz22_1 := zR BK108.out 1; go_wp2
             repeat (go_quiet (fail); try go_wp2)
             go_meet
             case rel => exact ⟨_, ((((rd_T39 l0 (ji19)).f0).toList == ((rd_T39 l0 x9_1).f0).toList)), (by first | rfl | (simp; done) | (simp only [← hji19] <;> (first | rfl | simp)) | (simp [*]; done)), H', ⟨by have := HK1.out; first | omega | exact Nat.le_refl _⟩, ⟨by (with_reducible repeat first | apply zM | apply zE | apply zF); refine zP (cs := #[.string ((rd_T39 l0 x9_1).f0), .string ⟨#[]⟩]) ?_ 1 _ rfl; (with_reducible repeat first | apply zM | apply zE | apply zF); refine zP (cs := #[.string ⟨#[]⟩, .string ⟨#[]⟩]) ?_ 0 _ rfl; (with_reducible repeat first | apply zM | apply zE | apply zF); exact BK108.out⟩, ⟨by with_reducible repeat first | exact HB.out | apply zA | apply zN | apply zD | refine zS ?_ GE108.out⟩⟩
            ·
             rw [if_neg c21] at H; exact absurd H (by simp)
           ·
            rw [if_neg c20] at H; exact absurd H (by simp)
          ·
           rw [if_neg c18] at H; have c18b0 : decide (0 < x9_1) = false := decide_eq_false c18; clear c18
           (first | rw [c18b0] | (simp only [i64_w, i32_w]; rw [c18b0]) | skip)
           have H' := zk H; clear H; go_wp2
           repeat (go_quiet (fail); try go_wp2)
           go_meet
           case rel => exact ⟨_, (false), (by first | rfl | (simp; done) | (simp [*]; done)), H', ⟨by have := HK1.out; first | omega | exact Nat.le_refl _⟩, ⟨by (with_reducible repeat first | apply zM | apply zE | apply zF); refine zP (cs := #[.string ((rd_T39 l0 x9_1).f0), .string ⟨#[]⟩]) ?_ 1 _ rfl; (with_reducible repeat first | apply zM | apply zE | apply zF); refine zP (cs := #[.string ⟨#[]⟩, .string ⟨#[]⟩]) ?_ 0 _ rfl; (with_reducible repeat first | apply zM | apply zE | apply zF); exact BK108.out⟩, ⟨by with_reducible repeat first | exact HB.out | apply zA | apply zN | apply zD | refine zS ?_ GE108.out⟩⟩
         case rest =>
          clear HC15; (try clear c1); (try clear p1); (try clear q1); (try clear hx1); (try clear c2); (try clear c2b0); (try clear p2); (try clear c3); (try clear c3b0); (try clear c4); (try clear c4b0); (try clear c5); (try clear c5b0); (try clear c5b1); (try clear c6); (try clear c6b0); (try clear c6b1); (try clear p6); (try clear p10); (try clear q10); (try clear hx10); (try clear p11); (try clear q11); (try clear hx11); (try clear c12); (try clear c14); (try clear c18); (try clear c18b0); (try clear c20); (try clear c20b0); (try clear c21); (try clear c21b0); (try clear hx107_0); (try clear hx107_1); (try clear hx111_0); (try clear hx111_1); (try clear p107); (try clear p111); (try clear q107); (try clear q111); obtain ⟨kq, x27_14, rfl, HA, HJ14, BK108, HB⟩ := hcut
          cases kq with
          | zero => exact absurd HA.out (by simp [attrs_Check.j1])
          | succ kj14 =>
           have H := HA.out; clear HA; simp only [attrs_Check.j1] at H
           by_cases c23 : x27_14 = true
           ·
            subst c23
            have H1 : (if 10 = 0 then (attrs_Check.l0 kj14 l0 l0 (l0.length : Int) (wrap64 (x9_1 + 1))) else (some (x9_1, 10))) = some (r1, r2) := by rw [if_pos rfl] at H; exact H
            clear H; have H := H1; clear H1
            by_cases c24 : 10 = 0
            ·
             exact absurd c24 (by decide)
            ·
             rw [if_neg c24] at H; have c24b0 := beq_eq_false_iff_ne.mpr c24; have c24b1 := bne_iff_ne.mpr c24; simp only [Option.some.injEq, Prod.mk.injEq] at H; obtain ⟨rfl, rfl⟩ := H; go_wp2
             repeat (go_quiet (fail); try go_wp2)
             go_ret2
             exact ⟨by first | rfl | (simp [wN, wS] <;> rfl) | (simp [*, wN, wS] <;> rfl), by with_reducible repeat first | exact HB.out | apply zA | apply zN | apply zD | refine zS ?_ GE108.out⟩
           ·
            replace c23 := Bool.eq_false_iff.mpr c23; subst c23
            have H1 : (if x9_1 > 0 then (if 0 ≤ (wrap64 (x9_1 - 1)) then (if (wrap64 (x9_1 - 1)) < (l0.length : Int) then (attrs_Check.j2 kj14 l0 x9_1 0 l0 (l0.length : Int) x9_1 (Op.bytesLess ((rd_T39 l0 x9_1).f0).toList (((rd_T39 l0 (wrap64 (x9_1 - 1))).f0).toList))) else (none)) else (none)) else (attrs_Check.j2 kj14 l0 x9_1 0 l0 (l0.length : Int) x9_1 false)) = some (r1, r2) := by rw [if_neg (show ¬ (false = true) by decide)] at H; exact H
            clear H; have H := H1; clear H1; have HC25 := zk H; clear H
            go_upto_region 13 with (fail)
            repeat (go_quiet (fail); go_upto_region 13 with (fail))
            go_cut [41] (fun v41 wc => ∃ (kq : Nat) (x41_24 : Bool), v41 = .bool x41_24 ∧ Aside0 (attrs_Check.j2 kq l0 x9_1 0 l0 (l0.length : Int) x9_1 x41_24 = some (r1, r2)) ∧ Aside0 (kq ≤ kj14) ∧ Aside0 (wc.heap[gb108]? = some (.cells #[.string ((rd_T39 l0 x9_1).f0), .string ((rd_T39 l0 x9_1).f1)] 39 (0, 0))) ∧ Aside0 (Below w.heap.size w wc))
            case first =>
             have H := HC25.out; clear HC25
             by_cases c26 : x9_1 > 0
             ·
              rw [if_pos c26] at H; have c26b0 : decide (0 < x9_1) = true := decide_eq_true c26; clear c26
              (first | rw [c26b0] | (simp only [i64_w, i32_w]; rw [c26b0]) | skip)
              obtain ⟨ji27, hji27⟩ : ∃ j_ : Int, (wrap64 (x9_1 - 1)) = j_ := ⟨_, rfl⟩
              replace H : (if 0 ≤ (ji27) then (if (ji27) < (l0.length : Int) then (attrs_Check.j2 kj14 l0 x9_1 0 l0 (l0.length : Int) x9_1 (Op.bytesLess ((rd_T39 l0 x9_1).f0).toList (((rd_T39 l0 (ji27)).f0).toList))) else (none)) else (none)) = some (r1, r2) := by first | (rw [hji27] at H; exact H) | (simp only [hji27] at H ⊢; exact H)
              have hji27w : (IntKind.i64.wrap (x9_1 - 1)) = ji27 := (i64_w _).trans hji27
              by_cases c28 : 0 ≤ (ji27)
              ·
               rw [if_pos c28] at H; have c28b0 := decide_eq_true c28; clear c28
               by_cases c29 : (ji27) < (l0.length : Int)
               ·
                rw [if_pos c29] at H; have c29b0 := decide_eq_true c29; clear c29; have H' := zk H; clear H; have p112 : 0 ≤ ((ji27) : Int) := zo (by assumption); have q112 : (ji27) < (l0.length : Int) := zo (by assumption); obtain ⟨ad112, e112, hx112_0, hx112_1⟩ := at_T39 HR0.out (ji27) p112 q112; obtain rfl : ad107 = ad112 := (by injection e112); replace hx112_0 := zB HB hx112_0; replace hx112_1 := zB HB hx112_1; replace p112 := eq_true p112; replace q112 := eq_true q112; have hcz30_0 : wc.cell? ⟨gb108, 0, none⟩ = some (.string ((rd_T39 l0 x9_1).f0)) := (zC BK108.out 0).trans rfl; have hcz30_1 : wc.cell? ⟨gb108, 1, none⟩ = some (.string ((rd_T39 l0 x9_1).f1)) := (zC BK108.out 1).trans rfl; have hfz30_0 := zR BK108.out 0; have hfz30_1 := zR BK108.out 1; go_wp2
                repeat (go_quiet (fail); try go_wp2)
                go_meet
                case rel => exact ⟨_, ((Op.bytesLess ((rd_T39 l0 x9_1).f0).toList (((rd_T39 l0 (ji27)).f0).toList))), (by first | rfl | (simp; done) | (simp only [← hji27] <;> (first | rfl | simp)) | (simp [*]; done)), H', ⟨by have := HK1.out; have := HJ14.out; first | omega | exact Nat.le_refl _⟩, ⟨by (with_reducible repeat first | apply zM | apply zE | apply zF); exact BK108.out⟩, ⟨by with_reducible repeat first | exact HB.out | apply zA | apply zN | apply zD | refine zS ?_ GE108.out⟩⟩
               ·
                rw [if_neg c29] at H; exact absurd H (by simp)
              ·
               rw [if_neg c28] at H; exact absurd H (by simp)
             ·
              rw [if_neg c26] at H; have c26b0 : decide (0 < x9_1) = false := decide_eq_false c26; clear c26
              (first | rw [c26b0] | (simp only [i64_w, i32_w]; rw [c26b0]) | skip)
              have H' := zk H; clear H; go_wp2
              repeat (go_quiet (fail); try go_wp2)
              go_meet
              case rel => exact ⟨_, (false), (by first | rfl | (simp; done) | (simp [*]; done)), H', ⟨by have := HK1.out; have := HJ14.out; first | omega | exact Nat.le_refl _⟩, ⟨by (with_reducible repeat first | apply zM | apply zE | apply zF); exact BK108.out⟩, ⟨by with_reducible repeat first | exact HB.out | apply zA | apply zN | apply zD | refine zS ?_ GE108.out⟩⟩
            case rest =>
             clear HC25; (try clear c1); (try clear p1); (try clear q1); (try clear hx1); (try clear c2); (try clear c2b0); (try clear p2); (try clear c3); (try clear c3b0); (try clear c4); (try clear c4b0); (try clear c5); (try clear c5b0); (try clear c5b1); (try clear c6); (try clear c6b0); (try clear c6b1); (try clear p6); (try clear p10); (try clear q10); (try clear hx10); (try clear p11); (try clear q11); (try clear hx11); (try clear c12); (try clear c14); (try clear c18); (try clear c18b0); (try clear c20); (try clear c20b0); (try clear c21); (try clear c21b0); (try clear c23); (try clear c24); (try clear c24b0); (try clear c24b1); (try clear c26); (try clear c26b0); (try clear c28); (try clear c28b0); (try clear c29); (try clear c29b0); (try clear hx107_0); (try clear hx107_1); (try clear hx111_0); (try clear hx111_1); (try clear hx112_0); (try clear hx112_1); (try clear p1); (try clear p10); (try clear p107); (try clear p11); (try clear p111); (try clear p112); (try clear p2); (try clear p6); (try clear q1); (try clear q10); (try clear q107); (try clear q11); (try clear q111); (try clear q112); obtain ⟨kq, x41_24, rfl, HA, HJ24, BK108, HB⟩ := hcut
             cases kq with
             | zero => exact absurd HA.out (by simp [attrs_Check.j2])
             | succ kj24 =>
              have H := HA.out; clear HA; simp only [attrs_Check.j2] at H
              by_cases c31 : x41_24 = true
              ·
               subst c31
               have H1 : (if 9 = 0 then (attrs_Check.l0 kj24 l0 l0 (l0.length : Int) (wrap64 (x9_1 + 1))) else (some (x9_1, 9))) = some (r1, r2) := by rw [if_pos rfl] at H; exact H
               clear H; have H := H1; clear H1
               by_cases c32 : 9 = 0
               ·
                exact absurd c32 (by decide)
               ·
                rw [if_neg c32] at H; have c32b0 := beq_eq_false_iff_ne.mpr c32; have c32b1 := bne_iff_ne.mpr c32; simp only [Option.some.injEq, Prod.mk.injEq] at H; obtain ⟨rfl, rfl⟩ := H; go_wp2
                repeat (go_quiet (fail); try go_wp2)
                go_ret2
                exact ⟨by first | rfl | (simp [wN, wS] <;> rfl) | (simp [*, wN, wS] <;> rfl), by with_reducible repeat first | exact HB.out | apply zA | apply zN | apply zD | refine zS ?_ GE108.out⟩
              ·
               replace c31 := Bool.eq_false_iff.mpr c31; subst c31
               have H1 : (if 0 = 0 then (attrs_Check.l0 kj24 l0 l0 (l0.length : Int) (wrap64 (x9_1 + 1))) else (some (x9_1, 0))) = some (r1, r2) := by rw [if_neg (show ¬ (false = true) by decide)] at H; exact H
               clear H; have H := H1; clear H1
               by_cases c33 : 0 = 0
               ·
                rw [if_pos c33] at H; have c33b0 := beq_iff_eq.mpr c33; have c33b1 := bne_eq_false_iff_eq.mpr c33; clear c33; have H' := zk H; clear H; go_wp2
                repeat (go_quiet (fail); try go_wp2)
                go_roundg kj24
                case measure => have := HK1.out; have := HJ14.out; have := HJ24.out; omega
                case rel => exact ⟨(wrap64 (x9_1 + 1)), (by first | rfl | (simp; done) | (simp [*]; done)), H', ⟨by have := HK1.out; have := HJ14.out; have := HJ24.out; omega⟩, ⟨by with_reducible repeat first | exact HB.out | apply zA | apply zN | apply zD | refine zS ?_ GE108.out⟩⟩
               ·
                exact absurd (by decide) c33
        ·
         replace c14 := Bool.eq_false_iff.mpr c14; subst c14
         have H1 : (if 3 = 0 then (attrs_Check.l0 k1 l0 l0 (l0.length : Int) (wrap64 (x9_1 + 1))) else (some (x9_1, 3))) = some (r1, r2) := by rw [if_neg (show ¬ (false = true) by decide)] at H; exact H
         clear H; have H := H1; clear H1
         by_cases c34 : 3 = 0
         ·
          exact absurd c34 (by decide)
         ·
          rw [if_neg c34] at H; have c34b0 := beq_eq_false_iff_ne.mpr c34; have c34b1 := bne_iff_ne.mpr c34; simp only [Option.some.injEq, Prod.mk.injEq] at H; obtain ⟨rfl, rfl⟩ := H; have p107 : 0 ≤ (x9_1 : Int) := zo (by assumption); have q107 : x9_1 < (l0.length : Int) := zo (by assumption); obtain ⟨ad107, e107, hx107_0, hx107_1⟩ := at_T39 HR0.out x9_1 p107 q107; cases e107; replace hx107_0 := zB HB hx107_0; replace hx107_1 := zB HB hx107_1; replace p107 := eq_true p107; replace q107 := eq_true q107
          go_wp2_with (first | ((with_reducible refine zgd (N := 5) rfl ?_); refine zb ?hg (N := 5) ?hd (cs := #[.string ⟨#[]⟩, .string ⟨#[]⟩]) (t := 39) ?hr ?_; (case hd => rfl); (case hg => rfl); (case hr => go_simp; first | done | rfl); intro gb108 hg w37 hbox hb; have n0_ := zk (zs (by with_reducible repeat first | exact HB.out | apply zA | apply zN | apply zD) hb); have n1_ := zk (hbox); have n2_ := zk ((by rw [hg]; exact (zq (by with_reducible repeat first | exact HB.out | apply zA | apply zN | apply zD)) : w.heap.size ≤ gb108)); have n3_ := n2_; clear HB; have HB := n0_; have BK108 := n1_; have GW108 := n2_; have GE108 := n3_; clear n0_ n1_ n2_ n3_; clear hb hbox hg; obtain ⟨hcz38_0, hcz38_1, hfz38_0, hfz38_1⟩ := zc2 BK108.out) | (go_at_call 56; (with_reducible refine (chars_Name.calls k1 ((rd_T39 l0 x9_1).f0) true _ A11.out).mono ?_); rintro e w' ⟨rfl, ⟨nd, rfl⟩⟩; (try first | exact ⟨rfl, _, World.drewN_drewN _ _ _⟩ | exact ⟨rfl, _, Eq.trans (World.drewN_drewN _ _ _) (congrArg (World.drewN _) (Nat.add_assoc _ _ _))⟩)) | (go_at_call 53; (with_reducible refine (chars_Fits.calls ((rd_T39 l0 x9_1).f1) false _ A13.out).mono ?_); rintro e w' ⟨rfl, ⟨nd, rfl⟩⟩; (try first | exact ⟨rfl, _, World.drewN_drewN _ _ _⟩ | exact ⟨rfl, _, Eq.trans (World.drewN_drewN _ _ _) (congrArg (World.drewN _) (Nat.add_assoc _ _ _))⟩)))
          repeat (go_quiet (first | ((with_reducible refine zgd (N := 5) rfl ?_); refine zb ?hg (N := 5) ?hd (cs := #[.string ⟨#[]⟩, .string ⟨#[]⟩]) (t := 39) ?hr ?_; (case hd => rfl); (case hg => rfl); (case hr => go_simp; first | done | rfl); intro gb108 hg w37 hbox hb; have n0_ := zk (zs (by with_reducible repeat first | exact HB.out | apply zA | apply zN | apply zD) hb); have n1_ := zk (hbox); have n2_ := zk ((by rw [hg]; exact (zq (by with_reducible repeat first | exact HB.out | apply zA | apply zN | apply zD)) : w.heap.size ≤ gb108)); have n3_ := n2_; clear HB; have HB := n0_; have BK108 := n1_; have GW108 := n2_; have GE108 := n3_; clear n0_ n1_ n2_ n3_; clear hb hbox hg; obtain ⟨hcz38_0, hcz38_1, hfz38_0, hfz38_1⟩ := zc2 BK108.out) | (go_at_call 56; (with_reducible refine (chars_Name.calls k1 ((rd_T39 l0 x9_1).f0) true _ A11.out).mono ?_); rintro e w' ⟨rfl, ⟨nd, rfl⟩⟩; (try first | exact ⟨rfl, _, World.drewN_drewN _ _ _⟩ | exact ⟨rfl, _, Eq.trans (World.drewN_drewN _ _ _) (congrArg (World.drewN _) (Nat.add_assoc _ _ _))⟩)) | (go_at_call 53; (with_reducible refine (chars_Fits.calls ((rd_T39 l0 x9_1).f1) false _ A13.out).mono ?_); rintro e w' ⟨rfl, ⟨nd, rfl⟩⟩; (try first | exact ⟨rfl, _, World.drewN_drewN _ _ _⟩ | exact ⟨rfl, _, Eq.trans (World.drewN_drewN _ _ _) (congrArg (World.drewN _) (Nat.add_assoc _ _ _))⟩))); try go_wp2_with (first | ((with_reducible refine zgd (N := 5) rfl ?_); refine zb ?hg (N := 5) ?hd (cs := #[.string ⟨#[]⟩, .string ⟨#[]⟩]) (t := 39) ?hr ?_; (case hd => rfl); (case hg => rfl); (case hr => go_simp; first | done | rfl); intro gb108 hg w37 hbox hb; have n0_ := zk (zs (by with_reducible repeat first | exact HB.out | apply zA | apply zN | apply zD) hb); have n1_ := zk (hbox); have n2_ := zk ((by rw [hg]; exact (zq (by with_reducible repeat first | exact HB.out | apply zA | apply zN | apply zD)) : w.heap.size ≤ gb108)); have n3_ := n2_; clear HB; have HB := n0_; have BK108 := n1_; have GW108 := n2_; have GE108 := n3_; clear n0_ n1_ n2_ n3_; clear hb hbox hg; obtain ⟨hcz38_0, hcz38_1, hfz38_0, hfz38_1⟩ := zc2 BK108.out) | (go_at_call 56; (with_reducible refine (chars_Name.calls k1 ((rd_T39 l0 x9_1).f0) true _ A11.out).mono ?_); rintro e w' ⟨rfl, ⟨nd, rfl⟩⟩; (try first | exact ⟨rfl, _, World.drewN_drewN _ _ _⟩ | exact ⟨rfl, _, Eq.trans (World.drewN_drewN _ _ _) (congrArg (World.drewN _) (Nat.add_assoc _ _ _))⟩)) | (go_at_call 53; (with_reducible refine (chars_Fits.calls ((rd_T39 l0 x9_1).f1) false _ A13.out).mono ?_); rintro e w' ⟨rfl, ⟨nd, rfl⟩⟩; (try first | exact ⟨rfl, _, World.drewN_drewN _ _ _⟩ | exact ⟨rfl, _, Eq.trans (World.drewN_drewN _ _ _) (congrArg (World.drewN _) (Nat.add_assoc _ _ _))⟩))))
          go_ret2
          exact ⟨by first | rfl | (simp [wN, wS] <;> rfl) | (simp [*, wN, wS] <;> rfl), by with_reducible repeat first | exact HB.out | apply zA | apply zN | apply zD | refine zS ?_ GE108.out⟩
       ·
        replace c12 := Bool.eq_false_iff.mpr c12; subst c12
        have H1 : (if 8 = 0 then (attrs_Check.l0 k1 l0 l0 (l0.length : Int) (wrap64 (x9_1 + 1))) else (some (x9_1, 8))) = some (r1, r2) := by rw [if_neg (show ¬ (false = true) by decide)] at H; exact H
        clear H; have H := H1; clear H1
        by_cases c39 : 8 = 0
        ·
         exact absurd c39 (by decide)
        ·
         rw [if_neg c39] at H; have c39b0 := beq_eq_false_iff_ne.mpr c39; have c39b1 := bne_iff_ne.mpr c39; simp only [Option.some.injEq, Prod.mk.injEq] at H; obtain ⟨rfl, rfl⟩ := H; have p107 : 0 ≤ (x9_1 : Int) := zo (by assumption); have q107 : x9_1 < (l0.length : Int) := zo (by assumption); obtain ⟨ad107, e107, hx107_0, hx107_1⟩ := at_T39 HR0.out x9_1 p107 q107; cases e107; replace hx107_0 := zB HB hx107_0; replace hx107_1 := zB HB hx107_1; replace p107 := eq_true p107; replace q107 := eq_true q107
         go_wp2_with (first | ((with_reducible refine zgd (N := 5) rfl ?_); refine zb ?hg (N := 5) ?hd (cs := #[.string ⟨#[]⟩, .string ⟨#[]⟩]) (t := 39) ?hr ?_; (case hd => rfl); (case hg => rfl); (case hr => go_simp; first | done | rfl); intro gb108 hg w42 hbox hb; have n0_ := zk (zs (by with_reducible repeat first | exact HB.out | apply zA | apply zN | apply zD) hb); have n1_ := zk (hbox); have n2_ := zk ((by rw [hg]; exact (zq (by with_reducible repeat first | exact HB.out | apply zA | apply zN | apply zD)) : w.heap.size ≤ gb108)); have n3_ := n2_; clear HB; have HB := n0_; have BK108 := n1_; have GW108 := n2_; have GE108 := n3_; clear n0_ n1_ n2_ n3_; clear hb hbox hg; obtain ⟨hcz43_0, hcz43_1, hfz43_0, hfz43_1⟩ := zc2 BK108.out) | (go_at_call 56; (with_reducible refine (chars_Name.calls k1 ((rd_T39 l0 x9_1).f0) false _ A11.out).mono ?_); rintro e w' ⟨rfl, ⟨nd, rfl⟩⟩; (try first | exact ⟨rfl, _, World.drewN_drewN _ _ _⟩ | exact ⟨rfl, _, Eq.trans (World.drewN_drewN _ _ _) (congrArg (World.drewN _) (Nat.add_assoc _ _ _))⟩)))
         repeat (go_quiet (first | ((with_reducible refine zgd (N := 5) rfl ?_); refine zb ?hg (N := 5) ?hd (cs := #[.string ⟨#[]⟩, .string ⟨#[]⟩]) (t := 39) ?hr ?_; (case hd => rfl); (case hg => rfl); (case hr => go_simp; first | done | rfl); intro gb108 hg w42 hbox hb; have n0_ := zk (zs (by with_reducible repeat first | exact HB.out | apply zA | apply zN | apply zD) hb); have n1_ := zk (hbox); have n2_ := zk ((by rw [hg]; exact (zq (by with_reducible repeat first | exact HB.out | apply zA | apply zN | apply zD)) : w.heap.size ≤ gb108)); have n3_ := n2_; clear HB; have HB := n0_; have BK108 := n1_; have GW108 := n2_; have GE108 := n3_; clear n0_ n1_ n2_ n3_; clear hb hbox hg; obtain ⟨hcz43_0, hcz43_1, hfz43_0, hfz43_1⟩ := zc2 BK108.out) | (go_at_call 56; (with_reducible refine (chars_Name.calls k1 ((rd_T39 l0 x9_1).f0) false _ A11.out).mono ?_); rintro e w' ⟨rfl, ⟨nd, rfl⟩⟩; (try first | exact ⟨rfl, _, World.drewN_drewN _ _ _⟩ | exact ⟨rfl, _, Eq.trans (World.drewN_drewN _ _ _) (congrArg (World.drewN _) (Nat.add_assoc _ _ _))⟩))); try go_wp2_with (first | ((with_reducible refine zgd (N := 5) rfl ?_); refine zb ?hg (N := 5) ?hd (cs := #[.string ⟨#[]⟩, .string ⟨#[]⟩]) (t := 39) ?hr ?_; (case hd => rfl); (case hg => rfl); (case hr => go_simp; first | done | rfl); intro gb108 hg w42 hbox hb; have n0_ := zk (zs (by with_reducible repeat first | exact HB.out | apply zA | apply zN | apply zD) hb); have n1_ := zk (hbox); have n2_ := zk ((by rw [hg]; exact (zq (by with_reducible repeat first | exact HB.out | apply zA | apply zN | apply zD)) : w.heap.size ≤ gb108)); have n3_ := n2_; clear HB; have HB := n0_; have BK108 := n1_; have GW108 := n2_; have GE108 := n3_; clear n0_ n1_ n2_ n3_; clear hb hbox hg; obtain ⟨hcz43_0, hcz43_1, hfz43_0, hfz43_1⟩ := zc2 BK108.out) | (go_at_call 56; (with_reducible refine (chars_Name.calls k1 ((rd_T39 l0 x9_1).f0) false _ A11.out).mono ?_); rintro e w' ⟨rfl, ⟨nd, rfl⟩⟩; (try first | exact ⟨rfl, _, World.drewN_drewN _ _ _⟩ | exact ⟨rfl, _, Eq.trans (World.drewN_drewN _ _ _) (congrArg (World.drewN _) (Nat.add_assoc _ _ _))⟩))))
         go_ret2
         exact ⟨by first | rfl | (simp [wN, wS] <;> rfl) | (simp [*, wN, wS] <;> rfl), by with_reducible repeat first | exact HB.out | apply zA | apply zN | apply zD | refine zS ?_ GE108.out⟩
     ·
      rw [if_neg c4] at H; exact absurd H (by simp)
    ·
     rw [if_neg c3] at H; exact absurd H (by simp)
   ·
    rw [if_neg c2] at H; have c2b0 := decide_eq_false c2; clear c2; simp only [Option.some.injEq, Prod.mk.injEq] at H; obtain ⟨rfl, rfl⟩ := H; go_wp2
    repeat (go_quiet (fail); try go_wp2)
    go_ret2
    exact ⟨by first | rfl | (simp [wN, wS] <;> rfl) | (simp [*, wN, wS] <;> rfl), by with_reducible repeat first | exact HB.out | apply zA | apply zN | apply zD⟩
def vtree_wrong.f (k : Nat) (a0_0 : ByteArray) (a0_1 : ByteArray) (a0_2 : ByteArray) (l0_3 : List (S39)) (l0_4 : List (S54)) : Option (Int) := (chars_Tag.f k a0_0).bind fun t114 => (if t114 = true then ((chars_Fits.f a0_1).bind fun t115 => (if t115 = true then ((chars_Fits.f a0_2).bind fun t116 => (if t116 = true then ((attrs_Check.f k l0_3).bind fun bt117 => (some bt117.2)) else (some 3))) else (some 3))) else (some 7))
theorem vtree_wrong.mono : ∀ a0 a1 a2 a3 a4 k, LeO (vtree_wrong.f k a0 a1 a2 a3 a4) (vtree_wrong.f (k + 1) a0 a1 a2 a3 a4) := by
  intro a0 a1 a2 a3 a4 k; unfold vtree_wrong.f
  with_reducible repeat' first | exact attrs_Check.mono _ _ | exact chars_Tag.mono _ _ | exact LeO.refl _ | exact LeO.none _ | refine LeO.ite ?_ ?_ | refine LeO.bind ?_ (fun _ => ?_)
set_option maxHeartbeats 8000000 in
set_option maxRecDepth 100000 in
theorem vtree_wrong.calls (k : Nat) (a0_0 : ByteArray) (a0_1 : ByteArray) (a0_2 : ByteArray) (A0_3 : Option Addr) (c0_3 : Nat) (l0_3 : List (S39)) (A0_4 : Option Addr) (c0_4 : Nat) (l0_4 : List (S54)) (r : Int) (w : World) (hr0_3 : Kd.C k39 w A0_3 l0_3.length l0_3) (hc0_3 : l0_3.length ≤ c0_3) (hr0_4 : Kd.C k54 w A0_4 l0_4.length l0_4) (hc0_4 : l0_4.length ≤ c0_4) (h : vtree_wrong.f k a0_0 a0_1 a0_2 l0_3 l0_4 = some r) :
    Calls Try.prog 51 #[.agg #[.string a0_0, .string a0_1, .string a0_2, .slice A0_3 l0_3.length c0_3, .slice A0_4 l0_4.length c0_4]] w fun e w' => e = .returned (.int .i64 r) ∧ Below w.heap.size w w' := by
  have hu54 := Try.underlying54; have HR0_3 := zk hr0_3; have HC0_3 := zk hc0_3; clear hr0_3 hc0_3; have HR0_4 := zk hr0_4; have HC0_4 := zk hc0_4; clear hr0_4 hc0_4; have HB := zk (Below.refl w.heap.size w); have H : ((chars_Tag.f k a0_0).bind fun t114 => (if t114 = true then ((chars_Fits.f a0_1).bind fun t115 => (if t115 = true then ((chars_Fits.f a0_2).bind fun t116 => (if t116 = true then ((attrs_Check.f k l0_3).bind fun bt117 => (some bt117.2)) else (some 3))) else (some 3))) else (some 7))) = some r := h; clear h; replace H := Option.bind_eq_some_iff.mp H; obtain ⟨t114, A20, H⟩ := H; replace H : (if t114 = true then ((chars_Fits.f a0_1).bind fun t115 => (if t115 = true then ((chars_Fits.f a0_2).bind fun t116 => (if t116 = true then ((attrs_Check.f k l0_3).bind fun bt117 => (some bt117.2)) else (some 3))) else (some 3))) else (some 7)) = some r := H; have A2 := zk A20; clear A20
  by_cases c3 : t114 = true
  · subst c3
    have H1 : ((chars_Fits.f a0_1).bind fun t115 => (if t115 = true then ((chars_Fits.f a0_2).bind fun t116 => (if t116 = true then ((attrs_Check.f k l0_3).bind fun bt117 => (some bt117.2)) else (some 3))) else (some 3))) = some r := by rw [if_pos rfl] at H; exact H
    clear H
    have H := H1
    clear H1
    replace H := Option.bind_eq_some_iff.mp H
    obtain ⟨t115, A40, H⟩ := H
    replace H : (if t115 = true then ((chars_Fits.f a0_2).bind fun t116 => (if t116 = true then ((attrs_Check.f k l0_3).bind fun bt117 => (some bt117.2)) else (some 3))) else (some 3)) = some r := H
    have A4 := zk A40
    clear A40
    by_cases c5 : t115 = true
    · subst c5
      have H1 : ((chars_Fits.f a0_2).bind fun t116 => (if t116 = true then ((attrs_Check.f k l0_3).bind fun bt117 => (some bt117.2)) else (some 3))) = some r := by rw [if_pos rfl] at H; exact H
      clear H
      have H := H1
      clear H1
      replace H := Option.bind_eq_some_iff.mp H
      obtain ⟨t116, A60, H⟩ := H
      replace H : (if t116 = true then ((attrs_Check.f k l0_3).bind fun bt117 => (some bt117.2)) else (some 3)) = some r := H
      have A6 := zk A60
      clear A60
      by_cases c7 : t116 = true
      · subst c7
        have H1 : ((attrs_Check.f k l0_3).bind fun bt117 => (some bt117.2)) = some r := by rw [if_pos rfl] at H; exact H
        clear H
        have H := H1
        clear H1
        replace H := Option.bind_eq_some_iff.mp H
        obtain ⟨⟨t117, t118⟩, A80, H⟩ := H
        replace H : (some t118) = some r := H
        have A8 := zk A80
        clear A80
        obtain rfl := Option.some.inj H
        go_enter Try.func51, Try.ntmps51
        go_wp2_with (first | ((with_reducible refine zgd (N := 1) rfl ?_); refine zb ?hg (N := 1) ?hd (cs := #[.string a0_0, .string a0_1, .string a0_2, .slice A0_3 l0_3.length c0_3, .slice A0_4 l0_4.length c0_4]) (t := 54) ?hr ?_; (case hd => rfl); (case hg => rfl); (case hr => go_simp; first | done | rfl); intro gb113 hg w9 hbox hb; have n0_ := zk (zs (by with_reducible repeat first | exact HB.out | apply zA | apply zN | apply zD) hb); have n1_ := zk (hbox); have n2_ := zk ((by rw [hg]; exact (zq (by with_reducible repeat first | exact HB.out | apply zA | apply zN | apply zD)) : w.heap.size ≤ gb113)); have n3_ := n2_; clear HB; have HB := n0_; have BK113 := n1_; have GW113 := n2_; have GE113 := n3_; clear n0_ n1_ n2_ n3_; clear hb hbox hg; obtain ⟨hcz10_0, hcz10_1, hcz10_2, hcz10_3, hcz10_4, hfz10_0, hfz10_1, hfz10_2, hfz10_3, hfz10_4⟩ := zc5 BK113.out) | ((with_reducible refine zgk (f := 52) rfl ?_); refine zgl (some 8) rfl rfl Try.func52 (by kernel_rfl) rfl #[.string a0_0] rfl (by (try simp only [List.map_toArray, List.map_cons, List.map_nil]); first | done | rfl | (simp only [List.length_drop, List.length_take]; rfl)) ?_; (with_reducible refine (chars_Tag.calls k a0_0 true _ A2.out).mono ?_); rintro e w' ⟨rfl, ⟨nd, rfl⟩⟩; refine ⟨_, rfl, ?_⟩) | ((with_reducible refine zgk (f := 53) rfl ?_); refine zgl (some 13) rfl rfl Try.func53 (by kernel_rfl) rfl #[.string a0_1] rfl (by (try simp only [List.map_toArray, List.map_cons, List.map_nil]); first | done | rfl | (simp only [List.length_drop, List.length_take]; rfl)) ?_; (with_reducible refine (chars_Fits.calls a0_1 true _ A4.out).mono ?_); rintro e w' ⟨rfl, ⟨nd, rfl⟩⟩; refine ⟨_, rfl, ?_⟩) | (go_at_call 53; (with_reducible refine (chars_Fits.calls a0_2 true _ A6.out).mono ?_); rintro e w' ⟨rfl, ⟨nd, rfl⟩⟩) | ((with_reducible refine zgk (f := 54) rfl ?_); refine zgl (some 24) rfl rfl Try.func54 (by kernel_rfl) rfl #[.slice A0_3 l0_3.length c0_3] rfl (by (try simp only [List.map_toArray, List.map_cons, List.map_nil]); first | done | rfl | (simp only [List.length_drop, List.length_take]; rfl)) ?_; (with_reducible refine (attrs_Check.calls k _ _ l0_3 t117 t118 _ ?side1 ?side2 A8.out).mono ?_); (case side1 => repeat (first | exact (Kd.C_below HR0_3.out (by with_reducible repeat first | exact HB.out | apply zA | apply zN | apply zD | refine zS ?_ GE113.out)) | (with_reducible refine Kd.C_alloc ?_ _) | (with_reducible refine Kd.C_drewN ?_ _) | (with_reducible refine Kd.C_drew ?_))); (case side2 => exact HC0_3.out); rintro e w11 ⟨rfl, hb⟩; refine ⟨_, rfl, ?_⟩; have n0_ := zk (blk_below (g := gb113) (o := .cells #[.string a0_0, .string a0_1, .string a0_2, .slice A0_3 l0_3.length c0_3, .slice A0_4 l0_4.length c0_4] 54 (0, 0)) (by (with_reducible repeat (first | refine zM ?_ _ | refine zE ?_ | refine zF ?_ _)); exact BK113.out) hb); have n1_ := zk (zs (by with_reducible repeat first | exact HB.out | apply zA | apply zN | apply zD | refine zS ?_ GE113.out) hb); clear BK113; clear HB; have BK113 := n0_; have HB := n1_; clear n0_ n1_; (try clear hb); (try clear hb2); (try clear hk); (try clear hi)))
        go_ret
        exact ⟨by first | rfl | (simp [wN, wS] <;> rfl) | (simp [*, wN, wS] <;> rfl), by with_reducible repeat first | exact HB.out | apply zA | apply zN | apply zD | refine zS ?_ GE113.out⟩
      · replace c7 := Bool.eq_false_iff.mpr c7
        subst c7
        have H1 : (some 3) = some r := by rw [if_neg (show ¬ (false = true) by decide)] at H; exact H
        clear H
        have H := H1
        clear H1
        obtain rfl := Option.some.inj H
        go_enter Try.func51, Try.ntmps51
        go_wp2_with (first | ((with_reducible refine zgd (N := 1) rfl ?_); refine zb ?hg (N := 1) ?hd (cs := #[.string a0_0, .string a0_1, .string a0_2, .slice A0_3 l0_3.length c0_3, .slice A0_4 l0_4.length c0_4]) (t := 54) ?hr ?_; (case hd => rfl); (case hg => rfl); (case hr => go_simp; first | done | rfl); intro gb113 hg w12 hbox hb; have n0_ := zk (zs (by with_reducible repeat first | exact HB.out | apply zA | apply zN | apply zD) hb); have n1_ := zk (hbox); have n2_ := zk ((by rw [hg]; exact (zq (by with_reducible repeat first | exact HB.out | apply zA | apply zN | apply zD)) : w.heap.size ≤ gb113)); have n3_ := n2_; clear HB; have HB := n0_; have BK113 := n1_; have GW113 := n2_; have GE113 := n3_; clear n0_ n1_ n2_ n3_; clear hb hbox hg; obtain ⟨hcz13_0, hcz13_1, hcz13_2, hcz13_3, hcz13_4, hfz13_0, hfz13_1, hfz13_2, hfz13_3, hfz13_4⟩ := zc5 BK113.out) | ((with_reducible refine zgk (f := 52) rfl ?_); refine zgl (some 8) rfl rfl Try.func52 (by kernel_rfl) rfl #[.string a0_0] rfl (by (try simp only [List.map_toArray, List.map_cons, List.map_nil]); first | done | rfl | (simp only [List.length_drop, List.length_take]; rfl)) ?_; (with_reducible refine (chars_Tag.calls k a0_0 true _ A2.out).mono ?_); rintro e w' ⟨rfl, ⟨nd, rfl⟩⟩; refine ⟨_, rfl, ?_⟩) | ((with_reducible refine zgk (f := 53) rfl ?_); refine zgl (some 13) rfl rfl Try.func53 (by kernel_rfl) rfl #[.string a0_1] rfl (by (try simp only [List.map_toArray, List.map_cons, List.map_nil]); first | done | rfl | (simp only [List.length_drop, List.length_take]; rfl)) ?_; (with_reducible refine (chars_Fits.calls a0_1 true _ A4.out).mono ?_); rintro e w' ⟨rfl, ⟨nd, rfl⟩⟩; refine ⟨_, rfl, ?_⟩) | (go_at_call 53; (with_reducible refine (chars_Fits.calls a0_2 false _ A6.out).mono ?_); rintro e w' ⟨rfl, ⟨nd, rfl⟩⟩))
        go_ret
        exact ⟨by first | rfl | (simp [wN, wS] <;> rfl) | (simp [*, wN, wS] <;> rfl), by with_reducible repeat first | exact HB.out | apply zA | apply zN | apply zD | refine zS ?_ GE113.out⟩
    · replace c5 := Bool.eq_false_iff.mpr c5
      subst c5
      have H1 : (some 3) = some r := by rw [if_neg (show ¬ (false = true) by decide)] at H; exact H
      clear H
      have H := H1
      clear H1
      obtain rfl := Option.some.inj H
      go_enter Try.func51, Try.ntmps51
      go_wp2_with (first | ((with_reducible refine zgd (N := 1) rfl ?_); refine zb ?hg (N := 1) ?hd (cs := #[.string a0_0, .string a0_1, .string a0_2, .slice A0_3 l0_3.length c0_3, .slice A0_4 l0_4.length c0_4]) (t := 54) ?hr ?_; (case hd => rfl); (case hg => rfl); (case hr => go_simp; first | done | rfl); intro gb113 hg w14 hbox hb; have n0_ := zk (zs (by with_reducible repeat first | exact HB.out | apply zA | apply zN | apply zD) hb); have n1_ := zk (hbox); have n2_ := zk ((by rw [hg]; exact (zq (by with_reducible repeat first | exact HB.out | apply zA | apply zN | apply zD)) : w.heap.size ≤ gb113)); have n3_ := n2_; clear HB; have HB := n0_; have BK113 := n1_; have GW113 := n2_; have GE113 := n3_; clear n0_ n1_ n2_ n3_; clear hb hbox hg; obtain ⟨hcz15_0, hcz15_1, hcz15_2, hcz15_3, hcz15_4, hfz15_0, hfz15_1, hfz15_2, hfz15_3, hfz15_4⟩ := zc5 BK113.out) | ((with_reducible refine zgk (f := 52) rfl ?_); refine zgl (some 8) rfl rfl Try.func52 (by kernel_rfl) rfl #[.string a0_0] rfl (by (try simp only [List.map_toArray, List.map_cons, List.map_nil]); first | done | rfl | (simp only [List.length_drop, List.length_take]; rfl)) ?_; (with_reducible refine (chars_Tag.calls k a0_0 true _ A2.out).mono ?_); rintro e w' ⟨rfl, ⟨nd, rfl⟩⟩; refine ⟨_, rfl, ?_⟩) | ((with_reducible refine zgk (f := 53) rfl ?_); refine zgl (some 13) rfl rfl Try.func53 (by kernel_rfl) rfl #[.string a0_1] rfl (by (try simp only [List.map_toArray, List.map_cons, List.map_nil]); first | done | rfl | (simp only [List.length_drop, List.length_take]; rfl)) ?_; (with_reducible refine (chars_Fits.calls a0_1 false _ A4.out).mono ?_); rintro e w' ⟨rfl, ⟨nd, rfl⟩⟩; refine ⟨_, rfl, ?_⟩))
      go_ret
      exact ⟨by first | rfl | (simp [wN, wS] <;> rfl) | (simp [*, wN, wS] <;> rfl), by with_reducible repeat first | exact HB.out | apply zA | apply zN | apply zD | refine zS ?_ GE113.out⟩
  · replace c3 := Bool.eq_false_iff.mpr c3
    subst c3
    have H1 : (some 7) = some r := by rw [if_neg (show ¬ (false = true) by decide)] at H; exact H
    clear H
    have H := H1
    clear H1
    obtain rfl := Option.some.inj H
    go_enter Try.func51, Try.ntmps51
    go_wp2_with (first | ((with_reducible refine zgd (N := 1) rfl ?_); refine zb ?hg (N := 1) ?hd (cs := #[.string a0_0, .string a0_1, .string a0_2, .slice A0_3 l0_3.length c0_3, .slice A0_4 l0_4.length c0_4]) (t := 54) ?hr ?_; (case hd => rfl); (case hg => rfl); (case hr => go_simp; first | done | rfl); intro gb113 hg w16 hbox hb; have n0_ := zk (zs (by with_reducible repeat first | exact HB.out | apply zA | apply zN | apply zD) hb); have n1_ := zk (hbox); have n2_ := zk ((by rw [hg]; exact (zq (by with_reducible repeat first | exact HB.out | apply zA | apply zN | apply zD)) : w.heap.size ≤ gb113)); have n3_ := n2_; clear HB; have HB := n0_; have BK113 := n1_; have GW113 := n2_; have GE113 := n3_; clear n0_ n1_ n2_ n3_; clear hb hbox hg; obtain ⟨hcz17_0, hcz17_1, hcz17_2, hcz17_3, hcz17_4, hfz17_0, hfz17_1, hfz17_2, hfz17_3, hfz17_4⟩ := zc5 BK113.out) | ((with_reducible refine zgk (f := 52) rfl ?_); refine zgl (some 8) rfl rfl Try.func52 (by kernel_rfl) rfl #[.string a0_0] rfl (by (try simp only [List.map_toArray, List.map_cons, List.map_nil]); first | done | rfl | (simp only [List.length_drop, List.length_take]; rfl)) ?_; (with_reducible refine (chars_Tag.calls k a0_0 false _ A2.out).mono ?_); rintro e w' ⟨rfl, ⟨nd, rfl⟩⟩; refine ⟨_, rfl, ?_⟩))
    go_ret
    exact ⟨by first | rfl | (simp [wN, wS] <;> rfl) | (simp [*, wN, wS] <;> rfl), by with_reducible repeat first | exact HB.out | apply zA | apply zN | apply zD | refine zS ?_ GE113.out⟩
end Go.Proofs.Ytelacebdmmanhaa.G
namespace Go.Proofs.Ytelacebdmmanhaa.G
open Go.RowKit Go.Proofs.YtelacebdmmanhaaW.PrintWords Go.Proofs.YtelacebdmmanhaaW.PrintLast Go.Proofs.YtelacebdmmanhaaW.PrintMore
set_option linter.unusedVariables false
set_option linter.unusedSimpArgs false
/-- What stands behind the switch: the error that is found at the node alone. -/
def visE (k : Nat) (x : S54) (depth num : Int) : Option Int :=
  if num = 4096 then some 12 else if depth > 64 then some 11 else vtree_wrong.f k x.f0 x.f1 x.f2 x.f3 x.f4
/-- .. and with the keys that were met. -/
def visX (e0 : Int) (key : List UInt8) (met : List (List UInt8)) : Int := if e0 = 0 ∧ key ∈ met then 10 else e0
theorem visX_ne {e0 : Int} (h : e0 ≠ 0) (key : List UInt8) (met : List (List UInt8)) : visX e0 key met = e0 := if_neg (fun h' => h h'.1)
/-- The visits of siblings: have all been right?, how many nodes, how deep, and the last error. -/
def vis : Nat → List S54 → Int → Int → Int → List (List UInt8) → Option (Bool × Int × Int × Int)
  | 0, _, _, _, _, _ => none
  | _ + 1, [], _, num, deep, _ => some (true, num, deep, 0)
  | k + 1, x :: xs, depth, num, deep, met => if x.f1.size ≤ 140737488351232 then ((visE k x depth num).bind fun e0 =>
    if visX e0 x.f1.data.toList met ≠ 0 then some (false, num, max deep depth, visX e0 x.f1.data.toList met)
    else (vis k x.f4 (depth + 1) (num + 1) (max deep depth) []).bind fun r =>
      if r.1 = true then vis k xs depth r.2.1 r.2.2.1 (if x.f1.data.toList = [] then met else x.f1.data.toList :: met) else some r) else none
/-- One visit. -/
def vis1 (k : Nat) (x : S54) (depth num deep : Int) (met : List (List UInt8)) : Option (Bool × Int × Int × Int) :=
  if x.f1.size ≤ 140737488351232 then ((visE k x depth num).bind fun e0 =>
    if visX e0 x.f1.data.toList met ≠ 0 then some (false, num, max deep depth, visX e0 x.f1.data.toList met)
    else vis k x.f4 (depth + 1) (num + 1) (max deep depth) []) else none
def vtree_check.f (k : Nat) (a0_0 : ByteArray) (a0_1 : ByteArray) (a0_2 : ByteArray) (l0_3 : List (S39)) (l0_4 : List (S54)) : Option (Int × Int × Int) :=
  (vis1 k ⟨a0_0, a0_1, a0_2, l0_3, l0_4⟩ 1 0 0 []).bind fun r => some r.2
theorem visE_mono (k : Nat) (x : S54) (depth num : Int) : LeO (visE k x depth num) (visE (k + 1) x depth num) := by
  unfold visE; exact LeO.ite (LeO.refl _) (LeO.ite (LeO.refl _) (vtree_wrong.mono _ _ _ _ _ _))
theorem vis_mono (k : Nat) : ∀ xs depth num deep met, LeO (vis k xs depth num deep met) (vis (k + 1) xs depth num deep met) := by
  induction k with
  | zero => exact fun _ _ _ _ _ => LeO.none _
  | succ k ih =>
    intro xs depth num deep met
    cases xs with
    | nil => exact LeO.refl _
    | cons x xs =>
      show LeO (vis (k + 1) _ _ _ _ _) (vis (k + 2) _ _ _ _ _)
      rw [vis, vis]; refine LeO.ite (LeO.bind (visE_mono _ _ _ _) (fun _ => LeO.ite (LeO.refl _) (LeO.bind (ih _ _ _ _ _) (fun _ => LeO.ite (ih _ _ _ _ _) (LeO.refl _))))) (LeO.none _)
theorem vis1_mono (k : Nat) (x : S54) (depth num deep : Int) (met : List (List UInt8)) : LeO (vis1 k x depth num deep met) (vis1 (k + 1) x depth num deep met) :=
  LeO.ite (LeO.bind (visE_mono _ _ _ _) (fun _ => LeO.ite (LeO.refl _) (vis_mono _ _ _ _ _ _))) (LeO.none _)
theorem vtree_check.mono : ∀ a0 a1 a2 a3 a4 k, LeO (vtree_check.f k a0 a1 a2 a3 a4) (vtree_check.f (k + 1) a0 a1 a2 a3 a4) := by
  intro a0 a1 a2 a3 a4 k; exact LeO.bind (vis1_mono _ _ _ _ _ _) (fun _ => LeO.refl _)
theorem vis_cons (k : Nat) (x : S54) (xs : List S54) (depth num deep : Int) (met : List (List UInt8)) :
    vis (k + 1) (x :: xs) depth num deep met = (vis1 k x depth num deep met).bind fun r => if r.1 = true then vis k xs depth r.2.1 r.2.2.1 (if x.f1.data.toList = [] then met else x.f1.data.toList :: met) else some r := by
  rw [vis, vis1]; split
  · rw [Option.bind_assoc]
    congr 1
    funext e0
    split
    · rfl
    · rfl
  · rfl
theorem vis_num (k : Nat) : ∀ xs depth num deep met r, vis k xs depth num deep met = some r → num ≤ 4096 → num ≤ r.2.1 ∧ r.2.1 ≤ 4096 ∧ (r.1 = true → r.2.2.2 = 0) := by
  induction k with
  | zero => intro xs depth num deep met r h; cases h
  | succ k ih =>
    intro xs depth num deep met r h hn
    cases xs with
    | nil => cases h; exact ⟨Int.le_refl _, hn, fun _ => rfl⟩
    | cons x xs =>
      rw [vis] at h; split at h
      case isFalse => cases h
      obtain ⟨e0, h0, h⟩ := Option.bind_eq_some_iff.1 h; split at h; (cases h; exact ⟨Int.le_refl _, hn, fun h => by cases h⟩)
      · next hne =>
        have hn1 : num + 1 ≤ 4096 := by
          by_cases he : num = 4096
          (unfold visE at h0; rw [if_pos he] at h0; cases h0; exact absurd (by rw [visX_ne (by decide)]; decide) hne); (omega)
        obtain ⟨r1, h1, h⟩ := Option.bind_eq_some_iff.1 h; have i1 := ih _ _ _ _ _ _ h1 hn1; split at h; (have i2 := ih _ _ _ _ _ _ h i1.2.1; exact ⟨by omega, i2.2⟩); (cases h; exact ⟨by omega, i1.2⟩)
theorem vis1_num {k : Nat} {x : S54} {depth num deep : Int} {met : List (List UInt8)} {r : Bool × Int × Int × Int} (h : vis1 k x depth num deep met = some r) (hn : num ≤ 4096) (hr : r.1 = true) : num + 1 ≤ r.2.1 ∧ r.2.1 ≤ 4096 ∧ r.2.2.2 = 0 := by
  unfold vis1 at h; split at h
  case isFalse => cases h
  obtain ⟨e0, h0, h⟩ := Option.bind_eq_some_iff.1 h; split at h; (cases h; cases hr)
  · next hne =>
    have hn1 : num + 1 ≤ 4096 := by
      by_cases he : num = 4096
      (unfold visE at h0; rw [if_pos he] at h0; cases h0; exact absurd (by rw [visX_ne (by decide)]; decide) hne); (omega)
    have i1 := vis_num _ _ _ _ _ _ _ h hn1; exact ⟨i1.1, i1.2.1, i1.2.2 hr⟩
theorem drop_T54 (xs : List S54) (i : Int) (h0 : 0 ≤ i) (hi : i < xs.length) : xs.drop i.toNat = rd_T54 xs i :: xs.drop (i + 1).toNat := by
  rw [List.drop_eq_getElem_cons (by omega), show (i + 1).toNat = i.toNat + 1 by omega]
  congr 1
  unfold rd_T54; rw [List.getD_eq_getElem?_getD, List.getElem?_eq_getElem (by omega)]; rfl
/-- The set of keys in block m. -/
def MapIs (w : World) (m : Nat) (met : List (List UInt8)) : Prop :=
  ∃ (D : DataW Unit), w.ownsMap Try.prog 9 unitElem m met.length D ∧ ∀ s : List UInt8, Maps.has D (.string s) = decide (s ∈ met)
theorem law9 : Maps.Keyed Try.prog 9 := Maps.string_keyed Try.underlying9
theorem zero85 (w : World) : (zeroValue 92).run Try.prog w = .ok (.agg #[]) w := by kernel_rfl
theorem MapIs.made (w : World) : MapIs (w.alloc (.map #[] 0)) w.heap.size [] := ⟨.map [], World.ownsMap_made _ _ _ _, fun s => by simp; rfl⟩
theorem MapIs.put {w' : World} {m : Nat} {met : List (List UInt8)} {s : List UInt8} {D : DataW Unit} (h : ∀ s : List UInt8, Maps.has D (.string s) = decide (s ∈ met)) (hm : Maps.IsMap D) (ho : w'.ownsMap Try.prog 9 unitElem m (met.length + 1) (D.put (.string s) (.agg []))) : MapIs w' m (s :: met) := by
  refine ⟨_, ho, fun t => ?_⟩
  by_cases he : t = s
  (subst he; rw [Maps.has_put_same hm (by simp [WideAt.IsKeyLit])]; simp); (rw [Maps.has_put_other (by intro h; injection h with h; exact he h), h t]; simp [he])
end Go.Proofs.Ytelacebdmmanhaa.G
