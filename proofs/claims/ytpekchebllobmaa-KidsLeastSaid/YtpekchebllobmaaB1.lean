/- What the claim LawKidsLeast rests on, part 1 of 5: the kit's words, the printed walks, the walks by hand, the plain laws. -/
import Derived.Test.YtpekchebllobmaaB0
import Derived.WalkMore
import Derived.Laws.EntriesVeiled
import Derived.Laws.Bits64b
import Derived.BigQuiet
namespace Go.Proofs.Ytpekchebllobmaa.G
open Go.RowKit Go.Proofs.YtpekchebllobmaaW.PrintWords Go.Proofs.YtpekchebllobmaaW.PrintLast Go.Proofs.YtpekchebllobmaaW.PrintMore
attribute [local go_sem] max2_int min2_int max_two min_two max_three min_three max_four min_four
set_option linter.unusedVariables false
set_option linter.unusedSimpArgs false
attribute [local go_sem high] eqA50
mutual
def r32_Run.l0 : Nat → List (S50) → List (S50) → List Int → List (S38) → List (S50) → Int → Int → Option ((List (S50)) × Bool)
 | 0, _, _, _, _, _, _, _ => none
 | k + 1, x0, x1, x2, x3, x10, x20, x21 => if x21 < x20 then (r32_Run.l1 k x0 x1 x2 x3 x10 x21 false x20 x21 (x2.length : Int) 0) else (r32_Run.l2 k x1 x3 x10 (x3.length : Int) 0)
def r32_Run.l1 : Nat → List (S50) → List (S50) → List Int → List (S38) → List (S50) → Int → Bool → Int → Int → Int → Int → Option ((List (S50)) × Bool)
 | 0, _, _, _, _, _, _, _, _, _, _, _ => none
 | k + 1, x0, x1, x2, x3, x10, x11, x12, x20, x21, x25, x26 => if x26 < x25 then (if x12 = true then (r32_Run.l1 k x0 x1 x2 x3 x10 x11 true x20 x21 x25 (wrap64 (x26 + 1))) else (if 0 ≤ x26 then (if x26 < (x2.length : Int) then (r32_Run.l1 k x0 x1 x2 x3 x10 x11 ((rd x2 x26) == x11) x20 x21 x25 (wrap64 (x26 + 1))) else (none)) else (none))) else (if x12 = true then (r32_Run.l0 k x0 x1 x2 x3 x10 x20 (wrap64 (x21 + 1))) else (if 0 ≤ x11 then (if x11 < (x0.length : Int) then (if x10.length < 3518437208883 then (r32_Run.l0 k x0 x1 x2 x3 (x10 ++ [(⟨(rd_T50 x0 x11).f0, (rd_T50 x0 x11).f1, (rd_T50 x0 x11).f2⟩ : S50)]) x20 (wrap64 (x21 + 1))) else (none)) else (none)) else (none)))
def r32_Run.l2 : Nat → List (S50) → List (S38) → List (S50) → Int → Int → Option ((List (S50)) × Bool)
 | 0, _, _, _, _, _ => none
 | k + 1, x1, x3, x10, x50, x51 => if x51 < x50 then (if 0 ≤ x51 then (if x51 < (x3.length : Int) then (if ((rd_T38 x3 x51).f0) < 0 then (r32_Run.j3 k x1 x3 x10 x50 x51 true ((rd_T38 x3 x51).f0) ((rd_T38 x3 x51).f1) ((rd_T38 x3 x51).f2)) else (if ((rd_T38 x3 x51).f0) ≥ (x1.length : Int) then (r32_Run.j3 k x1 x3 x10 x50 x51 true ((rd_T38 x3 x51).f0) ((rd_T38 x3 x51).f1) ((rd_T38 x3 x51).f2)) else (if ((rd_T38 x3 x51).f2) < (-1) then (r32_Run.j3 k x1 x3 x10 x50 x51 true ((rd_T38 x3 x51).f0) ((rd_T38 x3 x51).f1) ((rd_T38 x3 x51).f2)) else (r32_Run.j3 k x1 x3 x10 x50 x51 (decide (((rd_T38 x3 x51).f2) ≥ (x1.length : Int))) ((rd_T38 x3 x51).f0) ((rd_T38 x3 x51).f1) ((rd_T38 x3 x51).f2))))) else (none)) else (none)) else (some (x10, true))
def r32_Run.j3 : Nat → List (S50) → List (S38) → List (S50) → Int → Int → Bool → Int → Int → Int → Option ((List (S50)) × Bool)
 | 0, _, _, _, _, _, _, _, _, _ => none
 | k + 1, x1, x3, x10, x50, x51, x79, x339000, x339001, x339002 => if x79 = true then (some (([] : List (S50)), false)) else (r32_Run.l3 k x1 x3 x10 ([] : List (S50)) x50 x51 (x10.length : Int) 0 x339000 x339001 x339002)
def r32_Run.l3 : Nat → List (S50) → List (S38) → List (S50) → List (S50) → Int → Int → Int → Int → Int → Int → Int → Option ((List (S50)) × Bool)
 | 0, _, _, _, _, _, _, _, _, _, _, _ => none
 | k + 1, x1, x3, x10, x16, x50, x51, x81, x82, x339000, x339001, x339002 => if x82 < x81 then (if 0 ≤ x82 then (if x82 < (x10.length : Int) then (if 0 ≤ x339000 then (if x339000 < (x1.length : Int) then (if (!((((rd_T50 x10 x82).f0).toList) == (((rd_T50 x1 x339000).f0).toList)) || (!((((rd_T50 x10 x82).f1).toList) == (((rd_T50 x1 x339000).f1).toList)) || (!(((rd_T50 x10 x82).f2) == ((rd_T50 x1 x339000).f2))))) = true then (if x16.length < 3518437208883 then (r32_Run.l3 k x1 x3 x10 (x16 ++ [(⟨(rd_T50 x10 x82).f0, (rd_T50 x10 x82).f1, (rd_T50 x10 x82).f2⟩ : S50)]) x50 x51 x81 (wrap64 (x82 + 1)) x339000 x339001 x339002) else (none)) else (r32_Run.l3 k x1 x3 x10 x16 x50 x51 x81 (wrap64 (x82 + 1)) x339000 x339001 x339002)) else (none)) else (none)) else (none)) else (none)) else (if x339002 ≥ 0 then (if 0 ≤ x339002 then (if x339002 < (x1.length : Int) then ((r12_Find.f k x16 ((rd_T50 x1 x339002).f0) ((rd_T50 x1 x339002).f1) ((rd_T50 x1 x339002).f2)).bind fun t346 => (if t346 < 0 then (some (([] : List (S50)), false)) else (if 0 ≤ t346 then (if t346 ≤ (x16.length : Int) then ((some (x16.take (t346 : Int).toNat : List (S50))).bind fun y347 => (if ([] : List (S50)).length + y347.length < 3518437208883 then ((some (([] : List (S50)) ++ y347 : List (S50))).bind fun y351 => (if 0 ≤ x339000 then (if x339000 < (x1.length : Int) then (if y351.length < 3518437208883 then ((some (y351 ++ [(⟨(rd_T50 x1 x339000).f0, (rd_T50 x1 x339000).f1, (rd_T50 x1 x339000).f2⟩ : S50)] : List (S50))).bind fun y355 => ((some (x16.drop (t346 : Int).toNat : List (S50))).bind fun y358 => (if y355.length + y358.length < 3518437208883 then (r32_Run.l2 k x1 x3 (y355 ++ y358) x50 (wrap64 (x51 + 1))) else (none)))) else (none)) else (none)) else (none))) else (none))) else (none)) else (none)))) else (none)) else (none)) else (if (x16.length : Int) < 0 then (some (([] : List (S50)), false)) else (if 0 ≤ (x16.length : Int) then (if (x16.length : Int) ≤ (x16.length : Int) then ((some (x16.take ((x16.length : Int) : Int).toNat : List (S50))).bind fun y365 => (if ([] : List (S50)).length + y365.length < 3518437208883 then ((some (([] : List (S50)) ++ y365 : List (S50))).bind fun y369 => (if 0 ≤ x339000 then (if x339000 < (x1.length : Int) then (if y369.length < 3518437208883 then ((some (y369 ++ [(⟨(rd_T50 x1 x339000).f0, (rd_T50 x1 x339000).f1, (rd_T50 x1 x339000).f2⟩ : S50)] : List (S50))).bind fun y373 => ((some (x16.drop ((x16.length : Int) : Int).toNat : List (S50))).bind fun y376 => (if y373.length + y376.length < 3518437208883 then (r32_Run.l2 k x1 x3 (y373 ++ y376) x50 (wrap64 (x51 + 1))) else (none)))) else (none)) else (none)) else (none))) else (none))) else (none)) else (none))))
end
def r32_Run.f (k : Nat) (l0 : List (S50)) (l1 : List (S50)) (l2 : List Int) (l3 : List (S38)) : Option ((List (S50)) × Bool) := r32_Run.l0 k l0 l1 l2 l3 ([] : List (S50)) (l0.length : Int) 0
set_option maxHeartbeats 8000000 in
set_option maxRecDepth 100000 in
theorem r32_Run.calls (k : Nat) (A0 : Option Addr) (c0 : Nat) (l0 : List (S50)) (A1 : Option Addr) (c1 : Nat) (l1 : List (S50)) (A2 : Option Addr) (c2 : Nat) (l2 : List Int) (A3 : Option Addr) (c3 : Nat) (l3 : List (S38)) (r1 : List (S50)) (r2 : Bool) (w : World) (hr0 : Kd.C k50 w A0 l0.length l0) (hc0 : l0.length ≤ c0) (hr1 : Kd.C k50 w A1 l1.length l1) (hc1 : l1.length ≤ c1) (hr2 : Kd.C (Kd.int .i64) w A2 l2.length l2) (hc2 : l2.length ≤ c2) (hr3 : Kd.C k38 w A3 l3.length l3) (hc3 : l3.length ≤ c3) (h : r32_Run.f k l0 l1 l2 l3 = some (r1, r2)) :
  Calls Try.prog 20 #[.slice A0 l0.length c0, .slice A1 l1.length c1, .slice A2 l2.length c2, .slice A3 l3.length c3] w fun e w' => ∃ v0_ : Value, e = .returned (.tuple #[v0_, .bool r2]) ∧ Kd.R k50 50 w' w.heap.size (fun _ => True) v0_ r1 ∧ Below w.heap.size w w' := by
 have hu50 := Try.underlying50
 have hu38 := Try.underlying38
 have HR0 := zk hr0
 have HC0 := zk hc0
 clear hr0 hc0
 have HR1 := zk hr1
 have HC1 := zk hc1
 clear hr1 hc1
 have HR2 := zk hr2
 have HC2 := zk hc2
 clear hr2 hc2
 have HR3 := zk hr3
 have HC3 := zk hc3
 clear hr3 hc3
 have HB := zk (Below.refl w.heap.size w)
 have H : (r32_Run.l0 k l0 l1 l2 l3 ([] : List (S50)) (l0.length : Int) 0) = some (r1, r2) := h
 clear h
 have H' := zk H
 clear H
 go_enter Try.func20, Try.ntmps20
 go_wp2
 repeat (go_quiet (fail); try go_wp2)
 go_loopg [10, 21] k (fun kq v10 v21 w' => ∃ (x10_1 : List (S50)) (x21_1 : Int), v21 = .int .i64 x21_1 ∧ Aside0 (r32_Run.l0 kq l0 l1 l2 l3 x10_1 (l0.length : Int) x21_1 = some (r1, r2)) ∧ Aside0 (kq ≤ k) ∧ Aside0 (Kd.R k50 50 w' w.heap.size (fun _ => True) v10 x10_1) ∧ Aside0 (Below w.heap.size w w'))
 case atStart => exact ⟨(([] : List (S50))), (0), (by first | rfl | (simp; done) | (simp [*]; done)), H', ⟨Nat.le_refl _⟩, ⟨by first | exact Kd.R_nil _ _ _ _ _ | exact Kd.N_nil _ _ _ _ _ | exact Kd.V_nil _ _ _ _ _ | exact Kd.Q_nil _ _ _ _ _ | exact Kd.S_nil _ _ _ _ _⟩, ⟨by with_reducible repeat first | exact HB.out | apply zA | apply zN | apply zD⟩⟩
 case round =>
  clear H'; (try clear c1); (try clear c2); (try clear p2); (try clear c3); obtain ⟨x10_1, x21_1, rfl, HA, HK1, HO_10, HB⟩ := hrel
  cases gk with
  | zero => exact absurd HA.out (by simp [r32_Run.l0])
  | succ k1 =>
   have H := HA.out; clear HA; simp only [r32_Run.l0] at H
   by_cases c5 : x21_1 < (l0.length : Int)
   ·
    rw [if_pos c5] at H; have c5b0 := decide_eq_true c5; clear c5; have H' := zk H; clear H; go_wp2
    repeat (go_quiet (fail); try go_wp2)
    go_loopg [12, 26] k1 (fun kq v12 v26 w' => ∃ (x12_2 : Bool) (x26_2 : Int), v12 = .bool x12_2 ∧ v26 = .int .i64 x26_2 ∧ Aside0 (r32_Run.l1 kq l0 l1 l2 l3 x10_1 x21_1 x12_2 (l0.length : Int) x21_1 (l2.length : Int) x26_2 = some (r1, r2)) ∧ Aside0 (kq ≤ k1) ∧ Aside0 (Kd.R k50 50 w' w.heap.size (fun _ => True) u10 x10_1) ∧ Aside0 (Below w.heap.size w w'))
    case atStart => exact ⟨(false), (0), (by first | rfl | (simp; done) | (simp [*]; done)), (by first | rfl | (simp; done) | (simp [*]; done)), H', ⟨Nat.le_refl _⟩, ⟨by (with_reducible repeat (first | apply Kd.R_alloc | apply Kd.R_drewN | apply Kd.R_drew)); exact HO_10.out⟩, ⟨by with_reducible repeat first | exact HB.out | apply zA | apply zN | apply zD⟩⟩
    case round =>
     clear H'; (try clear c1); (try clear c2); (try clear p2); (try clear c3); (try clear c5); (try clear c5b0); (try clear p2); obtain ⟨x12_2, x26_2, rfl, rfl, HA, HK2, HO_10, HB⟩ := hrel
     cases gk with
     | zero => exact absurd HA.out (by simp [r32_Run.l1])
     | succ k2 =>
      have H := HA.out; clear HA; simp only [r32_Run.l1] at H
      by_cases c6 : x26_2 < (l2.length : Int)
      ·
       rw [if_pos c6] at H; have c6b0 := decide_eq_true c6; clear c6
       by_cases c7 : x12_2 = true
       ·
        subst c7
        have H1 : (r32_Run.l1 k2 l0 l1 l2 l3 x10_1 x21_1 true (l0.length : Int) x21_1 (l2.length : Int) (wrap64 (x26_2 + 1))) = some (r1, r2) := by rw [if_pos rfl] at H; exact H
        clear H; have H := H1; clear H1; have H' := zk H; clear H; go_wp2
        repeat (go_quiet (fail); try go_wp2)
        go_roundg k2
        case measure => have := HK1.out; have := HK2.out; omega
        case rel => exact ⟨(true), (wrap64 (x26_2 + 1)), (by first | rfl | (simp; done) | (simp [*]; done)), (by first | rfl | (simp; done) | (simp [*]; done)), H', ⟨by have := HK1.out; have := HK2.out; omega⟩, ⟨by (with_reducible repeat (first | apply Kd.R_alloc | apply Kd.R_drewN | apply Kd.R_drew)); exact HO_10.out⟩, ⟨by with_reducible repeat first | exact HB.out | apply zA | apply zN | apply zD⟩⟩
       ·
        replace c7 := Bool.eq_false_iff.mpr c7; subst c7
        have H1 : (if 0 ≤ x26_2 then (if x26_2 < (l2.length : Int) then (r32_Run.l1 k2 l0 l1 l2 l3 x10_1 x21_1 ((rd l2 x26_2) == x21_1) (l0.length : Int) x21_1 (l2.length : Int) (wrap64 (x26_2 + 1))) else (none)) else (none)) = some (r1, r2) := by rw [if_neg (show ¬ (false = true) by decide)] at H; exact H
        clear H; have H := H1; clear H1
        by_cases c8 : 0 ≤ x26_2
        ·
         rw [if_pos c8] at H; have c8b0 := decide_eq_true c8; clear c8
         by_cases c9 : x26_2 < (l2.length : Int)
         ·
          rw [if_pos c9] at H; have c9b0 := decide_eq_true c9; clear c9; have H' := zk H; clear H; have p332 : 0 ≤ (x26_2 : Int) := zo (by assumption); have q332 : x26_2 < (l2.length : Int) := zo (by assumption); obtain ⟨ad332, e332, hx332_0⟩ := Kd.at_int HR2.out x26_2 p332 q332; cases e332; replace hx332_0 := zB HB hx332_0; replace p332 := eq_true p332; replace q332 := eq_true q332; go_wp2
          repeat (go_quiet (fail); try go_wp2)
          go_roundg k2
          case measure => have := HK1.out; have := HK2.out; omega
          case rel => exact ⟨(((rd l2 x26_2) == x21_1)), (wrap64 (x26_2 + 1)), (by first | rfl | (simp; done) | (simp [*]; done)), (by first | rfl | (simp; done) | (simp [*]; done)), H', ⟨by have := HK1.out; have := HK2.out; omega⟩, ⟨by (with_reducible repeat (first | apply Kd.R_alloc | apply Kd.R_drewN | apply Kd.R_drew)); exact HO_10.out⟩, ⟨by with_reducible repeat first | exact HB.out | apply zA | apply zN | apply zD⟩⟩
         ·
          rw [if_neg c9] at H; exact absurd H (by simp)
        ·
         rw [if_neg c8] at H; exact absurd H (by simp)
      ·
       rw [if_neg c6] at H; have c6b0 := decide_eq_false c6; clear c6
       by_cases c10 : x12_2 = true
       ·
        subst c10
        have H1 : (r32_Run.l0 k2 l0 l1 l2 l3 x10_1 (l0.length : Int) (wrap64 (x21_1 + 1))) = some (r1, r2) := by rw [if_pos rfl] at H; exact H
        clear H; have H := H1; clear H1; have H' := zk H; clear H; go_wp2
        repeat (go_quiet (fail); try go_wp2)
        go_roundg k2
        case measure => have := HK1.out; have := HK2.out; omega
        case rel => exact ⟨(x10_1), (wrap64 (x21_1 + 1)), (by first | rfl | (simp; done) | (simp [*]; done)), H', ⟨by have := HK1.out; have := HK2.out; omega⟩, ⟨by (with_reducible repeat (first | apply Kd.R_alloc | apply Kd.R_drewN | apply Kd.R_drew)); exact HO_10.out⟩, ⟨by with_reducible repeat first | exact HB.out | apply zA | apply zN | apply zD⟩⟩
       ·
        replace c10 := Bool.eq_false_iff.mpr c10; subst c10
        have H1 : (if 0 ≤ x21_1 then (if x21_1 < (l0.length : Int) then (if x10_1.length < 3518437208883 then (r32_Run.l0 k2 l0 l1 l2 l3 (x10_1 ++ [(⟨(rd_T50 l0 x21_1).f0, (rd_T50 l0 x21_1).f1, (rd_T50 l0 x21_1).f2⟩ : S50)]) (l0.length : Int) (wrap64 (x21_1 + 1))) else (none)) else (none)) else (none)) = some (r1, r2) := by rw [if_neg (show ¬ (false = true) by decide)] at H; exact H
        clear H; have H := H1; clear H1
        by_cases c11 : 0 ≤ x21_1
        ·
         rw [if_pos c11] at H; have c11b0 := decide_eq_true c11; clear c11
         by_cases c12 : x21_1 < (l0.length : Int)
         ·
          rw [if_pos c12] at H; have c12b0 := decide_eq_true c12; clear c12
          by_cases c13 : x10_1.length < 3518437208883
          ·
           rw [if_pos c13] at H; have LMc13 := zk c13; clear c13; obtain ⟨y334, hy334⟩ : ∃ y_ : List (S50), y_ = (x10_1 ++ [(⟨(rd_T50 l0 x21_1).f0, (rd_T50 l0 x21_1).f1, (rd_T50 l0 x21_1).f2⟩ : S50)]) := ⟨_, rfl⟩
           replace H : (r32_Run.l0 k2 l0 l1 l2 l3 y334 (l0.length : Int) (wrap64 (x21_1 + 1))) = some (r1, r2) := by first | (rw [hy334]; with_reducible exact H) | (have H2_ := (Option.bind_some _ _).symm.trans H; rw [hy334]; with_reducible exact H2_) | (have H2_ := (Option.bind_some _ _).symm.trans H; with_reducible exact H2_) | with_reducible exact H | (rw [hy334]; exact H) | exact H
           have Ny334 := zk hy334; clear hy334; have H' := zk H; clear H; have p333 : 0 ≤ (x21_1 : Int) := zo (by assumption); have q333 : x21_1 < (l0.length : Int) := zo (by assumption); obtain ⟨ad333, e333, hx333_0, hx333_1, hx333_2⟩ := at_T50 HR0.out x21_1 p333 q333; cases e333; replace hx333_0 := zB HB hx333_0; replace hx333_1 := zB HB hx333_1; replace hx333_2 := zB HB hx333_2; replace p333 := eq_true p333; replace q333 := eq_true q333
           go_wp2_with (first | ((with_reducible refine gn (b := .append) (xs := #[.tmp 41, .tmp 46]) rfl ?_); (try (refine gg (by rfl) ?_; dsimp only)); at_builtin; refine Kd.R_append k50 (w0 := w) w.heap.size rfl (.tmp 41) (.tmp 46) 22 50 (.agg #[(.string ⟨#[]⟩), (.string ⟨#[]⟩), (.int .i64 0)]) 40 rfl Try.underlying22 info50 rfl (by decide) (by omega) u10 x10_1 (⟨(rd_T50 l0 x21_1).f0, (rd_T50 l0 x21_1).f1, (rd_T50 l0 x21_1).f2⟩ : S50) [.string ((rd_T50 l0 x21_1).f0), .string ((rd_T50 l0 x21_1).f1), .int .i64 ((rd_T50 l0 x21_1).f2)] (fun _ => True) (fun _ => False) rfl rfl ?aP (fun _ hk => hk.elim) ?aF ?aO ?aB ?aS ?aL ?_; (case aP => exact k50_mkM _ _ _ (⟨(rd_T50 l0 x21_1).f0, (rd_T50 l0 x21_1).f1, (rd_T50 l0 x21_1).f2⟩ : S50)); (case aB => exact (by with_reducible repeat first | exact HB.out | apply zA | apply zN | apply zD)); (case aF => exact (fun _ _ => trivial)); (case aO => exact (by (with_reducible repeat (first | apply Kd.R_alloc | apply Kd.R_drewN | apply Kd.R_drew)); exact HO_10.out)); (case aS => exact (zq (by with_reducible repeat first | exact HB.out | apply zA | apply zN | apply zD))); (case aL => have := LMc13.out; omega); intro v335 w14 ho hb hg hat; rw [← Ny334.out] at ho; have n0_ := zk (hb); have n1_ := zk (ho); clear HB; clear HO_10; have HB := n0_; have HO336 := n1_; clear n0_ n1_; clear ho hb hg hat))
           repeat (go_quiet (first | ((with_reducible refine gn (b := .append) (xs := #[.tmp 41, .tmp 46]) rfl ?_); (try (refine gg (by rfl) ?_; dsimp only)); at_builtin; refine Kd.R_append k50 (w0 := w) w.heap.size rfl (.tmp 41) (.tmp 46) 22 50 (.agg #[(.string ⟨#[]⟩), (.string ⟨#[]⟩), (.int .i64 0)]) 40 rfl Try.underlying22 info50 rfl (by decide) (by omega) u10 x10_1 (⟨(rd_T50 l0 x21_1).f0, (rd_T50 l0 x21_1).f1, (rd_T50 l0 x21_1).f2⟩ : S50) [.string ((rd_T50 l0 x21_1).f0), .string ((rd_T50 l0 x21_1).f1), .int .i64 ((rd_T50 l0 x21_1).f2)] (fun _ => True) (fun _ => False) rfl rfl ?aP (fun _ hk => hk.elim) ?aF ?aO ?aB ?aS ?aL ?_; (case aP => exact k50_mkM _ _ _ (⟨(rd_T50 l0 x21_1).f0, (rd_T50 l0 x21_1).f1, (rd_T50 l0 x21_1).f2⟩ : S50)); (case aB => exact (by with_reducible repeat first | exact HB.out | apply zA | apply zN | apply zD)); (case aF => exact (fun _ _ => trivial)); (case aO => exact (by (with_reducible repeat (first | apply Kd.R_alloc | apply Kd.R_drewN | apply Kd.R_drew)); exact HO_10.out)); (case aS => exact (zq (by with_reducible repeat first | exact HB.out | apply zA | apply zN | apply zD))); (case aL => have := LMc13.out; omega); intro v335 w14 ho hb hg hat; rw [← Ny334.out] at ho; have n0_ := zk (hb); have n1_ := zk (ho); clear HB; clear HO_10; have HB := n0_; have HO336 := n1_; clear n0_ n1_; clear ho hb hg hat)); try go_wp2_with (first | ((with_reducible refine gn (b := .append) (xs := #[.tmp 41, .tmp 46]) rfl ?_); (try (refine gg (by rfl) ?_; dsimp only)); at_builtin; refine Kd.R_append k50 (w0 := w) w.heap.size rfl (.tmp 41) (.tmp 46) 22 50 (.agg #[(.string ⟨#[]⟩), (.string ⟨#[]⟩), (.int .i64 0)]) 40 rfl Try.underlying22 info50 rfl (by decide) (by omega) u10 x10_1 (⟨(rd_T50 l0 x21_1).f0, (rd_T50 l0 x21_1).f1, (rd_T50 l0 x21_1).f2⟩ : S50) [.string ((rd_T50 l0 x21_1).f0), .string ((rd_T50 l0 x21_1).f1), .int .i64 ((rd_T50 l0 x21_1).f2)] (fun _ => True) (fun _ => False) rfl rfl ?aP (fun _ hk => hk.elim) ?aF ?aO ?aB ?aS ?aL ?_; (case aP => exact k50_mkM _ _ _ (⟨(rd_T50 l0 x21_1).f0, (rd_T50 l0 x21_1).f1, (rd_T50 l0 x21_1).f2⟩ : S50)); (case aB => exact (by with_reducible repeat first | exact HB.out | apply zA | apply zN | apply zD)); (case aF => exact (fun _ _ => trivial)); (case aO => exact (by (with_reducible repeat (first | apply Kd.R_alloc | apply Kd.R_drewN | apply Kd.R_drew)); exact HO_10.out)); (case aS => exact (zq (by with_reducible repeat first | exact HB.out | apply zA | apply zN | apply zD))); (case aL => have := LMc13.out; omega); intro v335 w14 ho hb hg hat; rw [← Ny334.out] at ho; have n0_ := zk (hb); have n1_ := zk (ho); clear HB; clear HO_10; have HB := n0_; have HO336 := n1_; clear n0_ n1_; clear ho hb hg hat)))
           go_roundg k2
           case measure => have := HK1.out; have := HK2.out; omega
           case rel => exact ⟨(y334), (wrap64 (x21_1 + 1)), (by first | rfl | (simp; done) | (simp [*]; done)), H', ⟨by have := HK1.out; have := HK2.out; omega⟩, ⟨by (with_reducible repeat (first | apply Kd.R_alloc | apply Kd.R_drewN | apply Kd.R_drew)); exact HO336.out⟩, ⟨by with_reducible repeat first | exact HB.out | apply zA | apply zN | apply zD⟩⟩
          ·
           rw [if_neg c13] at H; exact absurd H (by simp)
         ·
          rw [if_neg c12] at H; exact absurd H (by simp)
        ·
         rw [if_neg c11] at H; exact absurd H (by simp)
   ·
    rw [if_neg c5] at H; have c5b0 := decide_eq_false c5; clear c5; have H' := zk H; clear H; go_wp2
    repeat (go_quiet (fail); try go_wp2)
    go_loopg [10, 51] k1 (fun kq v10 v51 w' => ∃ (x10_2 : List (S50)) (x51_2 : Int), v51 = .int .i64 x51_2 ∧ Aside0 (r32_Run.l2 kq l1 l3 x10_2 (l3.length : Int) x51_2 = some (r1, r2)) ∧ Aside0 (kq ≤ k1) ∧ Aside0 (Kd.R k50 50 w' w.heap.size (fun _ => True) v10 x10_2) ∧ Aside0 (Below w.heap.size w w'))
    case atStart => exact ⟨(x10_1), (0), (by first | rfl | (simp; done) | (simp [*]; done)), H', ⟨Nat.le_refl _⟩, ⟨by (with_reducible repeat (first | apply Kd.R_alloc | apply Kd.R_drewN | apply Kd.R_drew)); exact HO_10.out⟩, ⟨by with_reducible repeat first | exact HB.out | apply zA | apply zN | apply zD⟩⟩
    case round =>
     clear H'; (try clear c1); (try clear c2); (try clear p2); (try clear c3); (try clear p3); (try clear q3); (try clear hx3); (try clear c5); (try clear c5b0); (try clear c6); (try clear c6b0); (try clear p6); (try clear c7); (try clear c8); (try clear c8b0); (try clear c9); (try clear c9b0); (try clear c10); (try clear c11); (try clear c11b0); (try clear c12); (try clear c12b0); (try clear c13); (try clear hx332_0); (try clear hx333_0); (try clear hx333_1); (try clear hx333_2); (try clear p2); (try clear p332); (try clear p333); (try clear q332); (try clear q333); obtain ⟨x10_2, x51_2, rfl, HA, HK2, HO_10, HB⟩ := hrel
     cases gk with
     | zero => exact absurd HA.out (by simp [r32_Run.l2])
     | succ k2 =>
      have H := HA.out; clear HA; simp only [r32_Run.l2] at H
      by_cases c15 : x51_2 < (l3.length : Int)
      ·
       rw [if_pos c15] at H; have c15b0 := decide_eq_true c15; clear c15
       by_cases c16 : 0 ≤ x51_2
       ·
        rw [if_pos c16] at H; have c16b0 := decide_eq_true c16; clear c16
        by_cases c17 : x51_2 < (l3.length : Int)
        ·
         rw [if_pos c17] at H; have c17b0 := decide_eq_true c17; clear c17; have HC18 := zk H; clear H; have p337 : 0 ≤ (x51_2 : Int) := zo (by assumption); have q337 : x51_2 < (l3.length : Int) := zo (by assumption); obtain ⟨ad337, e337, hx337_0, hx337_1, hx337_2⟩ := at_T38 HR3.out x51_2 p337 q337; cases e337; replace hx337_0 := zB HB hx337_0; replace hx337_1 := zB HB hx337_1; replace hx337_2 := zB HB hx337_2; replace p337 := eq_true p337; replace q337 := eq_true q337
         go_upto_region 18 with (first | ((with_reducible refine gd (N := 15) rfl ?_); (try (refine gg (by rfl) ?_; dsimp only)); refine zb ?hg (N := 15) ?hd (cs := #[.int .i64 0, .int .i64 0, .int .i64 0]) (t := 38) ?hr ?_; (case hd => rfl); (case hg => rfl); (case hr => go_simp; first | done | rfl); intro gb338 hg w19 hbox hb; have n0_ := zk (Kd.R_below (by (with_reducible repeat (first | apply Kd.R_alloc | apply Kd.R_drewN | apply Kd.R_drew)); exact HO_10.out) hb); have n1_ := zk (zs (by with_reducible repeat first | exact HB.out | apply zA | apply zN | apply zD) hb); have n2_ := zk (hbox); have n3_ := zk ((by rw [hg]; exact (zq (by with_reducible repeat first | exact HB.out | apply zA | apply zN | apply zD)) : w.heap.size ≤ gb338)); have n4_ := n3_; clear HO_10; clear HB; have HO_10 := n0_; have HB := n1_; have BK338 := n2_; have GW338 := n3_; have GE338 := n4_; clear n0_ n1_ n2_ n3_ n4_; clear hb hbox hg; obtain ⟨hcz20_0, hcz20_1, hcz20_2, hfz20_0, hfz20_1, hfz20_2⟩ := zc3 BK338.out))
         repeat (go_quiet (first | ((with_reducible refine gd (N := 15) rfl ?_); (try (refine gg (by rfl) ?_; dsimp only)); refine zb ?hg (N := 15) ?hd (cs := #[.int .i64 0, .int .i64 0, .int .i64 0]) (t := 38) ?hr ?_; (case hd => rfl); (case hg => rfl); (case hr => go_simp; first | done | rfl); intro gb338 hg w19 hbox hb; have n0_ := zk (Kd.R_below (by (with_reducible repeat (first | apply Kd.R_alloc | apply Kd.R_drewN | apply Kd.R_drew)); exact HO_10.out) hb); have n1_ := zk (zs (by with_reducible repeat first | exact HB.out | apply zA | apply zN | apply zD) hb); have n2_ := zk (hbox); have n3_ := zk ((by rw [hg]; exact (zq (by with_reducible repeat first | exact HB.out | apply zA | apply zN | apply zD)) : w.heap.size ≤ gb338)); have n4_ := n3_; clear HO_10; clear HB; have HO_10 := n0_; have HB := n1_; have BK338 := n2_; have GW338 := n3_; have GE338 := n4_; clear n0_ n1_ n2_ n3_ n4_; clear hb hbox hg; obtain ⟨hcz20_0, hcz20_1, hcz20_2, hfz20_0, hfz20_1, hfz20_2⟩ := zc3 BK338.out)); go_upto_region 18 with (first | ((with_reducible refine gd (N := 15) rfl ?_); (try (refine gg (by rfl) ?_; dsimp only)); refine zb ?hg (N := 15) ?hd (cs := #[.int .i64 0, .int .i64 0, .int .i64 0]) (t := 38) ?hr ?_; (case hd => rfl); (case hg => rfl); (case hr => go_simp; first | done | rfl); intro gb338 hg w19 hbox hb; have n0_ := zk (Kd.R_below (by (with_reducible repeat (first | apply Kd.R_alloc | apply Kd.R_drewN | apply Kd.R_drew)); exact HO_10.out) hb); have n1_ := zk (zs (by with_reducible repeat first | exact HB.out | apply zA | apply zN | apply zD) hb); have n2_ := zk (hbox); have n3_ := zk ((by rw [hg]; exact (zq (by with_reducible repeat first | exact HB.out | apply zA | apply zN | apply zD)) : w.heap.size ≤ gb338)); have n4_ := n3_; clear HO_10; clear HB; have HO_10 := n0_; have HB := n1_; have BK338 := n2_; have GW338 := n3_; have GE338 := n4_; clear n0_ n1_ n2_ n3_ n4_; clear hb hbox hg; obtain ⟨hcz20_0, hcz20_1, hcz20_2, hfz20_0, hfz20_1, hfz20_2⟩ := zc3 BK338.out)))
         (try simp only [Act.put, List.setIfInBounds_toArray, List.set_cons_zero, List.set_cons_succ])
         go_cut [79] (fun v79 wc => ∃ (kq : Nat) (x79_17 : Bool), v79 = .bool x79_17 ∧ Aside0 (r32_Run.j3 kq l1 l3 x10_2 (l3.length : Int) x51_2 x79_17 ((rd_T38 l3 x51_2).f0) ((rd_T38 l3 x51_2).f1) ((rd_T38 l3 x51_2).f2) = some (r1, r2)) ∧ Aside0 (kq ≤ k2) ∧ Aside0 (Kd.R k50 50 wc w.heap.size (fun _ => True) u10 x10_2) ∧ Aside0 (wc.heap[gb338]? = some (.cells #[.int .i64 ((rd_T38 l3 x51_2).f0), .int .i64 ((rd_T38 l3 x51_2).f1), .int .i64 ((rd_T38 l3 x51_2).f2)] 38 (0, 0))) ∧ Aside0 (Below w.heap.size w wc))
         case first =>
          have H := HC18.out; clear HC18
          by_cases c21 : ((rd_T38 l3 x51_2).f0) < 0
          ·
           rw [if_pos c21] at H; have c21b0 := decide_eq_true c21; clear c21
           (first | rw [c21b0] | (simp only [i64_w, i32_w]; rw [c21b0]) | skip)
           have H' := zk H; clear H; have hcz22_0 : w19.cell? ⟨gb338, 0, none⟩ = some (.int .i64 0) := (zC BK338.out 0).trans rfl; have hcz22_1 : w19.cell? ⟨gb338, 1, none⟩ = some (.int .i64 0) := (zC BK338.out 1).trans rfl; have hcz22_2 : w19.cell? ⟨gb338, 2, none⟩ = some (.int .i64 0) := (zC BK338.out 2).trans rfl; have hfz22_0 := zR BK338.out 0; have hfz22_1 := zR BK338.out 1; have hfz22_2 := zR BK338.out 2; go_wp2
           repeat (go_quiet (fail); try go_wp2)
           go_meet
           case rel => exact ⟨_, (true), (by first | rfl | (simp; done) | (simp [*]; done)), H', ⟨by have := HK1.out; have := HK2.out; first | omega | exact Nat.le_refl _⟩, ⟨by (with_reducible repeat (first | apply Kd.R_alloc | apply Kd.R_drewN | apply Kd.R_drew)); exact Kd.R_mono (Kd.R_far (p := ⟨gb338, 2, none⟩) (Kd.R_far (p := ⟨gb338, 1, none⟩) (Kd.R_far (p := ⟨gb338, 0, none⟩) (Kd.R_types HO_10.out BK338.out (by decide)) (fun _ hk => hk.2) (.int .i64 ((rd_T38 l3 x51_2).f0))) (fun _ hk => hk.2) (.int .i64 ((rd_T38 l3 x51_2).f1))) (fun _ hk => hk.2) (.int .i64 ((rd_T38 l3 x51_2).f2))) (fun _ hk => trivial)⟩, ⟨by (with_reducible repeat first | apply zM | apply zE | apply zF); refine zP (cs := #[.int .i64 ((rd_T38 l3 x51_2).f0), .int .i64 ((rd_T38 l3 x51_2).f1), .int .i64 0]) ?_ 2 _ rfl; (with_reducible repeat first | apply zM | apply zE | apply zF); refine zP (cs := #[.int .i64 ((rd_T38 l3 x51_2).f0), .int .i64 0, .int .i64 0]) ?_ 1 _ rfl; (with_reducible repeat first | apply zM | apply zE | apply zF); refine zP (cs := #[.int .i64 0, .int .i64 0, .int .i64 0]) ?_ 0 _ rfl; (with_reducible repeat first | apply zM | apply zE | apply zF); exact BK338.out⟩, ⟨by with_reducible repeat first | exact HB.out | apply zA | apply zN | apply zD | refine zS ?_ GE338.out⟩⟩
          ·
           rw [if_neg c21] at H; have c21b0 := decide_eq_false c21; clear c21
           (first | rw [c21b0] | (simp only [i64_w, i32_w]; rw [c21b0]) | skip)
           by_cases c23 : ((rd_T38 l3 x51_2).f0) ≥ (l1.length : Int)
           ·
            rw [if_pos c23] at H; have c23b0 : decide ((l1.length : Int) ≤ ((rd_T38 l3 x51_2).f0)) = true := decide_eq_true c23; clear c23; have H' := zk H; clear H; have hcz24_0 : w19.cell? ⟨gb338, 0, none⟩ = some (.int .i64 0) := (zC BK338.out 0).trans rfl; have hcz24_1 : w19.cell? ⟨gb338, 1, none⟩ = some (.int .i64 0) := (zC BK338.out 1).trans rfl; have hcz24_2 : w19.cell? ⟨gb338, 2, none⟩ = some (.int .i64 0) := (zC BK338.out 2).trans rfl; have hfz24_0 := zR BK338.out 0; have hfz24_1 := zR BK338.out 1; have hfz24_2 := zR BK338.out 2; go_wp2
            repeat (go_quiet (fail); try go_wp2)
            go_meet
            case rel => exact ⟨_, (true), (by first | rfl | (simp; done) | (simp [*]; done)), H', ⟨by have := HK1.out; have := HK2.out; first | omega | exact Nat.le_refl _⟩, ⟨by (with_reducible repeat (first | apply Kd.R_alloc | apply Kd.R_drewN | apply Kd.R_drew)); exact Kd.R_mono (Kd.R_far (p := ⟨gb338, 2, none⟩) (Kd.R_far (p := ⟨gb338, 1, none⟩) (Kd.R_far (p := ⟨gb338, 0, none⟩) (Kd.R_types HO_10.out BK338.out (by decide)) (fun _ hk => hk.2) (.int .i64 ((rd_T38 l3 x51_2).f0))) (fun _ hk => hk.2) (.int .i64 ((rd_T38 l3 x51_2).f1))) (fun _ hk => hk.2) (.int .i64 ((rd_T38 l3 x51_2).f2))) (fun _ hk => trivial)⟩, ⟨by (with_reducible repeat first | apply zM | apply zE | apply zF); refine zP (cs := #[.int .i64 ((rd_T38 l3 x51_2).f0), .int .i64 ((rd_T38 l3 x51_2).f1), .int .i64 0]) ?_ 2 _ rfl; (with_reducible repeat first | apply zM | apply zE | apply zF); refine zP (cs := #[.int .i64 ((rd_T38 l3 x51_2).f0), .int .i64 0, .int .i64 0]) ?_ 1 _ rfl; (with_reducible repeat first | apply zM | apply zE | apply zF); refine zP (cs := #[.int .i64 0, .int .i64 0, .int .i64 0]) ?_ 0 _ rfl; (with_reducible repeat first | apply zM | apply zE | apply zF); exact BK338.out⟩, ⟨by with_reducible repeat first | exact HB.out | apply zA | apply zN | apply zD | refine zS ?_ GE338.out⟩⟩
           ·
            rw [if_neg c23] at H; have c23b0 : decide ((l1.length : Int) ≤ ((rd_T38 l3 x51_2).f0)) = false := decide_eq_false c23; clear c23
            by_cases c25 : ((rd_T38 l3 x51_2).f2) < (-1)
            ·
             rw [if_pos c25] at H; have c25b0 := decide_eq_true c25; clear c25; have H' := zk H; clear H; have hcz26_0 : w19.cell? ⟨gb338, 0, none⟩ = some (.int .i64 0) := (zC BK338.out 0).trans rfl; have hcz26_1 : w19.cell? ⟨gb338, 1, none⟩ = some (.int .i64 0) := (zC BK338.out 1).trans rfl; have hcz26_2 : w19.cell? ⟨gb338, 2, none⟩ = some (.int .i64 0) := (zC BK338.out 2).trans rfl; have hfz26_0 := zR BK338.out 0; have hfz26_1 := zR BK338.out 1; have hfz26_2 := zR BK338.out 2; go_wp2
             repeat (go_quiet (fail); try go_wp2)
             go_meet
             case rel => exact ⟨_, (true), (by first | rfl | (simp; done) | (simp [*]; done)), H', ⟨by have := HK1.out; have := HK2.out; first | omega | exact Nat.le_refl _⟩, ⟨by (with_reducible repeat (first | apply Kd.R_alloc | apply Kd.R_drewN | apply Kd.R_drew)); exact Kd.R_mono (Kd.R_far (p := ⟨gb338, 2, none⟩) (Kd.R_far (p := ⟨gb338, 1, none⟩) (Kd.R_far (p := ⟨gb338, 0, none⟩) (Kd.R_types HO_10.out BK338.out (by decide)) (fun _ hk => hk.2) (.int .i64 ((rd_T38 l3 x51_2).f0))) (fun _ hk => hk.2) (.int .i64 ((rd_T38 l3 x51_2).f1))) (fun _ hk => hk.2) (.int .i64 ((rd_T38 l3 x51_2).f2))) (fun _ hk => trivial)⟩, ⟨by (with_reducible repeat first | apply zM | apply zE | apply zF); refine zP (cs := #[.int .i64 ((rd_T38 l3 x51_2).f0), .int .i64 ((rd_T38 l3 x51_2).f1), .int .i64 0]) ?_ 2 _ rfl; (with_reducible repeat first | apply zM | apply zE | apply zF); refine zP (cs := #[.int .i64 ((rd_T38 l3 x51_2).f0), .int .i64 0, .int .i64 0]) ?_ 1 _ rfl; (with_reducible repeat first | apply zM | apply zE | apply zF); refine zP (cs := #[.int .i64 0, .int .i64 0, .int .i64 0]) ?_ 0 _ rfl; (with_reducible repeat first | apply zM | apply zE | apply zF); exact BK338.out⟩, ⟨by with_reducible repeat first | exact HB.out | apply zA | apply zN | apply zD | refine zS ?_ GE338.out⟩⟩
            ·
             rw [if_neg c25] at H; have c25b0 := decide_eq_false c25; clear c25; have H' := zk H; clear H; have hcz27_0 : w19.cell? ⟨gb338, 0, none⟩ = some (.int .i64 0) := (zC BK338.out 0).trans rfl; have hcz27_1 : w19.cell? ⟨gb338, 1, none⟩ = some (.int .i64 0) := (zC BK338.out 1).trans rfl; have hcz27_2 : w19.cell? ⟨gb338, 2, none⟩ = some (.int .i64 0) := (zC BK338.out 2).trans rfl; have hfz27_0 := zR BK338.out 0; have hfz27_1 := zR BK338.out 1; have hfz27_2 := zR BK338.out 2; go_wp2
             repeat (go_quiet (fail); try go_wp2)
             go_meet
             case rel => exact ⟨_, (decide (((rd_T38 l3 x51_2).f2) ≥ (l1.length : Int))), (by first | rfl | (simp; done) | (simp [*]; done)), H', ⟨by have := HK1.out; have := HK2.out; first | omega | exact Nat.le_refl _⟩, ⟨by (with_reducible repeat (first | apply Kd.R_alloc | apply Kd.R_drewN | apply Kd.R_drew)); exact Kd.R_mono (Kd.R_far (p := ⟨gb338, 2, none⟩) (Kd.R_far (p := ⟨gb338, 1, none⟩) (Kd.R_far (p := ⟨gb338, 0, none⟩) (Kd.R_types HO_10.out BK338.out (by decide)) (fun _ hk => hk.2) (.int .i64 ((rd_T38 l3 x51_2).f0))) (fun _ hk => hk.2) (.int .i64 ((rd_T38 l3 x51_2).f1))) (fun _ hk => hk.2) (.int .i64 ((rd_T38 l3 x51_2).f2))) (fun _ hk => trivial)⟩, ⟨by (with_reducible repeat first | apply zM | apply zE | apply zF); refine zP (cs := #[.int .i64 ((rd_T38 l3 x51_2).f0), .int .i64 ((rd_T38 l3 x51_2).f1), .int .i64 0]) ?_ 2 _ rfl; (with_reducible repeat first | apply zM | apply zE | apply zF); refine zP (cs := #[.int .i64 ((rd_T38 l3 x51_2).f0), .int .i64 0, .int .i64 0]) ?_ 1 _ rfl; (with_reducible repeat first | apply zM | apply zE | apply zF); refine zP (cs := #[.int .i64 0, .int .i64 0, .int .i64 0]) ?_ 0 _ rfl; (with_reducible repeat first | apply zM | apply zE | apply zF); exact BK338.out⟩, ⟨by with_reducible repeat first | exact HB.out | apply zA | apply zN | apply zD | refine zS ?_ GE338.out⟩⟩
         case rest =>
          clear HC18; (try clear c1); (try clear c2); (try clear p2); (try clear c3); (try clear p3); (try clear q3); (try clear hx3); (try clear c5); (try clear c5b0); (try clear c6); (try clear c6b0); (try clear p6); (try clear c7); (try clear c8); (try clear c8b0); (try clear c9); (try clear c9b0); (try clear c10); (try clear c11); (try clear c11b0); (try clear c12); (try clear c12b0); (try clear c13); (try clear c15); (try clear c15b0); (try clear c16); (try clear c16b0); (try clear c17); (try clear c17b0); (try clear c20); (try clear c21); (try clear c21b0); (try clear c23); (try clear c23b0); (try clear c25); (try clear c25b0); (try clear hx332_0); (try clear hx333_0); (try clear hx333_1); (try clear hx333_2); (try clear hx337_0); (try clear hx337_1); (try clear hx337_2); (try clear p2); (try clear p3); (try clear p332); (try clear p333); (try clear p337); (try clear p6); (try clear q3); (try clear q332); (try clear q333); (try clear q337); obtain ⟨kq, x79_17, rfl, HA, HJ17, HO_10, BK338, HB⟩ := hcut
          cases kq with
          | zero => exact absurd HA.out (by simp [r32_Run.j3])
          | succ kj17 =>
           have H := HA.out; clear HA; simp only [r32_Run.j3] at H
           by_cases c28 : x79_17 = true
           ·
            subst c28
            have H1 : (some (([] : List (S50)), false)) = some (r1, r2) := by rw [if_pos rfl] at H; exact H
            clear H; have H := H1; clear H1; simp only [Option.some.injEq, Prod.mk.injEq] at H; obtain ⟨rfl, rfl⟩ := H; go_wp2
            repeat (go_quiet (fail); try go_wp2)
            go_ret2
            exact ⟨_, by first | rfl | (simp [wN, wS] <;> rfl) | (simp [*, wN, wS] <;> rfl), by first | exact Kd.R_nil _ _ _ _ _ | exact Kd.N_nil _ _ _ _ _ | exact Kd.V_nil _ _ _ _ _ | exact Kd.Q_nil _ _ _ _ _ | exact Kd.S_nil _ _ _ _ _, by with_reducible repeat first | exact HB.out | apply zA | apply zN | apply zD | refine zS ?_ GE338.out⟩
           ·
            replace c28 := Bool.eq_false_iff.mpr c28; subst c28
            have H1 : (r32_Run.l3 kj17 l1 l3 x10_2 ([] : List (S50)) (l3.length : Int) x51_2 (x10_2.length : Int) 0 ((rd_T38 l3 x51_2).f0) ((rd_T38 l3 x51_2).f1) ((rd_T38 l3 x51_2).f2)) = some (r1, r2) := by rw [if_neg (show ¬ (false = true) by decide)] at H; exact H
            clear H; have H := H1; clear H1; have H' := zk H; clear H; obtain ⟨Ao29, co29, eo29⟩ := Kd.R_slice HO_10.out; subst eo29; go_wp2
            repeat (go_quiet (fail); try go_wp2)
            go_loopg [16, 82] kj17 (fun kq v16 v82 w' => ∃ (x16_4 : List (S50)) (x82_4 : Int), v82 = .int .i64 x82_4 ∧ Aside0 (r32_Run.l3 kq l1 l3 x10_2 x16_4 (l3.length : Int) x51_2 (x10_2.length : Int) x82_4 ((rd_T38 l3 x51_2).f0) ((rd_T38 l3 x51_2).f1) ((rd_T38 l3 x51_2).f2) = some (r1, r2)) ∧ Aside0 (kq ≤ kj17) ∧ Aside0 (Kd.R k50 50 w' w.heap.size (fun k_ => some k_ ≠ (v16 : Value).ownBlock) (.slice Ao29 x10_2.length co29) x10_2) ∧ Aside0 (Kd.R k50 50 w' w.heap.size (fun k_ => some k_ ≠ ((.slice Ao29 x10_2.length co29) : Value).ownBlock) v16 x16_4) ∧ Aside0 (w'.heap[gb338]? = some (.cells #[.int .i64 ((rd_T38 l3 x51_2).f0), .int .i64 ((rd_T38 l3 x51_2).f1), .int .i64 ((rd_T38 l3 x51_2).f2)] 38 (0, 0))) ∧ Aside0 (Below w.heap.size w w'))
            case atStart => exact ⟨(([] : List (S50))), (0), (by first | rfl | (simp; done) | (simp [*]; done)), H', ⟨Nat.le_refl _⟩, ⟨by (with_reducible repeat (first | apply Kd.R_alloc | apply Kd.R_drewN | apply Kd.R_drew)); exact Kd.R_mono HO_10.out (fun _ hk => (by simp [Value.ownBlock]))⟩, ⟨by first | exact Kd.R_nil _ _ _ _ _ | exact Kd.N_nil _ _ _ _ _ | exact Kd.V_nil _ _ _ _ _ | exact Kd.Q_nil _ _ _ _ _ | exact Kd.S_nil _ _ _ _ _⟩, ⟨by (with_reducible repeat first | apply zM | apply zE | apply zF); exact BK338.out⟩, ⟨by with_reducible repeat first | exact HB.out | apply zA | apply zN | apply zD | refine zS ?_ GE338.out⟩⟩
            case round =>
             clear H'; (try clear c1); (try clear c2); (try clear p2); (try clear c3); (try clear p3); (try clear q3); (try clear hx3); (try clear c5); (try clear c5b0); (try clear c6); (try clear c6b0); (try clear p6); (try clear c7); (try clear c8); (try clear c8b0); (try clear c9); (try clear c9b0); (try clear c10); (try clear c11); (try clear c11b0); (try clear c12); (try clear c12b0); (try clear c13); (try clear c15); (try clear c15b0); (try clear c16); (try clear c16b0); (try clear c17); (try clear c17b0); (try clear c20); (try clear c21); (try clear c21b0); (try clear c23); (try clear c23b0); (try clear c25); (try clear c25b0); (try clear c28); (try clear hx332_0); (try clear hx333_0); (try clear hx333_1); (try clear hx333_2); (try clear hx337_0); (try clear hx337_1); (try clear hx337_2); (try clear p2); (try clear p3); (try clear p332); (try clear p333); (try clear p337); (try clear p6); (try clear q3); (try clear q332); (try clear q333); (try clear q337)
             (try clear BK338)
             obtain ⟨x16_4, x82_4, rfl, HA, HK4, HO_10, HO_16, BK338, HB⟩ := hrel
             cases gk with
             | zero => exact absurd HA.out (by simp [r32_Run.l3])
             | succ k4 =>
              have H := HA.out; clear HA; simp only [r32_Run.l3] at H
              by_cases c30 : x82_4 < (x10_2.length : Int)
              ·
               rw [if_pos c30] at H; have c30b0 := decide_eq_true c30; clear c30
               by_cases c31 : 0 ≤ x82_4
               ·
                rw [if_pos c31] at H; have c31b0 := decide_eq_true c31; clear c31
                by_cases c32 : x82_4 < (x10_2.length : Int)
                ·
                 rw [if_pos c32] at H; have c32b0 := decide_eq_true c32; clear c32
                 by_cases c33 : 0 ≤ ((rd_T38 l3 x51_2).f0)
                 ·
                  rw [if_pos c33] at H; have c33b0 := decide_eq_true c33; clear c33
                  by_cases c34 : ((rd_T38 l3 x51_2).f0) < (l1.length : Int)
                  ·
                   rw [if_pos c34] at H; have c34b0 := decide_eq_true c34; clear c34
                   by_cases c35 : (!((((rd_T50 x10_2 x82_4).f0).toList) == (((rd_T50 l1 ((rd_T38 l3 x51_2).f0)).f0).toList)) || (!((((rd_T50 x10_2 x82_4).f1).toList) == (((rd_T50 l1 ((rd_T38 l3 x51_2).f0)).f1).toList)) || (!(((rd_T50 x10_2 x82_4).f2) == ((rd_T50 l1 ((rd_T38 l3 x51_2).f0)).f2))))) = true
                   ·
                    rw [if_pos c35] at H; have c35b0 : (!((((rd_T50 x10_2 x82_4).f0).toList) == (((rd_T50 l1 ((rd_T38 l3 x51_2).f0)).f0).toList)) || (!((((rd_T50 x10_2 x82_4).f1).toList) == (((rd_T50 l1 ((rd_T38 l3 x51_2).f0)).f1).toList)) || (!(((rd_T50 x10_2 x82_4).f2) == ((rd_T50 l1 ((rd_T38 l3 x51_2).f0)).f2))))) = true := c35; clear c35
                    by_cases c36 : x16_4.length < 3518437208883
                    ·
                     rw [if_pos c36] at H; have LMc36 := zk c36; clear c36; obtain ⟨y342, hy342⟩ : ∃ y_ : List (S50), y_ = (x16_4 ++ [(⟨(rd_T50 x10_2 x82_4).f0, (rd_T50 x10_2 x82_4).f1, (rd_T50 x10_2 x82_4).f2⟩ : S50)]) := ⟨_, rfl⟩
                     replace H : (r32_Run.l3 k4 l1 l3 x10_2 y342 (l3.length : Int) x51_2 (x10_2.length : Int) (wrap64 (x82_4 + 1)) ((rd_T38 l3 x51_2).f0) ((rd_T38 l3 x51_2).f1) ((rd_T38 l3 x51_2).f2)) = some (r1, r2) := by first | (rw [hy342]; with_reducible exact H) | (have H2_ := (Option.bind_some _ _).symm.trans H; rw [hy342]; with_reducible exact H2_) | (have H2_ := (Option.bind_some _ _).symm.trans H; with_reducible exact H2_) | with_reducible exact H | (rw [hy342]; exact H) | exact H
                     have Ny342 := zk hy342; clear hy342; have H' := zk H; clear H; have p339 : 0 ≤ (x82_4 : Int) := zo (by assumption); have q339 : x82_4 < (x10_2.length : Int) := zo (by assumption); obtain ⟨ad339, e339, hx339_0, hx339_1, hx339_2⟩ := at_T50 (Kd.R_reads' HO_10.out).2.2 x82_4 p339 q339; cases e339; replace p339 := eq_true p339; replace q339 := eq_true q339; have hcz37_0 : wr.cell? ⟨gb338, 0, none⟩ = some (.int .i64 ((rd_T38 l3 x51_2).f0)) := (zC BK338.out 0).trans rfl; have hcz37_1 : wr.cell? ⟨gb338, 1, none⟩ = some (.int .i64 ((rd_T38 l3 x51_2).f1)) := (zC BK338.out 1).trans rfl; have hcz37_2 : wr.cell? ⟨gb338, 2, none⟩ = some (.int .i64 ((rd_T38 l3 x51_2).f2)) := (zC BK338.out 2).trans rfl; have hfz37_0 := zR BK338.out 0; have hfz37_1 := zR BK338.out 1; have hfz37_2 := zR BK338.out 2; have p340 : 0 ≤ (((rd_T38 l3 x51_2).f0) : Int) := zo (by assumption); have q340 : ((rd_T38 l3 x51_2).f0) < (l1.length : Int) := zo (by assumption); obtain ⟨ad340, e340, hx340_0, hx340_1, hx340_2⟩ := at_T50 HR1.out ((rd_T38 l3 x51_2).f0) p340 q340; cases e340; replace hx340_0 := zB HB hx340_0; replace hx340_1 := zB HB hx340_1; replace hx340_2 := zB HB hx340_2; replace p340 := eq_true p340; replace q340 := eq_true q340; have p341 : 0 ≤ (x82_4 : Int) := zo (by assumption); have q341 : x82_4 < (x10_2.length : Int) := zo (by assumption); obtain ⟨ad341, e341, hx341_0, hx341_1, hx341_2⟩ := at_T50 (Kd.R_reads' HO_10.out).2.2 x82_4 p341 q341; obtain rfl : ad339 = ad341 := (by injection e341); replace p341 := eq_true p341; replace q341 := eq_true q341
                     go_wp2_with (first | ((with_reducible refine gn (b := .append) (xs := #[.tmp 95, .tmp 100]) rfl ?_); (try (refine gg (by rfl) ?_; dsimp only)); at_builtin; refine Kd.R_append k50 (w0 := w) w.heap.size rfl (.tmp 95) (.tmp 100) 22 50 (.agg #[(.string ⟨#[]⟩), (.string ⟨#[]⟩), (.int .i64 0)]) 40 rfl Try.underlying22 info50 rfl (by decide) (by omega) u16 x16_4 (⟨(rd_T50 x10_2 x82_4).f0, (rd_T50 x10_2 x82_4).f1, (rd_T50 x10_2 x82_4).f2⟩ : S50) [.string ((rd_T50 x10_2 x82_4).f0), .string ((rd_T50 x10_2 x82_4).f1), .int .i64 ((rd_T50 x10_2 x82_4).f2)] (fun k_ => some k_ ≠ (.slice (some ad339) x10_2.length co29 : Value).ownBlock) (fun _ => False) rfl rfl ?aP (fun _ hk => hk.elim) ?aF ?aO ?aB ?aS ?aL ?_; (case aP => exact k50_mkM _ _ _ (⟨(rd_T50 x10_2 x82_4).f0, (rd_T50 x10_2 x82_4).f1, (rd_T50 x10_2 x82_4).f2⟩ : S50)); (case aB => exact (by with_reducible repeat first | exact HB.out | apply zA | apply zN | apply zD | refine zS ?_ GE338.out)); (case aF => exact (fun k_ hk => Kd.fresh' (Kd.R_lt (by (with_reducible repeat (first | apply Kd.R_alloc | apply Kd.R_drewN | apply Kd.R_drew)); exact HO_10.out)) k_ hk)); (case aO => exact (by (with_reducible repeat (first | apply Kd.R_alloc | apply Kd.R_drewN | apply Kd.R_drew)); exact HO_16.out)); (case aS => exact (zq (by with_reducible repeat first | exact HB.out | apply zA | apply zN | apply zD | refine zS ?_ GE338.out))); (case aL => have := LMc36.out; omega); intro v343 w38 ho hb hg hat; rw [← Ny342.out] at ho; have n0_ := zk (Kd.R_after (ok := (fun _ => True)) (by (with_reducible repeat (first | apply Kd.R_alloc | apply Kd.R_drewN | apply Kd.R_drew)); exact Kd.R_mono HO_10.out (fun _ hk => ⟨trivial, hk⟩)) hg hat); have n1_ := zk (blk_grown (g := gb338) (o := .cells #[.int .i64 ((rd_T38 l3 x51_2).f0), .int .i64 ((rd_T38 l3 x51_2).f1), .int .i64 ((rd_T38 l3 x51_2).f2)] 38 (0, 0)) (by (with_reducible repeat first | apply zM | apply zE | apply zF); exact BK338.out) hg (Kd.R_ne HO_16.out BK338.out (by decide))); have n2_ := zk (hb); have n3_ := zk (ho); clear HO_10; clear BK338; clear HB; clear HO_16; have HO_10 := n0_; have BK338 := n1_; have HB := n2_; have HO344 := n3_; clear n0_ n1_ n2_ n3_; clear ho hb hg hat))
                     repeat (go_quiet (first | ((with_reducible refine gn (b := .append) (xs := #[.tmp 95, .tmp 100]) rfl ?_); (try (refine gg (by rfl) ?_; dsimp only)); at_builtin; refine Kd.R_append k50 (w0 := w) w.heap.size rfl (.tmp 95) (.tmp 100) 22 50 (.agg #[(.string ⟨#[]⟩), (.string ⟨#[]⟩), (.int .i64 0)]) 40 rfl Try.underlying22 info50 rfl (by decide) (by omega) u16 x16_4 (⟨(rd_T50 x10_2 x82_4).f0, (rd_T50 x10_2 x82_4).f1, (rd_T50 x10_2 x82_4).f2⟩ : S50) [.string ((rd_T50 x10_2 x82_4).f0), .string ((rd_T50 x10_2 x82_4).f1), .int .i64 ((rd_T50 x10_2 x82_4).f2)] (fun k_ => some k_ ≠ (.slice (some ad339) x10_2.length co29 : Value).ownBlock) (fun _ => False) rfl rfl ?aP (fun _ hk => hk.elim) ?aF ?aO ?aB ?aS ?aL ?_; (case aP => exact k50_mkM _ _ _ (⟨(rd_T50 x10_2 x82_4).f0, (rd_T50 x10_2 x82_4).f1, (rd_T50 x10_2 x82_4).f2⟩ : S50)); (case aB => exact (by with_reducible repeat first | exact HB.out | apply zA | apply zN | apply zD | refine zS ?_ GE338.out)); (case aF => exact (fun k_ hk => Kd.fresh' (Kd.R_lt (by (with_reducible repeat (first | apply Kd.R_alloc | apply Kd.R_drewN | apply Kd.R_drew)); exact HO_10.out)) k_ hk)); (case aO => exact (by (with_reducible repeat (first | apply Kd.R_alloc | apply Kd.R_drewN | apply Kd.R_drew)); exact HO_16.out)); (case aS => exact (zq (by with_reducible repeat first | exact HB.out | apply zA | apply zN | apply zD | refine zS ?_ GE338.out))); (case aL => have := LMc36.out; omega); intro v343 w38 ho hb hg hat; rw [← Ny342.out] at ho; have n0_ := zk (Kd.R_after (ok := (fun _ => True)) (by (with_reducible repeat (first | apply Kd.R_alloc | apply Kd.R_drewN | apply Kd.R_drew)); exact Kd.R_mono HO_10.out (fun _ hk => ⟨trivial, hk⟩)) hg hat); have n1_ := zk (blk_grown (g := gb338) (o := .cells #[.int .i64 ((rd_T38 l3 x51_2).f0), .int .i64 ((rd_T38 l3 x51_2).f1), .int .i64 ((rd_T38 l3 x51_2).f2)] 38 (0, 0)) (by (with_reducible repeat first | apply zM | apply zE | apply zF); exact BK338.out) hg (Kd.R_ne HO_16.out BK338.out (by decide))); have n2_ := zk (hb); have n3_ := zk (ho); clear HO_10; clear BK338; clear HB; clear HO_16; have HO_10 := n0_; have BK338 := n1_; have HB := n2_; have HO344 := n3_; clear n0_ n1_ n2_ n3_; clear ho hb hg hat)); try go_wp2_with (first | ((with_reducible refine gn (b := .append) (xs := #[.tmp 95, .tmp 100]) rfl ?_); (try (refine gg (by rfl) ?_; dsimp only)); at_builtin; refine Kd.R_append k50 (w0 := w) w.heap.size rfl (.tmp 95) (.tmp 100) 22 50 (.agg #[(.string ⟨#[]⟩), (.string ⟨#[]⟩), (.int .i64 0)]) 40 rfl Try.underlying22 info50 rfl (by decide) (by omega) u16 x16_4 (⟨(rd_T50 x10_2 x82_4).f0, (rd_T50 x10_2 x82_4).f1, (rd_T50 x10_2 x82_4).f2⟩ : S50) [.string ((rd_T50 x10_2 x82_4).f0), .string ((rd_T50 x10_2 x82_4).f1), .int .i64 ((rd_T50 x10_2 x82_4).f2)] (fun k_ => some k_ ≠ (.slice (some ad339) x10_2.length co29 : Value).ownBlock) (fun _ => False) rfl rfl ?aP (fun _ hk => hk.elim) ?aF ?aO ?aB ?aS ?aL ?_; (case aP => exact k50_mkM _ _ _ (⟨(rd_T50 x10_2 x82_4).f0, (rd_T50 x10_2 x82_4).f1, (rd_T50 x10_2 x82_4).f2⟩ : S50)); (case aB => exact (by with_reducible repeat first | exact HB.out | apply zA | apply zN | apply zD | refine zS ?_ GE338.out)); (case aF => exact (fun k_ hk => Kd.fresh' (Kd.R_lt (by (with_reducible repeat (first | apply Kd.R_alloc | apply Kd.R_drewN | apply Kd.R_drew)); exact HO_10.out)) k_ hk)); (case aO => exact (by (with_reducible repeat (first | apply Kd.R_alloc | apply Kd.R_drewN | apply Kd.R_drew)); exact HO_16.out)); (case aS => exact (zq (by with_reducible repeat first | exact HB.out | apply zA | apply zN | apply zD | refine zS ?_ GE338.out))); (case aL => have := LMc36.out; omega); intro v343 w38 ho hb hg hat; rw [← Ny342.out] at ho; have n0_ := zk (Kd.R_after (ok := (fun _ => True)) (by (with_reducible repeat (first | apply Kd.R_alloc | apply Kd.R_drewN | apply Kd.R_drew)); exact Kd.R_mono HO_10.out (fun _ hk => ⟨trivial, hk⟩)) hg hat); have n1_ := zk (blk_grown (g := gb338) (o := .cells #[.int .i64 ((rd_T38 l3 x51_2).f0), .int .i64 ((rd_T38 l3 x51_2).f1), .int .i64 ((rd_T38 l3 x51_2).f2)] 38 (0, 0)) (by (with_reducible repeat first | apply zM | apply zE | apply zF); exact BK338.out) hg (Kd.R_ne HO_16.out BK338.out (by decide))); have n2_ := zk (hb); have n3_ := zk (ho); clear HO_10; clear BK338; clear HB; clear HO_16; have HO_10 := n0_; have BK338 := n1_; have HB := n2_; have HO344 := n3_; clear n0_ n1_ n2_ n3_; clear ho hb hg hat)))
                     go_roundg k4
                     case measure => have := HK1.out; have := HK2.out; have := HJ17.out; have := HK4.out; omega
                     case rel => exact ⟨(y342), (wrap64 (x82_4 + 1)), (by first | rfl | (simp; done) | (simp [*]; done)), H', ⟨by have := HK1.out; have := HK2.out; have := HJ17.out; have := HK4.out; omega⟩, ⟨by (with_reducible repeat (first | apply Kd.R_alloc | apply Kd.R_drewN | apply Kd.R_drew)); exact Kd.R_mono HO_10.out (fun _ hk => hk.2)⟩, ⟨by (with_reducible repeat (first | apply Kd.R_alloc | apply Kd.R_drewN | apply Kd.R_drew)); exact HO344.out⟩, ⟨by (with_reducible repeat first | apply zM | apply zE | apply zF); exact BK338.out⟩, ⟨by with_reducible repeat first | exact HB.out | apply zA | apply zN | apply zD | refine zS ?_ GE338.out⟩⟩
                    ·
                     rw [if_neg c36] at H; exact absurd H (by simp)
                   ·
                    rw [if_neg c35] at H
                    have c35b0 : (!((((rd_T50 x10_2 x82_4).f0).toList) == (((rd_T50 l1 ((rd_T38 l3 x51_2).f0)).f0).toList)) || (!((((rd_T50 x10_2 x82_4).f1).toList) == (((rd_T50 l1 ((rd_T38 l3 x51_2).f0)).f1).toList)) || (!(((rd_T50 x10_2 x82_4).f2) == ((rd_T50 l1 ((rd_T38 l3 x51_2).f0)).f2))))) = false := by simpa using c35
                    clear c35; have H' := zk H; clear H; have p339 : 0 ≤ (x82_4 : Int) := zo (by assumption); have q339 : x82_4 < (x10_2.length : Int) := zo (by assumption); obtain ⟨ad339, e339, hx339_0, hx339_1, hx339_2⟩ := at_T50 (Kd.R_reads' HO_10.out).2.2 x82_4 p339 q339; cases e339; replace p339 := eq_true p339; replace q339 := eq_true q339; have hcz39_0 : wr.cell? ⟨gb338, 0, none⟩ = some (.int .i64 ((rd_T38 l3 x51_2).f0)) := (zC BK338.out 0).trans rfl; have hcz39_1 : wr.cell? ⟨gb338, 1, none⟩ = some (.int .i64 ((rd_T38 l3 x51_2).f1)) := (zC BK338.out 1).trans rfl; have hcz39_2 : wr.cell? ⟨gb338, 2, none⟩ = some (.int .i64 ((rd_T38 l3 x51_2).f2)) := (zC BK338.out 2).trans rfl; have hfz39_0 := zR BK338.out 0; have hfz39_1 := zR BK338.out 1; have hfz39_2 := zR BK338.out 2; have p340 : 0 ≤ (((rd_T38 l3 x51_2).f0) : Int) := zo (by assumption); have q340 : ((rd_T38 l3 x51_2).f0) < (l1.length : Int) := zo (by assumption); obtain ⟨ad340, e340, hx340_0, hx340_1, hx340_2⟩ := at_T50 HR1.out ((rd_T38 l3 x51_2).f0) p340 q340; cases e340; replace hx340_0 := zB HB hx340_0; replace hx340_1 := zB HB hx340_1; replace hx340_2 := zB HB hx340_2; replace p340 := eq_true p340; replace q340 := eq_true q340; go_wp2
                    repeat (go_quiet (fail); try go_wp2)
                    go_roundg k4
                    case measure => have := HK1.out; have := HK2.out; have := HJ17.out; have := HK4.out; omega
                    case rel => exact ⟨(x16_4), (wrap64 (x82_4 + 1)), (by first | rfl | (simp; done) | (simp [*]; done)), H', ⟨by have := HK1.out; have := HK2.out; have := HJ17.out; have := HK4.out; omega⟩, ⟨by (with_reducible repeat (first | apply Kd.R_alloc | apply Kd.R_drewN | apply Kd.R_drew)); exact HO_10.out⟩, ⟨by (with_reducible repeat (first | apply Kd.R_alloc | apply Kd.R_drewN | apply Kd.R_drew)); exact HO_16.out⟩, ⟨by (with_reducible repeat first | apply zM | apply zE | apply zF); exact BK338.out⟩, ⟨by with_reducible repeat first | exact HB.out | apply zA | apply zN | apply zD | refine zS ?_ GE338.out⟩⟩
                  ·
                   rw [if_neg c34] at H; exact absurd H (by simp)
                 ·
                  rw [if_neg c33] at H; exact absurd H (by simp)
                ·
                 rw [if_neg c32] at H; exact absurd H (by simp)
               ·
                rw [if_neg c31] at H; exact absurd H (by simp)
              ·
               rw [if_neg c30] at H; have c30b0 := decide_eq_false c30; clear c30
               by_cases c40 : ((rd_T38 l3 x51_2).f2) ≥ 0
               ·
                rw [if_pos c40] at H; have c40b0 : decide (0 ≤ ((rd_T38 l3 x51_2).f2)) = true := decide_eq_true c40; clear c40
                by_cases c41 : 0 ≤ ((rd_T38 l3 x51_2).f2)
                ·
                 rw [if_pos c41] at H; have c41b0 := decide_eq_true c41; clear c41
                 by_cases c42 : ((rd_T38 l3 x51_2).f2) < (l1.length : Int)
                 ·
                  rw [if_pos c42] at H; have c42b0 := decide_eq_true c42; clear c42; replace H := Option.bind_eq_some_iff.mp H; obtain ⟨t346, A430, H⟩ := H; replace H : (if t346 < 0 then (some (([] : List (S50)), false)) else (if 0 ≤ t346 then (if t346 ≤ (x16_4.length : Int) then ((some (x16_4.take (t346 : Int).toNat : List (S50))).bind fun y347 => (if ([] : List (S50)).length + y347.length < 3518437208883 then ((some (([] : List (S50)) ++ y347 : List (S50))).bind fun y351 => (if 0 ≤ ((rd_T38 l3 x51_2).f0) then (if ((rd_T38 l3 x51_2).f0) < (l1.length : Int) then (if y351.length < 3518437208883 then ((some (y351 ++ [(⟨(rd_T50 l1 ((rd_T38 l3 x51_2).f0)).f0, (rd_T50 l1 ((rd_T38 l3 x51_2).f0)).f1, (rd_T50 l1 ((rd_T38 l3 x51_2).f0)).f2⟩ : S50)] : List (S50))).bind fun y355 => ((some (x16_4.drop (t346 : Int).toNat : List (S50))).bind fun y358 => (if y355.length + y358.length < 3518437208883 then (r32_Run.l2 k4 l1 l3 (y355 ++ y358) (l3.length : Int) (wrap64 (x51_2 + 1))) else (none)))) else (none)) else (none)) else (none))) else (none))) else (none)) else (none))) = some (r1, r2) := H; have A43 := zk A430; clear A430
                  by_cases c44 : t346 < 0
                  ·
                   rw [if_pos c44] at H; have c44b0 := decide_eq_true c44; clear c44; simp only [Option.some.injEq, Prod.mk.injEq] at H; obtain ⟨rfl, rfl⟩ := H; obtain ⟨Ao45, co45, eo45⟩ := Kd.R_slice HO_16.out; subst eo45; have hcz46_0 : wr.cell? ⟨gb338, 0, none⟩ = some (.int .i64 ((rd_T38 l3 x51_2).f0)) := (zC BK338.out 0).trans rfl; have hcz46_1 : wr.cell? ⟨gb338, 1, none⟩ = some (.int .i64 ((rd_T38 l3 x51_2).f1)) := (zC BK338.out 1).trans rfl; have hcz46_2 : wr.cell? ⟨gb338, 2, none⟩ = some (.int .i64 ((rd_T38 l3 x51_2).f2)) := (zC BK338.out 2).trans rfl; have hfz46_0 := zR BK338.out 0; have hfz46_1 := zR BK338.out 1; have hfz46_2 := zR BK338.out 2; have p345 : 0 ≤ (((rd_T38 l3 x51_2).f2) : Int) := zo (by assumption); have q345 : ((rd_T38 l3 x51_2).f2) < (l1.length : Int) := zo (by assumption); obtain ⟨ad345, e345, hx345_0, hx345_1, hx345_2⟩ := at_T50 HR1.out ((rd_T38 l3 x51_2).f2) p345 q345; cases e345; replace hx345_0 := zB HB hx345_0; replace hx345_1 := zB HB hx345_1; replace hx345_2 := zB HB hx345_2; replace p345 := eq_true p345; replace q345 := eq_true q345
                   go_wp2_with (first | (go_at_call 26; (with_reducible refine (r12_Find.calls k4 _ _ x16_4 ((rd_T50 l1 ((rd_T38 l3 x51_2).f2)).f0) ((rd_T50 l1 ((rd_T38 l3 x51_2).f2)).f1) ((rd_T50 l1 ((rd_T38 l3 x51_2).f2)).f2) t346 _ ?side1 ?side2 A43.out).mono ?_); (case side1 => repeat (first | exact (Kd.R_reads' HO_16.out).2.2 | (with_reducible refine Kd.C_alloc ?_ _) | (with_reducible refine Kd.C_drewN ?_ _) | (with_reducible refine Kd.C_drew ?_))); (case side2 => exact (Kd.R_reads' HO_16.out).2.1); rintro e w47 ⟨rfl, hb⟩; have n0_ := zk (Kd.R_below (by (with_reducible repeat (first | apply Kd.R_alloc | apply Kd.R_drewN | apply Kd.R_drew)); exact HO_10.out) hb); have n1_ := zk (Kd.R_below (by (with_reducible repeat (first | apply Kd.R_alloc | apply Kd.R_drewN | apply Kd.R_drew)); exact HO_16.out) hb); have n2_ := zk (blk_below (g := gb338) (o := .cells #[.int .i64 ((rd_T38 l3 x51_2).f0), .int .i64 ((rd_T38 l3 x51_2).f1), .int .i64 ((rd_T38 l3 x51_2).f2)] 38 (0, 0)) (by (with_reducible repeat first | apply zM | apply zE | apply zF); exact BK338.out) hb); have n3_ := zk (zs (by with_reducible repeat first | exact HB.out | apply zA | apply zN | apply zD | refine zS ?_ GE338.out) hb); clear HO_10; clear HO_16; clear BK338; clear HB; have HO_10 := n0_; have HO_16 := n1_; have BK338 := n2_; have HB := n3_; clear n0_ n1_ n2_ n3_; (try clear hb); (try clear hb2); (try clear hk); (try clear hi)))
                   repeat (go_quiet (first | (go_at_call 26; (with_reducible refine (r12_Find.calls k4 _ _ x16_4 ((rd_T50 l1 ((rd_T38 l3 x51_2).f2)).f0) ((rd_T50 l1 ((rd_T38 l3 x51_2).f2)).f1) ((rd_T50 l1 ((rd_T38 l3 x51_2).f2)).f2) t346 _ ?side1 ?side2 A43.out).mono ?_); (case side1 => repeat (first | exact (Kd.R_reads' HO_16.out).2.2 | (with_reducible refine Kd.C_alloc ?_ _) | (with_reducible refine Kd.C_drewN ?_ _) | (with_reducible refine Kd.C_drew ?_))); (case side2 => exact (Kd.R_reads' HO_16.out).2.1); rintro e w47 ⟨rfl, hb⟩; have n0_ := zk (Kd.R_below (by (with_reducible repeat (first | apply Kd.R_alloc | apply Kd.R_drewN | apply Kd.R_drew)); exact HO_10.out) hb); have n1_ := zk (Kd.R_below (by (with_reducible repeat (first | apply Kd.R_alloc | apply Kd.R_drewN | apply Kd.R_drew)); exact HO_16.out) hb); have n2_ := zk (blk_below (g := gb338) (o := .cells #[.int .i64 ((rd_T38 l3 x51_2).f0), .int .i64 ((rd_T38 l3 x51_2).f1), .int .i64 ((rd_T38 l3 x51_2).f2)] 38 (0, 0)) (by (with_reducible repeat first | apply zM | apply zE | apply zF); exact BK338.out) hb); have n3_ := zk (zs (by with_reducible repeat first | exact HB.out | apply zA | apply zN | apply zD | refine zS ?_ GE338.out) hb); clear HO_10; clear HO_16; clear BK338; clear HB; have HO_10 := n0_; have HO_16 := n1_; have BK338 := n2_; have HB := n3_; clear n0_ n1_ n2_ n3_; (try clear hb); (try clear hb2); (try clear hk); (try clear hi))); try go_wp2_with (first | (go_at_call 26; (with_reducible refine (r12_Find.calls k4 _ _ x16_4 ((rd_T50 l1 ((rd_T38 l3 x51_2).f2)).f0) ((rd_T50 l1 ((rd_T38 l3 x51_2).f2)).f1) ((rd_T50 l1 ((rd_T38 l3 x51_2).f2)).f2) t346 _ ?side1 ?side2 A43.out).mono ?_); (case side1 => repeat (first | exact (Kd.R_reads' HO_16.out).2.2 | (with_reducible refine Kd.C_alloc ?_ _) | (with_reducible refine Kd.C_drewN ?_ _) | (with_reducible refine Kd.C_drew ?_))); (case side2 => exact (Kd.R_reads' HO_16.out).2.1); rintro e w47 ⟨rfl, hb⟩; have n0_ := zk (Kd.R_below (by (with_reducible repeat (first | apply Kd.R_alloc | apply Kd.R_drewN | apply Kd.R_drew)); exact HO_10.out) hb); have n1_ := zk (Kd.R_below (by (with_reducible repeat (first | apply Kd.R_alloc | apply Kd.R_drewN | apply Kd.R_drew)); exact HO_16.out) hb); have n2_ := zk (blk_below (g := gb338) (o := .cells #[.int .i64 ((rd_T38 l3 x51_2).f0), .int .i64 ((rd_T38 l3 x51_2).f1), .int .i64 ((rd_T38 l3 x51_2).f2)] 38 (0, 0)) (by (with_reducible repeat first | apply zM | apply zE | apply zF); exact BK338.out) hb); have n3_ := zk (zs (by with_reducible repeat first | exact HB.out | apply zA | apply zN | apply zD | refine zS ?_ GE338.out) hb); clear HO_10; clear HO_16; clear BK338; clear HB; have HO_10 := n0_; have HO_16 := n1_; have BK338 := n2_; have HB := n3_; clear n0_ n1_ n2_ n3_; (try clear hb); (try clear hb2); (try clear hk); (try clear hi))))
                   go_ret2
                   exact ⟨_, by first | rfl | (simp [wN, wS] <;> rfl) | (simp [*, wN, wS] <;> rfl), by first | exact Kd.R_nil _ _ _ _ _ | exact Kd.N_nil _ _ _ _ _ | exact Kd.V_nil _ _ _ _ _ | exact Kd.Q_nil _ _ _ _ _ | exact Kd.S_nil _ _ _ _ _, by with_reducible repeat first | exact HB.out | apply zA | apply zN | apply zD | refine zS ?_ GE338.out⟩
                  ·
                   rw [if_neg c44] at H; have c44b0 := decide_eq_false c44; clear c44
                   by_cases c48 : 0 ≤ t346
                   ·
                    rw [if_pos c48] at H; have c48b0 := eq_true c48; have c48b1 := decide_eq_true c48; clear c48
                    by_cases c49 : t346 ≤ (x16_4.length : Int)
                    ·
                     rw [if_pos c49] at H; have c49b0 := eq_true c49; have c49b1 := decide_eq_true c49; clear c49; obtain ⟨y347, hy347⟩ : ∃ y_ : List (S50), y_ = (x16_4.take (t346 : Int).toNat) := ⟨_, rfl⟩
                     replace H : (if ([] : List (S50)).length + y347.length < 3518437208883 then ((some (([] : List (S50)) ++ y347 : List (S50))).bind fun y351 => (if 0 ≤ ((rd_T38 l3 x51_2).f0) then (if ((rd_T38 l3 x51_2).f0) < (l1.length : Int) then (if y351.length < 3518437208883 then ((some (y351 ++ [(⟨(rd_T50 l1 ((rd_T38 l3 x51_2).f0)).f0, (rd_T50 l1 ((rd_T38 l3 x51_2).f0)).f1, (rd_T50 l1 ((rd_T38 l3 x51_2).f0)).f2⟩ : S50)] : List (S50))).bind fun y355 => ((some (x16_4.drop (t346 : Int).toNat : List (S50))).bind fun y358 => (if y355.length + y358.length < 3518437208883 then (r32_Run.l2 k4 l1 l3 (y355 ++ y358) (l3.length : Int) (wrap64 (x51_2 + 1))) else (none)))) else (none)) else (none)) else (none))) else (none)) = some (r1, r2) := by first | (rw [hy347]; with_reducible exact H) | (have H2_ := (Option.bind_some _ _).symm.trans H; rw [hy347]; with_reducible exact H2_) | (have H2_ := (Option.bind_some _ _).symm.trans H; with_reducible exact H2_) | with_reducible exact H | (rw [hy347]; exact H) | exact H
                     have Ny347 := zk hy347; clear hy347
                     by_cases c50 : ([] : List (S50)).length + y347.length < 3518437208883
                     ·
                      rw [if_pos c50] at H; have LMc50 := zk c50; clear c50; obtain ⟨y351, hy351⟩ : ∃ y_ : List (S50), y_ = (([] : List (S50)) ++ y347) := ⟨_, rfl⟩
                      replace H : (if 0 ≤ ((rd_T38 l3 x51_2).f0) then (if ((rd_T38 l3 x51_2).f0) < (l1.length : Int) then (if y351.length < 3518437208883 then ((some (y351 ++ [(⟨(rd_T50 l1 ((rd_T38 l3 x51_2).f0)).f0, (rd_T50 l1 ((rd_T38 l3 x51_2).f0)).f1, (rd_T50 l1 ((rd_T38 l3 x51_2).f0)).f2⟩ : S50)] : List (S50))).bind fun y355 => ((some (x16_4.drop (t346 : Int).toNat : List (S50))).bind fun y358 => (if y355.length + y358.length < 3518437208883 then (r32_Run.l2 k4 l1 l3 (y355 ++ y358) (l3.length : Int) (wrap64 (x51_2 + 1))) else (none)))) else (none)) else (none)) else (none)) = some (r1, r2) := by first | (rw [hy351]; with_reducible exact H) | (have H2_ := (Option.bind_some _ _).symm.trans H; rw [hy351]; with_reducible exact H2_) | (have H2_ := (Option.bind_some _ _).symm.trans H; with_reducible exact H2_) | with_reducible exact H | (rw [hy351]; exact H) | exact H
                      have Ny351 := zk hy351; clear hy351
                      by_cases c51 : 0 ≤ ((rd_T38 l3 x51_2).f0)
                      ·
                       rw [if_pos c51] at H; have c51b0 := decide_eq_true c51; clear c51
                       by_cases c52 : ((rd_T38 l3 x51_2).f0) < (l1.length : Int)
                       ·
                        rw [if_pos c52] at H; have c52b0 := decide_eq_true c52; clear c52
                        by_cases c53 : y351.length < 3518437208883
                        ·
                         rw [if_pos c53] at H; have LMc53 := zk c53; clear c53; obtain ⟨y355, hy355⟩ : ∃ y_ : List (S50), y_ = (y351 ++ [(⟨(rd_T50 l1 ((rd_T38 l3 x51_2).f0)).f0, (rd_T50 l1 ((rd_T38 l3 x51_2).f0)).f1, (rd_T50 l1 ((rd_T38 l3 x51_2).f0)).f2⟩ : S50)]) := ⟨_, rfl⟩
                         replace H : ((some (x16_4.drop (t346 : Int).toNat : List (S50))).bind fun y358 => (if y355.length + y358.length < 3518437208883 then (r32_Run.l2 k4 l1 l3 (y355 ++ y358) (l3.length : Int) (wrap64 (x51_2 + 1))) else (none))) = some (r1, r2) := by first | (rw [hy355]; with_reducible exact H) | (have H2_ := (Option.bind_some _ _).symm.trans H; rw [hy355]; with_reducible exact H2_) | (have H2_ := (Option.bind_some _ _).symm.trans H; with_reducible exact H2_) | with_reducible exact H | (rw [hy355]; exact H) | exact H
                         have Ny355 := zk hy355; clear hy355; have c54b0 := eq_true (zo (by assumption) : 0 ≤ t346); have c55b0 := eq_true (zo (by assumption) : t346 ≤ (x16_4.length : Int)); obtain ⟨y358, hy358⟩ : ∃ y_ : List (S50), y_ = (x16_4.drop (t346 : Int).toNat) := ⟨_, rfl⟩
                         replace H : (if y355.length + y358.length < 3518437208883 then (r32_Run.l2 k4 l1 l3 (y355 ++ y358) (l3.length : Int) (wrap64 (x51_2 + 1))) else (none)) = some (r1, r2) := by first | (rw [hy358]; with_reducible exact H) | (have H2_ := (Option.bind_some _ _).symm.trans H; rw [hy358]; with_reducible exact H2_) | (have H2_ := (Option.bind_some _ _).symm.trans H; with_reducible exact H2_) | with_reducible exact H | (rw [hy358]; exact H) | exact H
                         have Ny358 := zk hy358; clear hy358
                         by_cases c56 : y355.length + y358.length < 3518437208883
                         ·
                          rw [if_pos c56] at H; have LMc56 := zk c56; clear c56; obtain ⟨y362, hy362⟩ : ∃ y_ : List (S50), y_ = (y355 ++ y358) := ⟨_, rfl⟩
                          replace H : (r32_Run.l2 k4 l1 l3 y362 (l3.length : Int) (wrap64 (x51_2 + 1))) = some (r1, r2) := by first | (rw [hy362]; with_reducible exact H) | (have H2_ := (Option.bind_some _ _).symm.trans H; rw [hy362]; with_reducible exact H2_) | (have H2_ := (Option.bind_some _ _).symm.trans H; with_reducible exact H2_) | with_reducible exact H | (rw [hy362]; exact H) | exact H
                          have Ny362 := zk hy362; clear hy362; have H' := zk H; clear H; obtain ⟨Ao57, co57, eo57⟩ := Kd.R_slice HO_16.out; subst eo57; have hcz58_0 : wr.cell? ⟨gb338, 0, none⟩ = some (.int .i64 ((rd_T38 l3 x51_2).f0)) := (zC BK338.out 0).trans rfl; have hcz58_1 : wr.cell? ⟨gb338, 1, none⟩ = some (.int .i64 ((rd_T38 l3 x51_2).f1)) := (zC BK338.out 1).trans rfl; have hcz58_2 : wr.cell? ⟨gb338, 2, none⟩ = some (.int .i64 ((rd_T38 l3 x51_2).f2)) := (zC BK338.out 2).trans rfl; have hfz58_0 := zR BK338.out 0; have hfz58_1 := zR BK338.out 1; have hfz58_2 := zR BK338.out 2; have p345 : 0 ≤ (((rd_T38 l3 x51_2).f2) : Int) := zo (by assumption); have q345 : ((rd_T38 l3 x51_2).f2) < (l1.length : Int) := zo (by assumption); obtain ⟨ad345, e345, hx345_0, hx345_1, hx345_2⟩ := at_T50 HR1.out ((rd_T38 l3 x51_2).f2) p345 q345; cases e345; replace hx345_0 := zB HB hx345_0; replace hx345_1 := zB HB hx345_1; replace hx345_2 := zB HB hx345_2; replace p345 := eq_true p345; replace q345 := eq_true q345
                          go_wp2_with (first | (go_at_call 26; (with_reducible refine (r12_Find.calls k4 _ _ x16_4 ((rd_T50 l1 ((rd_T38 l3 x51_2).f2)).f0) ((rd_T50 l1 ((rd_T38 l3 x51_2).f2)).f1) ((rd_T50 l1 ((rd_T38 l3 x51_2).f2)).f2) t346 _ ?side1 ?side2 A43.out).mono ?_); (case side1 => repeat (first | exact (Kd.R_reads' HO_16.out).2.2 | (with_reducible refine Kd.C_alloc ?_ _) | (with_reducible refine Kd.C_drewN ?_ _) | (with_reducible refine Kd.C_drew ?_))); (case side2 => exact (Kd.R_reads' HO_16.out).2.1); rintro e w59 ⟨rfl, hb⟩; have n0_ := zk (Kd.R_below (by (with_reducible repeat (first | apply Kd.R_alloc | apply Kd.R_drewN | apply Kd.R_drew)); exact HO_10.out) hb); have n1_ := zk (Kd.R_below (by (with_reducible repeat (first | apply Kd.R_alloc | apply Kd.R_drewN | apply Kd.R_drew)); exact HO_16.out) hb); have n2_ := zk (blk_below (g := gb338) (o := .cells #[.int .i64 ((rd_T38 l3 x51_2).f0), .int .i64 ((rd_T38 l3 x51_2).f1), .int .i64 ((rd_T38 l3 x51_2).f2)] 38 (0, 0)) (by (with_reducible repeat first | apply zM | apply zE | apply zF); exact BK338.out) hb); have n3_ := zk (zs (by with_reducible repeat first | exact HB.out | apply zA | apply zN | apply zD | refine zS ?_ GE338.out) hb); clear HO_10; clear HO_16; clear BK338; clear HB; have HO_10 := n0_; have HO_16 := n1_; have BK338 := n2_; have HB := n3_; clear n0_ n1_ n2_ n3_; (try clear hb); (try clear hb2); (try clear hk); (try clear hi); have q60 : (t346 : Int) ≤ ((x16_4.length : Int) : Int) := zo (by assumption); obtain ⟨i060, hi060, _, hsz60, _⟩ := info_parts info50; have hroom60 : x16_4.length ≤ co57 := (Kd.R_reads' HO_16.out).2.1; have hC60 : Kd.C k50 _ Ao57 x16_4.length x16_4 := (Kd.R_reads' HO_16.out).2.2; have hcut60 := cut_to (P := Try.prog) 22 50 .i64 Try.underlying22 hi060 Ao57 x16_4.length co57 t346 (zo (by assumption)) q60 hroom60; have hr60 := Kd.C_take (m := (t346 : Int).toNat) hC60 (by omega); have hy60 : y347.length = (t346 : Int).toNat := (by rw [Ny347.out, List.length_take]; omega); rw [← Ny347.out] at hr60; rw [← hy60] at hcut60; have HR350 := zk hr60; have HC350 := zk (show y347.length ≤ co57 from by omega); clear hr60 hC60 hroom60 hi060 hsz60; have KY60 := zk hy60; clear hy60; have KL60 := zk (show (t346 : Int).toNat ≤ x16_4.length from by omega); replace q60 := eq_true q60) | ((with_reducible refine gn (b := .append) (xs := #[.tmp 117, .tmp 120]) rfl ?_); (try (refine gg (by rfl) ?_; dsimp only)); at_builtin; refine Kd.R_append_rows k50 (w0 := w) w.heap.size rfl (.tmp 117) (.tmp 120) 22 50 (.agg #[(.string ⟨#[]⟩), (.string ⟨#[]⟩), (.int .i64 0)]) 40 rfl Try.underlying22 info50 rfl (by decide) (by omega) (.slice none 0 0) ([] : List (S50)) y347 _ _ _ (fun k_ => some k_ ≠ (.slice Ao29 x10_2.length co29 : Value).ownBlock ∧ some k_ ≠ (.slice Ao57 x16_4.length co57 : Value).ownBlock) (fun _ => False) rfl rfl ?aO ?aR (fun _ _ h => h) (fun _ h => h.elim) ?aF ?aB ?aS ?aL ?_; (case aR => repeat (first | exact (by repeat (first | (with_reducible exact HR350.out) | (with_reducible refine Kd.C_alloc ?_ _) | (with_reducible refine Kd.C_drewN ?_ _) | (with_reducible refine Kd.C_drew ?_) | exact HR350.out)) | (with_reducible refine Kd.C_alloc ?_ _) | (with_reducible refine Kd.C_drewN ?_ _) | (with_reducible refine Kd.C_drew ?_))); (case aB => exact (by with_reducible repeat first | exact HB.out | apply zA | apply zN | apply zD | refine zS ?_ GE338.out)); (case aF => exact (fun k_ hk => ⟨Kd.fresh' (Kd.R_lt (by (with_reducible repeat (first | apply Kd.R_alloc | apply Kd.R_drewN | apply Kd.R_drew)); exact HO_10.out)) k_ hk, Kd.fresh' (Kd.R_lt (by (with_reducible repeat (first | apply Kd.R_alloc | apply Kd.R_drewN | apply Kd.R_drew)); exact HO_16.out)) k_ hk⟩)); (case aO => exact ((Kd.R_nil _ _ _ _ (fun k_ => some k_ ≠ (.slice Ao29 x10_2.length co29 : Value).ownBlock ∧ some k_ ≠ (.slice Ao57 x16_4.length co57 : Value).ownBlock)))); (case aS => exact (zq (by with_reducible repeat first | exact HB.out | apply zA | apply zN | apply zD | refine zS ?_ GE338.out))); (case aL => have := LMc50.out; omega); intro v352 w61 ho hb hg hat; rw [← Ny351.out] at ho; have n0_ := zk (Kd.R_after (Kd.R_apart_nil (by (with_reducible repeat (first | apply Kd.R_alloc | apply Kd.R_drewN | apply Kd.R_drew)); exact HO_10.out)) hg hat); have n1_ := zk (Kd.R_after (Kd.R_apart_nil (by (with_reducible repeat (first | apply Kd.R_alloc | apply Kd.R_drewN | apply Kd.R_drew)); exact HO_16.out)) hg hat); have n2_ := zk (blk_grown (g := gb338) (o := .cells #[.int .i64 ((rd_T38 l3 x51_2).f0), .int .i64 ((rd_T38 l3 x51_2).f1), .int .i64 ((rd_T38 l3 x51_2).f2)] 38 (0, 0)) (by (with_reducible repeat first | apply zM | apply zE | apply zF); exact BK338.out) hg (by simp [Value.ownBlock])); have n3_ := zk (hb); have n4_ := zk ((show Kd.C k50 w61 Ao57 y347.length y347 from by rw [Ny347.out]; exact Kd.C_take (m := (t346 : Int).toNat) ((Kd.R_reads' (Kd.R_after (Kd.R_apart_nil (by (with_reducible repeat (first | apply Kd.R_alloc | apply Kd.R_drewN | apply Kd.R_drew)); exact HO_16.out)) hg hat)).2.2) KL60.out)); have n5_ := zk (ho); clear HO_10; clear HO_16; clear BK338; clear HB; clear HR350; have HO_10 := n0_; have HO_16 := n1_; have BK338 := n2_; have HB := n3_; have HR350 := n4_; have HO353 := n5_; clear n0_ n1_ n2_ n3_ n4_ n5_; clear ho hb hg hat; obtain ⟨hcz62_0, hcz62_1, hcz62_2, hfz62_0, hfz62_1, hfz62_2⟩ := zc3 BK338.out; have p354 : 0 ≤ (((rd_T38 l3 x51_2).f0) : Int) := zo (by assumption); have q354 : ((rd_T38 l3 x51_2).f0) < (l1.length : Int) := zo (by assumption); obtain ⟨ad354, e354, hx354_0, hx354_1, hx354_2⟩ := at_T50 HR1.out ((rd_T38 l3 x51_2).f0) p354 q354; obtain rfl : ad345 = ad354 := (by injection e354); replace hx354_0 := zB HB hx354_0; replace hx354_1 := zB HB hx354_1; replace hx354_2 := zB HB hx354_2; replace p354 := eq_true p354; replace q354 := eq_true q354) | ((with_reducible refine gn (b := .append) (xs := #[.tmp 122, .tmp 128]) rfl ?_); (try (refine gg (by rfl) ?_; dsimp only)); at_builtin; refine Kd.R_append k50 (w0 := w) w.heap.size rfl (.tmp 122) (.tmp 128) 22 50 (.agg #[(.string ⟨#[]⟩), (.string ⟨#[]⟩), (.int .i64 0)]) 40 rfl Try.underlying22 info50 rfl (by decide) (by omega) v352 y351 (⟨(rd_T50 l1 ((rd_T38 l3 x51_2).f0)).f0, (rd_T50 l1 ((rd_T38 l3 x51_2).f0)).f1, (rd_T50 l1 ((rd_T38 l3 x51_2).f0)).f2⟩ : S50) [.string ((rd_T50 l1 ((rd_T38 l3 x51_2).f0)).f0), .string ((rd_T50 l1 ((rd_T38 l3 x51_2).f0)).f1), .int .i64 ((rd_T50 l1 ((rd_T38 l3 x51_2).f0)).f2)] (fun k_ => some k_ ≠ (.slice Ao29 x10_2.length co29 : Value).ownBlock ∧ some k_ ≠ (.slice Ao57 x16_4.length co57 : Value).ownBlock) (fun _ => False) rfl rfl ?aP (fun _ hk => hk.elim) ?aF ?aO ?aB ?aS ?aL ?_; (case aP => exact k50_mkM _ _ _ (⟨(rd_T50 l1 ((rd_T38 l3 x51_2).f0)).f0, (rd_T50 l1 ((rd_T38 l3 x51_2).f0)).f1, (rd_T50 l1 ((rd_T38 l3 x51_2).f0)).f2⟩ : S50)); (case aB => exact (by with_reducible repeat first | exact HB.out | apply zA | apply zN | apply zD | refine zS ?_ GE338.out)); (case aF => exact (fun k_ hk => ⟨Kd.fresh' (Kd.R_lt (by (with_reducible repeat (first | apply Kd.R_alloc | apply Kd.R_drewN | apply Kd.R_drew)); exact HO_10.out)) k_ hk, Kd.fresh' (Kd.R_lt (by (with_reducible repeat (first | apply Kd.R_alloc | apply Kd.R_drewN | apply Kd.R_drew)); exact HO_16.out)) k_ hk⟩)); (case aO => exact (by (with_reducible repeat (first | apply Kd.R_alloc | apply Kd.R_drewN | apply Kd.R_drew)); exact HO353.out)); (case aS => exact (zq (by with_reducible repeat first | exact HB.out | apply zA | apply zN | apply zD | refine zS ?_ GE338.out))); (case aL => have := LMc53.out; omega); intro v356 w63 ho hb hg hat; rw [← Ny355.out] at ho; have n0_ := zk (Kd.R_after (ok := (fun k_ => some k_ ≠ (.slice Ao57 x16_4.length co57 : Value).ownBlock)) (by (with_reducible repeat (first | apply Kd.R_alloc | apply Kd.R_drewN | apply Kd.R_drew)); exact HO_10.out) hg hat); have n1_ := zk (Kd.R_after (ok := (fun k_ => some k_ ≠ (.slice Ao29 x10_2.length co29 : Value).ownBlock)) (by (with_reducible repeat (first | apply Kd.R_alloc | apply Kd.R_drewN | apply Kd.R_drew)); exact HO_16.out) hg hat); have n2_ := zk (blk_grown (g := gb338) (o := .cells #[.int .i64 ((rd_T38 l3 x51_2).f0), .int .i64 ((rd_T38 l3 x51_2).f1), .int .i64 ((rd_T38 l3 x51_2).f2)] 38 (0, 0)) (by (with_reducible repeat first | apply zM | apply zE | apply zF); exact BK338.out) hg (Kd.R_ne HO353.out BK338.out (by decide))); have n3_ := zk (hb); have n4_ := zk ((show Kd.C k50 w63 Ao57 y347.length y347 from by rw [Ny347.out]; exact Kd.C_take (m := (t346 : Int).toNat) ((Kd.R_reads' (Kd.R_after (ok := (fun k_ => some k_ ≠ (.slice Ao29 x10_2.length co29 : Value).ownBlock)) (by (with_reducible repeat (first | apply Kd.R_alloc | apply Kd.R_drewN | apply Kd.R_drew)); exact HO_16.out) hg hat)).2.2) KL60.out)); have n5_ := zk (ho); clear HO_10; clear HO_16; clear BK338; clear HB; clear HR350; clear HO353; have HO_10 := n0_; have HO_16 := n1_; have BK338 := n2_; have HB := n3_; have HR350 := n4_; have HO357 := n5_; clear n0_ n1_ n2_ n3_ n4_ n5_; clear ho hb hg hat; have q64 : (t346 : Int) ≤ ((x16_4.length : Int) : Int) := zo (by assumption); obtain ⟨i064, hi064, _, hsz64, _⟩ := info_parts info50; have hroom64 : x16_4.length ≤ co57 := (Kd.R_reads' HO_16.out).2.1; have hC64 : Kd.C k50 _ Ao57 x16_4.length x16_4 := (Kd.R_reads' HO_16.out).2.2; have q064 : (0 : Int) ≤ (t346 : Int) := zo (by assumption); have hcut64 := cut_from (P := Try.prog) 22 50 .i64 Try.underlying22 hi064 3 hsz64 Ao57 x16_4.length co57 t346 q064 q64; have hr64 := Kd.C_drop (m := (t346 : Int).toNat) (c := co57) hC64 (by omega) hroom64; obtain ⟨A64, hA64⟩ : ∃ A_, A_ = (if co57 = (t346 : Int).toNat then Ao57 else (Ao57 : Option Addr).map (·.add ((t346 : Int).toNat * 3))) := ⟨_, rfl⟩; obtain ⟨c64, hc64⟩ : ∃ c_, c_ = co57 - (t346 : Int).toNat := ⟨_, rfl⟩; have hy64 : y358.length = x16_4.length - (t346 : Int).toNat := (by rw [Ny358.out, List.length_drop] <;> omega); rw [show (x16_4).drop (t346 : Int).toNat = y358 from Ny358.out.symm] at hr64; replace hr64 : Kd.C k50 _ A64 y358.length y358 := (by rw [hA64]; exact hr64); rw [← hy64, ← hA64, ← hc64] at hcut64; have HR361 := zk hr64; have HC361 := zk (show y358.length ≤ c64 from by rw [hy64, hc64]; exact Nat.sub_le_sub_right hroom64 _); clear hr64 hC64 hroom64 hi064 hsz64 hc64; have KY64 := zk hy64; have KA64 := zk hA64; clear hy64 hA64; have KL64 := zk (show (t346 : Int).toNat ≤ x16_4.length from by omega); replace q64 := eq_true q64) | ((with_reducible refine gn (b := .append) (xs := #[.tmp 130, .tmp 133]) rfl ?_); (try (refine gg (by rfl) ?_; dsimp only)); at_builtin; refine Kd.R_append_rows k50 (w0 := w) w.heap.size rfl (.tmp 130) (.tmp 133) 22 50 (.agg #[(.string ⟨#[]⟩), (.string ⟨#[]⟩), (.int .i64 0)]) 40 rfl Try.underlying22 info50 rfl (by decide) (by omega) v356 y355 y358 _ _ _ (fun k_ => some k_ ≠ (.slice Ao29 x10_2.length co29 : Value).ownBlock ∧ some k_ ≠ (.slice Ao57 x16_4.length co57 : Value).ownBlock) (fun _ => False) rfl rfl ?aO ?aR (fun _ _ h => h) (fun _ h => h.elim) ?aF ?aB ?aS ?aL ?_; (case aR => repeat (first | exact (by repeat (first | (with_reducible exact HR361.out) | (with_reducible refine Kd.C_alloc ?_ _) | (with_reducible refine Kd.C_drewN ?_ _) | (with_reducible refine Kd.C_drew ?_) | exact HR361.out)) | (with_reducible refine Kd.C_alloc ?_ _) | (with_reducible refine Kd.C_drewN ?_ _) | (with_reducible refine Kd.C_drew ?_))); (case aB => exact (by with_reducible repeat first | exact HB.out | apply zA | apply zN | apply zD | refine zS ?_ GE338.out)); (case aF => exact (fun k_ hk => ⟨Kd.fresh' (Kd.R_lt (by (with_reducible repeat (first | apply Kd.R_alloc | apply Kd.R_drewN | apply Kd.R_drew)); exact HO_10.out)) k_ hk, Kd.fresh' (Kd.R_lt (by (with_reducible repeat (first | apply Kd.R_alloc | apply Kd.R_drewN | apply Kd.R_drew)); exact HO_16.out)) k_ hk⟩)); (case aO => exact (by (with_reducible repeat (first | apply Kd.R_alloc | apply Kd.R_drewN | apply Kd.R_drew)); exact HO357.out)); (case aS => exact (zq (by with_reducible repeat first | exact HB.out | apply zA | apply zN | apply zD | refine zS ?_ GE338.out))); (case aL => have := LMc56.out; omega); intro v363 w65 ho hb hg hat; rw [← Ny362.out] at ho; have n0_ := zk (Kd.R_after (ok := (fun k_ => some k_ ≠ (.slice Ao57 x16_4.length co57 : Value).ownBlock)) (by (with_reducible repeat (first | apply Kd.R_alloc | apply Kd.R_drewN | apply Kd.R_drew)); exact HO_10.out) hg hat); have n1_ := zk (Kd.R_after (ok := (fun k_ => some k_ ≠ (.slice Ao29 x10_2.length co29 : Value).ownBlock)) (by (with_reducible repeat (first | apply Kd.R_alloc | apply Kd.R_drewN | apply Kd.R_drew)); exact HO_16.out) hg hat); have n2_ := zk (blk_grown (g := gb338) (o := .cells #[.int .i64 ((rd_T38 l3 x51_2).f0), .int .i64 ((rd_T38 l3 x51_2).f1), .int .i64 ((rd_T38 l3 x51_2).f2)] 38 (0, 0)) (by (with_reducible repeat first | apply zM | apply zE | apply zF); exact BK338.out) hg (Kd.R_ne HO357.out BK338.out (by decide))); have n3_ := zk (hb); have n4_ := zk ((show Kd.C k50 w65 Ao57 y347.length y347 from by rw [Ny347.out]; exact Kd.C_take (m := (t346 : Int).toNat) ((Kd.R_reads' (Kd.R_after (ok := (fun k_ => some k_ ≠ (.slice Ao29 x10_2.length co29 : Value).ownBlock)) (by (with_reducible repeat (first | apply Kd.R_alloc | apply Kd.R_drewN | apply Kd.R_drew)); exact HO_16.out) hg hat)).2.2) KL60.out)); have n5_ := zk ((show Kd.C k50 w65 A64 y358.length y358 from by rw [Ny358.out, KA64.out]; exact Kd.C_drop (m := (t346 : Int).toNat) (c := co57) ((Kd.R_reads' (Kd.R_after (ok := (fun k_ => some k_ ≠ (.slice Ao29 x10_2.length co29 : Value).ownBlock)) (by (with_reducible repeat (first | apply Kd.R_alloc | apply Kd.R_drewN | apply Kd.R_drew)); exact HO_16.out) hg hat)).2.2) KL64.out ((Kd.R_reads' (Kd.R_after (ok := (fun k_ => some k_ ≠ (.slice Ao29 x10_2.length co29 : Value).ownBlock)) (by (with_reducible repeat (first | apply Kd.R_alloc | apply Kd.R_drewN | apply Kd.R_drew)); exact HO_16.out) hg hat)).2.1))); have n6_ := zk (ho); clear HO_10; clear HO_16; clear BK338; clear HB; clear HR350; clear HR361; clear HO357; have HO_10 := n0_; have HO_16 := n1_; have BK338 := n2_; have HB := n3_; have HR350 := n4_; have HR361 := n5_; have HO364 := n6_; clear n0_ n1_ n2_ n3_ n4_ n5_ n6_; clear ho hb hg hat))
                          repeat (go_quiet (first | (go_at_call 26; (with_reducible refine (r12_Find.calls k4 _ _ x16_4 ((rd_T50 l1 ((rd_T38 l3 x51_2).f2)).f0) ((rd_T50 l1 ((rd_T38 l3 x51_2).f2)).f1) ((rd_T50 l1 ((rd_T38 l3 x51_2).f2)).f2) t346 _ ?side1 ?side2 A43.out).mono ?_); (case side1 => repeat (first | exact (Kd.R_reads' HO_16.out).2.2 | (with_reducible refine Kd.C_alloc ?_ _) | (with_reducible refine Kd.C_drewN ?_ _) | (with_reducible refine Kd.C_drew ?_))); (case side2 => exact (Kd.R_reads' HO_16.out).2.1); rintro e w59 ⟨rfl, hb⟩; have n0_ := zk (Kd.R_below (by (with_reducible repeat (first | apply Kd.R_alloc | apply Kd.R_drewN | apply Kd.R_drew)); exact HO_10.out) hb); have n1_ := zk (Kd.R_below (by (with_reducible repeat (first | apply Kd.R_alloc | apply Kd.R_drewN | apply Kd.R_drew)); exact HO_16.out) hb); have n2_ := zk (blk_below (g := gb338) (o := .cells #[.int .i64 ((rd_T38 l3 x51_2).f0), .int .i64 ((rd_T38 l3 x51_2).f1), .int .i64 ((rd_T38 l3 x51_2).f2)] 38 (0, 0)) (by (with_reducible repeat first | apply zM | apply zE | apply zF); exact BK338.out) hb); have n3_ := zk (zs (by with_reducible repeat first | exact HB.out | apply zA | apply zN | apply zD | refine zS ?_ GE338.out) hb); clear HO_10; clear HO_16; clear BK338; clear HB; have HO_10 := n0_; have HO_16 := n1_; have BK338 := n2_; have HB := n3_; clear n0_ n1_ n2_ n3_; (try clear hb); (try clear hb2); (try clear hk); (try clear hi); have q60 : (t346 : Int) ≤ ((x16_4.length : Int) : Int) := zo (by assumption); obtain ⟨i060, hi060, _, hsz60, _⟩ := info_parts info50; have hroom60 : x16_4.length ≤ co57 := (Kd.R_reads' HO_16.out).2.1; have hC60 : Kd.C k50 _ Ao57 x16_4.length x16_4 := (Kd.R_reads' HO_16.out).2.2; have hcut60 := cut_to (P := Try.prog) 22 50 .i64 Try.underlying22 hi060 Ao57 x16_4.length co57 t346 (zo (by assumption)) q60 hroom60; have hr60 := Kd.C_take (m := (t346 : Int).toNat) hC60 (by omega); have hy60 : y347.length = (t346 : Int).toNat := (by rw [Ny347.out, List.length_take]; omega); rw [← Ny347.out] at hr60; rw [← hy60] at hcut60; have HR350 := zk hr60; have HC350 := zk (show y347.length ≤ co57 from by omega); clear hr60 hC60 hroom60 hi060 hsz60; have KY60 := zk hy60; clear hy60; have KL60 := zk (show (t346 : Int).toNat ≤ x16_4.length from by omega); replace q60 := eq_true q60) | ((with_reducible refine gn (b := .append) (xs := #[.tmp 117, .tmp 120]) rfl ?_); (try (refine gg (by rfl) ?_; dsimp only)); at_builtin; refine Kd.R_append_rows k50 (w0 := w) w.heap.size rfl (.tmp 117) (.tmp 120) 22 50 (.agg #[(.string ⟨#[]⟩), (.string ⟨#[]⟩), (.int .i64 0)]) 40 rfl Try.underlying22 info50 rfl (by decide) (by omega) (.slice none 0 0) ([] : List (S50)) y347 _ _ _ (fun k_ => some k_ ≠ (.slice Ao29 x10_2.length co29 : Value).ownBlock ∧ some k_ ≠ (.slice Ao57 x16_4.length co57 : Value).ownBlock) (fun _ => False) rfl rfl ?aO ?aR (fun _ _ h => h) (fun _ h => h.elim) ?aF ?aB ?aS ?aL ?_; (case aR => repeat (first | exact (by repeat (first | (with_reducible exact HR350.out) | (with_reducible refine Kd.C_alloc ?_ _) | (with_reducible refine Kd.C_drewN ?_ _) | (with_reducible refine Kd.C_drew ?_) | exact HR350.out)) | (with_reducible refine Kd.C_alloc ?_ _) | (with_reducible refine Kd.C_drewN ?_ _) | (with_reducible refine Kd.C_drew ?_))); (case aB => exact (by with_reducible repeat first | exact HB.out | apply zA | apply zN | apply zD | refine zS ?_ GE338.out)); (case aF => exact (fun k_ hk => ⟨Kd.fresh' (Kd.R_lt (by (with_reducible repeat (first | apply Kd.R_alloc | apply Kd.R_drewN | apply Kd.R_drew)); exact HO_10.out)) k_ hk, Kd.fresh' (Kd.R_lt (by (with_reducible repeat (first | apply Kd.R_alloc | apply Kd.R_drewN | apply Kd.R_drew)); exact HO_16.out)) k_ hk⟩)); (case aO => exact ((Kd.R_nil _ _ _ _ (fun k_ => some k_ ≠ (.slice Ao29 x10_2.length co29 : Value).ownBlock ∧ some k_ ≠ (.slice Ao57 x16_4.length co57 : Value).ownBlock)))); (case aS => exact (zq (by with_reducible repeat first | exact HB.out | apply zA | apply zN | apply zD | refine zS ?_ GE338.out))); (case aL => have := LMc50.out; omega); intro v352 w61 ho hb hg hat; rw [← Ny351.out] at ho; have n0_ := zk (Kd.R_after (Kd.R_apart_nil (by (with_reducible repeat (first | apply Kd.R_alloc | apply Kd.R_drewN | apply Kd.R_drew)); exact HO_10.out)) hg hat); have n1_ := zk (Kd.R_after (Kd.R_apart_nil (by (with_reducible repeat (first | apply Kd.R_alloc | apply Kd.R_drewN | apply Kd.R_drew)); exact HO_16.out)) hg hat); have n2_ := zk (blk_grown (g := gb338) (o := .cells #[.int .i64 ((rd_T38 l3 x51_2).f0), .int .i64 ((rd_T38 l3 x51_2).f1), .int .i64 ((rd_T38 l3 x51_2).f2)] 38 (0, 0)) (by (with_reducible repeat first | apply zM | apply zE | apply zF); exact BK338.out) hg (by simp [Value.ownBlock])); have n3_ := zk (hb); have n4_ := zk ((show Kd.C k50 w61 Ao57 y347.length y347 from by rw [Ny347.out]; exact Kd.C_take (m := (t346 : Int).toNat) ((Kd.R_reads' (Kd.R_after (Kd.R_apart_nil (by (with_reducible repeat (first | apply Kd.R_alloc | apply Kd.R_drewN | apply Kd.R_drew)); exact HO_16.out)) hg hat)).2.2) KL60.out)); have n5_ := zk (ho); clear HO_10; clear HO_16; clear BK338; clear HB; clear HR350; have HO_10 := n0_; have HO_16 := n1_; have BK338 := n2_; have HB := n3_; have HR350 := n4_; have HO353 := n5_; clear n0_ n1_ n2_ n3_ n4_ n5_; clear ho hb hg hat; obtain ⟨hcz62_0, hcz62_1, hcz62_2, hfz62_0, hfz62_1, hfz62_2⟩ := zc3 BK338.out; have p354 : 0 ≤ (((rd_T38 l3 x51_2).f0) : Int) := zo (by assumption); have q354 : ((rd_T38 l3 x51_2).f0) < (l1.length : Int) := zo (by assumption); obtain ⟨ad354, e354, hx354_0, hx354_1, hx354_2⟩ := at_T50 HR1.out ((rd_T38 l3 x51_2).f0) p354 q354; obtain rfl : ad345 = ad354 := (by injection e354); replace hx354_0 := zB HB hx354_0; replace hx354_1 := zB HB hx354_1; replace hx354_2 := zB HB hx354_2; replace p354 := eq_true p354; replace q354 := eq_true q354) | ((with_reducible refine gn (b := .append) (xs := #[.tmp 122, .tmp 128]) rfl ?_); (try (refine gg (by rfl) ?_; dsimp only)); at_builtin; refine Kd.R_append k50 (w0 := w) w.heap.size rfl (.tmp 122) (.tmp 128) 22 50 (.agg #[(.string ⟨#[]⟩), (.string ⟨#[]⟩), (.int .i64 0)]) 40 rfl Try.underlying22 info50 rfl (by decide) (by omega) v352 y351 (⟨(rd_T50 l1 ((rd_T38 l3 x51_2).f0)).f0, (rd_T50 l1 ((rd_T38 l3 x51_2).f0)).f1, (rd_T50 l1 ((rd_T38 l3 x51_2).f0)).f2⟩ : S50) [.string ((rd_T50 l1 ((rd_T38 l3 x51_2).f0)).f0), .string ((rd_T50 l1 ((rd_T38 l3 x51_2).f0)).f1), .int .i64 ((rd_T50 l1 ((rd_T38 l3 x51_2).f0)).f2)] (fun k_ => some k_ ≠ (.slice Ao29 x10_2.length co29 : Value).ownBlock ∧ some k_ ≠ (.slice Ao57 x16_4.length co57 : Value).ownBlock) (fun _ => False) rfl rfl ?aP (fun _ hk => hk.elim) ?aF ?aO ?aB ?aS ?aL ?_; (case aP => exact k50_mkM _ _ _ (⟨(rd_T50 l1 ((rd_T38 l3 x51_2).f0)).f0, (rd_T50 l1 ((rd_T38 l3 x51_2).f0)).f1, (rd_T50 l1 ((rd_T38 l3 x51_2).f0)).f2⟩ : S50)); (case aB => exact (by with_reducible repeat first | exact HB.out | apply zA | apply zN | apply zD | refine zS ?_ GE338.out)); (case aF => exact (fun k_ hk => ⟨Kd.fresh' (Kd.R_lt (by (with_reducible repeat (first | apply Kd.R_alloc | apply Kd.R_drewN | apply Kd.R_drew)); exact HO_10.out)) k_ hk, Kd.fresh' (Kd.R_lt (by (with_reducible repeat (first | apply Kd.R_alloc | apply Kd.R_drewN | apply Kd.R_drew)); exact HO_16.out)) k_ hk⟩)); (case aO => exact (by (with_reducible repeat (first | apply Kd.R_alloc | apply Kd.R_drewN | apply Kd.R_drew)); exact HO353.out)); (case aS => exact (zq (by with_reducible repeat first | exact HB.out | apply zA | apply zN | apply zD | refine zS ?_ GE338.out))); (case aL => have := LMc53.out; omega); intro v356 w63 ho hb hg hat; rw [← Ny355.out] at ho; have n0_ := zk (Kd.R_after (ok := (fun k_ => some k_ ≠ (.slice Ao57 x16_4.length co57 : Value).ownBlock)) (by (with_reducible repeat (first | apply Kd.R_alloc | apply Kd.R_drewN | apply Kd.R_drew)); exact HO_10.out) hg hat); have n1_ := zk (Kd.R_after (ok := (fun k_ => some k_ ≠ (.slice Ao29 x10_2.length co29 : Value).ownBlock)) (by (with_reducible repeat (first | apply Kd.R_alloc | apply Kd.R_drewN | apply Kd.R_drew)); exact HO_16.out) hg hat); have n2_ := zk (blk_grown (g := gb338) (o := .cells #[.int .i64 ((rd_T38 l3 x51_2).f0), .int .i64 ((rd_T38 l3 x51_2).f1), .int .i64 ((rd_T38 l3 x51_2).f2)] 38 (0, 0)) (by (with_reducible repeat first | apply zM | apply zE | apply zF); exact BK338.out) hg (Kd.R_ne HO353.out BK338.out (by decide))); have n3_ := zk (hb); have n4_ := zk ((show Kd.C k50 w63 Ao57 y347.length y347 from by rw [Ny347.out]; exact Kd.C_take (m := (t346 : Int).toNat) ((Kd.R_reads' (Kd.R_after (ok := (fun k_ => some k_ ≠ (.slice Ao29 x10_2.length co29 : Value).ownBlock)) (by (with_reducible repeat (first | apply Kd.R_alloc | apply Kd.R_drewN | apply Kd.R_drew)); exact HO_16.out) hg hat)).2.2) KL60.out)); have n5_ := zk (ho); clear HO_10; clear HO_16; clear BK338; clear HB; clear HR350; clear HO353; have HO_10 := n0_; have HO_16 := n1_; have BK338 := n2_; have HB := n3_; have HR350 := n4_; have HO357 := n5_; clear n0_ n1_ n2_ n3_ n4_ n5_; clear ho hb hg hat; have q64 : (t346 : Int) ≤ ((x16_4.length : Int) : Int) := zo (by assumption); obtain ⟨i064, hi064, _, hsz64, _⟩ := info_parts info50; have hroom64 : x16_4.length ≤ co57 := (Kd.R_reads' HO_16.out).2.1; have hC64 : Kd.C k50 _ Ao57 x16_4.length x16_4 := (Kd.R_reads' HO_16.out).2.2; have q064 : (0 : Int) ≤ (t346 : Int) := zo (by assumption); have hcut64 := cut_from (P := Try.prog) 22 50 .i64 Try.underlying22 hi064 3 hsz64 Ao57 x16_4.length co57 t346 q064 q64; have hr64 := Kd.C_drop (m := (t346 : Int).toNat) (c := co57) hC64 (by omega) hroom64; obtain ⟨A64, hA64⟩ : ∃ A_, A_ = (if co57 = (t346 : Int).toNat then Ao57 else (Ao57 : Option Addr).map (·.add ((t346 : Int).toNat * 3))) := ⟨_, rfl⟩; obtain ⟨c64, hc64⟩ : ∃ c_, c_ = co57 - (t346 : Int).toNat := ⟨_, rfl⟩; have hy64 : y358.length = x16_4.length - (t346 : Int).toNat := (by rw [Ny358.out, List.length_drop] <;> omega); rw [show (x16_4).drop (t346 : Int).toNat = y358 from Ny358.out.symm] at hr64; replace hr64 : Kd.C k50 _ A64 y358.length y358 := (by rw [hA64]; exact hr64); rw [← hy64, ← hA64, ← hc64] at hcut64; have HR361 := zk hr64; have HC361 := zk (show y358.length ≤ c64 from by rw [hy64, hc64]; exact Nat.sub_le_sub_right hroom64 _); clear hr64 hC64 hroom64 hi064 hsz64 hc64; have KY64 := zk hy64; have KA64 := zk hA64; clear hy64 hA64; have KL64 := zk (show (t346 : Int).toNat ≤ x16_4.length from by omega); replace q64 := eq_true q64) | ((with_reducible refine gn (b := .append) (xs := #[.tmp 130, .tmp 133]) rfl ?_); (try (refine gg (by rfl) ?_; dsimp only)); at_builtin; refine Kd.R_append_rows k50 (w0 := w) w.heap.size rfl (.tmp 130) (.tmp 133) 22 50 (.agg #[(.string ⟨#[]⟩), (.string ⟨#[]⟩), (.int .i64 0)]) 40 rfl Try.underlying22 info50 rfl (by decide) (by omega) v356 y355 y358 _ _ _ (fun k_ => some k_ ≠ (.slice Ao29 x10_2.length co29 : Value).ownBlock ∧ some k_ ≠ (.slice Ao57 x16_4.length co57 : Value).ownBlock) (fun _ => False) rfl rfl ?aO ?aR (fun _ _ h => h) (fun _ h => h.elim) ?aF ?aB ?aS ?aL ?_; (case aR => repeat (first | exact (by repeat (first | (with_reducible exact HR361.out) | (with_reducible refine Kd.C_alloc ?_ _) | (with_reducible refine Kd.C_drewN ?_ _) | (with_reducible refine Kd.C_drew ?_) | exact HR361.out)) | (with_reducible refine Kd.C_alloc ?_ _) | (with_reducible refine Kd.C_drewN ?_ _) | (with_reducible refine Kd.C_drew ?_))); (case aB => exact (by with_reducible repeat first | exact HB.out | apply zA | apply zN | apply zD | refine zS ?_ GE338.out)); (case aF => exact (fun k_ hk => ⟨Kd.fresh' (Kd.R_lt (by (with_reducible repeat (first | apply Kd.R_alloc | apply Kd.R_drewN | apply Kd.R_drew)); exact HO_10.out)) k_ hk, Kd.fresh' (Kd.R_lt (by (with_reducible repeat (first | apply Kd.R_alloc | apply Kd.R_drewN | apply Kd.R_drew)); exact HO_16.out)) k_ hk⟩)); (case aO => exact (by (with_reducible repeat (first | apply Kd.R_alloc | apply Kd.R_drewN | apply Kd.R_drew)); exact HO357.out)); (case aS => exact (zq (by with_reducible repeat first | exact HB.out | apply zA | apply zN | apply zD | refine zS ?_ GE338.out))); (case aL => have := LMc56.out; omega); intro v363 w65 ho hb hg hat; rw [← Ny362.out] at ho; have n0_ := zk (Kd.R_after (ok := (fun k_ => some k_ ≠ (.slice Ao57 x16_4.length co57 : Value).ownBlock)) (by (with_reducible repeat (first | apply Kd.R_alloc | apply Kd.R_drewN | apply Kd.R_drew)); exact HO_10.out) hg hat); have n1_ := zk (Kd.R_after (ok := (fun k_ => some k_ ≠ (.slice Ao29 x10_2.length co29 : Value).ownBlock)) (by (with_reducible repeat (first | apply Kd.R_alloc | apply Kd.R_drewN | apply Kd.R_drew)); exact HO_16.out) hg hat); have n2_ := zk (blk_grown (g := gb338) (o := .cells #[.int .i64 ((rd_T38 l3 x51_2).f0), .int .i64 ((rd_T38 l3 x51_2).f1), .int .i64 ((rd_T38 l3 x51_2).f2)] 38 (0, 0)) (by (with_reducible repeat first | apply zM | apply zE | apply zF); exact BK338.out) hg (Kd.R_ne HO357.out BK338.out (by decide))); have n3_ := zk (hb); have n4_ := zk ((show Kd.C k50 w65 Ao57 y347.length y347 from by rw [Ny347.out]; exact Kd.C_take (m := (t346 : Int).toNat) ((Kd.R_reads' (Kd.R_after (ok := (fun k_ => some k_ ≠ (.slice Ao29 x10_2.length co29 : Value).ownBlock)) (by (with_reducible repeat (first | apply Kd.R_alloc | apply Kd.R_drewN | apply Kd.R_drew)); exact HO_16.out) hg hat)).2.2) KL60.out)); have n5_ := zk ((show Kd.C k50 w65 A64 y358.length y358 from by rw [Ny358.out, KA64.out]; exact Kd.C_drop (m := (t346 : Int).toNat) (c := co57) ((Kd.R_reads' (Kd.R_after (ok := (fun k_ => some k_ ≠ (.slice Ao29 x10_2.length co29 : Value).ownBlock)) (by (with_reducible repeat (first | apply Kd.R_alloc | apply Kd.R_drewN | apply Kd.R_drew)); exact HO_16.out) hg hat)).2.2) KL64.out ((Kd.R_reads' (Kd.R_after (ok := (fun k_ => some k_ ≠ (.slice Ao29 x10_2.length co29 : Value).ownBlock)) (by (with_reducible repeat (first | apply Kd.R_alloc | apply Kd.R_drewN | apply Kd.R_drew)); exact HO_16.out) hg hat)).2.1))); have n6_ := zk (ho); clear HO_10; clear HO_16; clear BK338; clear HB; clear HR350; clear HR361; clear HO357; have HO_10 := n0_; have HO_16 := n1_; have BK338 := n2_; have HB := n3_; have HR350 := n4_; have HR361 := n5_; have HO364 := n6_; clear n0_ n1_ n2_ n3_ n4_ n5_ n6_; clear ho hb hg hat)); try go_wp2_with (first | (go_at_call 26; (with_reducible refine (r12_Find.calls k4 _ _ x16_4 ((rd_T50 l1 ((rd_T38 l3 x51_2).f2)).f0) ((rd_T50 l1 ((rd_T38 l3 x51_2).f2)).f1) ((rd_T50 l1 ((rd_T38 l3 x51_2).f2)).f2) t346 _ ?side1 ?side2 A43.out).mono ?_); (case side1 => repeat (first | exact (Kd.R_reads' HO_16.out).2.2 | (with_reducible refine Kd.C_alloc ?_ _) | (with_reducible refine Kd.C_drewN ?_ _) | (with_reducible refine Kd.C_drew ?_))); (case side2 => exact (Kd.R_reads' HO_16.out).2.1); rintro e w59 ⟨rfl, hb⟩; have n0_ := zk (Kd.R_below (by (with_reducible repeat (first | apply Kd.R_alloc | apply Kd.R_drewN | apply Kd.R_drew)); exact HO_10.out) hb); have n1_ := zk (Kd.R_below (by (with_reducible repeat (first | apply Kd.R_alloc | apply Kd.R_drewN | apply Kd.R_drew)); exact HO_16.out) hb); have n2_ := zk (blk_below (g := gb338) (o := .cells #[.int .i64 ((rd_T38 l3 x51_2).f0), .int .i64 ((rd_T38 l3 x51_2).f1), .int .i64 ((rd_T38 l3 x51_2).f2)] 38 (0, 0)) (by (with_reducible repeat first | apply zM | apply zE | apply zF); exact BK338.out) hb); have n3_ := zk (zs (by with_reducible repeat first | exact HB.out | apply zA | apply zN | apply zD | refine zS ?_ GE338.out) hb); clear HO_10; clear HO_16; clear BK338; clear HB; have HO_10 := n0_; have HO_16 := n1_; have BK338 := n2_; have HB := n3_; clear n0_ n1_ n2_ n3_; (try clear hb); (try clear hb2); (try clear hk); (try clear hi); have q60 : (t346 : Int) ≤ ((x16_4.length : Int) : Int) := zo (by assumption); obtain ⟨i060, hi060, _, hsz60, _⟩ := info_parts info50; have hroom60 : x16_4.length ≤ co57 := (Kd.R_reads' HO_16.out).2.1; have hC60 : Kd.C k50 _ Ao57 x16_4.length x16_4 := (Kd.R_reads' HO_16.out).2.2; have hcut60 := cut_to (P := Try.prog) 22 50 .i64 Try.underlying22 hi060 Ao57 x16_4.length co57 t346 (zo (by assumption)) q60 hroom60; have hr60 := Kd.C_take (m := (t346 : Int).toNat) hC60 (by omega); have hy60 : y347.length = (t346 : Int).toNat := (by rw [Ny347.out, List.length_take]; omega); rw [← Ny347.out] at hr60; rw [← hy60] at hcut60; have HR350 := zk hr60; have HC350 := zk (show y347.length ≤ co57 from by omega); clear hr60 hC60 hroom60 hi060 hsz60; have KY60 := zk hy60; clear hy60; have KL60 := zk (show (t346 : Int).toNat ≤ x16_4.length from by omega); replace q60 := eq_true q60) | ((with_reducible refine gn (b := .append) (xs := #[.tmp 117, .tmp 120]) rfl ?_); (try (refine gg (by rfl) ?_; dsimp only)); at_builtin; refine Kd.R_append_rows k50 (w0 := w) w.heap.size rfl (.tmp 117) (.tmp 120) 22 50 (.agg #[(.string ⟨#[]⟩), (.string ⟨#[]⟩), (.int .i64 0)]) 40 rfl Try.underlying22 info50 rfl (by decide) (by omega) (.slice none 0 0) ([] : List (S50)) y347 _ _ _ (fun k_ => some k_ ≠ (.slice Ao29 x10_2.length co29 : Value).ownBlock ∧ some k_ ≠ (.slice Ao57 x16_4.length co57 : Value).ownBlock) (fun _ => False) rfl rfl ?aO ?aR (fun _ _ h => h) (fun _ h => h.elim) ?aF ?aB ?aS ?aL ?_; (case aR => repeat (first | exact (by repeat (first | (with_reducible exact HR350.out) | (with_reducible refine Kd.C_alloc ?_ _) | (with_reducible refine Kd.C_drewN ?_ _) | (with_reducible refine Kd.C_drew ?_) | exact HR350.out)) | (with_reducible refine Kd.C_alloc ?_ _) | (with_reducible refine Kd.C_drewN ?_ _) | (with_reducible refine Kd.C_drew ?_))); (case aB => exact (by with_reducible repeat first | exact HB.out | apply zA | apply zN | apply zD | refine zS ?_ GE338.out)); (case aF => exact (fun k_ hk => ⟨Kd.fresh' (Kd.R_lt (by (with_reducible repeat (first | apply Kd.R_alloc | apply Kd.R_drewN | apply Kd.R_drew)); exact HO_10.out)) k_ hk, Kd.fresh' (Kd.R_lt (by (with_reducible repeat (first | apply Kd.R_alloc | apply Kd.R_drewN | apply Kd.R_drew)); exact HO_16.out)) k_ hk⟩)); (case aO => exact ((Kd.R_nil _ _ _ _ (fun k_ => some k_ ≠ (.slice Ao29 x10_2.length co29 : Value).ownBlock ∧ some k_ ≠ (.slice Ao57 x16_4.length co57 : Value).ownBlock)))); (case aS => exact (zq (by with_reducible repeat first | exact HB.out | apply zA | apply zN | apply zD | refine zS ?_ GE338.out))); (case aL => have := LMc50.out; omega); intro v352 w61 ho hb hg hat; rw [← Ny351.out] at ho; have n0_ := zk (Kd.R_after (Kd.R_apart_nil (by (with_reducible repeat (first | apply Kd.R_alloc | apply Kd.R_drewN | apply Kd.R_drew)); exact HO_10.out)) hg hat); have n1_ := zk (Kd.R_after (Kd.R_apart_nil (by (with_reducible repeat (first | apply Kd.R_alloc | apply Kd.R_drewN | apply Kd.R_drew)); exact HO_16.out)) hg hat); have n2_ := zk (blk_grown (g := gb338) (o := .cells #[.int .i64 ((rd_T38 l3 x51_2).f0), .int .i64 ((rd_T38 l3 x51_2).f1), .int .i64 ((rd_T38 l3 x51_2).f2)] 38 (0, 0)) (by (with_reducible repeat first | apply zM | apply zE | apply zF); exact BK338.out) hg (by simp [Value.ownBlock])); have n3_ := zk (hb); have n4_ := zk ((show Kd.C k50 w61 Ao57 y347.length y347 from by rw [Ny347.out]; exact Kd.C_take (m := (t346 : Int).toNat) ((Kd.R_reads' (Kd.R_after (Kd.R_apart_nil (by (with_reducible repeat (first | apply Kd.R_alloc | apply Kd.R_drewN | apply Kd.R_drew)); exact HO_16.out)) hg hat)).2.2) KL60.out)); have n5_ := zk (ho); clear HO_10; clear HO_16; clear BK338; clear HB; clear HR350; have HO_10 := n0_; have HO_16 := n1_; have BK338 := n2_; have HB := n3_; have HR350 := n4_; have HO353 := n5_; clear n0_ n1_ n2_ n3_ n4_ n5_; clear ho hb hg hat; obtain ⟨hcz62_0, hcz62_1, hcz62_2, hfz62_0, hfz62_1, hfz62_2⟩ := zc3 BK338.out; have p354 : 0 ≤ (((rd_T38 l3 x51_2).f0) : Int) := zo (by assumption); have q354 : ((rd_T38 l3 x51_2).f0) < (l1.length : Int) := zo (by assumption); obtain ⟨ad354, e354, hx354_0, hx354_1, hx354_2⟩ := at_T50 HR1.out ((rd_T38 l3 x51_2).f0) p354 q354; obtain rfl : ad345 = ad354 := (by injection e354); replace hx354_0 := zB HB hx354_0; replace hx354_1 := zB HB hx354_1; replace hx354_2 := zB HB hx354_2; replace p354 := eq_true p354; replace q354 := eq_true q354) | ((with_reducible refine gn (b := .append) (xs := #[.tmp 122, .tmp 128]) rfl ?_); (try (refine gg (by rfl) ?_; dsimp only)); at_builtin; refine Kd.R_append k50 (w0 := w) w.heap.size rfl (.tmp 122) (.tmp 128) 22 50 (.agg #[(.string ⟨#[]⟩), (.string ⟨#[]⟩), (.int .i64 0)]) 40 rfl Try.underlying22 info50 rfl (by decide) (by omega) v352 y351 (⟨(rd_T50 l1 ((rd_T38 l3 x51_2).f0)).f0, (rd_T50 l1 ((rd_T38 l3 x51_2).f0)).f1, (rd_T50 l1 ((rd_T38 l3 x51_2).f0)).f2⟩ : S50) [.string ((rd_T50 l1 ((rd_T38 l3 x51_2).f0)).f0), .string ((rd_T50 l1 ((rd_T38 l3 x51_2).f0)).f1), .int .i64 ((rd_T50 l1 ((rd_T38 l3 x51_2).f0)).f2)] (fun k_ => some k_ ≠ (.slice Ao29 x10_2.length co29 : Value).ownBlock ∧ some k_ ≠ (.slice Ao57 x16_4.length co57 : Value).ownBlock) (fun _ => False) rfl rfl ?aP (fun _ hk => hk.elim) ?aF ?aO ?aB ?aS ?aL ?_; (case aP => exact k50_mkM _ _ _ (⟨(rd_T50 l1 ((rd_T38 l3 x51_2).f0)).f0, (rd_T50 l1 ((rd_T38 l3 x51_2).f0)).f1, (rd_T50 l1 ((rd_T38 l3 x51_2).f0)).f2⟩ : S50)); (case aB => exact (by with_reducible repeat first | exact HB.out | apply zA | apply zN | apply zD | refine zS ?_ GE338.out)); (case aF => exact (fun k_ hk => ⟨Kd.fresh' (Kd.R_lt (by (with_reducible repeat (first | apply Kd.R_alloc | apply Kd.R_drewN | apply Kd.R_drew)); exact HO_10.out)) k_ hk, Kd.fresh' (Kd.R_lt (by (with_reducible repeat (first | apply Kd.R_alloc | apply Kd.R_drewN | apply Kd.R_drew)); exact HO_16.out)) k_ hk⟩)); (case aO => exact (by (with_reducible repeat (first | apply Kd.R_alloc | apply Kd.R_drewN | apply Kd.R_drew)); exact HO353.out)); (case aS => exact (zq (by with_reducible repeat first | exact HB.out | apply zA | apply zN | apply zD | refine zS ?_ GE338.out))); (case aL => have := LMc53.out; omega); intro v356 w63 ho hb hg hat; rw [← Ny355.out] at ho; have n0_ := zk (Kd.R_after (ok := (fun k_ => some k_ ≠ (.slice Ao57 x16_4.length co57 : Value).ownBlock)) (by (with_reducible repeat (first | apply Kd.R_alloc | apply Kd.R_drewN | apply Kd.R_drew)); exact HO_10.out) hg hat); have n1_ := zk (Kd.R_after (ok := (fun k_ => some k_ ≠ (.slice Ao29 x10_2.length co29 : Value).ownBlock)) (by (with_reducible repeat (first | apply Kd.R_alloc | apply Kd.R_drewN | apply Kd.R_drew)); exact HO_16.out) hg hat); have n2_ := zk (blk_grown (g := gb338) (o := .cells #[.int .i64 ((rd_T38 l3 x51_2).f0), .int .i64 ((rd_T38 l3 x51_2).f1), .int .i64 ((rd_T38 l3 x51_2).f2)] 38 (0, 0)) (by (with_reducible repeat first | apply zM | apply zE | apply zF); exact BK338.out) hg (Kd.R_ne HO353.out BK338.out (by decide))); have n3_ := zk (hb); have n4_ := zk ((show Kd.C k50 w63 Ao57 y347.length y347 from by rw [Ny347.out]; exact Kd.C_take (m := (t346 : Int).toNat) ((Kd.R_reads' (Kd.R_after (ok := (fun k_ => some k_ ≠ (.slice Ao29 x10_2.length co29 : Value).ownBlock)) (by (with_reducible repeat (first | apply Kd.R_alloc | apply Kd.R_drewN | apply Kd.R_drew)); exact HO_16.out) hg hat)).2.2) KL60.out)); have n5_ := zk (ho); clear HO_10; clear HO_16; clear BK338; clear HB; clear HR350; clear HO353; have HO_10 := n0_; have HO_16 := n1_; have BK338 := n2_; have HB := n3_; have HR350 := n4_; have HO357 := n5_; clear n0_ n1_ n2_ n3_ n4_ n5_; clear ho hb hg hat; have q64 : (t346 : Int) ≤ ((x16_4.length : Int) : Int) := zo (by assumption); obtain ⟨i064, hi064, _, hsz64, _⟩ := info_parts info50; have hroom64 : x16_4.length ≤ co57 := (Kd.R_reads' HO_16.out).2.1; have hC64 : Kd.C k50 _ Ao57 x16_4.length x16_4 := (Kd.R_reads' HO_16.out).2.2; have q064 : (0 : Int) ≤ (t346 : Int) := zo (by assumption); have hcut64 := cut_from (P := Try.prog) 22 50 .i64 Try.underlying22 hi064 3 hsz64 Ao57 x16_4.length co57 t346 q064 q64; have hr64 := Kd.C_drop (m := (t346 : Int).toNat) (c := co57) hC64 (by omega) hroom64; obtain ⟨A64, hA64⟩ : ∃ A_, A_ = (if co57 = (t346 : Int).toNat then Ao57 else (Ao57 : Option Addr).map (·.add ((t346 : Int).toNat * 3))) := ⟨_, rfl⟩; obtain ⟨c64, hc64⟩ : ∃ c_, c_ = co57 - (t346 : Int).toNat := ⟨_, rfl⟩; have hy64 : y358.length = x16_4.length - (t346 : Int).toNat := (by rw [Ny358.out, List.length_drop] <;> omega); rw [show (x16_4).drop (t346 : Int).toNat = y358 from Ny358.out.symm] at hr64; replace hr64 : Kd.C k50 _ A64 y358.length y358 := (by rw [hA64]; exact hr64); rw [← hy64, ← hA64, ← hc64] at hcut64; have HR361 := zk hr64; have HC361 := zk (show y358.length ≤ c64 from by rw [hy64, hc64]; exact Nat.sub_le_sub_right hroom64 _); clear hr64 hC64 hroom64 hi064 hsz64 hc64; have KY64 := zk hy64; have KA64 := zk hA64; clear hy64 hA64; have KL64 := zk (show (t346 : Int).toNat ≤ x16_4.length from by omega); replace q64 := eq_true q64) | ((with_reducible refine gn (b := .append) (xs := #[.tmp 130, .tmp 133]) rfl ?_); (try (refine gg (by rfl) ?_; dsimp only)); at_builtin; refine Kd.R_append_rows k50 (w0 := w) w.heap.size rfl (.tmp 130) (.tmp 133) 22 50 (.agg #[(.string ⟨#[]⟩), (.string ⟨#[]⟩), (.int .i64 0)]) 40 rfl Try.underlying22 info50 rfl (by decide) (by omega) v356 y355 y358 _ _ _ (fun k_ => some k_ ≠ (.slice Ao29 x10_2.length co29 : Value).ownBlock ∧ some k_ ≠ (.slice Ao57 x16_4.length co57 : Value).ownBlock) (fun _ => False) rfl rfl ?aO ?aR (fun _ _ h => h) (fun _ h => h.elim) ?aF ?aB ?aS ?aL ?_; (case aR => repeat (first | exact (by repeat (first | (with_reducible exact HR361.out) | (with_reducible refine Kd.C_alloc ?_ _) | (with_reducible refine Kd.C_drewN ?_ _) | (with_reducible refine Kd.C_drew ?_) | exact HR361.out)) | (with_reducible refine Kd.C_alloc ?_ _) | (with_reducible refine Kd.C_drewN ?_ _) | (with_reducible refine Kd.C_drew ?_))); (case aB => exact (by with_reducible repeat first | exact HB.out | apply zA | apply zN | apply zD | refine zS ?_ GE338.out)); (case aF => exact (fun k_ hk => ⟨Kd.fresh' (Kd.R_lt (by (with_reducible repeat (first | apply Kd.R_alloc | apply Kd.R_drewN | apply Kd.R_drew)); exact HO_10.out)) k_ hk, Kd.fresh' (Kd.R_lt (by (with_reducible repeat (first | apply Kd.R_alloc | apply Kd.R_drewN | apply Kd.R_drew)); exact HO_16.out)) k_ hk⟩)); (case aO => exact (by (with_reducible repeat (first | apply Kd.R_alloc | apply Kd.R_drewN | apply Kd.R_drew)); exact HO357.out)); (case aS => exact (zq (by with_reducible repeat first | exact HB.out | apply zA | apply zN | apply zD | refine zS ?_ GE338.out))); (case aL => have := LMc56.out; omega); intro v363 w65 ho hb hg hat; rw [← Ny362.out] at ho; have n0_ := zk (Kd.R_after (ok := (fun k_ => some k_ ≠ (.slice Ao57 x16_4.length co57 : Value).ownBlock)) (by (with_reducible repeat (first | apply Kd.R_alloc | apply Kd.R_drewN | apply Kd.R_drew)); exact HO_10.out) hg hat); have n1_ := zk (Kd.R_after (ok := (fun k_ => some k_ ≠ (.slice Ao29 x10_2.length co29 : Value).ownBlock)) (by (with_reducible repeat (first | apply Kd.R_alloc | apply Kd.R_drewN | apply Kd.R_drew)); exact HO_16.out) hg hat); have n2_ := zk (blk_grown (g := gb338) (o := .cells #[.int .i64 ((rd_T38 l3 x51_2).f0), .int .i64 ((rd_T38 l3 x51_2).f1), .int .i64 ((rd_T38 l3 x51_2).f2)] 38 (0, 0)) (by (with_reducible repeat first | apply zM | apply zE | apply zF); exact BK338.out) hg (Kd.R_ne HO357.out BK338.out (by decide))); have n3_ := zk (hb); have n4_ := zk ((show Kd.C k50 w65 Ao57 y347.length y347 from by rw [Ny347.out]; exact Kd.C_take (m := (t346 : Int).toNat) ((Kd.R_reads' (Kd.R_after (ok := (fun k_ => some k_ ≠ (.slice Ao29 x10_2.length co29 : Value).ownBlock)) (by (with_reducible repeat (first | apply Kd.R_alloc | apply Kd.R_drewN | apply Kd.R_drew)); exact HO_16.out) hg hat)).2.2) KL60.out)); have n5_ := zk ((show Kd.C k50 w65 A64 y358.length y358 from by rw [Ny358.out, KA64.out]; exact Kd.C_drop (m := (t346 : Int).toNat) (c := co57) ((Kd.R_reads' (Kd.R_after (ok := (fun k_ => some k_ ≠ (.slice Ao29 x10_2.length co29 : Value).ownBlock)) (by (with_reducible repeat (first | apply Kd.R_alloc | apply Kd.R_drewN | apply Kd.R_drew)); exact HO_16.out) hg hat)).2.2) KL64.out ((Kd.R_reads' (Kd.R_after (ok := (fun k_ => some k_ ≠ (.slice Ao29 x10_2.length co29 : Value).ownBlock)) (by (with_reducible repeat (first | apply Kd.R_alloc | apply Kd.R_drewN | apply Kd.R_drew)); exact HO_16.out) hg hat)).2.1))); have n6_ := zk (ho); clear HO_10; clear HO_16; clear BK338; clear HB; clear HR350; clear HR361; clear HO357; have HO_10 := n0_; have HO_16 := n1_; have BK338 := n2_; have HB := n3_; have HR350 := n4_; have HR361 := n5_; have HO364 := n6_; clear n0_ n1_ n2_ n3_ n4_ n5_ n6_; clear ho hb hg hat)))
                          go_roundg k4
                          case measure => have := HK1.out; have := HK2.out; have := HJ17.out; have := HK4.out; omega
                          case rel => exact ⟨(y362), (wrap64 (x51_2 + 1)), (by first | rfl | (simp; done) | (simp [*]; done)), H', ⟨by have := HK1.out; have := HK2.out; have := HJ17.out; have := HK4.out; omega⟩, ⟨by (with_reducible repeat (first | apply Kd.R_alloc | apply Kd.R_drewN | apply Kd.R_drew)); exact Kd.R_mono HO364.out (fun _ hk => trivial)⟩, ⟨by with_reducible repeat first | exact HB.out | apply zA | apply zN | apply zD | refine zS ?_ GE338.out⟩⟩
                         ·
                          rw [if_neg c56] at H; exact absurd H (by simp)
                        ·
                         rw [if_neg c53] at H; exact absurd H (by simp)
                       ·
                        rw [if_neg c52] at H; exact absurd H (by simp)
                      ·
                       rw [if_neg c51] at H; exact absurd H (by simp)
                     ·
                      rw [if_neg c50] at H; exact absurd H (by simp)
                    ·
                     rw [if_neg c49] at H; exact absurd H (by simp)
                   ·
                    rw [if_neg c48] at H; exact absurd H (by simp)
                 ·
                  rw [if_neg c42] at H; exact absurd H (by simp)
                ·
                 rw [if_neg c41] at H; exact absurd H (by simp)
               ·
                rw [if_neg c40] at H; have c40b0 : decide (0 ≤ ((rd_T38 l3 x51_2).f2)) = false := decide_eq_false c40; clear c40
                by_cases c66 : (x16_4.length : Int) < 0
                ·
                 rw [if_pos c66] at H; have c66b0 := decide_eq_true c66; have c66b1 : decide (x16_4.length < 0) = true := decide_eq_true (by omega); clear c66; simp only [Option.some.injEq, Prod.mk.injEq] at H; obtain ⟨rfl, rfl⟩ := H; obtain ⟨Ao67, co67, eo67⟩ := Kd.R_slice HO_16.out; subst eo67; have hcz68_0 : wr.cell? ⟨gb338, 0, none⟩ = some (.int .i64 ((rd_T38 l3 x51_2).f0)) := (zC BK338.out 0).trans rfl; have hcz68_1 : wr.cell? ⟨gb338, 1, none⟩ = some (.int .i64 ((rd_T38 l3 x51_2).f1)) := (zC BK338.out 1).trans rfl; have hcz68_2 : wr.cell? ⟨gb338, 2, none⟩ = some (.int .i64 ((rd_T38 l3 x51_2).f2)) := (zC BK338.out 2).trans rfl; have hfz68_0 := zR BK338.out 0; have hfz68_1 := zR BK338.out 1; have hfz68_2 := zR BK338.out 2; go_wp2
                 repeat (go_quiet (fail); try go_wp2)
                 go_ret2
                 exact ⟨_, by first | rfl | (simp [wN, wS] <;> rfl) | (simp [*, wN, wS] <;> rfl), by first | exact Kd.R_nil _ _ _ _ _ | exact Kd.N_nil _ _ _ _ _ | exact Kd.V_nil _ _ _ _ _ | exact Kd.Q_nil _ _ _ _ _ | exact Kd.S_nil _ _ _ _ _, by with_reducible repeat first | exact HB.out | apply zA | apply zN | apply zD | refine zS ?_ GE338.out⟩
                ·
                 rw [if_neg c66] at H; have c66b0 := decide_eq_false c66; have c66b1 : decide (x16_4.length < 0) = false := decide_eq_false (by omega); clear c66
                 by_cases c69 : 0 ≤ (x16_4.length : Int)
                 ·
                  rw [if_pos c69] at H; have c69b0 := eq_true c69; have c69b1 := decide_eq_true c69; clear c69
                  by_cases c70 : (x16_4.length : Int) ≤ (x16_4.length : Int)
                  ·
                   rw [if_pos c70] at H; have c70b0 := eq_true c70; have c70b1 := decide_eq_true c70; clear c70; obtain ⟨y365, hy365⟩ : ∃ y_ : List (S50), y_ = (x16_4.take ((x16_4.length : Int) : Int).toNat) := ⟨_, rfl⟩
                   replace H : (if ([] : List (S50)).length + y365.length < 3518437208883 then ((some (([] : List (S50)) ++ y365 : List (S50))).bind fun y369 => (if 0 ≤ ((rd_T38 l3 x51_2).f0) then (if ((rd_T38 l3 x51_2).f0) < (l1.length : Int) then (if y369.length < 3518437208883 then ((some (y369 ++ [(⟨(rd_T50 l1 ((rd_T38 l3 x51_2).f0)).f0, (rd_T50 l1 ((rd_T38 l3 x51_2).f0)).f1, (rd_T50 l1 ((rd_T38 l3 x51_2).f0)).f2⟩ : S50)] : List (S50))).bind fun y373 => ((some (x16_4.drop ((x16_4.length : Int) : Int).toNat : List (S50))).bind fun y376 => (if y373.length + y376.length < 3518437208883 then (r32_Run.l2 k4 l1 l3 (y373 ++ y376) (l3.length : Int) (wrap64 (x51_2 + 1))) else (none)))) else (none)) else (none)) else (none))) else (none)) = some (r1, r2) := by first | (rw [hy365]; with_reducible exact H) | (have H2_ := (Option.bind_some _ _).symm.trans H; rw [hy365]; with_reducible exact H2_) | (have H2_ := (Option.bind_some _ _).symm.trans H; with_reducible exact H2_) | with_reducible exact H | (rw [hy365]; exact H) | exact H
                   have Ny365 := zk hy365; clear hy365
                   by_cases c71 : ([] : List (S50)).length + y365.length < 3518437208883
                   ·
                    rw [if_pos c71] at H; have LMc71 := zk c71; clear c71; obtain ⟨y369, hy369⟩ : ∃ y_ : List (S50), y_ = (([] : List (S50)) ++ y365) := ⟨_, rfl⟩
                    replace H : (if 0 ≤ ((rd_T38 l3 x51_2).f0) then (if ((rd_T38 l3 x51_2).f0) < (l1.length : Int) then (if y369.length < 3518437208883 then ((some (y369 ++ [(⟨(rd_T50 l1 ((rd_T38 l3 x51_2).f0)).f0, (rd_T50 l1 ((rd_T38 l3 x51_2).f0)).f1, (rd_T50 l1 ((rd_T38 l3 x51_2).f0)).f2⟩ : S50)] : List (S50))).bind fun y373 => ((some (x16_4.drop ((x16_4.length : Int) : Int).toNat : List (S50))).bind fun y376 => (if y373.length + y376.length < 3518437208883 then (r32_Run.l2 k4 l1 l3 (y373 ++ y376) (l3.length : Int) (wrap64 (x51_2 + 1))) else (none)))) else (none)) else (none)) else (none)) = some (r1, r2) := by first | (rw [hy369]; with_reducible exact H) | (have H2_ := (Option.bind_some _ _).symm.trans H; rw [hy369]; with_reducible exact H2_) | (have H2_ := (Option.bind_some _ _).symm.trans H; with_reducible exact H2_) | with_reducible exact H | (rw [hy369]; exact H) | exact H
                    have Ny369 := zk hy369; clear hy369
                    by_cases c72 : 0 ≤ ((rd_T38 l3 x51_2).f0)
                    ·
                     rw [if_pos c72] at H; have c72b0 := decide_eq_true c72; clear c72
                     by_cases c73 : ((rd_T38 l3 x51_2).f0) < (l1.length : Int)
                     ·
                      rw [if_pos c73] at H; have c73b0 := decide_eq_true c73; clear c73
                      by_cases c74 : y369.length < 3518437208883
                      ·
                       rw [if_pos c74] at H; have LMc74 := zk c74; clear c74; obtain ⟨y373, hy373⟩ : ∃ y_ : List (S50), y_ = (y369 ++ [(⟨(rd_T50 l1 ((rd_T38 l3 x51_2).f0)).f0, (rd_T50 l1 ((rd_T38 l3 x51_2).f0)).f1, (rd_T50 l1 ((rd_T38 l3 x51_2).f0)).f2⟩ : S50)]) := ⟨_, rfl⟩
                       replace H : ((some (x16_4.drop ((x16_4.length : Int) : Int).toNat : List (S50))).bind fun y376 => (if y373.length + y376.length < 3518437208883 then (r32_Run.l2 k4 l1 l3 (y373 ++ y376) (l3.length : Int) (wrap64 (x51_2 + 1))) else (none))) = some (r1, r2) := by first | (rw [hy373]; with_reducible exact H) | (have H2_ := (Option.bind_some _ _).symm.trans H; rw [hy373]; with_reducible exact H2_) | (have H2_ := (Option.bind_some _ _).symm.trans H; with_reducible exact H2_) | with_reducible exact H | (rw [hy373]; exact H) | exact H
                       have Ny373 := zk hy373; clear hy373; have c75b0 := eq_true (zo (by assumption) : 0 ≤ (x16_4.length : Int)); have c76b0 := eq_true (zo (by assumption) : (x16_4.length : Int) ≤ (x16_4.length : Int)); obtain ⟨y376, hy376⟩ : ∃ y_ : List (S50), y_ = (x16_4.drop ((x16_4.length : Int) : Int).toNat) := ⟨_, rfl⟩
                       replace H : (if y373.length + y376.length < 3518437208883 then (r32_Run.l2 k4 l1 l3 (y373 ++ y376) (l3.length : Int) (wrap64 (x51_2 + 1))) else (none)) = some (r1, r2) := by first | (rw [hy376]; with_reducible exact H) | (have H2_ := (Option.bind_some _ _).symm.trans H; rw [hy376]; with_reducible exact H2_) | (have H2_ := (Option.bind_some _ _).symm.trans H; with_reducible exact H2_) | with_reducible exact H | (rw [hy376]; exact H) | exact H
                       have Ny376 := zk hy376; clear hy376
                       by_cases c77 : y373.length + y376.length < 3518437208883
                       ·
                        rw [if_pos c77] at H; have LMc77 := zk c77; clear c77; obtain ⟨y380, hy380⟩ : ∃ y_ : List (S50), y_ = (y373 ++ y376) := ⟨_, rfl⟩
                        replace H : (r32_Run.l2 k4 l1 l3 y380 (l3.length : Int) (wrap64 (x51_2 + 1))) = some (r1, r2) := by first | (rw [hy380]; with_reducible exact H) | (have H2_ := (Option.bind_some _ _).symm.trans H; rw [hy380]; with_reducible exact H2_) | (have H2_ := (Option.bind_some _ _).symm.trans H; with_reducible exact H2_) | with_reducible exact H | (rw [hy380]; exact H) | exact H
                        have Ny380 := zk hy380; clear hy380; have H' := zk H; clear H; obtain ⟨Ao78, co78, eo78⟩ := Kd.R_slice HO_16.out; subst eo78; have hcz79_0 : wr.cell? ⟨gb338, 0, none⟩ = some (.int .i64 ((rd_T38 l3 x51_2).f0)) := (zC BK338.out 0).trans rfl; have hcz79_1 : wr.cell? ⟨gb338, 1, none⟩ = some (.int .i64 ((rd_T38 l3 x51_2).f1)) := (zC BK338.out 1).trans rfl; have hcz79_2 : wr.cell? ⟨gb338, 2, none⟩ = some (.int .i64 ((rd_T38 l3 x51_2).f2)) := (zC BK338.out 2).trans rfl; have hfz79_0 := zR BK338.out 0; have hfz79_1 := zR BK338.out 1; have hfz79_2 := zR BK338.out 2; have q80 : ((x16_4.length : Int) : Int) ≤ ((x16_4.length : Int) : Int) := zo (by assumption); obtain ⟨i080, hi080, _, hsz80, _⟩ := info_parts info50; have hroom80 : x16_4.length ≤ co78 := (Kd.R_reads' HO_16.out).2.1; have hC80 : Kd.C k50 _ Ao78 x16_4.length x16_4 := (Kd.R_reads' HO_16.out).2.2; have hcut80 := cut_to (P := Try.prog) 22 50 .i64 Try.underlying22 hi080 Ao78 x16_4.length co78 (x16_4.length : Int) (zo (by assumption)) q80 hroom80; have hr80 := Kd.C_take (m := ((x16_4.length : Int) : Int).toNat) hC80 (by omega); have hy80 : y365.length = ((x16_4.length : Int) : Int).toNat := (by rw [Ny365.out, List.length_take]; omega); rw [← Ny365.out] at hr80; rw [← hy80] at hcut80; have HR368 := zk hr80; have HC368 := zk (show y365.length ≤ co78 from by omega); clear hr80 hC80 hroom80 hi080 hsz80; have KY80 := zk hy80; clear hy80; have KL80 := zk (show ((x16_4.length : Int) : Int).toNat ≤ x16_4.length from by omega); replace q80 := eq_true q80
                        go_wp2_with (first | ((with_reducible refine gn (b := .append) (xs := #[.tmp 117, .tmp 120]) rfl ?_); (try (refine gg (by rfl) ?_; dsimp only)); at_builtin; refine Kd.R_append_rows k50 (w0 := w) w.heap.size rfl (.tmp 117) (.tmp 120) 22 50 (.agg #[(.string ⟨#[]⟩), (.string ⟨#[]⟩), (.int .i64 0)]) 40 rfl Try.underlying22 info50 rfl (by decide) (by omega) (.slice none 0 0) ([] : List (S50)) y365 _ _ _ (fun k_ => some k_ ≠ (.slice Ao29 x10_2.length co29 : Value).ownBlock ∧ some k_ ≠ (.slice Ao78 x16_4.length co78 : Value).ownBlock) (fun _ => False) rfl rfl ?aO ?aR (fun _ _ h => h) (fun _ h => h.elim) ?aF ?aB ?aS ?aL ?_; (case aR => repeat (first | exact (by repeat (first | (with_reducible exact HR368.out) | (with_reducible refine Kd.C_alloc ?_ _) | (with_reducible refine Kd.C_drewN ?_ _) | (with_reducible refine Kd.C_drew ?_) | exact HR368.out)) | (with_reducible refine Kd.C_alloc ?_ _) | (with_reducible refine Kd.C_drewN ?_ _) | (with_reducible refine Kd.C_drew ?_))); (case aB => exact (by with_reducible repeat first | exact HB.out | apply zA | apply zN | apply zD | refine zS ?_ GE338.out)); (case aF => exact (fun k_ hk => ⟨Kd.fresh' (Kd.R_lt (by (with_reducible repeat (first | apply Kd.R_alloc | apply Kd.R_drewN | apply Kd.R_drew)); exact HO_10.out)) k_ hk, Kd.fresh' (Kd.R_lt (by (with_reducible repeat (first | apply Kd.R_alloc | apply Kd.R_drewN | apply Kd.R_drew)); exact HO_16.out)) k_ hk⟩)); (case aO => exact ((Kd.R_nil _ _ _ _ (fun k_ => some k_ ≠ (.slice Ao29 x10_2.length co29 : Value).ownBlock ∧ some k_ ≠ (.slice Ao78 x16_4.length co78 : Value).ownBlock)))); (case aS => exact (zq (by with_reducible repeat first | exact HB.out | apply zA | apply zN | apply zD | refine zS ?_ GE338.out))); (case aL => have := LMc71.out; omega); intro v370 w81 ho hb hg hat; rw [← Ny369.out] at ho; have n0_ := zk (Kd.R_after (Kd.R_apart_nil (by (with_reducible repeat (first | apply Kd.R_alloc | apply Kd.R_drewN | apply Kd.R_drew)); exact HO_10.out)) hg hat); have n1_ := zk (Kd.R_after (Kd.R_apart_nil (by (with_reducible repeat (first | apply Kd.R_alloc | apply Kd.R_drewN | apply Kd.R_drew)); exact HO_16.out)) hg hat); have n2_ := zk (blk_grown (g := gb338) (o := .cells #[.int .i64 ((rd_T38 l3 x51_2).f0), .int .i64 ((rd_T38 l3 x51_2).f1), .int .i64 ((rd_T38 l3 x51_2).f2)] 38 (0, 0)) (by (with_reducible repeat first | apply zM | apply zE | apply zF); exact BK338.out) hg (by simp [Value.ownBlock])); have n3_ := zk (hb); have n4_ := zk ((show Kd.C k50 w81 Ao78 y365.length y365 from by rw [Ny365.out]; exact Kd.C_take (m := ((x16_4.length : Int) : Int).toNat) ((Kd.R_reads' (Kd.R_after (Kd.R_apart_nil (by (with_reducible repeat (first | apply Kd.R_alloc | apply Kd.R_drewN | apply Kd.R_drew)); exact HO_16.out)) hg hat)).2.2) KL80.out)); have n5_ := zk (ho); clear HO_10; clear HO_16; clear BK338; clear HB; clear HR368; have HO_10 := n0_; have HO_16 := n1_; have BK338 := n2_; have HB := n3_; have HR368 := n4_; have HO371 := n5_; clear n0_ n1_ n2_ n3_ n4_ n5_; clear ho hb hg hat; obtain ⟨hcz82_0, hcz82_1, hcz82_2, hfz82_0, hfz82_1, hfz82_2⟩ := zc3 BK338.out; have p372 : 0 ≤ (((rd_T38 l3 x51_2).f0) : Int) := zo (by assumption); have q372 : ((rd_T38 l3 x51_2).f0) < (l1.length : Int) := zo (by assumption); obtain ⟨ad372, e372, hx372_0, hx372_1, hx372_2⟩ := at_T50 HR1.out ((rd_T38 l3 x51_2).f0) p372 q372; cases e372; replace hx372_0 := zB HB hx372_0; replace hx372_1 := zB HB hx372_1; replace hx372_2 := zB HB hx372_2; replace p372 := eq_true p372; replace q372 := eq_true q372) | ((with_reducible refine gn (b := .append) (xs := #[.tmp 122, .tmp 128]) rfl ?_); (try (refine gg (by rfl) ?_; dsimp only)); at_builtin; refine Kd.R_append k50 (w0 := w) w.heap.size rfl (.tmp 122) (.tmp 128) 22 50 (.agg #[(.string ⟨#[]⟩), (.string ⟨#[]⟩), (.int .i64 0)]) 40 rfl Try.underlying22 info50 rfl (by decide) (by omega) v370 y369 (⟨(rd_T50 l1 ((rd_T38 l3 x51_2).f0)).f0, (rd_T50 l1 ((rd_T38 l3 x51_2).f0)).f1, (rd_T50 l1 ((rd_T38 l3 x51_2).f0)).f2⟩ : S50) [.string ((rd_T50 l1 ((rd_T38 l3 x51_2).f0)).f0), .string ((rd_T50 l1 ((rd_T38 l3 x51_2).f0)).f1), .int .i64 ((rd_T50 l1 ((rd_T38 l3 x51_2).f0)).f2)] (fun k_ => some k_ ≠ (.slice Ao29 x10_2.length co29 : Value).ownBlock ∧ some k_ ≠ (.slice Ao78 x16_4.length co78 : Value).ownBlock) (fun _ => False) rfl rfl ?aP (fun _ hk => hk.elim) ?aF ?aO ?aB ?aS ?aL ?_; (case aP => exact k50_mkM _ _ _ (⟨(rd_T50 l1 ((rd_T38 l3 x51_2).f0)).f0, (rd_T50 l1 ((rd_T38 l3 x51_2).f0)).f1, (rd_T50 l1 ((rd_T38 l3 x51_2).f0)).f2⟩ : S50)); (case aB => exact (by with_reducible repeat first | exact HB.out | apply zA | apply zN | apply zD | refine zS ?_ GE338.out)); (case aF => exact (fun k_ hk => ⟨Kd.fresh' (Kd.R_lt (by (with_reducible repeat (first | apply Kd.R_alloc | apply Kd.R_drewN | apply Kd.R_drew)); exact HO_10.out)) k_ hk, Kd.fresh' (Kd.R_lt (by (with_reducible repeat (first | apply Kd.R_alloc | apply Kd.R_drewN | apply Kd.R_drew)); exact HO_16.out)) k_ hk⟩)); (case aO => exact (by (with_reducible repeat (first | apply Kd.R_alloc | apply Kd.R_drewN | apply Kd.R_drew)); exact HO371.out)); (case aS => exact (zq (by with_reducible repeat first | exact HB.out | apply zA | apply zN | apply zD | refine zS ?_ GE338.out))); (case aL => have := LMc74.out; omega); intro v374 w83 ho hb hg hat; rw [← Ny373.out] at ho; have n0_ := zk (Kd.R_after (ok := (fun k_ => some k_ ≠ (.slice Ao78 x16_4.length co78 : Value).ownBlock)) (by (with_reducible repeat (first | apply Kd.R_alloc | apply Kd.R_drewN | apply Kd.R_drew)); exact HO_10.out) hg hat); have n1_ := zk (Kd.R_after (ok := (fun k_ => some k_ ≠ (.slice Ao29 x10_2.length co29 : Value).ownBlock)) (by (with_reducible repeat (first | apply Kd.R_alloc | apply Kd.R_drewN | apply Kd.R_drew)); exact HO_16.out) hg hat); have n2_ := zk (blk_grown (g := gb338) (o := .cells #[.int .i64 ((rd_T38 l3 x51_2).f0), .int .i64 ((rd_T38 l3 x51_2).f1), .int .i64 ((rd_T38 l3 x51_2).f2)] 38 (0, 0)) (by (with_reducible repeat first | apply zM | apply zE | apply zF); exact BK338.out) hg (Kd.R_ne HO371.out BK338.out (by decide))); have n3_ := zk (hb); have n4_ := zk ((show Kd.C k50 w83 Ao78 y365.length y365 from by rw [Ny365.out]; exact Kd.C_take (m := ((x16_4.length : Int) : Int).toNat) ((Kd.R_reads' (Kd.R_after (ok := (fun k_ => some k_ ≠ (.slice Ao29 x10_2.length co29 : Value).ownBlock)) (by (with_reducible repeat (first | apply Kd.R_alloc | apply Kd.R_drewN | apply Kd.R_drew)); exact HO_16.out) hg hat)).2.2) KL80.out)); have n5_ := zk (ho); clear HO_10; clear HO_16; clear BK338; clear HB; clear HR368; clear HO371; have HO_10 := n0_; have HO_16 := n1_; have BK338 := n2_; have HB := n3_; have HR368 := n4_; have HO375 := n5_; clear n0_ n1_ n2_ n3_ n4_ n5_; clear ho hb hg hat; have q84 : ((x16_4.length : Int) : Int) ≤ ((x16_4.length : Int) : Int) := zo (by assumption); obtain ⟨i084, hi084, _, hsz84, _⟩ := info_parts info50; have hroom84 : x16_4.length ≤ co78 := (Kd.R_reads' HO_16.out).2.1; have hC84 : Kd.C k50 _ Ao78 x16_4.length x16_4 := (Kd.R_reads' HO_16.out).2.2; have q084 : (0 : Int) ≤ ((x16_4.length : Int) : Int) := zo (by assumption); have hcut84 := cut_from (P := Try.prog) 22 50 .i64 Try.underlying22 hi084 3 hsz84 Ao78 x16_4.length co78 (x16_4.length : Int) q084 q84; have hr84 := Kd.C_drop (m := ((x16_4.length : Int) : Int).toNat) (c := co78) hC84 (by omega) hroom84; obtain ⟨A84, hA84⟩ : ∃ A_, A_ = (if co78 = ((x16_4.length : Int) : Int).toNat then Ao78 else (Ao78 : Option Addr).map (·.add (((x16_4.length : Int) : Int).toNat * 3))) := ⟨_, rfl⟩; obtain ⟨c84, hc84⟩ : ∃ c_, c_ = co78 - ((x16_4.length : Int) : Int).toNat := ⟨_, rfl⟩; have hy84 : y376.length = x16_4.length - ((x16_4.length : Int) : Int).toNat := (by rw [Ny376.out, List.length_drop] <;> omega); rw [show (x16_4).drop ((x16_4.length : Int) : Int).toNat = y376 from Ny376.out.symm] at hr84; replace hr84 : Kd.C k50 _ A84 y376.length y376 := (by rw [hA84]; exact hr84); rw [← hy84, ← hA84, ← hc84] at hcut84; have HR379 := zk hr84; have HC379 := zk (show y376.length ≤ c84 from by rw [hy84, hc84]; exact Nat.sub_le_sub_right hroom84 _); clear hr84 hC84 hroom84 hi084 hsz84 hc84; have KY84 := zk hy84; have KA84 := zk hA84; clear hy84 hA84; have KL84 := zk (show ((x16_4.length : Int) : Int).toNat ≤ x16_4.length from by omega); replace q84 := eq_true q84) | ((with_reducible refine gn (b := .append) (xs := #[.tmp 130, .tmp 133]) rfl ?_); (try (refine gg (by rfl) ?_; dsimp only)); at_builtin; refine Kd.R_append_rows k50 (w0 := w) w.heap.size rfl (.tmp 130) (.tmp 133) 22 50 (.agg #[(.string ⟨#[]⟩), (.string ⟨#[]⟩), (.int .i64 0)]) 40 rfl Try.underlying22 info50 rfl (by decide) (by omega) v374 y373 y376 _ _ _ (fun k_ => some k_ ≠ (.slice Ao29 x10_2.length co29 : Value).ownBlock ∧ some k_ ≠ (.slice Ao78 x16_4.length co78 : Value).ownBlock) (fun _ => False) rfl rfl ?aO ?aR (fun _ _ h => h) (fun _ h => h.elim) ?aF ?aB ?aS ?aL ?_; (case aR => repeat (first | exact (by repeat (first | (with_reducible exact HR379.out) | (with_reducible refine Kd.C_alloc ?_ _) | (with_reducible refine Kd.C_drewN ?_ _) | (with_reducible refine Kd.C_drew ?_) | exact HR379.out)) | (with_reducible refine Kd.C_alloc ?_ _) | (with_reducible refine Kd.C_drewN ?_ _) | (with_reducible refine Kd.C_drew ?_))); (case aB => exact (by with_reducible repeat first | exact HB.out | apply zA | apply zN | apply zD | refine zS ?_ GE338.out)); (case aF => exact (fun k_ hk => ⟨Kd.fresh' (Kd.R_lt (by (with_reducible repeat (first | apply Kd.R_alloc | apply Kd.R_drewN | apply Kd.R_drew)); exact HO_10.out)) k_ hk, Kd.fresh' (Kd.R_lt (by (with_reducible repeat (first | apply Kd.R_alloc | apply Kd.R_drewN | apply Kd.R_drew)); exact HO_16.out)) k_ hk⟩)); (case aO => exact (by (with_reducible repeat (first | apply Kd.R_alloc | apply Kd.R_drewN | apply Kd.R_drew)); exact HO375.out)); (case aS => exact (zq (by with_reducible repeat first | exact HB.out | apply zA | apply zN | apply zD | refine zS ?_ GE338.out))); (case aL => have := LMc77.out; omega); intro v381 w85 ho hb hg hat; rw [← Ny380.out] at ho; have n0_ := zk (Kd.R_after (ok := (fun k_ => some k_ ≠ (.slice Ao78 x16_4.length co78 : Value).ownBlock)) (by (with_reducible repeat (first | apply Kd.R_alloc | apply Kd.R_drewN | apply Kd.R_drew)); exact HO_10.out) hg hat); have n1_ := zk (Kd.R_after (ok := (fun k_ => some k_ ≠ (.slice Ao29 x10_2.length co29 : Value).ownBlock)) (by (with_reducible repeat (first | apply Kd.R_alloc | apply Kd.R_drewN | apply Kd.R_drew)); exact HO_16.out) hg hat); have n2_ := zk (blk_grown (g := gb338) (o := .cells #[.int .i64 ((rd_T38 l3 x51_2).f0), .int .i64 ((rd_T38 l3 x51_2).f1), .int .i64 ((rd_T38 l3 x51_2).f2)] 38 (0, 0)) (by (with_reducible repeat first | apply zM | apply zE | apply zF); exact BK338.out) hg (Kd.R_ne HO375.out BK338.out (by decide))); have n3_ := zk (hb); have n4_ := zk ((show Kd.C k50 w85 Ao78 y365.length y365 from by rw [Ny365.out]; exact Kd.C_take (m := ((x16_4.length : Int) : Int).toNat) ((Kd.R_reads' (Kd.R_after (ok := (fun k_ => some k_ ≠ (.slice Ao29 x10_2.length co29 : Value).ownBlock)) (by (with_reducible repeat (first | apply Kd.R_alloc | apply Kd.R_drewN | apply Kd.R_drew)); exact HO_16.out) hg hat)).2.2) KL80.out)); have n5_ := zk ((show Kd.C k50 w85 A84 y376.length y376 from by rw [Ny376.out, KA84.out]; exact Kd.C_drop (m := ((x16_4.length : Int) : Int).toNat) (c := co78) ((Kd.R_reads' (Kd.R_after (ok := (fun k_ => some k_ ≠ (.slice Ao29 x10_2.length co29 : Value).ownBlock)) (by (with_reducible repeat (first | apply Kd.R_alloc | apply Kd.R_drewN | apply Kd.R_drew)); exact HO_16.out) hg hat)).2.2) KL84.out ((Kd.R_reads' (Kd.R_after (ok := (fun k_ => some k_ ≠ (.slice Ao29 x10_2.length co29 : Value).ownBlock)) (by (with_reducible repeat (first | apply Kd.R_alloc | apply Kd.R_drewN | apply Kd.R_drew)); exact HO_16.out) hg hat)).2.1))); have n6_ := zk (ho); clear HO_10; clear HO_16; clear BK338; clear HB; clear HR368; clear HR379; clear HO375; have HO_10 := n0_; have HO_16 := n1_; have BK338 := n2_; have HB := n3_; have HR368 := n4_; have HR379 := n5_; have HO382 := n6_; clear n0_ n1_ n2_ n3_ n4_ n5_ n6_; clear ho hb hg hat))
                        repeat (go_quiet (first | ((with_reducible refine gn (b := .append) (xs := #[.tmp 117, .tmp 120]) rfl ?_); (try (refine gg (by rfl) ?_; dsimp only)); at_builtin; refine Kd.R_append_rows k50 (w0 := w) w.heap.size rfl (.tmp 117) (.tmp 120) 22 50 (.agg #[(.string ⟨#[]⟩), (.string ⟨#[]⟩), (.int .i64 0)]) 40 rfl Try.underlying22 info50 rfl (by decide) (by omega) (.slice none 0 0) ([] : List (S50)) y365 _ _ _ (fun k_ => some k_ ≠ (.slice Ao29 x10_2.length co29 : Value).ownBlock ∧ some k_ ≠ (.slice Ao78 x16_4.length co78 : Value).ownBlock) (fun _ => False) rfl rfl ?aO ?aR (fun _ _ h => h) (fun _ h => h.elim) ?aF ?aB ?aS ?aL ?_; (case aR => repeat (first | exact (by repeat (first | (with_reducible exact HR368.out) | (with_reducible refine Kd.C_alloc ?_ _) | (with_reducible refine Kd.C_drewN ?_ _) | (with_reducible refine Kd.C_drew ?_) | exact HR368.out)) | (with_reducible refine Kd.C_alloc ?_ _) | (with_reducible refine Kd.C_drewN ?_ _) | (with_reducible refine Kd.C_drew ?_))); (case aB => exact (by with_reducible repeat first | exact HB.out | apply zA | apply zN | apply zD | refine zS ?_ GE338.out)); (case aF => exact (fun k_ hk => ⟨Kd.fresh' (Kd.R_lt (by (with_reducible repeat (first | apply Kd.R_alloc | apply Kd.R_drewN | apply Kd.R_drew)); exact HO_10.out)) k_ hk, Kd.fresh' (Kd.R_lt (by (with_reducible repeat (first | apply Kd.R_alloc | apply Kd.R_drewN | apply Kd.R_drew)); exact HO_16.out)) k_ hk⟩)); (case aO => exact ((Kd.R_nil _ _ _ _ (fun k_ => some k_ ≠ (.slice Ao29 x10_2.length co29 : Value).ownBlock ∧ some k_ ≠ (.slice Ao78 x16_4.length co78 : Value).ownBlock)))); (case aS => exact (zq (by with_reducible repeat first | exact HB.out | apply zA | apply zN | apply zD | refine zS ?_ GE338.out))); (case aL => have := LMc71.out; omega); intro v370 w81 ho hb hg hat; rw [← Ny369.out] at ho; have n0_ := zk (Kd.R_after (Kd.R_apart_nil (by (with_reducible repeat (first | apply Kd.R_alloc | apply Kd.R_drewN | apply Kd.R_drew)); exact HO_10.out)) hg hat); have n1_ := zk (Kd.R_after (Kd.R_apart_nil (by (with_reducible repeat (first | apply Kd.R_alloc | apply Kd.R_drewN | apply Kd.R_drew)); exact HO_16.out)) hg hat); have n2_ := zk (blk_grown (g := gb338) (o := .cells #[.int .i64 ((rd_T38 l3 x51_2).f0), .int .i64 ((rd_T38 l3 x51_2).f1), .int .i64 ((rd_T38 l3 x51_2).f2)] 38 (0, 0)) (by (with_reducible repeat first | apply zM | apply zE | apply zF); exact BK338.out) hg (by simp [Value.ownBlock])); have n3_ := zk (hb); have n4_ := zk ((show Kd.C k50 w81 Ao78 y365.length y365 from by rw [Ny365.out]; exact Kd.C_take (m := ((x16_4.length : Int) : Int).toNat) ((Kd.R_reads' (Kd.R_after (Kd.R_apart_nil (by (with_reducible repeat (first | apply Kd.R_alloc | apply Kd.R_drewN | apply Kd.R_drew)); exact HO_16.out)) hg hat)).2.2) KL80.out)); have n5_ := zk (ho); clear HO_10; clear HO_16; clear BK338; clear HB; clear HR368; have HO_10 := n0_; have HO_16 := n1_; have BK338 := n2_; have HB := n3_; have HR368 := n4_; have HO371 := n5_; clear n0_ n1_ n2_ n3_ n4_ n5_; clear ho hb hg hat; obtain ⟨hcz82_0, hcz82_1, hcz82_2, hfz82_0, hfz82_1, hfz82_2⟩ := zc3 BK338.out; have p372 : 0 ≤ (((rd_T38 l3 x51_2).f0) : Int) := zo (by assumption); have q372 : ((rd_T38 l3 x51_2).f0) < (l1.length : Int) := zo (by assumption); obtain ⟨ad372, e372, hx372_0, hx372_1, hx372_2⟩ := at_T50 HR1.out ((rd_T38 l3 x51_2).f0) p372 q372; cases e372; replace hx372_0 := zB HB hx372_0; replace hx372_1 := zB HB hx372_1; replace hx372_2 := zB HB hx372_2; replace p372 := eq_true p372; replace q372 := eq_true q372) | ((with_reducible refine gn (b := .append) (xs := #[.tmp 122, .tmp 128]) rfl ?_); (try (refine gg (by rfl) ?_; dsimp only)); at_builtin; refine Kd.R_append k50 (w0 := w) w.heap.size rfl (.tmp 122) (.tmp 128) 22 50 (.agg #[(.string ⟨#[]⟩), (.string ⟨#[]⟩), (.int .i64 0)]) 40 rfl Try.underlying22 info50 rfl (by decide) (by omega) v370 y369 (⟨(rd_T50 l1 ((rd_T38 l3 x51_2).f0)).f0, (rd_T50 l1 ((rd_T38 l3 x51_2).f0)).f1, (rd_T50 l1 ((rd_T38 l3 x51_2).f0)).f2⟩ : S50) [.string ((rd_T50 l1 ((rd_T38 l3 x51_2).f0)).f0), .string ((rd_T50 l1 ((rd_T38 l3 x51_2).f0)).f1), .int .i64 ((rd_T50 l1 ((rd_T38 l3 x51_2).f0)).f2)] (fun k_ => some k_ ≠ (.slice Ao29 x10_2.length co29 : Value).ownBlock ∧ some k_ ≠ (.slice Ao78 x16_4.length co78 : Value).ownBlock) (fun _ => False) rfl rfl ?aP (fun _ hk => hk.elim) ?aF ?aO ?aB ?aS ?aL ?_; (case aP => exact k50_mkM _ _ _ (⟨(rd_T50 l1 ((rd_T38 l3 x51_2).f0)).f0, (rd_T50 l1 ((rd_T38 l3 x51_2).f0)).f1, (rd_T50 l1 ((rd_T38 l3 x51_2).f0)).f2⟩ : S50)); (case aB => exact (by with_reducible repeat first | exact HB.out | apply zA | apply zN | apply zD | refine zS ?_ GE338.out)); (case aF => exact (fun k_ hk => ⟨Kd.fresh' (Kd.R_lt (by (with_reducible repeat (first | apply Kd.R_alloc | apply Kd.R_drewN | apply Kd.R_drew)); exact HO_10.out)) k_ hk, Kd.fresh' (Kd.R_lt (by (with_reducible repeat (first | apply Kd.R_alloc | apply Kd.R_drewN | apply Kd.R_drew)); exact HO_16.out)) k_ hk⟩)); (case aO => exact (by (with_reducible repeat (first | apply Kd.R_alloc | apply Kd.R_drewN | apply Kd.R_drew)); exact HO371.out)); (case aS => exact (zq (by with_reducible repeat first | exact HB.out | apply zA | apply zN | apply zD | refine zS ?_ GE338.out))); (case aL => have := LMc74.out; omega); intro v374 w83 ho hb hg hat; rw [← Ny373.out] at ho; have n0_ := zk (Kd.R_after (ok := (fun k_ => some k_ ≠ (.slice Ao78 x16_4.length co78 : Value).ownBlock)) (by (with_reducible repeat (first | apply Kd.R_alloc | apply Kd.R_drewN | apply Kd.R_drew)); exact HO_10.out) hg hat); have n1_ := zk (Kd.R_after (ok := (fun k_ => some k_ ≠ (.slice Ao29 x10_2.length co29 : Value).ownBlock)) (by (with_reducible repeat (first | apply Kd.R_alloc | apply Kd.R_drewN | apply Kd.R_drew)); exact HO_16.out) hg hat); have n2_ := zk (blk_grown (g := gb338) (o := .cells #[.int .i64 ((rd_T38 l3 x51_2).f0), .int .i64 ((rd_T38 l3 x51_2).f1), .int .i64 ((rd_T38 l3 x51_2).f2)] 38 (0, 0)) (by (with_reducible repeat first | apply zM | apply zE | apply zF); exact BK338.out) hg (Kd.R_ne HO371.out BK338.out (by decide))); have n3_ := zk (hb); have n4_ := zk ((show Kd.C k50 w83 Ao78 y365.length y365 from by rw [Ny365.out]; exact Kd.C_take (m := ((x16_4.length : Int) : Int).toNat) ((Kd.R_reads' (Kd.R_after (ok := (fun k_ => some k_ ≠ (.slice Ao29 x10_2.length co29 : Value).ownBlock)) (by (with_reducible repeat (first | apply Kd.R_alloc | apply Kd.R_drewN | apply Kd.R_drew)); exact HO_16.out) hg hat)).2.2) KL80.out)); have n5_ := zk (ho); clear HO_10; clear HO_16; clear BK338; clear HB; clear HR368; clear HO371; have HO_10 := n0_; have HO_16 := n1_; have BK338 := n2_; have HB := n3_; have HR368 := n4_; have HO375 := n5_; clear n0_ n1_ n2_ n3_ n4_ n5_; clear ho hb hg hat; have q84 : ((x16_4.length : Int) : Int) ≤ ((x16_4.length : Int) : Int) := zo (by assumption); obtain ⟨i084, hi084, _, hsz84, _⟩ := info_parts info50; have hroom84 : x16_4.length ≤ co78 := (Kd.R_reads' HO_16.out).2.1; have hC84 : Kd.C k50 _ Ao78 x16_4.length x16_4 := (Kd.R_reads' HO_16.out).2.2; have q084 : (0 : Int) ≤ ((x16_4.length : Int) : Int) := zo (by assumption); have hcut84 := cut_from (P := Try.prog) 22 50 .i64 Try.underlying22 hi084 3 hsz84 Ao78 x16_4.length co78 (x16_4.length : Int) q084 q84; have hr84 := Kd.C_drop (m := ((x16_4.length : Int) : Int).toNat) (c := co78) hC84 (by omega) hroom84; obtain ⟨A84, hA84⟩ : ∃ A_, A_ = (if co78 = ((x16_4.length : Int) : Int).toNat then Ao78 else (Ao78 : Option Addr).map (·.add (((x16_4.length : Int) : Int).toNat * 3))) := ⟨_, rfl⟩; obtain ⟨c84, hc84⟩ : ∃ c_, c_ = co78 - ((x16_4.length : Int) : Int).toNat := ⟨_, rfl⟩; have hy84 : y376.length = x16_4.length - ((x16_4.length : Int) : Int).toNat := (by rw [Ny376.out, List.length_drop] <;> omega); rw [show (x16_4).drop ((x16_4.length : Int) : Int).toNat = y376 from Ny376.out.symm] at hr84; replace hr84 : Kd.C k50 _ A84 y376.length y376 := (by rw [hA84]; exact hr84); rw [← hy84, ← hA84, ← hc84] at hcut84; have HR379 := zk hr84; have HC379 := zk (show y376.length ≤ c84 from by rw [hy84, hc84]; exact Nat.sub_le_sub_right hroom84 _); clear hr84 hC84 hroom84 hi084 hsz84 hc84; have KY84 := zk hy84; have KA84 := zk hA84; clear hy84 hA84; have KL84 := zk (show ((x16_4.length : Int) : Int).toNat ≤ x16_4.length from by omega); replace q84 := eq_true q84) | ((with_reducible refine gn (b := .append) (xs := #[.tmp 130, .tmp 133]) rfl ?_); (try (refine gg (by rfl) ?_; dsimp only)); at_builtin; refine Kd.R_append_rows k50 (w0 := w) w.heap.size rfl (.tmp 130) (.tmp 133) 22 50 (.agg #[(.string ⟨#[]⟩), (.string ⟨#[]⟩), (.int .i64 0)]) 40 rfl Try.underlying22 info50 rfl (by decide) (by omega) v374 y373 y376 _ _ _ (fun k_ => some k_ ≠ (.slice Ao29 x10_2.length co29 : Value).ownBlock ∧ some k_ ≠ (.slice Ao78 x16_4.length co78 : Value).ownBlock) (fun _ => False) rfl rfl ?aO ?aR (fun _ _ h => h) (fun _ h => h.elim) ?aF ?aB ?aS ?aL ?_; (case aR => repeat (first | exact (by repeat (first | (with_reducible exact HR379.out) | (with_reducible refine Kd.C_alloc ?_ _) | (with_reducible refine Kd.C_drewN ?_ _) | (with_reducible refine Kd.C_drew ?_) | exact HR379.out)) | (with_reducible refine Kd.C_alloc ?_ _) | (with_reducible refine Kd.C_drewN ?_ _) | (with_reducible refine Kd.C_drew ?_))); (case aB => exact (by with_reducible repeat first | exact HB.out | apply zA | apply zN | apply zD | refine zS ?_ GE338.out)); (case aF => exact (fun k_ hk => ⟨Kd.fresh' (Kd.R_lt (by (with_reducible repeat (first | apply Kd.R_alloc | apply Kd.R_drewN | apply Kd.R_drew)); exact HO_10.out)) k_ hk, Kd.fresh' (Kd.R_lt (by (with_reducible repeat (first | apply Kd.R_alloc | apply Kd.R_drewN | apply Kd.R_drew)); exact HO_16.out)) k_ hk⟩)); (case aO => exact (by (with_reducible repeat (first | apply Kd.R_alloc | apply Kd.R_drewN | apply Kd.R_drew)); exact HO375.out)); (case aS => exact (zq (by with_reducible repeat first | exact HB.out | apply zA | apply zN | apply zD | refine zS ?_ GE338.out))); (case aL => have := LMc77.out; omega); intro v381 w85 ho hb hg hat; rw [← Ny380.out] at ho; have n0_ := zk (Kd.R_after (ok := (fun k_ => some k_ ≠ (.slice Ao78 x16_4.length co78 : Value).ownBlock)) (by (with_reducible repeat (first | apply Kd.R_alloc | apply Kd.R_drewN | apply Kd.R_drew)); exact HO_10.out) hg hat); have n1_ := zk (Kd.R_after (ok := (fun k_ => some k_ ≠ (.slice Ao29 x10_2.length co29 : Value).ownBlock)) (by (with_reducible repeat (first | apply Kd.R_alloc | apply Kd.R_drewN | apply Kd.R_drew)); exact HO_16.out) hg hat); have n2_ := zk (blk_grown (g := gb338) (o := .cells #[.int .i64 ((rd_T38 l3 x51_2).f0), .int .i64 ((rd_T38 l3 x51_2).f1), .int .i64 ((rd_T38 l3 x51_2).f2)] 38 (0, 0)) (by (with_reducible repeat first | apply zM | apply zE | apply zF); exact BK338.out) hg (Kd.R_ne HO375.out BK338.out (by decide))); have n3_ := zk (hb); have n4_ := zk ((show Kd.C k50 w85 Ao78 y365.length y365 from by rw [Ny365.out]; exact Kd.C_take (m := ((x16_4.length : Int) : Int).toNat) ((Kd.R_reads' (Kd.R_after (ok := (fun k_ => some k_ ≠ (.slice Ao29 x10_2.length co29 : Value).ownBlock)) (by (with_reducible repeat (first | apply Kd.R_alloc | apply Kd.R_drewN | apply Kd.R_drew)); exact HO_16.out) hg hat)).2.2) KL80.out)); have n5_ := zk ((show Kd.C k50 w85 A84 y376.length y376 from by rw [Ny376.out, KA84.out]; exact Kd.C_drop (m := ((x16_4.length : Int) : Int).toNat) (c := co78) ((Kd.R_reads' (Kd.R_after (ok := (fun k_ => some k_ ≠ (.slice Ao29 x10_2.length co29 : Value).ownBlock)) (by (with_reducible repeat (first | apply Kd.R_alloc | apply Kd.R_drewN | apply Kd.R_drew)); exact HO_16.out) hg hat)).2.2) KL84.out ((Kd.R_reads' (Kd.R_after (ok := (fun k_ => some k_ ≠ (.slice Ao29 x10_2.length co29 : Value).ownBlock)) (by (with_reducible repeat (first | apply Kd.R_alloc | apply Kd.R_drewN | apply Kd.R_drew)); exact HO_16.out) hg hat)).2.1))); have n6_ := zk (ho); clear HO_10; clear HO_16; clear BK338; clear HB; clear HR368; clear HR379; clear HO375; have HO_10 := n0_; have HO_16 := n1_; have BK338 := n2_; have HB := n3_; have HR368 := n4_; have HR379 := n5_; have HO382 := n6_; clear n0_ n1_ n2_ n3_ n4_ n5_ n6_; clear ho hb hg hat)); try go_wp2_with (first | ((with_reducible refine gn (b := .append) (xs := #[.tmp 117, .tmp 120]) rfl ?_); (try (refine gg (by rfl) ?_; dsimp only)); at_builtin; refine Kd.R_append_rows k50 (w0 := w) w.heap.size rfl (.tmp 117) (.tmp 120) 22 50 (.agg #[(.string ⟨#[]⟩), (.string ⟨#[]⟩), (.int .i64 0)]) 40 rfl Try.underlying22 info50 rfl (by decide) (by omega) (.slice none 0 0) ([] : List (S50)) y365 _ _ _ (fun k_ => some k_ ≠ (.slice Ao29 x10_2.length co29 : Value).ownBlock ∧ some k_ ≠ (.slice Ao78 x16_4.length co78 : Value).ownBlock) (fun _ => False) rfl rfl ?aO ?aR (fun _ _ h => h) (fun _ h => h.elim) ?aF ?aB ?aS ?aL ?_; (case aR => repeat (first | exact (by repeat (first | (with_reducible exact HR368.out) | (with_reducible refine Kd.C_alloc ?_ _) | (with_reducible refine Kd.C_drewN ?_ _) | (with_reducible refine Kd.C_drew ?_) | exact HR368.out)) | (with_reducible refine Kd.C_alloc ?_ _) | (with_reducible refine Kd.C_drewN ?_ _) | (with_reducible refine Kd.C_drew ?_))); (case aB => exact (by with_reducible repeat first | exact HB.out | apply zA | apply zN | apply zD | refine zS ?_ GE338.out)); (case aF => exact (fun k_ hk => ⟨Kd.fresh' (Kd.R_lt (by (with_reducible repeat (first | apply Kd.R_alloc | apply Kd.R_drewN | apply Kd.R_drew)); exact HO_10.out)) k_ hk, Kd.fresh' (Kd.R_lt (by (with_reducible repeat (first | apply Kd.R_alloc | apply Kd.R_drewN | apply Kd.R_drew)); exact HO_16.out)) k_ hk⟩)); (case aO => exact ((Kd.R_nil _ _ _ _ (fun k_ => some k_ ≠ (.slice Ao29 x10_2.length co29 : Value).ownBlock ∧ some k_ ≠ (.slice Ao78 x16_4.length co78 : Value).ownBlock)))); (case aS => exact (zq (by with_reducible repeat first | exact HB.out | apply zA | apply zN | apply zD | refine zS ?_ GE338.out))); (case aL => have := LMc71.out; omega); intro v370 w81 ho hb hg hat; rw [← Ny369.out] at ho; have n0_ := zk (Kd.R_after (Kd.R_apart_nil (by (with_reducible repeat (first | apply Kd.R_alloc | apply Kd.R_drewN | apply Kd.R_drew)); exact HO_10.out)) hg hat); have n1_ := zk (Kd.R_after (Kd.R_apart_nil (by (with_reducible repeat (first | apply Kd.R_alloc | apply Kd.R_drewN | apply Kd.R_drew)); exact HO_16.out)) hg hat); have n2_ := zk (blk_grown (g := gb338) (o := .cells #[.int .i64 ((rd_T38 l3 x51_2).f0), .int .i64 ((rd_T38 l3 x51_2).f1), .int .i64 ((rd_T38 l3 x51_2).f2)] 38 (0, 0)) (by (with_reducible repeat first | apply zM | apply zE | apply zF); exact BK338.out) hg (by simp [Value.ownBlock])); have n3_ := zk (hb); have n4_ := zk ((show Kd.C k50 w81 Ao78 y365.length y365 from by rw [Ny365.out]; exact Kd.C_take (m := ((x16_4.length : Int) : Int).toNat) ((Kd.R_reads' (Kd.R_after (Kd.R_apart_nil (by (with_reducible repeat (first | apply Kd.R_alloc | apply Kd.R_drewN | apply Kd.R_drew)); exact HO_16.out)) hg hat)).2.2) KL80.out)); have n5_ := zk (ho); clear HO_10; clear HO_16; clear BK338; clear HB; clear HR368; have HO_10 := n0_; have HO_16 := n1_; have BK338 := n2_; have HB := n3_; have HR368 := n4_; have HO371 := n5_; clear n0_ n1_ n2_ n3_ n4_ n5_; clear ho hb hg hat; obtain ⟨hcz82_0, hcz82_1, hcz82_2, hfz82_0, hfz82_1, hfz82_2⟩ := zc3 BK338.out; have p372 : 0 ≤ (((rd_T38 l3 x51_2).f0) : Int) := zo (by assumption); have q372 : ((rd_T38 l3 x51_2).f0) < (l1.length : Int) := zo (by assumption); obtain ⟨ad372, e372, hx372_0, hx372_1, hx372_2⟩ := at_T50 HR1.out ((rd_T38 l3 x51_2).f0) p372 q372; cases e372; replace hx372_0 := zB HB hx372_0; replace hx372_1 := zB HB hx372_1; replace hx372_2 := zB HB hx372_2; replace p372 := eq_true p372; replace q372 := eq_true q372) | ((with_reducible refine gn (b := .append) (xs := #[.tmp 122, .tmp 128]) rfl ?_); (try (refine gg (by rfl) ?_; dsimp only)); at_builtin; refine Kd.R_append k50 (w0 := w) w.heap.size rfl (.tmp 122) (.tmp 128) 22 50 (.agg #[(.string ⟨#[]⟩), (.string ⟨#[]⟩), (.int .i64 0)]) 40 rfl Try.underlying22 info50 rfl (by decide) (by omega) v370 y369 (⟨(rd_T50 l1 ((rd_T38 l3 x51_2).f0)).f0, (rd_T50 l1 ((rd_T38 l3 x51_2).f0)).f1, (rd_T50 l1 ((rd_T38 l3 x51_2).f0)).f2⟩ : S50) [.string ((rd_T50 l1 ((rd_T38 l3 x51_2).f0)).f0), .string ((rd_T50 l1 ((rd_T38 l3 x51_2).f0)).f1), .int .i64 ((rd_T50 l1 ((rd_T38 l3 x51_2).f0)).f2)] (fun k_ => some k_ ≠ (.slice Ao29 x10_2.length co29 : Value).ownBlock ∧ some k_ ≠ (.slice Ao78 x16_4.length co78 : Value).ownBlock) (fun _ => False) rfl rfl ?aP (fun _ hk => hk.elim) ?aF ?aO ?aB ?aS ?aL ?_; (case aP => exact k50_mkM _ _ _ (⟨(rd_T50 l1 ((rd_T38 l3 x51_2).f0)).f0, (rd_T50 l1 ((rd_T38 l3 x51_2).f0)).f1, (rd_T50 l1 ((rd_T38 l3 x51_2).f0)).f2⟩ : S50)); (case aB => exact (by with_reducible repeat first | exact HB.out | apply zA | apply zN | apply zD | refine zS ?_ GE338.out)); (case aF => exact (fun k_ hk => ⟨Kd.fresh' (Kd.R_lt (by (with_reducible repeat (first | apply Kd.R_alloc | apply Kd.R_drewN | apply Kd.R_drew)); exact HO_10.out)) k_ hk, Kd.fresh' (Kd.R_lt (by (with_reducible repeat (first | apply Kd.R_alloc | apply Kd.R_drewN | apply Kd.R_drew)); exact HO_16.out)) k_ hk⟩)); (case aO => exact (by (with_reducible repeat (first | apply Kd.R_alloc | apply Kd.R_drewN | apply Kd.R_drew)); exact HO371.out)); (case aS => exact (zq (by with_reducible repeat first | exact HB.out | apply zA | apply zN | apply zD | refine zS ?_ GE338.out))); (case aL => have := LMc74.out; omega); intro v374 w83 ho hb hg hat; rw [← Ny373.out] at ho; have n0_ := zk (Kd.R_after (ok := (fun k_ => some k_ ≠ (.slice Ao78 x16_4.length co78 : Value).ownBlock)) (by (with_reducible repeat (first | apply Kd.R_alloc | apply Kd.R_drewN | apply Kd.R_drew)); exact HO_10.out) hg hat); have n1_ := zk (Kd.R_after (ok := (fun k_ => some k_ ≠ (.slice Ao29 x10_2.length co29 : Value).ownBlock)) (by (with_reducible repeat (first | apply Kd.R_alloc | apply Kd.R_drewN | apply Kd.R_drew)); exact HO_16.out) hg hat); have n2_ := zk (blk_grown (g := gb338) (o := .cells #[.int .i64 ((rd_T38 l3 x51_2).f0), .int .i64 ((rd_T38 l3 x51_2).f1), .int .i64 ((rd_T38 l3 x51_2).f2)] 38 (0, 0)) (by (with_reducible repeat first | apply zM | apply zE | apply zF); exact BK338.out) hg (Kd.R_ne HO371.out BK338.out (by decide))); have n3_ := zk (hb); have n4_ := zk ((show Kd.C k50 w83 Ao78 y365.length y365 from by rw [Ny365.out]; exact Kd.C_take (m := ((x16_4.length : Int) : Int).toNat) ((Kd.R_reads' (Kd.R_after (ok := (fun k_ => some k_ ≠ (.slice Ao29 x10_2.length co29 : Value).ownBlock)) (by (with_reducible repeat (first | apply Kd.R_alloc | apply Kd.R_drewN | apply Kd.R_drew)); exact HO_16.out) hg hat)).2.2) KL80.out)); have n5_ := zk (ho); clear HO_10; clear HO_16; clear BK338; clear HB; clear HR368; clear HO371; have HO_10 := n0_; have HO_16 := n1_; have BK338 := n2_; have HB := n3_; have HR368 := n4_; have HO375 := n5_; clear n0_ n1_ n2_ n3_ n4_ n5_; clear ho hb hg hat; have q84 : ((x16_4.length : Int) : Int) ≤ ((x16_4.length : Int) : Int) := zo (by assumption); obtain ⟨i084, hi084, _, hsz84, _⟩ := info_parts info50; have hroom84 : x16_4.length ≤ co78 := (Kd.R_reads' HO_16.out).2.1; have hC84 : Kd.C k50 _ Ao78 x16_4.length x16_4 := (Kd.R_reads' HO_16.out).2.2; have q084 : (0 : Int) ≤ ((x16_4.length : Int) : Int) := zo (by assumption); have hcut84 := cut_from (P := Try.prog) 22 50 .i64 Try.underlying22 hi084 3 hsz84 Ao78 x16_4.length co78 (x16_4.length : Int) q084 q84; have hr84 := Kd.C_drop (m := ((x16_4.length : Int) : Int).toNat) (c := co78) hC84 (by omega) hroom84; obtain ⟨A84, hA84⟩ : ∃ A_, A_ = (if co78 = ((x16_4.length : Int) : Int).toNat then Ao78 else (Ao78 : Option Addr).map (·.add (((x16_4.length : Int) : Int).toNat * 3))) := ⟨_, rfl⟩; obtain ⟨c84, hc84⟩ : ∃ c_, c_ = co78 - ((x16_4.length : Int) : Int).toNat := ⟨_, rfl⟩; have hy84 : y376.length = x16_4.length - ((x16_4.length : Int) : Int).toNat := (by rw [Ny376.out, List.length_drop] <;> omega); rw [show (x16_4).drop ((x16_4.length : Int) : Int).toNat = y376 from Ny376.out.symm] at hr84; replace hr84 : Kd.C k50 _ A84 y376.length y376 := (by rw [hA84]; exact hr84); rw [← hy84, ← hA84, ← hc84] at hcut84; have HR379 := zk hr84; have HC379 := zk (show y376.length ≤ c84 from by rw [hy84, hc84]; exact Nat.sub_le_sub_right hroom84 _); clear hr84 hC84 hroom84 hi084 hsz84 hc84; have KY84 := zk hy84; have KA84 := zk hA84; clear hy84 hA84; have KL84 := zk (show ((x16_4.length : Int) : Int).toNat ≤ x16_4.length from by omega); replace q84 := eq_true q84) | ((with_reducible refine gn (b := .append) (xs := #[.tmp 130, .tmp 133]) rfl ?_); (try (refine gg (by rfl) ?_; dsimp only)); at_builtin; refine Kd.R_append_rows k50 (w0 := w) w.heap.size rfl (.tmp 130) (.tmp 133) 22 50 (.agg #[(.string ⟨#[]⟩), (.string ⟨#[]⟩), (.int .i64 0)]) 40 rfl Try.underlying22 info50 rfl (by decide) (by omega) v374 y373 y376 _ _ _ (fun k_ => some k_ ≠ (.slice Ao29 x10_2.length co29 : Value).ownBlock ∧ some k_ ≠ (.slice Ao78 x16_4.length co78 : Value).ownBlock) (fun _ => False) rfl rfl ?aO ?aR (fun _ _ h => h) (fun _ h => h.elim) ?aF ?aB ?aS ?aL ?_; (case aR => repeat (first | exact (by repeat (first | (with_reducible exact HR379.out) | (with_reducible refine Kd.C_alloc ?_ _) | (with_reducible refine Kd.C_drewN ?_ _) | (with_reducible refine Kd.C_drew ?_) | exact HR379.out)) | (with_reducible refine Kd.C_alloc ?_ _) | (with_reducible refine Kd.C_drewN ?_ _) | (with_reducible refine Kd.C_drew ?_))); (case aB => exact (by with_reducible repeat first | exact HB.out | apply zA | apply zN | apply zD | refine zS ?_ GE338.out)); (case aF => exact (fun k_ hk => ⟨Kd.fresh' (Kd.R_lt (by (with_reducible repeat (first | apply Kd.R_alloc | apply Kd.R_drewN | apply Kd.R_drew)); exact HO_10.out)) k_ hk, Kd.fresh' (Kd.R_lt (by (with_reducible repeat (first | apply Kd.R_alloc | apply Kd.R_drewN | apply Kd.R_drew)); exact HO_16.out)) k_ hk⟩)); (case aO => exact (by (with_reducible repeat (first | apply Kd.R_alloc | apply Kd.R_drewN | apply Kd.R_drew)); exact HO375.out)); (case aS => exact (zq (by with_reducible repeat first | exact HB.out | apply zA | apply zN | apply zD | refine zS ?_ GE338.out))); (case aL => have := LMc77.out; omega); intro v381 w85 ho hb hg hat; rw [← Ny380.out] at ho; have n0_ := zk (Kd.R_after (ok := (fun k_ => some k_ ≠ (.slice Ao78 x16_4.length co78 : Value).ownBlock)) (by (with_reducible repeat (first | apply Kd.R_alloc | apply Kd.R_drewN | apply Kd.R_drew)); exact HO_10.out) hg hat); have n1_ := zk (Kd.R_after (ok := (fun k_ => some k_ ≠ (.slice Ao29 x10_2.length co29 : Value).ownBlock)) (by (with_reducible repeat (first | apply Kd.R_alloc | apply Kd.R_drewN | apply Kd.R_drew)); exact HO_16.out) hg hat); have n2_ := zk (blk_grown (g := gb338) (o := .cells #[.int .i64 ((rd_T38 l3 x51_2).f0), .int .i64 ((rd_T38 l3 x51_2).f1), .int .i64 ((rd_T38 l3 x51_2).f2)] 38 (0, 0)) (by (with_reducible repeat first | apply zM | apply zE | apply zF); exact BK338.out) hg (Kd.R_ne HO375.out BK338.out (by decide))); have n3_ := zk (hb); have n4_ := zk ((show Kd.C k50 w85 Ao78 y365.length y365 from by rw [Ny365.out]; exact Kd.C_take (m := ((x16_4.length : Int) : Int).toNat) ((Kd.R_reads' (Kd.R_after (ok := (fun k_ => some k_ ≠ (.slice Ao29 x10_2.length co29 : Value).ownBlock)) (by (with_reducible repeat (first | apply Kd.R_alloc | apply Kd.R_drewN | apply Kd.R_drew)); exact HO_16.out) hg hat)).2.2) KL80.out)); have n5_ := zk ((show Kd.C k50 w85 A84 y376.length y376 from by rw [Ny376.out, KA84.out]; exact Kd.C_drop (m := ((x16_4.length : Int) : Int).toNat) (c := co78) ((Kd.R_reads' (Kd.R_after (ok := (fun k_ => some k_ ≠ (.slice Ao29 x10_2.length co29 : Value).ownBlock)) (by (with_reducible repeat (first | apply Kd.R_alloc | apply Kd.R_drewN | apply Kd.R_drew)); exact HO_16.out) hg hat)).2.2) KL84.out ((Kd.R_reads' (Kd.R_after (ok := (fun k_ => some k_ ≠ (.slice Ao29 x10_2.length co29 : Value).ownBlock)) (by (with_reducible repeat (first | apply Kd.R_alloc | apply Kd.R_drewN | apply Kd.R_drew)); exact HO_16.out) hg hat)).2.1))); have n6_ := zk (ho); clear HO_10; clear HO_16; clear BK338; clear HB; clear HR368; clear HR379; clear HO375; have HO_10 := n0_; have HO_16 := n1_; have BK338 := n2_; have HB := n3_; have HR368 := n4_; have HR379 := n5_; have HO382 := n6_; clear n0_ n1_ n2_ n3_ n4_ n5_ n6_; clear ho hb hg hat)))
                        go_roundg k4
                        case measure => have := HK1.out; have := HK2.out; have := HJ17.out; have := HK4.out; omega
                        case rel => exact ⟨(y380), (wrap64 (x51_2 + 1)), (by first | rfl | (simp; done) | (simp [*]; done)), H', ⟨by have := HK1.out; have := HK2.out; have := HJ17.out; have := HK4.out; omega⟩, ⟨by (with_reducible repeat (first | apply Kd.R_alloc | apply Kd.R_drewN | apply Kd.R_drew)); exact Kd.R_mono HO382.out (fun _ hk => trivial)⟩, ⟨by with_reducible repeat first | exact HB.out | apply zA | apply zN | apply zD | refine zS ?_ GE338.out⟩⟩
                       ·
                        rw [if_neg c77] at H; exact absurd H (by simp)
                      ·
                       rw [if_neg c74] at H; exact absurd H (by simp)
                     ·
                      rw [if_neg c73] at H; exact absurd H (by simp)
                    ·
                     rw [if_neg c72] at H; exact absurd H (by simp)
                   ·
                    rw [if_neg c71] at H; exact absurd H (by simp)
                  ·
                   rw [if_neg c70] at H; exact absurd H (by simp)
                 ·
                  rw [if_neg c69] at H; exact absurd H (by simp)
        ·
         rw [if_neg c17] at H; exact absurd H (by simp)
       ·
        rw [if_neg c16] at H; exact absurd H (by simp)
      ·
       rw [if_neg c15] at H; have c15b0 := decide_eq_false c15; clear c15; simp only [Option.some.injEq, Prod.mk.injEq] at H; obtain ⟨rfl, rfl⟩ := H; go_wp2
       repeat (go_quiet (fail); try go_wp2)
       go_ret2
       exact ⟨_, by first | rfl | (simp [wN, wS] <;> rfl) | (simp [*, wN, wS] <;> rfl), by (with_reducible repeat (first | apply Kd.R_alloc | apply Kd.R_drewN | apply Kd.R_drew)); exact HO_10.out, by with_reducible repeat first | exact HB.out | apply zA | apply zN | apply zD⟩
end Go.Proofs.Ytpekchebllobmaa.G
namespace Go.Proofs.Ytpekchebllobmaa.G
open Go.RowKit Go.Proofs.YtpekchebllobmaaW.PrintWords Go.Proofs.YtpekchebllobmaaW.PrintLast Go.Proofs.YtpekchebllobmaaW.PrintMore
set_option linter.unusedVariables false
set_option linter.unusedSimpArgs false
def eat1 (h c : Int) : Int := IntKind.u64.wrap (bits BinOp.xor IntKind.u64 h (IntKind.u64.wrap c) * 1099511628211)
def hashL (s : ByteArray) : Nat → Int → Int → Int
  | 0, _, h => h
  | k + 1, i, h => hashL s k (i + 1) (eat1 h (bt s i))
def hash8 : Nat → Int → Int → Int
  | 0, _, h => h
  | k + 1, m, h => hash8 k (m / 256) (eat1 h (m % 256))
/-- A label's number. -/
def hashF (a b : ByteArray) (n : Int) : Int := bits BinOp.xor IntKind.u64 (hash8 8 (IntKind.u64.wrap n) (hashL b b.size 0 (eat1 (hashL a a.size 0 14695981039346656037) 255))) (hash8 8 (IntKind.u64.wrap n) (hashL b b.size 0 (eat1 (hashL a a.size 0 14695981039346656037) 255)) / 536870912)
theorem eat (g : Nat) (h c : Int) (w : World) (hb : w.heap[g]? = some (.cells #[.int .u64 h] 83 (0, 0))) : Calls Try.prog 46 #[.int .u8 c, .pointer (some ⟨g, 0, none⟩)] w fun e w' => e = .returned (.tuple #[]) ∧ w' = w.setCell ⟨g, 0, none⟩ (.int .u64 (eat1 h c)) := by
  have hc : w.cell? ⟨g, 0, none⟩ = some (.int .u64 h) := (zC hb 0).trans rfl; have hf := zR hb 0; clear hb
  go_enter Try.func46, Try.ntmps46
  go_wp2_with fail
  refine bodyPost_end (results_none rfl _ _ _) rfl ?_; exact ⟨rfl, rfl⟩
/-- The parameter in memory, and the number under way. -/
structure HS (w : World) (gk g : Nat) (a b : ByteArray) (n h : Int) (W : World) : Prop where
  bk : W.heap[gk]? = some (.cells #[.string a, .string b, .int .i64 n] 50 (0, 0))
  bh : W.heap[g]? = some (.cells #[.int .u64 h] 83 (0, 0))
  B : Below w.heap.size w W
  l1 : w.heap.size ≤ gk
  l2 : gk < g
theorem HS.put {w W : World} {gk g : Nat} {a b : ByteArray} {n h : Int} (s : HS w gk g a b n h W) (h' : Int) : HS w gk g a b n h' (W.setCell ⟨g, 0, none⟩ (.int .u64 h')) :=
  ⟨zG s.bk (p := ⟨g, 0, none⟩) (Nat.ne_of_lt s.l2) _, zP s.bh 0 _ rfl, zS s.B (Nat.le_trans s.l1 (Nat.le_of_lt s.l2)), s.l1, s.l2⟩
set_option maxHeartbeats 4000000 in
set_option maxRecDepth 100000 in
theorem hash (a b : ByteArray) (n : Int) (w : World) (ha : a.size ≤ 140737488351232) (hb : b.size ≤ 140737488351232) : Calls Try.prog 45 #[.agg #[.string a, .string b, .int .i64 n]] w fun e w' => e = .returned (.int .u64 (hashF a b n)) ∧ Below w.heap.size w w' := by
  have HA := zk ha; have HB := zk hb; clear ha hb
  have hmf : ∀ (fn : Fn) (first cap : Array Value) (w : World), (Instr.makeFunc fn first cap).run Try.prog w = .ok (.func fn first cap) w := fun _ _ _ _ => rfl
  go_enter Try.func45, Try.ntmps45
  go_wp2_with (first | ((with_reducible refine gd (N := 1) rfl ?_); refine zb ?hg (N := 1) ?hd (cs := #[.string a, .string b, .int .i64 n]) (t := 50) ?hr ?_; (case hd => rfl); (case hg => rfl); (case hr => go_simp; first | done | rfl); intro gl hg w1 hbox hb; have G1 := zk hg; have X1 := zk hbox; have B1 := zk hb; clear hbox hb hg) | ((with_reducible refine gd (N := 3) rfl ?_); refine zb ?hg (N := 3) ?hd (cs := #[.int .u64 0]) (t := 83) ?hr ?_; (case hd => rfl); (case hg => rfl); (case hr => go_simp; first | done | rfl); intro g hg w2 hbox hb; have G2 := zk hg; have X2 := zk hbox; have B2 := zk hb; have c0 : w2.cell? ⟨g, 0, none⟩ = some (.int .u64 0) := (zC hbox 0).trans rfl; have f0 := zR hbox 0; have c10 : w2.cell? ⟨gl, 0, none⟩ = some (.string a) := (zC (blk_below X1.out hb) 0).trans rfl; have nlg : ¬ gl = g := (by have := blk_lt X1.out; omega); clear hbox hb hg))
  have T := zk (show HS w gl g a b n 14695981039346656037 (w2.setCell ⟨g, 0, none⟩ (.int .u64 14695981039346656037)) from by
    have h1 := G1.out; have h2 := G2.out; have h3 := blk_lt X1.out; have h4 := B1.out.size
    refine HS.put (h := 0) ⟨blk_below X1.out B2.out, X2.out, B1.out.trans (B2.out.mono h4), by omega, by omega⟩ _)
  clear c0 f0 c10 nlg X1 X2 B1 B2 G1 G2
  go_loopg [5, 13] a.size (fun kq v5 v13 W => ∃ (i h : Int), v13 = .int .i64 i ∧ Aside0 (0 ≤ i ∧ i + kq = a.size ∧ hashL a kq i h = hashL a a.size 0 14695981039346656037) ∧ Aside0 (HS w gl g a b n h W))
  case atStart => exact ⟨0, _, rfl, ⟨by omega, by omega, rfl⟩, T⟩
  case round =>
  clear T; obtain ⟨i, h, rfl, HI, T⟩ := hrel; have c10 : wr.cell? ⟨gl, 0, none⟩ = some (.string a) := (zC T.out.bk 0).trans rfl
  by_cases hi : i < a.size
  case neg =>
    have hib : decide (i < (a.size : Int)) = false := decide_eq_false hi
    have HE := zk (show h = hashL a a.size 0 14695981039346656037 by
      have h1 := HI.out
      obtain rfl : gk = 0 := by omega
      exact h1.2.2)
    clear HI hi
    have c11 : ∀ v, (wr.setCell ⟨g, 0, none⟩ v).cell? ⟨gl, 1, none⟩ = some (.string b) := fun v => (zC (zG T.out.bk (p := ⟨g, 0, none⟩) (Nat.ne_of_lt T.out.l2) v) 1).trans rfl
    go_wp2_with (go_at_call 46; refine (eat g h _ wr T.out.bh).mono ?_; rintro e w3 ⟨rfl, rfl⟩)
    obtain ⟨W, hW⟩ : ∃ W, wr.setCell ⟨g, 0, none⟩ (.int .u64 (eat1 h 255)) = W := ⟨_, rfl⟩; rw [hW]; replace T := zk (show HS w gl g a b n (eat1 h 255) W from hW ▸ T.out.put _); obtain ⟨h2, hh2⟩ : ∃ h2, eat1 h 255 = h2 := ⟨_, rfl⟩; rw [hh2] at T; replace HE := zk (show h2 = eat1 (hashL a a.size 0 14695981039346656037) 255 by rw [← hh2, HE.out]); clear hW hh2 c10 c11
    go_loopg [6, 28] b.size (fun kq v6 v28 W => ∃ (i h : Int), v28 = .int .i64 i ∧ Aside0 (0 ≤ i ∧ i + kq = b.size ∧ hashL b kq i h = hashL b b.size 0 h2) ∧ Aside0 (HS w gl g a b n h W))
    case atStart => exact ⟨0, _, rfl, ⟨by omega, by omega, rfl⟩, T⟩
    case round =>
    clear T; obtain ⟨j, h, rfl, HI, T⟩ := hrel; have c11 : wr.cell? ⟨gl, 1, none⟩ = some (.string b) := (zC T.out.bk 1).trans rfl
    by_cases hj : j < b.size
    case neg =>
      have hib : decide (j < (b.size : Int)) = false := decide_eq_false hj
      have HE2 := zk (show h = hashL b b.size 0 h2 by
        have h1 := HI.out
        obtain rfl : gk = 0 := by omega
        exact h1.2.2)
      clear HI hj; have c12 : wr.cell? ⟨gl, 2, none⟩ = some (.int .i64 n) := (zC T.out.bk 2).trans rfl
      go_wp2_with fail
      go_loopg [7, 8] 8 (fun kq v7 v8 W => ∃ (m i h3 : Int), v7 = .int .u64 m ∧ v8 = .int .i64 i ∧ Aside0 (0 ≤ i ∧ i + kq = 8 ∧ hash8 kq m h3 = hash8 8 (IntKind.u64.wrap n) h) ∧ Aside0 (HS w gl g a b n h3 W))
      case atStart => exact ⟨_, 0, _, rfl, rfl, ⟨by omega, by omega, rfl⟩, T⟩
      case round =>
      clear T; obtain ⟨m, i3, h3, rfl, rfl, HI, T⟩ := hrel
      by_cases h8 : i3 < 8
      case neg =>
        have hib : decide (i3 < 8) = false := decide_eq_false h8
        have HE3 := zk (show h3 = hash8 8 (IntKind.u64.wrap n) h by
          have h1 := HI.out
          obtain rfl : gk = 0 := by omega
          exact h1.2.2)
        have BF := zk T.out.B; have c0 : wr.cell? ⟨g, 0, none⟩ = some (.int .u64 h3) := (zC T.out.bh 0).trans rfl; clear HI h8 T
        go_wp2_with fail
        go_ret; refine ⟨?_, BF.out⟩
        show Ending.returned (.int .u64 (bits BinOp.xor IntKind.u64 h3 (h3 / 536870912))) = _
        rw [HE3.out, HE2.out, HE.out]; rfl
      obtain ⟨h0, hk, hh⟩ := HI.out; have hib : decide (i3 < 8) = true := decide_eq_true h8; have hwi : IntKind.i64.wrap (i3 + 1) = i3 + 1 := IntWalk.i64_in _ (by omega); have HH := zk hh; have HK := zk hk; clear hh hk
      go_wp2_with (go_at_call 46; refine (eat g h3 _ _ T.out.bh).mono ?_; rintro e w3 ⟨rfl, rfl⟩)
      cases gk with
      | zero => exact absurd HK.out (by omega)
      | succ k1 =>
        go_roundg k1
        case measure => omega
        case rel => exact ⟨_, i3 + 1, _, rfl, rfl, ⟨by omega, by have := HK.out; omega, by rw [← HH.out, hash8]⟩, ⟨T.out.put _⟩⟩
    obtain ⟨h0, hk, hh⟩ := HI.out; have hib : decide (j < (b.size : Int)) = true := decide_eq_true hj; have hi0 : decide (0 ≤ j) = true := decide_eq_true h0; have hwi : IntKind.i64.wrap (j + 1) = j + 1 := IntWalk.i64_in _ (by have := HB.out; omega); have HH := zk hh; have HK := zk hk; clear hh hk
    go_wp2_with (go_at_call 46; refine (eat g h _ _ T.out.bh).mono ?_; rintro e w3 ⟨rfl, rfl⟩)
    cases gk with
    | zero => exact absurd HK.out (by omega)
    | succ k1 =>
      go_roundg k1
      case measure => omega
      case rel => exact ⟨j + 1, _, rfl, ⟨by omega, by have := HK.out; omega, by rw [← HH.out, hashL, bt_at]⟩, ⟨T.out.put _⟩⟩
  obtain ⟨h0, hk, hh⟩ := HI.out; have hib : decide (i < (a.size : Int)) = true := decide_eq_true hi; have hi0 : decide (0 ≤ i) = true := decide_eq_true h0; have hwi : IntKind.i64.wrap (i + 1) = i + 1 := IntWalk.i64_in _ (by have := HA.out; omega); have HH := zk hh; have HK := zk hk; clear hh hk
  go_wp2_with (go_at_call 46; refine (eat g h _ wr T.out.bh).mono ?_; rintro e w3 ⟨rfl, rfl⟩)
  cases gk with
  | zero => exact absurd HK.out (by omega)
  | succ k1 =>
    go_roundg k1
    case measure => omega
    case rel => exact ⟨i + 1, _, rfl, ⟨by omega, by have := HK.out; omega, by rw [← HH.out, hashL, bt_at]⟩, ⟨T.out.put _⟩⟩
open List renaming setIfInBounds_toArray → zt, set_cons_zero → zu, set_cons_succ → zv
open Bool renaming true → T, false → F
theorem u64_range (x : Int) : 0 ≤ IntKind.u64.wrap x ∧ IntKind.u64.wrap x < 18446744073709551616 := by
  rw [IntKind.wrap_u64]; omega
theorem hash8_range (k : Nat) : ∀ m h, 0 ≤ hash8 (k + 1) m h ∧ hash8 (k + 1) m h < 18446744073709551616 := by
  induction k with
  | zero => intro m h; exact u64_range _
  | succ k ih => intro m h; exact ih _ _
theorem hashF_nat (a b : ByteArray) (n : Int) : ∃ h : Nat, hashF a b n = (h : Int) ∧ h < 18446744073709551616 := by
  unfold hashF; obtain ⟨q0, q1⟩ := hash8_range 7 (IntKind.u64.wrap n) (hashL b b.size 0 (eat1 (hashL a a.size 0 14695981039346656037) 255)); obtain ⟨x, hx⟩ : ∃ x : Nat, hash8 8 (IntKind.u64.wrap n) (hashL b b.size 0 (eat1 (hashL a a.size 0 14695981039346656037) 255)) = (x : Int) := ⟨_, (Int.toNat_of_nonneg q0).symm⟩; rw [hx] at q1 ⊢
  have e : (x : Int) / 536870912 = ((x / 536870912 : Nat) : Int) := by omega
  rw [e, bits_xor_u64_nat _ _ (by omega) (by omega)]; refine ⟨_, rfl, ?_⟩; have := Nat.xor_lt_two_pow (x := x) (y := x / 536870912) (n := 64) (by omega) (by omega); omega
/-- A label's number, as_ a natural number. -/
def hashN (k : S50) : Nat := (hashF k.f0 k.f1 k.f2).toNat
theorem hashN_eq (k : S50) : hashF k.f0 k.f1 k.f2 = (hashN k : Int) ∧ hashN k < 18446744073709551616 := by
  obtain ⟨h, e, hl⟩ := hashF_nat k.f0 k.f1 k.f2; unfold hashN; rw [e]; exact ⟨rfl, hl⟩
/-- The cells of a table's places. -/
def fs : List S81 → List Value
  | [] => []
  | x :: l => .int .i64 x.f0 :: .string x.f1.f0 :: .string x.f1.f1 :: .int .i64 x.f1.f2 :: .int .i64 x.f2 :: fs l
theorem fs_len (l : List S81) : (fs l).length = l.length * 5 := by
  induction l with
  | nil => rfl
  | cons x l ih => simp [fs, ih]; omega
theorem fs_drop (l : List S81) : ∀ i : Nat, (fs l).drop (i * 5) = fs (l.drop i) := by
  induction l with
  | nil => intro i; simp [fs]
  | cons x l ih =>
    intro i
    cases i with
    | zero => simp
    | succ i =>
      rw [show (i + 1) * 5 = i * 5 + 1 + 1 + 1 + 1 + 1 by omega, fs, List.drop_succ_cons, List.drop_succ_cons, List.drop_succ_cons, List.drop_succ_cons, List.drop_succ_cons, ih, List.drop_succ_cons]
theorem fs_at (l : List S81) (i : Nat) (h : i < l.length) (j : Nat) (hj : j < 5) : (fs l)[i * 5 + j]? = [Value.int .i64 l[i].f0, .string l[i].f1.f0, .string l[i].f1.f1, .int .i64 l[i].f1.f2, .int .i64 l[i].f2][j]? := by
  rw [← List.getElem?_drop, fs_drop, List.drop_eq_getElem_cons h, fs]
  match j, hj with
  | 0, _ => rfl
  | 1, _ => rfl
  | 2, _ => rfl
  | 3, _ => rfl
  | 4, _ => rfl
def at60 (S : List S81) (i : Nat) : S81 := S.getD i z81
theorem at60_eq (S : List S81) (i : Nat) (h : i < S.length) : at60 S i = S[i] := by
  unfold at60; rw [List.getD_eq_getElem?_getD, List.getElem?_eq_getElem h]; rfl
/-- A table in memory: p its variable, g its places. -/
structure TW (W : World) (base p g : Nat) (S : List S81) (live used : Int) : Prop where
  bp : W.heap[p]? = some (.cells #[.slice (some ⟨g, 0, none⟩) S.length S.length, .int .i64 live, .int .i64 used] 72 (0, 0))
  bg : W.heap[g]? = some (.cells (fs S).toArray 81 (0, 0))
  hp : base ≤ p
  hg : base ≤ g
theorem TW.below {W W' : World} {base p g : Nat} {S : List S81} {live used : Int} (h : TW W base p g S live used) (hb : Below W.heap.size W W') : TW W' base p g S live used := ⟨blk_below h.bp hb, blk_below h.bg hb, h.hp, h.hg⟩
theorem TW.cell {W : World} {base p g : Nat} {S : List S81} {live used : Int} (h : TW W base p g S live used) (i : Nat) (hi : i < S.length) (j : Nat) (hj : j < 5) : W.cell? ⟨g, i * 5 + j, none⟩ = [Value.int .i64 (at60 S i).f0, .string (at60 S i).f1.f0, .string (at60 S i).f1.f1, .int .i64 (at60 S i).f1.f2, .int .i64 (at60 S i).f2][j]? := by
  rw [zC h.bg, at60_eq S i hi, ← fs_at S i hi j hj]; simp
/-- The place that has a label, or the one that it would get. -/
def plc (S : List S81) (k : S50) : Nat → Nat → Int → Option (Int × Bool)
  | 0, _, _ => none
  | f + 1, i, sp => if (at60 S i).f0 = 0 then some (if 0 ≤ sp then sp else i, false) else if (at60 S i).f0 = 1 ∧ ((at60 S i).f1.f0.toList = k.f0.toList ∧ (at60 S i).f1.f1.toList = k.f1.toList ∧ (at60 S i).f1.f2 = k.f2) then some ((i : Int), true) else plc S k f ((i + 1) % S.length) (if (at60 S i).f0 = 2 ∧ sp < 0 then i else sp)
theorem eqK50 (d : Nat) (w : World) (x0 y0 x1 y1 : ByteArray) (x2 y2 : Int) :
    (Op.equalIn (d + 2) 50 (.agg #[.string x0, .string x1, .int .i64 x2]) (.agg #[.string y0, .string y1, .int .i64 y2])).run Try.prog w = .ok (x0.toList == y0.toList && (x1.toList == y1.toList && (x2 == y2))) w := by
  refine eqA_of Try.underlying50 (by kernel_rfl) ?_; refine eqf_cons (by rfl) (by go_simp; rfl) (by go_simp; rfl) (by go_simp) ?_; refine eqf_cons (by rfl) (by go_simp; rfl) (by go_simp; rfl) (by go_simp) ?_; exact eqf_last (by rfl) (by go_simp; rfl) (by go_simp; rfl) (by go_simp)
attribute [local go_sem high] eqK50
set_option maxHeartbeats 4000000 in
set_option maxRecDepth 100000 in
theorem place (f : Nat) (W : World) (base p g : Nat) (S : List S81) (live used : Int) (k : S50) (e : Nat) (r : Int × Bool) (hT : TW W base p g S live used) (hS : S.length = 2 ^ e) (he : e ≤ 40) (hr : plc S k f (hashN k % S.length) (-1) = some r) (h0 : k.f0.size ≤ 140737488351232) (h1 : k.f1.size ≤ 140737488351232) :
    Calls Try.prog 42 #[.pointer (some ⟨p, 0, none⟩), .agg #[.string k.f0, .string k.f1, .int .i64 k.f2]] W fun e w' => e = .returned (.tuple #[.int .i64 r.1, .bool r.2]) ∧ Below W.heap.size W w' := by
  have HT := Aside0.mk hT; have HS := Aside0.mk hS; have HE := Aside0.mk he; have HR := Aside0.mk hr; have H0 := Aside0.mk h0; have H1 := Aside0.mk h1; obtain ⟨hh1, hh2⟩ := hashN_eq k; have HH := Aside0.mk hh1; have HH2 := Aside0.mk hh2; have hM : Aside0 (1 ≤ S.length ∧ S.length ≤ 1099511627776) := ⟨by rw [hS]; exact ⟨Nat.one_le_two_pow, Nat.pow_le_pow_right (by omega) he⟩⟩; have hp0 : W.cell? ⟨p, 0, none⟩ = some (.slice (some ⟨g, 0, none⟩) S.length S.length) := (zC hT.bp 0).trans rfl; obtain ⟨mk, hmk⟩ : ∃ mk : Nat, S.length = mk + 1 := ⟨S.length - 1, by have := hM.out; omega⟩; have HMK := Aside0.mk hmk
  have hw : wrap64 ((S.length : Int) - 1) = (mk : Int) := by have := hM.out; unfold wrap64; omega
  have hw2 : IntKind.u64.wrap (mk : Int) = (mk : Int) := by
    have := hM.out; rw [IntKind.wrap_u64]; omega
  have hand : ∀ x : Nat, x < 18446744073709551616 → bits BinOp.and IntKind.u64 (x : Int) (mk : Int) = ((x % S.length : Nat) : Int) := by
    intro x hx
    have e2 : mk = 2 ^ e - 1 := by omega
    rw [bits_and_u64_nat _ _ hx (by have := hM.out; omega), hS, e2, Nat.and_two_pow_sub_one_eq_mod]
  have HA := Aside0.mk hand; have ha0 := hand (hashN k) hh2; clear hT hS he hr h0 h1 hh1 hh2 hand hmk
  go_enter Try.func42, Try.ntmps42
  go_wp2_with (first | ((with_reducible refine gd (N := 3) rfl ?_); refine zb ?hg (N := 3) ?hd (cs := #[.string k.f0, .string k.f1, .int .i64 k.f2]) (t := 50) ?hr ?_; (case hd => rfl); (case hg => rfl); (case hr => go_simp; first | done | rfl); intro gb hg w1 hbox hb; have G1 := Aside0.mk hg; have X1 := Aside0.mk hbox; have B1 := Aside0.mk hb; have hp0 : w1.cell? ⟨p, 0, none⟩ = some (.slice (some ⟨g, 0, none⟩) S.length S.length) := (zC (HT.out.below hb).bp 0).trans rfl; have c0 : w1.cell? ⟨gb, 0, none⟩ = some (.string k.f0) := (zC hbox 0).trans rfl; have c1 : w1.cell? ⟨gb, 1, none⟩ = some (.string k.f1) := (zC hbox 1).trans rfl; have c2 : w1.cell? ⟨gb, 2, none⟩ = some (.int .i64 k.f2) := (zC hbox 2).trans rfl; clear hbox hb hg) | (go_at_call 45; refine (hash k.f0 k.f1 k.f2 _ H0.out H1.out).mono ?_; rw [HH.out]; rintro e w2 ⟨rfl, hb⟩; have B2 := Aside0.mk hb; clear hb))
  have HB := Aside0.mk (B1.out.trans (B2.out.mono B1.out.size)); have HX := Aside0.mk (blk_below X1.out B2.out); clear hp0 c0 c1 c2 B1 B2 X1
  go_loopg [7, 8, 9] f (fun kq v7 v8 v9 W' => ∃ (i : Nat) (sp : Int), v7 = .int .i64 sp ∧ v8 = .int .u64 i ∧ Aside0 (i < S.length ∧ plc S k kq i sp = some r) ∧ Aside0 (Below W.heap.size W W') ∧ Aside0 (W'.heap[gb]? = some (.cells #[.string k.f0, .string k.f1, .int .i64 k.f2] 50 (0, 0))))
  case atStart => exact ⟨hashN k % S.length, -1, rfl, rfl, ⟨Nat.mod_lt _ (by have := hM.out; omega), HR.out⟩, HB, HX⟩
  case round =>
  clear HB HX HR; obtain ⟨i, sp, rfl, rfl, HI, HB, HX⟩ := hrel
  cases gk with
  | zero => exact absurd HI.out.2 (by simp [plc])
  | succ k1 =>
  have hil := HI.out.1; have hplc := HI.out.2; rw [plc] at hplc; have TT := Aside0.mk (HT.out.below HB.out); have hp0 : wr.cell? ⟨p, 0, none⟩ = some (.slice (some ⟨g, 0, none⟩) S.length S.length) := (zC TT.out.bp 0).trans rfl; obtain ⟨y, hy⟩ : ∃ y, at60 S i = y := ⟨_, rfl⟩; have t0 : wr.cell? ⟨g, i * 5, none⟩ = some (.int .i64 y.f0) := hy ▸ TT.out.cell i hil 0 (by omega); have t1 : wr.cell? ⟨g, i * 5 + 1, none⟩ = some (.string y.f1.f0) := hy ▸ TT.out.cell i hil 1 (by omega); have t2 : wr.cell? ⟨g, i * 5 + 2, none⟩ = some (.string y.f1.f1) := hy ▸ TT.out.cell i hil 2 (by omega); have t3 : wr.cell? ⟨g, i * 5 + 3, none⟩ = some (.int .i64 y.f1.f2) := hy ▸ TT.out.cell i hil 3 (by omega); have c0 : wr.cell? ⟨gb, 0, none⟩ = some (.string k.f0) := (zC HX.out 0).trans rfl; have c1 : wr.cell? ⟨gb, 1, none⟩ = some (.string k.f1) := (zC HX.out 1).trans rfl; have c2 : wr.cell? ⟨gb, 2, none⟩ = some (.int .i64 k.f2) := (zC HX.out 2).trans rfl; rw [hy] at hplc; have HPL := Aside0.mk hplc; have HIL := Aside0.mk hil; have hi0 : decide ((0 : Int) ≤ (i : Int)) = true := decide_eq_true (by omega); have hib : decide ((i : Int) < (S.length : Int)) = true := decide_eq_true (by omega)
  have hwi : wrap64 (i : Int) = (i : Int) := by have := hM.out; unfold wrap64; omega
  have HY := Aside0.mk hy; clear hplc hy HI
  by_cases s0 : y.f0 = 0
  · have s0b : (y.f0 == 0) = true := by simp [s0]
    by_cases hsp : 0 ≤ sp
    · have hspb : decide (0 ≤ sp) = true := decide_eq_true hsp
      have HR := Aside0.mk (show r = (sp, false) by have h := HPL.out; rw [if_pos s0, if_pos hsp] at h; exact (Option.some.inj h).symm)
      clear hsp s0
      go_wp2_with fail
      go_ret2
      exact ⟨by rw [HR.out]; rfl, HB.out⟩
    · have hspb : decide (0 ≤ sp) = false := decide_eq_false hsp
      have HR := Aside0.mk (show r = ((i : Int), false) by have h := HPL.out; rw [if_pos s0, if_neg hsp] at h; exact (Option.some.inj h).symm)
      clear hsp s0
      go_wp2_with fail
      go_ret2
      refine ⟨?_, HB.out⟩
      rw [HR.out]
      show Ending.returned (.tuple #[.int .i64 (wrap64 (i : Int)), .bool false]) = _
      rw [hwi]
  · have s0b : (y.f0 == 0) = false := by simp [s0]
    have hw1 : IntKind.u64.wrap ((i : Int) + 1) = (i : Int) + 1 := by have := hM.out; rw [IntKind.wrap_u64]; omega
    have ha1 : bits BinOp.and IntKind.u64 ((i : Int) + 1) (mk : Int) = (((i + 1) % S.length : Nat) : Int) := HA.out (i + 1) (by have := hM.out; omega)
    have HN := Aside0.mk (show (i + 1) % S.length < S.length from Nat.mod_lt _ (by have := hM.out; omega))
    obtain ⟨i1, hi1⟩ : ∃ i1, (i + 1) % S.length = i1 := ⟨_, rfl⟩
    have HPL2 := Aside0.mk (show _ from by have h := HPL.out; rw [if_neg s0, hi1] at h; exact h)
    rw [hi1] at ha1 HN
    clear hi1 HPL
    by_cases s1 : y.f0 = 1
    · have s1b : (y.f0 == 1) = true := by simp [s1]
      have s2b : (y.f0 == 2) = false := by rw [s1]; rfl
      obtain ⟨b, hb⟩ : ∃ b, (y.f1.f0.toList == k.f0.toList && (y.f1.f1.toList == k.f1.toList && (y.f1.f2 == k.f2))) = b := ⟨_, rfl⟩
      have HBB := Aside0.mk hb
      have HS1 := Aside0.mk s1
      clear s0 s1
      go_upto_region 10 with (fail)
      refine start_ (n := 14) (S := (fun w' => w'.cell? ⟨g, i * 5, none⟩ = some (.int .i64 y.f0) ∧ w'.cell? ⟨g, i * 5 + 1, none⟩ = some (.string y.f1.f0) ∧ w'.cell? ⟨g, i * 5 + 2, none⟩ = some (.string y.f1.f1) ∧ w'.cell? ⟨g, i * 5 + 3, none⟩ = some (.int .i64 y.f1.f2) ∧ w'.cell? ⟨gb, 0, none⟩ = some (.string k.f0) ∧ w'.cell? ⟨gb, 1, none⟩ = some (.string k.f1) ∧ w'.cell? ⟨gb, 2, none⟩ = some (.int .i64 k.f2))) (ds := []) #[F,F,F,F,F,F,F,F,F,F,F,F,F,F] (by kernel_rfl) rfl rfl ?_ ?_
      · exact ⟨t0, t1, t2, t3, c0, c1, c2⟩
      intro hHeld
      refine pure_ (i := 0) (N := some 43) (v := ?_) (a' := ?_) #[T,F,F,F,F,F,F,F,F,F,F,F,F,F] rfl rfl (by kernel_rfl) (fun _ _ _ h => h) (Or.inl ⟨by rfl, ?_⟩) ?_ ?_
      rotate_left
      · intro w'
        go_simp
        with_reducible rfl
      rotate_left
      · simp only [Act.put, zt, zu, zv, i64_w, i32_w]
        rfl
      refine pure_ (i := 1) (N := some 44) (v := ?_) (a' := ?_) #[T,T,F,F,F,F,F,F,F,F,F,F,F,F] rfl rfl (by kernel_rfl) (fun _ _ _ h => h) (Or.inl ⟨by rfl, ?_⟩) ?_ ?_
      rotate_left
      · intro w'
        go_simp
        with_reducible rfl
      rotate_left
      · simp only [Act.put, zt, zu, zv, i64_w, i32_w]
        rfl
      refine pure_ (i := 2) (N := some 45) (v := ?_) (a' := ?_) #[T,T,T,F,F,F,F,F,F,F,F,F,F,F] rfl rfl (by kernel_rfl) (fun _ _ _ h => h) (Or.inl ⟨by rfl, ?_⟩) ?_ ?_
      rotate_left
      · intro w'
        go_simp
        with_reducible rfl
      rotate_left
      · simp only [Act.put, zt, zu, zv, i64_w, i32_w]
        rfl
      refine take_ (i := 3) (N := some 46) (v := ?_) (a' := ?_) #[T,T,T,T,F,F,F,F,F,F,F,F,F,F] rfl rfl (by kernel_rfl) (fun _ _ _ h => h) (Or.inl ⟨by rfl, ?_⟩) hHeld ?_ ?_
      rotate_left
      · rintro w' ⟨s0, s1, s2, s3, s4, s5, s6⟩
        go_simp
        with_reducible rfl
      rotate_left
      · simp only [Act.put, zt, zu, zv, i64_w, i32_w]
        rfl
      refine pure_ (i := 4) (N := some 47) (v := ?_) (a' := ?_) #[T,T,T,T,T,F,F,F,F,F,F,F,F,F] rfl rfl (by kernel_rfl) (fun _ _ _ h => h) (Or.inl ⟨by rfl, ?_⟩) ?_ ?_
      rotate_left
      · intro w'
        go_simp
        with_reducible rfl
      rotate_left
      · simp only [Act.put, zt, zu, zv, i64_w, i32_w]
        rfl
      refine pure_ (i := 5) (N := some 48) (v := ?_) (a' := ?_) #[T,T,T,T,T,T,F,F,F,F,F,F,F,F] rfl rfl (by kernel_rfl) (fun _ _ _ h => h) (Or.inl ⟨by rfl, ?_⟩) ?_ ?_
      rotate_left
      · intro w'
        go_simp
        with_reducible rfl
      rotate_left
      · simp only [Act.put, zt, zu, zv, i64_w, i32_w]
        rfl
      refine pure_ (i := 6) (N := some 49) (v := ?_) (a' := ?_) #[T,T,T,T,T,T,T,F,F,F,F,F,F,F] rfl rfl (by kernel_rfl) (fun _ _ _ h => h) (Or.inl ⟨by rfl, ?_⟩) ?_ ?_
      rotate_left
      · intro w'
        go_simp
        with_reducible rfl
      rotate_left
      · simp only [Act.put, zt, zu, zv, i64_w, i32_w]
        rfl
      refine pure_ (i := 7) (N := some 50) (v := ?_) (a' := ?_) #[T,T,T,T,T,T,T,T,F,F,F,F,F,F] rfl rfl (by kernel_rfl) (fun _ _ _ h => h) (Or.inl ⟨by rfl, ?_⟩) ?_ ?_
      rotate_left
      · intro w'
        go_simp
        with_reducible rfl
      rotate_left
      · simp only [Act.put, zt, zu, zv, i64_w, i32_w]
        rfl
      refine pure_ (i := 8) (N := some 51) (v := ?_) (a' := ?_) #[T,T,T,T,T,T,T,T,T,F,F,F,F,F] rfl rfl (by kernel_rfl) (fun _ _ _ h => h) (Or.inl ⟨by rfl, ?_⟩) ?_ ?_
      rotate_left
      · intro w'
        go_simp
        with_reducible rfl
      rotate_left
      · simp only [Act.put, zt, zu, zv, i64_w, i32_w]
        rfl
      refine take_ (i := 9) (N := some 52) (v := ?_) (a' := ?_) #[T,T,T,T,T,T,T,T,T,T,F,F,F,F] rfl rfl (by kernel_rfl) (fun _ _ _ h => h) (Or.inl ⟨by rfl, ?_⟩) hHeld ?_ ?_
      rotate_left
      · rintro w' ⟨s0, s1, s2, s3, s4, s5, s6⟩
        go_simp
        with_reducible rfl
      rotate_left
      · simp only [Act.put, zt, zu, zv, i64_w, i32_w]
        rfl
      refine take_ (i := 10) (N := some 53) (v := ?_) (a' := ?_) #[T,T,T,T,T,T,T,T,T,T,T,F,F,F] rfl rfl (by kernel_rfl) (fun _ _ _ h => h) (Or.inl ⟨by rfl, ?_⟩) hHeld ?_ ?_
      rotate_left
      · rintro w' ⟨s0, s1, s2, s3, s4, s5, s6⟩
        go_simp
        with_reducible rfl
      rotate_left
      · simp only [Act.put, zt, zu, zv, i64_w, i32_w]
        rfl
      refine pure_ (i := 11) (N := some 54) (v := ?_) (a' := ?_) #[T,T,T,T,T,T,T,T,T,T,T,T,F,F] rfl rfl (by kernel_rfl) (fun _ _ _ h => h) (Or.inl ⟨by rfl, ?_⟩) ?_ ?_
      rotate_left
      · intro w'
        go_simp
        with_reducible rfl
      rotate_left
      · simp only [Act.put, zt, zu, zv, i64_w, i32_w]
        rfl
      refine pure_ (i := 12) (N := some 55) (v := ?_) (a' := ?_) #[T,T,T,T,T,T,T,T,T,T,T,T,T,F] rfl rfl (by kernel_rfl) (fun _ _ _ h => h) (Or.inl ⟨by rfl, ?_⟩) ?_ ?_
      rotate_left
      · intro w'
        go_simp
        with_reducible rfl
      rotate_left
      · simp only [Act.put, zt, zu, zv, i64_w, i32_w]
        rfl
      refine pure_ (i := 13) (N := some 42) (v := ?_) (a' := ?_) #[T,T,T,T,T,T,T,T,T,T,T,T,T,T] rfl rfl (by kernel_rfl) (fun _ _ _ h => h) (Or.inl ⟨by rfl, ?_⟩) ?_ ?_
      rotate_left
      · intro w'
        go_simp
        with_reducible rfl
      rotate_left
      · simp only [Act.put, zt, zu, zv, i64_w, i32_w]
        rfl
      refine done_ (by kernel_rfl) ?_
      have t0 : wr.drew.cell? ⟨g, i * 5, none⟩ = some (.int .i64 y.f0) := t0
      have HB' := Aside0.mk (show Below W.heap.size W wr.drew from HB.out.drew)
      have HX' := Aside0.mk (show wr.drew.heap[gb]? = some (.cells #[.string k.f0, .string k.f1, .int .i64 k.f2] 50 (0, 0)) from HX.out)
      obtain ⟨W5, hW5⟩ : ∃ W5, wr.drew = W5 := ⟨_, rfl⟩
      rw [hW5] at t0 HB' HX' ⊢
      clear t1 t2 t3 c0 c1 c2 HB HX hW5
      cases b with
      | true =>
        have HR := Aside0.mk (show r = ((i : Int), true) by
          have h := HPL2.out; have h2 := HBB.out; simp only [Bool.and_eq_true, beq_iff_eq] at h2; rw [if_pos ⟨HS1.out, h2⟩] at h
          exact (Option.some.inj h).symm)
        clear HPL2 HBB
        go_wp2_with fail
        go_ret2
        refine ⟨?_, HB'.out⟩; rw [HR.out]
        show Ending.returned (.tuple #[.int .i64 (wrap64 (i : Int)), .bool true]) = _
        rw [hwi]
      | false =>
        have HP3 := Aside0.mk (show plc S k k1 i1 sp = some r by
          have h := HPL2.out; have h2 := HBB.out; rw [if_neg (fun q => by rw [q.2.1, q.2.2.1, q.2.2.2] at h2; simp at h2), if_neg (fun q => by rw [HS1.out] at q; exact absurd q.1 (by decide))] at h
          exact h)
        clear HPL2 HBB
        go_wp2_with fail
        go_roundg k1
        case rel => exact ⟨i1, sp, rfl, rfl, ⟨HN.out, HP3.out⟩, HB', HX'⟩
        case measure => omega
    · have s1b : (y.f0 == 1) = false := by simp [s1]
      have HP3 := Aside0.mk (show plc S k k1 i1 (if y.f0 = 2 ∧ sp < 0 then i else sp) = some r by
          have h := HPL2.out; rw [if_neg (fun q => s1 q.1)] at h
          exact h)
      clear HPL2 s0 s1
      go_upto_region 10 with (fail)
      refine start_ (n := 14) (S := (fun w' => w'.cell? ⟨g, i * 5, none⟩ = some (.int .i64 y.f0) ∧ w'.cell? ⟨g, i * 5 + 1, none⟩ = some (.string y.f1.f0) ∧ w'.cell? ⟨g, i * 5 + 2, none⟩ = some (.string y.f1.f1) ∧ w'.cell? ⟨g, i * 5 + 3, none⟩ = some (.int .i64 y.f1.f2) ∧ w'.cell? ⟨gb, 0, none⟩ = some (.string k.f0) ∧ w'.cell? ⟨gb, 1, none⟩ = some (.string k.f1) ∧ w'.cell? ⟨gb, 2, none⟩ = some (.int .i64 k.f2))) (ds := []) #[F,F,F,F,F,F,F,F,F,F,F,F,F,F] (by kernel_rfl) rfl rfl ?_ ?_
      · exact ⟨t0, t1, t2, t3, c0, c1, c2⟩
      intro hHeld
      refine pure_ (i := 0) (N := some 43) (v := ?_) (a' := ?_) #[T,F,F,F,F,F,F,F,F,F,F,F,F,F] rfl rfl (by kernel_rfl) (fun _ _ _ h => h) (Or.inl ⟨by rfl, ?_⟩) ?_ ?_
      rotate_left
      · intro w'
        go_simp
        with_reducible rfl
      rotate_left
      · simp only [Act.put, zt, zu, zv, i64_w, i32_w]
        rfl
      refine pure_ (i := 1) (N := some 44) (v := ?_) (a' := ?_) #[T,T,F,F,F,F,F,F,F,F,F,F,F,F] rfl rfl (by kernel_rfl) (fun _ _ _ h => h) (Or.inl ⟨by rfl, ?_⟩) ?_ ?_
      rotate_left
      · intro w'
        go_simp
        with_reducible rfl
      rotate_left
      · simp only [Act.put, zt, zu, zv, i64_w, i32_w]
        rfl
      refine pure_ (i := 2) (N := some 45) (v := ?_) (a' := ?_) #[T,T,T,F,F,F,F,F,F,F,F,F,F,F] rfl rfl (by kernel_rfl) (fun _ _ _ h => h) (Or.inl ⟨by rfl, ?_⟩) ?_ ?_
      rotate_left
      · intro w'
        go_simp
        with_reducible rfl
      rotate_left
      · simp only [Act.put, zt, zu, zv, i64_w, i32_w]
        rfl
      refine take_ (i := 3) (N := some 46) (v := ?_) (a' := ?_) #[T,T,T,T,F,F,F,F,F,F,F,F,F,F] rfl rfl (by kernel_rfl) (fun _ _ _ h => h) (Or.inl ⟨by rfl, ?_⟩) hHeld ?_ ?_
      rotate_left
      · rintro w' ⟨s0, s1, s2, s3, s4, s5, s6⟩
        go_simp
        with_reducible rfl
      rotate_left
      · simp only [Act.put, zt, zu, zv, i64_w, i32_w]
        rfl
      refine pure_ (i := 4) (N := some 47) (v := ?_) (a' := ?_) #[T,T,T,T,T,F,F,F,F,F,F,F,F,F] rfl rfl (by kernel_rfl) (fun _ _ _ h => h) (Or.inl ⟨by rfl, ?_⟩) ?_ ?_
      rotate_left
      · intro w'
        go_simp
        with_reducible rfl
      rotate_left
      · simp only [Act.put, zt, zu, zv, i64_w, i32_w]
        rfl
      refine pure_ (i := 5) (N := some 48) (v := ?_) (a' := ?_) #[T,T,T,T,T,T,F,F,F,F,F,F,F,F] rfl rfl (by kernel_rfl) (fun _ _ _ h => h) (Or.inl ⟨by rfl, ?_⟩) ?_ ?_
      rotate_left
      · intro w'
        go_simp
        with_reducible rfl
      rotate_left
      · simp only [Act.put, zt, zu, zv, i64_w, i32_w]
        rfl
      refine pure_ (i := 6) (N := some 49) (v := undef) (a' := ?_) #[T,T,T,T,T,T,T,F,F,F,F,F,F,F] rfl rfl (by kernel_rfl) (fun _ _ _ h => h) (Or.inr ⟨by rfl, rfl⟩) ?_ ?_
      rotate_left
      · simp only [Act.put, zt, zu, zv, i64_w, i32_w]
        rfl
      refine pure_ (i := 7) (N := some 50) (v := undef) (a' := ?_) #[T,T,T,T,T,T,T,T,F,F,F,F,F,F] rfl rfl (by kernel_rfl) (fun _ _ _ h => h) (Or.inr ⟨by rfl, rfl⟩) ?_ ?_
      rotate_left
      · simp only [Act.put, zt, zu, zv, i64_w, i32_w]
        rfl
      refine pure_ (i := 8) (N := some 51) (v := undef) (a' := ?_) #[T,T,T,T,T,T,T,T,T,F,F,F,F,F] rfl rfl (by kernel_rfl) (fun _ _ _ h => h) (Or.inr ⟨by rfl, rfl⟩) ?_ ?_
      rotate_left
      · simp only [Act.put, zt, zu, zv, i64_w, i32_w]
        rfl
      refine pure_ (i := 9) (N := some 52) (v := undef) (a' := ?_) #[T,T,T,T,T,T,T,T,T,T,F,F,F,F] rfl rfl (by kernel_rfl) (fun _ _ _ h => h) (Or.inr ⟨by rfl, rfl⟩) ?_ ?_
      rotate_left
      · simp only [Act.put, zt, zu, zv, i64_w, i32_w]
        rfl
      refine pure_ (i := 10) (N := some 53) (v := undef) (a' := ?_) #[T,T,T,T,T,T,T,T,T,T,T,F,F,F] rfl rfl (by kernel_rfl) (fun _ _ _ h => h) (Or.inr ⟨by rfl, rfl⟩) ?_ ?_
      rotate_left
      · simp only [Act.put, zt, zu, zv, i64_w, i32_w]
        rfl
      refine pure_ (i := 11) (N := some 54) (v := undef) (a' := ?_) #[T,T,T,T,T,T,T,T,T,T,T,T,F,F] rfl rfl (by kernel_rfl) (fun _ _ _ h => h) (Or.inr ⟨by rfl, rfl⟩) ?_ ?_
      rotate_left
      · simp only [Act.put, zt, zu, zv, i64_w, i32_w]
        rfl
      refine pure_ (i := 12) (N := some 55) (v := ?_) (a' := ?_) #[T,T,T,T,T,T,T,T,T,T,T,T,T,F] rfl rfl (by kernel_rfl) (fun _ _ _ h => h) (Or.inl ⟨by rfl, ?_⟩) ?_ ?_
      rotate_left
      · intro w'
        go_simp
        with_reducible rfl
      rotate_left
      · simp only [Act.put, zt, zu, zv, i64_w, i32_w]
        rfl
      refine pure_ (i := 13) (N := some 42) (v := ?_) (a' := ?_) #[T,T,T,T,T,T,T,T,T,T,T,T,T,T] rfl rfl (by kernel_rfl) (fun _ _ _ h => h) (Or.inl ⟨by rfl, ?_⟩) ?_ ?_
      rotate_left
      · intro w'
        go_simp
        with_reducible rfl
      rotate_left
      · simp only [Act.put, zt, zu, zv, i64_w, i32_w]
        rfl
      refine done_ (by kernel_rfl) ?_
      have t0 : wr.drew.cell? ⟨g, i * 5, none⟩ = some (.int .i64 y.f0) := t0
      have HB' := Aside0.mk (show Below W.heap.size W wr.drew from HB.out.drew)
      have HX' := Aside0.mk (show wr.drew.heap[gb]? = some (.cells #[.string k.f0, .string k.f1, .int .i64 k.f2] 50 (0, 0)) from HX.out)
      obtain ⟨W5, hW5⟩ : ∃ W5, wr.drew = W5 := ⟨_, rfl⟩
      rw [hW5] at t0 HB' HX' ⊢
      clear t1 t2 t3 c0 c1 c2 HB HX hW5
      by_cases s2 : y.f0 = 2
      · have s2b : (y.f0 == 2) = true := by simp [s2]
        by_cases hsp : sp < 0
        · have hspb : decide (sp < 0) = true := decide_eq_true hsp
          have HP4 := Aside0.mk (show plc S k k1 i1 (i : Int) = some r by have h := HP3.out; rw [if_pos ⟨s2, hsp⟩] at h; exact h)
          clear HP3 s2 hsp
          go_wp2_with fail
          go_roundg k1
          case rel => exact ⟨i1, (i : Int), by rw [hwi], rfl, ⟨HN.out, HP4.out⟩, HB', HX'⟩
          case measure => omega
        · have hspb : decide (sp < 0) = false := decide_eq_false hsp
          have HP4 := Aside0.mk (show plc S k k1 i1 sp = some r by have h := HP3.out; rw [if_neg (fun q => hsp q.2)] at h; exact h)
          clear HP3 s2 hsp
          go_wp2_with fail
          go_roundg k1
          case rel => exact ⟨i1, sp, rfl, rfl, ⟨HN.out, HP4.out⟩, HB', HX'⟩
          case measure => omega
      · have s2b : (y.f0 == 2) = false := by simp [s2]
        have HP4 := Aside0.mk (show plc S k k1 i1 sp = some r by have h := HP3.out; rw [if_neg (fun q => s2 q.1)] at h; exact h)
        clear HP3 s2
        go_wp2_with fail
        go_roundg k1
        case rel => exact ⟨i1, sp, rfl, rfl, ⟨HN.out, HP4.out⟩, HB', HX'⟩
        case measure => omega
end Go.Proofs.Ytpekchebllobmaa.G
namespace Go.Proofs.Ytpekchebllobmaa.G
open Go.RowKit Go.Proofs.YtpekchebllobmaaW.PrintWords
set_option linter.unusedVariables false
set_option linter.unusedSimpArgs false
theorem bytes_eq {a b : ByteArray} (h : a.toList = b.toList) : a = b := by
  rw [ByteArray.toList_eq, ByteArray.toList_eq] at h; cases a; cases b
  congr 1
  exact Array.toList_inj.1 h
theorem key_iff (x k : S50) : (x.f0.toList = k.f0.toList ∧ x.f1.toList = k.f1.toList ∧ x.f2 = k.f2) ↔ x = k := by
  constructor; (rintro ⟨a, b, c⟩; cases x; cases k; simp only at a b c; rw [bytes_eq a, bytes_eq b, c]); (rintro rfl; exact ⟨rfl, rfl, rfl⟩)
theorem at60_set (S : List S81) (j : Nat) (x : S81) (i : Nat) (hj : j < S.length) : at60 (S.set j x) i = if i = j then x else at60 S i := by
  unfold at60; rw [List.getD_eq_getElem?_getD, List.getD_eq_getElem?_getD, List.getElem?_set]
  by_cases h : j = i
  (subst h; simp [hj]); (rw [if_neg h, if_neg (fun q => h q.symm)])
theorem at60_rep (n i : Nat) : at60 (List.replicate n z81) i = z81 := by
  unfold at60; rw [List.getD_eq_getElem?_getD, List.getElem?_replicate]; split <;> rfl
open Classical in
/-- A map with one label's number changed. -/
noncomputable def upd (D : S50 → Option Int) (k : S50) (o : Option Int) : S50 → Option Int := fun k' => if k' = k then o else D k'
theorem upd_same (D : S50 → Option Int) (k : S50) (o : Option Int) : upd D k o k = o := by unfold upd; rw [if_pos rfl]
theorem upd_other (D : S50 → Option Int) {k k' : S50} (o : Option Int) (h : k' ≠ k) : upd D k o k' = D k' := by unfold upd; rw [if_neg h]
/-- The sizes that a label's texts may have. -/
def Fit (k : S50) : Prop := k.f0.size ≤ 140737488351232 ∧ k.f1.size ≤ 140737488351232
/-- Places that hold a map. -/
structure OK (S : List S81) (live used : Nat) (D : S50 → Option Int) : Prop where
  pw : ∃ e, S.length = 2 ^ e ∧ e ≤ 40
  hl : live = S.countP (fun x => x.f0 == 1)
  hu : used = S.countP (fun x => !(x.f0 == 0))
  pr : ∀ j, j < S.length → (at60 S j).f0 = 1 → ∃ t, j = (hashN (at60 S j).f1 + t) % S.length ∧ ∀ u, u < t → ¬ (at60 S ((hashN (at60 S j).f1 + u) % S.length)).f0 = 0
  un : ∀ i j, i < S.length → j < S.length → (at60 S i).f0 = 1 → (at60 S j).f0 = 1 → (at60 S i).f1 = (at60 S j).f1 → i = j
  dd : ∀ k v, D k = some v ↔ ∃ j, j < S.length ∧ (at60 S j).f0 = 1 ∧ (at60 S j).f1 = k ∧ (at60 S j).f2 = v
  sz : ∀ j, j < S.length → (at60 S j).f0 = 1 → Fit (at60 S j).f1
theorem two_pos (e : Nat) : 0 < 2 ^ e := Nat.two_pow_pos e
theorem OK.len {S : List S81} {live used : Nat} {D : S50 → Option Int} (h : OK S live used D) : 0 < S.length ∧ S.length ≤ 1099511627776 := by
  obtain ⟨e, h1, h2⟩ := h.pw; rw [h1]; exact ⟨two_pos e, Nat.pow_le_pow_right (by omega) h2⟩
theorem OK.live_le {S : List S81} {live used : Nat} {D : S50 → Option Int} (h : OK S live used D) : live ≤ used ∧ used ≤ S.length := by
  rw [h.hl, h.hu]; refine ⟨List.countP_mono_left ?_, List.countP_le_length⟩; intro x _ hx; simp only [beq_iff_eq] at hx; simp [hx]
theorem at60_mem {S : List S81} {x : S81} (h : x ∈ S) : ∃ j, j < S.length ∧ at60 S j = x := by
  obtain ⟨j, hj, e⟩ := List.getElem_of_mem h; exact ⟨j, hj, by rw [at60_eq S j hj, e]⟩
theorem mem_at60 {S : List S81} {j : Nat} (h : j < S.length) : at60 S j ∈ S := by
  rw [at60_eq S j h]; exact List.getElem_mem h
theorem least (p : Nat → Prop) : ∀ n, p n → ∃ t, t ≤ n ∧ p t ∧ ∀ u, u < t → ¬ p u := by
  classical
  intro n
  induction n using Nat.strongRecOn with
  | ind n ih =>
    intro hn
    by_cases h : ∃ m, m < n ∧ p m
    (obtain ⟨m, hm, pm⟩ := h; obtain ⟨t, a, b, c⟩ := ih m hm pm; exact ⟨t, by omega, b, c⟩); (exact ⟨n, Nat.le_refl n, hn, fun u hu pu => h ⟨u, hu, pu⟩⟩)
theorem OK.place {S : List S81} {live used : Nat} {D : S50 → Option Int} (ok : OK S live used D) (hf : used < S.length) (k : S50) :
    ∃ f r, plc S k f (hashN k % S.length) (-1) = some r ∧
      ((∃ j, j < S.length ∧ r = ((j : Int), true) ∧ (at60 S j).f0 = 1 ∧ (at60 S j).f1 = k) ∨
       (∃ j, j < S.length ∧ r = ((j : Int), false) ∧ (at60 S j).f0 ≠ 1 ∧ (∀ i, i < S.length → (at60 S i).f0 = 1 → (at60 S i).f1 ≠ k) ∧ ∃ t, j = (hashN k + t) % S.length ∧ ∀ u, u < t → ¬ (at60 S ((hashN k + u) % S.length)).f0 = 0)) := by
  obtain ⟨h0, hh⟩ : ∃ h0, hashN k = h0 := ⟨_, rfl⟩; rw [hh]; obtain ⟨hL, _⟩ := ok.len
  have hq : ∃ q, q < S.length ∧ (at60 S q).f0 = 0 := by
    apply Classical.byContradiction; intro h
    have : S.countP (fun x => !(x.f0 == 0)) = S.length := by
      rw [List.countP_eq_length]; intro x hx; obtain ⟨j, hj, rfl⟩ := at60_mem hx
      have : ¬ (at60 S j).f0 = 0 := fun q => h ⟨j, hj, q⟩
      simp [this]
    have := ok.hu; omega
  obtain ⟨q, hq1, hq2⟩ := hq
  have hT : ∃ n, (at60 S ((h0 + n) % S.length)).f0 = 0 := by
    refine ⟨q + S.length - h0 % S.length, ?_⟩; have h1 := Nat.mod_lt (h0) hL; have h2 := Nat.mod_add_div (h0) S.length
    have e : h0 + (q + S.length - h0 % S.length) = q + S.length * (h0 / S.length + 1) := by
      rw [Nat.mul_add]; omega
    rw [e, Nat.add_mul_mod_self_left, Nat.mod_eq_of_lt hq1]; exact hq2
  obtain ⟨n, hn⟩ := hT; obtain ⟨T, _, hT1, hT2⟩ := least (fun n => (at60 S ((h0 + n) % S.length)).f0 = 0) n hn
  have main : ∀ d t, t + d = T → ∀ sp : Int, (∀ u, u < t → ¬ ((at60 S ((h0 + u) % S.length)).f0 = 1 ∧ (at60 S ((h0 + u) % S.length)).f1 = k)) → (sp = -1 ∨ ∃ s, s < t ∧ sp = (((h0 + s) % S.length : Nat) : Int) ∧ (at60 S ((h0 + s) % S.length)).f0 = 2) →
      ∃ r, plc S k (d + 1) ((h0 + t) % S.length) sp = some r ∧
      ((∃ j, j < S.length ∧ r = ((j : Int), true) ∧ (at60 S j).f0 = 1 ∧ (at60 S j).f1 = k) ∨
       (∃ j, j < S.length ∧ r = ((j : Int), false) ∧ (at60 S j).f0 ≠ 1 ∧ (∀ i, i < S.length → (at60 S i).f0 = 1 → (at60 S i).f1 ≠ k) ∧ ∃ t, j = (h0 + t) % S.length ∧ ∀ u, u < t → ¬ (at60 S ((h0 + u) % S.length)).f0 = 0)) := by
    intro d
    induction d with
    | zero =>
      intro t ht sp hu hs; have ht : t = T := ht; subst ht; refine ⟨_, by rw [plc, if_pos hT1], Or.inr ?_⟩
      have none : ∀ i, i < S.length → (at60 S i).f0 = 1 → (at60 S i).f1 ≠ k := by
        intro i hi h1 h2; obtain ⟨t', e, hn⟩ := ok.pr i hi h1; rw [h2, hh] at e hn
        rcases Nat.lt_trichotomy t' t with h | h | h
        (exact hu t' h ⟨e ▸ h1, e ▸ h2⟩); (rw [h] at e; rw [e] at h1; rw [hT1] at h1; exact absurd h1 (by decide)); (exact hn t h hT1)
      rcases hs with rfl | ⟨s, hs1, rfl, hs2⟩
      (refine ⟨(h0 + t) % S.length, Nat.mod_lt _ hL, by rw [if_neg (by omega)], by rw [hT1]; decide, none, t, rfl, hT2⟩); (refine ⟨(h0 + s) % S.length, Nat.mod_lt _ hL, by rw [if_pos (by omega)], by rw [hs2]; decide, none, s, rfl, fun u hu => hT2 u (by omega)⟩)
    | succ d ih =>
      intro t ht sp hu hs; have hnf := hT2 t (by omega); rw [plc, if_neg hnf]
      by_cases hk : (at60 S ((h0 + t) % S.length)).f0 = 1 ∧ (at60 S ((h0 + t) % S.length)).f1 = k
      · rw [if_pos ⟨hk.1, (key_iff _ _).2 hk.2⟩]
        exact ⟨_, rfl, Or.inl ⟨_, Nat.mod_lt _ hL, rfl, hk.1, hk.2⟩⟩
      · rw [if_neg (fun q => hk ⟨q.1, (key_iff _ _).1 q.2⟩), Nat.mod_add_mod, Nat.add_assoc]
        refine ih (t + 1) (by omega) _ ?_ ?_
        · intro u h
          by_cases hut : u = t
          · rw [hut]; exact hk
          · exact hu u (by omega)
        · by_cases h2 : (at60 S ((h0 + t) % S.length)).f0 = 2 ∧ sp < 0
          · rw [if_pos h2]
            exact Or.inr ⟨t, by omega, rfl, h2.1⟩
          · rw [if_neg h2]
            rcases hs with h | ⟨s, a, b, c⟩
            · exact Or.inl h
            · exact Or.inr ⟨s, by omega, b, c⟩
  obtain ⟨r, h1, h2⟩ := main T 0 (by omega) (-1) (fun u h => absurd h (by omega)) (Or.inl rfl); rw [Nat.add_zero] at h1; exact ⟨T + 1, r, h1, h2⟩
theorem OK.none_of {S : List S81} {live used : Nat} {D : S50 → Option Int} (ok : OK S live used D) {k : S50} (h : ∀ i, i < S.length → (at60 S i).f0 = 1 → (at60 S i).f1 ≠ k) : D k = none := by
  cases hd : D k with
  | none => rfl
  | some v =>
    obtain ⟨j, hj, a, b, _⟩ := (ok.dd k v).1 hd; exact absurd b (h j hj a)
theorem OK.some_of {S : List S81} {live used : Nat} {D : S50 → Option Int} (ok : OK S live used D) {k : S50} {j : Nat} (hj : j < S.length) (h1 : (at60 S j).f0 = 1) (h2 : (at60 S j).f1 = k) : D k = some (at60 S j).f2 :=
  (ok.dd k _).2 ⟨j, hj, h1, h2, rfl⟩
theorem OK.put {S : List S81} {live used : Nat} {D : S50 → Option Int} (ok : OK S live used D) {k : S50} {j : Nat} (v : Int) (hj : j < S.length) (h1 : (at60 S j).f0 ≠ 1)
    (hn : ∀ i, i < S.length → (at60 S i).f0 = 1 → (at60 S i).f1 ≠ k) (ht : ∃ t, j = (hashN k + t) % S.length ∧ ∀ u, u < t → ¬ (at60 S ((hashN k + u) % S.length)).f0 = 0) (hk : Fit k) :
    OK (S.set j ⟨1, k, v⟩) (live + 1) (if (at60 S j).f0 = 0 then used + 1 else used) (upd D k (some v)) := by
  have hz : ∀ u, ¬ (at60 S u).f0 = 0 → ¬ (at60 (S.set j ⟨1, k, v⟩) u).f0 = 0 := by
    intro u hu; rw [at60_set S j _ u hj]; split
    · show ¬ (1 : Int) = 0
      decide
    · exact hu
  constructor; (rw [List.length_set]; exact ok.pw); (rw [List.countP_set hj, ok.hl, ← at60_eq S j hj, if_neg (by simpa using h1), if_pos (by rfl)]; omega)
  · rw [List.countP_set hj, ok.hu, ← at60_eq S j hj]
    have : 0 < S.length := by omega
    by_cases h0 : (at60 S j).f0 = 0
    · rw [if_pos h0, if_neg (by simp [h0]), if_pos (by rfl)]
      omega
    · rw [if_neg h0, if_pos (by simp [h0]), if_pos (by rfl)]
      have : 0 < S.countP (fun x => !(x.f0 == 0)) := List.countP_pos_iff.2 ⟨at60 S j, mem_at60 hj, by simp [h0]⟩
      omega
  · rw [List.length_set]
    intro i hi hs
    by_cases hij : i = j
    · subst hij
      rw [at60_set S i _ i hj, if_pos rfl]
      obtain ⟨t, e, hu⟩ := ht
      exact ⟨t, e, fun u h => hz _ (hu u h)⟩
    · rw [at60_set S j _ i hj, if_neg hij] at hs ⊢
      obtain ⟨t, e, hu⟩ := ok.pr i hi hs
      exact ⟨t, e, fun u h => hz _ (hu u h)⟩
  · rw [List.length_set]
    intro a b ha hb sa sb he
    rw [at60_set S j _ a hj] at sa he
    rw [at60_set S j _ b hj] at sb he
    by_cases haj : a = j
    · by_cases hbj : b = j
      · omega
      · rw [if_pos haj, if_neg hbj] at he
        rw [if_neg hbj] at sb
        exact absurd he.symm (hn b hb sb)
    · rw [if_neg haj] at sa
      by_cases hbj : b = j
      · rw [if_neg haj, if_pos hbj] at he
        exact absurd he (hn a ha sa)
      · rw [if_neg haj, if_neg hbj] at he
        rw [if_neg hbj] at sb
        exact ok.un a b ha hb sa sb he
  · intro k' v'
    rw [List.length_set]
    by_cases hkk : k' = k
    · subst hkk
      rw [upd_same]
      constructor
      · intro h
        refine ⟨j, hj, ?_⟩
        rw [at60_set S j _ j hj, if_pos rfl]
        exact ⟨rfl, rfl, Option.some.inj h⟩
      · rintro ⟨i, hi, a, b, c⟩
        rw [at60_set S j _ i hj] at a b c
        by_cases hij : i = j
        · rw [if_pos hij] at c
          exact congrArg some c
        · rw [if_neg hij] at a b
          exact absurd b (hn i hi a)
    · rw [upd_other _ _ hkk, ok.dd]
      constructor
      · rintro ⟨i, hi, a, b, c⟩
        refine ⟨i, hi, ?_⟩
        rw [at60_set S j _ i hj, if_neg (fun q => h1 (by rw [← q]; exact a))]
        exact ⟨a, b, c⟩
      · rintro ⟨i, hi, a, b, c⟩
        rw [at60_set S j _ i hj] at a b c
        by_cases hij : i = j
        · rw [if_pos hij] at b
          exact absurd b.symm hkk
        · rw [if_neg hij] at a b c
          exact ⟨i, hi, a, b, c⟩
  · rw [List.length_set]
    intro i hi hs
    rw [at60_set S j _ i hj] at hs ⊢
    by_cases hij : i = j
    · rw [if_pos hij]; exact hk
    · rw [if_neg hij] at hs ⊢; exact ok.sz i hi hs
theorem OK.drop {S : List S81} {live used : Nat} {D : S50 → Option Int} (ok : OK S live used D) {k : S50} {j : Nat} (hj : j < S.length) (h1 : (at60 S j).f0 = 1) (h2 : (at60 S j).f1 = k) :
    OK (S.set j ⟨2, z50, 0⟩) (live - 1) used (upd D k none) := by
  have hz : ∀ u, ¬ (at60 S u).f0 = 0 → ¬ (at60 (S.set j ⟨2, z50, 0⟩) u).f0 = 0 := by
    intro u hu; rw [at60_set S j _ u hj]; split
    · show ¬ (2 : Int) = 0
      decide
    · exact hu
  have old : ∀ i, (at60 (S.set j ⟨2, z50, 0⟩) i).f0 = 1 → i ≠ j ∧ at60 (S.set j ⟨2, z50, 0⟩) i = at60 S i := by
    intro i h
    by_cases hij : i = j
    (rw [hij, at60_set S j _ j hj, if_pos rfl] at h; exact absurd h (by decide)); (rw [at60_set S j _ i hj, if_neg hij]; exact ⟨hij, rfl⟩)
  constructor; (rw [List.length_set]; exact ok.pw); (rw [List.countP_set hj, ok.hl, ← at60_eq S j hj, if_pos (by simp [h1]), if_neg (by decide)]; rfl); (rw [List.countP_set hj, ok.hu, ← at60_eq S j hj, if_pos (by simp [h1]), if_pos (by rfl)]; have : 0 < S.countP (fun x => !(x.f0 == 0)) := List.countP_pos_iff.2 ⟨at60 S j, mem_at60 hj, by simp [h1]⟩; omega); (rw [List.length_set]; intro i hi hs; obtain ⟨hij, e⟩ := old i hs; rw [e] at hs ⊢; obtain ⟨t, e, hu⟩ := ok.pr i hi hs; exact ⟨t, e, fun u h => hz _ (hu u h)⟩); (rw [List.length_set]; intro a b ha hb sa sb he; obtain ⟨_, ea⟩ := old a sa; obtain ⟨_, eb⟩ := old b sb; rw [ea] at sa he; rw [eb] at sb he; exact ok.un a b ha hb sa sb he)
  · intro k' v'
    rw [List.length_set]
    by_cases hkk : k' = k
    · subst hkk
      rw [upd_same]
      constructor
      · intro h; cases h
      · rintro ⟨i, hi, a, b, c⟩
        obtain ⟨hij, e⟩ := old i a
        rw [e] at a b
        exact absurd (ok.un i j hi hj a h1 (b.trans h2.symm)) hij
    · rw [upd_other _ _ hkk, ok.dd]
      constructor
      · rintro ⟨i, hi, a, b, c⟩
        refine ⟨i, hi, ?_⟩
        rw [at60_set S j _ i hj, if_neg (fun q => hkk (by rw [← b, ← h2, q]))]
        exact ⟨a, b, c⟩
      · rintro ⟨i, hi, a, b, c⟩
        obtain ⟨hij, e⟩ := old i a
        rw [e] at a b c
        exact ⟨i, hi, a, b, c⟩
  · rw [List.length_set]
    intro i hi hs; obtain ⟨_, e⟩ := old i hs; rw [e] at hs ⊢; exact ok.sz i hi hs
theorem OK.fresh (n : Nat) (hp : ∃ e, n = 2 ^ e ∧ e ≤ 40) : OK (List.replicate n z81) 0 0 (fun _ => none) := by
  have h0 : ∀ j, ¬ (at60 (List.replicate n z81) j).f0 = 1 := by
    intro j; rw [at60_rep]; decide
  constructor; (rw [List.length_replicate]; exact hp); (rw [List.countP_replicate, if_neg (by decide)]); (rw [List.countP_replicate, if_neg (by decide)]); (intro j _ h; exact absurd h (h0 j)); (intro i j _ _ h; exact absurd h (h0 i))
  · intro k v
    constructor
    · intro h; cases h
    · rintro ⟨j, _, a, _⟩; exact absurd a (h0 j)
  · intro j _ h; exact absurd h (h0 j)
theorem OK.zero {S : List S81} {used : Nat} {D : S50 → Option Int} (ok : OK S 0 used D) : D = fun _ => none := by
  funext k
  refine ok.none_of ?_; intro i hi h; have hp : 0 < S.countP (fun x : S81 => x.f0 == 1) := List.countP_pos_iff.2 ⟨at60 S i, mem_at60 hi, by simp [h]⟩; have := ok.hl; omega
/-- The map of the first places. -/
noncomputable def part (S : List S81) (D : S50 → Option Int) (i : Nat) : S50 → Option Int := by
  classical
  exact fun k => if ∃ j, j < i ∧ (at60 S j).f0 = 1 ∧ (at60 S j).f1 = k then D k else none
theorem part_zero (S : List S81) (D : S50 → Option Int) : part S D 0 = fun _ => none := by
  funext k
  unfold part; rw [if_neg]; rintro ⟨j, h, _⟩; omega
theorem part_all {S : List S81} {live used : Nat} {D : S50 → Option Int} (ok : OK S live used D) : part S D S.length = D := by
  funext k
  unfold part; split; (rfl)
  · rename_i h
    exact (ok.none_of (fun i hi a b => h ⟨i, hi, a, b⟩)).symm
theorem part_skip (S : List S81) (D : S50 → Option Int) (i : Nat) (h : ¬ (at60 S i).f0 = 1) : part S D (i + 1) = part S D i := by
  funext k
  unfold part
  by_cases h1 : ∃ j, j < i ∧ (at60 S j).f0 = 1 ∧ (at60 S j).f1 = k
  · rw [if_pos h1, if_pos (by obtain ⟨j, a, b⟩ := h1; exact ⟨j, by omega, b⟩)]
  · rw [if_neg h1, if_neg]
    rintro ⟨j, a, b⟩
    by_cases hji : j = i
    · exact h (hji ▸ b.1)
    · exact h1 ⟨j, by omega, b⟩
theorem part_step {S : List S81} {live used : Nat} {D : S50 → Option Int} (ok : OK S live used D) (i : Nat) (hi : i < S.length) (h : (at60 S i).f0 = 1) :
    part S D i (at60 S i).f1 = none ∧ part S D (i + 1) = upd (part S D i) (at60 S i).f1 (some (at60 S i).f2) := by
  have no : ¬ ∃ j, j < i ∧ (at60 S j).f0 = 1 ∧ (at60 S j).f1 = (at60 S i).f1 := by
    rintro ⟨j, a, b, c⟩; have := ok.un j i (by omega) hi b h c; omega
  refine ⟨by unfold part; rw [if_neg no], ?_⟩
  funext k
  by_cases hk : k = (at60 S i).f1
  · subst hk
    rw [upd_same]; unfold part; rw [if_pos ⟨i, by omega, h, rfl⟩]; exact ok.some_of hi h rfl
  · rw [upd_other _ _ hk]
    unfold part
    by_cases h1 : ∃ j, j < i ∧ (at60 S j).f0 = 1 ∧ (at60 S j).f1 = k
    · rw [if_pos h1, if_pos (by obtain ⟨j, a, b⟩ := h1; exact ⟨j, by omega, b⟩)]
    · rw [if_neg h1, if_neg]
      rintro ⟨j, a, b⟩
      by_cases hji : j = i
      · exact hk (by rw [← b.2, hji])
      · exact h1 ⟨j, by omega, b⟩
/-- How many of the first places are taken. -/
def cnt (S : List S81) (i : Nat) : Nat := (S.take i).countP (fun x => x.f0 == 1)
theorem cnt_zero (S : List S81) : cnt S 0 = 0 := rfl
theorem cnt_all (S : List S81) : cnt S S.length = S.countP (fun x => x.f0 == 1) := by unfold cnt; rw [List.take_length]
theorem cnt_step (S : List S81) (i : Nat) (hi : i < S.length) : cnt S (i + 1) = cnt S i + if (at60 S i).f0 = 1 then 1 else 0 := by
  unfold cnt; rw [List.take_add_one, List.getElem?_eq_getElem hi, List.countP_append, ← at60_eq S i hi]
  congr 1
  by_cases h : (at60 S i).f0 = 1
  (rw [if_pos h]; simp [h]); (rw [if_neg h]; simp [h])
theorem cnt_le (S : List S81) (i : Nat) : cnt S i ≤ S.countP (fun x => x.f0 == 1) := by
  unfold cnt
  conv => rhs; rw [← List.take_append_drop i S, List.countP_append]
  omega
end Go.Proofs.Ytpekchebllobmaa.G
namespace Go.Proofs.Ytpekchebllobmaa.G
open List renaming setIfInBounds_toArray → zt, set_cons_zero → zu, set_cons_succ → zv
open Bool renaming true → T, false → F
open Go.RowKit Go.Proofs.YtpekchebllobmaaW.PrintWords Go.Proofs.YtpekchebllobmaaW.PrintLast Go.Proofs.YtpekchebllobmaaW.PrintMore
set_option linter.unusedVariables false
set_option linter.unusedSimpArgs false
/-- All blocks but two are kept. -/
structure Kp (W w : World) (p g : Nat) : Prop where
  os : w.os = W.os
  tape : w.tape = W.tape
  output : w.output = W.output
  size : W.heap.size ≤ w.heap.size
  block : ∀ b, b < W.heap.size → b ≠ p → b ≠ g → w.heap[b]? = W.heap[b]?
theorem Kp.of {W w : World} (h : Below W.heap.size W w) (p g : Nat) : Kp W w p g := ⟨h.os, h.tape, h.output, h.size, fun b hb _ _ => h.block b hb⟩
theorem Kp.below {W w : World} {p g base : Nat} (h : Kp W w p g) (hp : base ≤ p) (hg : base ≤ g) (hs : base ≤ W.heap.size) : Below base W w := ⟨h.os, h.tape, h.output, h.size, fun b hb => h.block b (by omega) (by omega) (by omega)⟩
theorem Kp.trans {W w v : World} {p g g' : Nat} (h : Kp W w p g) (hg : g' = g ∨ W.heap.size ≤ g') (h2 : Kp w v p g') : Kp W v p g :=
  ⟨h2.os.trans h.os, h2.tape.trans h.tape, h2.output.trans h.output, Nat.le_trans h.size h2.size, fun b hb h3 h4 => (h2.block b (Nat.lt_of_lt_of_le hb h.size) h3 (by rcases hg with e | e <;> omega)).trans (h.block b hb h3 h4)⟩
theorem Kp.set {W : World} {p g : Nat} (a : Addr) (v : Value) (ha : a.block = p ∨ a.block = g) : Kp W (W.setCell a v) p g := by
  have h := (Below.refl a.block W).setCell (Nat.le_refl _) v; exact ⟨h.os, h.tape, h.output, h.size, fun b hb h1 h2 => Below.heap_setCell W a v b (by rcases ha with e | e <;> omega)⟩
/-- A table in memory that holds a map. -/
structure TB (W : World) (base p g : Nat) (S : List S81) (n used : Nat) (D : S50 → Option Int) : Prop where
  tw : TW W base p g S (n : Int) (used : Int)
  ok : OK S n used D
  le : 4 * used ≤ 3 * S.length
theorem TB.below {W W' : World} {base p g : Nat} {S : List S81} {n used : Nat} {D : S50 → Option Int} (h : TB W base p g S n used D) (hb : Below W.heap.size W W') : TB W' base p g S n used D := ⟨h.tw.below hb, h.ok, h.le⟩
set_option maxHeartbeats 4000000 in
set_option maxRecDepth 100000 in
theorem grow_no (W : World) (base p g : Nat) (S : List S81) (n used : Nat) (D : S50 → Option Int) (h : TB W base p g S n used D) (hn : 4 * (used + 1) ≤ 3 * S.length) :
    Calls Try.prog 44 #[.pointer (some ⟨p, 0, none⟩)] W fun e w' => e = .returned (.tuple #[]) ∧ Below W.heap.size W w' := by
  have HT := Aside0.mk h; have hp0 : W.cell? ⟨p, 0, none⟩ = some (.slice (some ⟨g, 0, none⟩) S.length S.length) := (zC h.tw.bp 0).trans rfl; have hp2 : W.cell? ⟨p, 2, none⟩ = some (.int .i64 (used : Int)) := (zC h.tw.bp 2).trans rfl; have hL := h.ok.len.2
  have w1 : wrap64 ((used : Int) + 1) = (used : Int) + 1 := by unfold wrap64; omega
  have w2 : wrap64 (4 * ((used : Int) + 1)) = 4 * ((used : Int) + 1) := by unfold wrap64; omega
  have w3 : wrap64 (3 * (S.length : Int)) = 3 * (S.length : Int) := by unfold wrap64; omega
  have hd : decide (4 * ((used : Int) + 1) ≤ 3 * (S.length : Int)) = true := decide_eq_true (by omega); clear h hn hL
  go_enter Try.func44, Try.ntmps44
  go_upto_region 0 with (fail)
  refine start_ (n := 13) (S := (fun w' => w'.cell? ⟨p, 0, none⟩ = some (.slice (some ⟨g, 0, none⟩) S.length S.length) ∧ w'.cell? ⟨p, 2, none⟩ = some (.int .i64 (used : Int)))) (ds := []) #[F,F,F,F,F,F,F,F,F,F,F,F,F] (by kernel_rfl) rfl rfl ?_ ?_; (exact ⟨hp0, hp2⟩); intro hHeld; refine pure_ (i := 0) (N := some 6) (v := ?_) (a' := ?_) #[T,F,F,F,F,F,F,F,F,F,F,F,F] rfl rfl (by kernel_rfl) (fun _ _ _ h => h) (Or.inl ⟨by rfl, ?_⟩) ?_ ?_; rotate_left; (intro w'; go_simp; (with_reducible rfl)); rotate_left; (simp only [Act.put, zt, zu, zv, i64_w, i32_w]; rfl); refine pure_ (i := 1) (N := some 7) (v := ?_) (a' := ?_) #[T,T,F,F,F,F,F,F,F,F,F,F,F] rfl rfl (by kernel_rfl) (fun _ _ _ h => h) (Or.inl ⟨by rfl, ?_⟩) ?_ ?_; rotate_left; (intro w'; go_simp; (with_reducible rfl)); rotate_left; (simp only [Act.put, zt, zu, zv, i64_w, i32_w]; rfl); refine pure_ (i := 2) (N := some 8) (v := ?_) (a' := ?_) #[T,T,T,F,F,F,F,F,F,F,F,F,F] rfl rfl (by kernel_rfl) (fun _ _ _ h => h) (Or.inl ⟨by rfl, ?_⟩) ?_ ?_; rotate_left; (intro w'; go_simp; (with_reducible rfl)); rotate_left; (simp only [Act.put, zt, zu, zv, i64_w, i32_w]; rfl); refine pure_ (i := 6) (N := some 12) (v := ?_) (a' := ?_) #[T,T,T,F,F,F,T,F,F,F,F,F,F] rfl rfl (by kernel_rfl) (fun _ _ _ h => h) (Or.inl ⟨by rfl, ?_⟩) ?_ ?_; rotate_left; (intro w'; go_simp; (with_reducible rfl)); rotate_left; (simp only [Act.put, zt, zu, zv, i64_w, i32_w]; rfl); refine pure_ (i := 7) (N := some 13) (v := ?_) (a' := ?_) #[T,T,T,F,F,F,T,T,F,F,F,F,F] rfl rfl (by kernel_rfl) (fun _ _ _ h => h) (Or.inl ⟨by rfl, ?_⟩) ?_ ?_; rotate_left; (intro w'; go_simp; (with_reducible rfl)); rotate_left; (simp only [Act.put, zt, zu, zv, i64_w, i32_w]; rfl); refine pure_ (i := 8) (N := some 14) (v := ?_) (a' := ?_) #[T,T,T,F,F,F,T,T,T,F,F,F,F] rfl rfl (by kernel_rfl) (fun _ _ _ h => h) (Or.inl ⟨by rfl, ?_⟩) ?_ ?_; rotate_left; (intro w'; go_simp; (with_reducible rfl)); rotate_left; (simp only [Act.put, zt, zu, zv, i64_w, i32_w]; rfl); refine take_ (i := 3) (N := some 9) (v := ?_) (a' := ?_) #[T,T,T,T,F,F,T,T,T,F,F,F,F] rfl rfl (by kernel_rfl) (fun _ _ _ h => h) (Or.inl ⟨by rfl, ?_⟩) hHeld ?_ ?_; rotate_left; (rintro w' ⟨s0, s1⟩; go_simp; (with_reducible rfl)); rotate_left; (simp only [Act.put, zt, zu, zv, i64_w, i32_w]; rfl); refine pure_ (i := 4) (N := some 10) (v := ?_) (a' := ?_) #[T,T,T,T,T,F,T,T,T,F,F,F,F] rfl rfl (by kernel_rfl) (fun _ _ _ h => h) (Or.inl ⟨by rfl, ?_⟩) ?_ ?_; rotate_left; (intro w'; go_simp; (with_reducible rfl)); rotate_left; (simp only [Act.put, zt, zu, zv, i64_w, i32_w]; rfl); refine pure_ (i := 5) (N := some 11) (v := ?_) (a' := ?_) #[T,T,T,T,T,T,T,T,T,F,F,F,F] rfl rfl (by kernel_rfl) (fun _ _ _ h => h) (Or.inl ⟨by rfl, ?_⟩) ?_ ?_; rotate_left; (intro w'; go_simp; (with_reducible rfl)); rotate_left; (simp only [Act.put, zt, zu, zv, i64_w, i32_w]; rfl); refine take_ (i := 9) (N := some 15) (v := ?_) (a' := ?_) #[T,T,T,T,T,T,T,T,T,T,F,F,F] rfl rfl (by kernel_rfl) (fun _ _ _ h => h) (Or.inl ⟨by rfl, ?_⟩) hHeld ?_ ?_; rotate_left; (rintro w' ⟨s0, s1⟩; go_simp; (with_reducible rfl)); rotate_left; (simp only [Act.put, zt, zu, zv, i64_w, i32_w]; rfl); refine pure_ (i := 10) (N := some 16) (v := ?_) (a' := ?_) #[T,T,T,T,T,T,T,T,T,T,T,F,F] rfl rfl (by kernel_rfl) (fun _ _ _ h => h) (Or.inl ⟨by rfl, ?_⟩) ?_ ?_; rotate_left; (intro w'; go_simp; (with_reducible rfl)); rotate_left; (simp only [Act.put, zt, zu, zv, i64_w, i32_w]; rfl); refine pure_ (i := 11) (N := some 17) (v := ?_) (a' := ?_) #[T,T,T,T,T,T,T,T,T,T,T,T,F] rfl rfl (by kernel_rfl) (fun _ _ _ h => h) (Or.inl ⟨by rfl, ?_⟩) ?_ ?_; rotate_left; (intro w'; go_simp; (with_reducible rfl)); rotate_left; (simp only [Act.put, zt, zu, zv, i64_w, i32_w]; rfl); refine pure_ (i := 12) (N := some 18) (v := ?_) (a' := ?_) #[T,T,T,T,T,T,T,T,T,T,T,T,T] rfl rfl (by kernel_rfl) (fun _ _ _ h => h) (Or.inl ⟨by rfl, ?_⟩) ?_ ?_; rotate_left; (intro w'; go_simp; (with_reducible rfl)); rotate_left; (simp only [Act.put, zt, zu, zv, i64_w, i32_w]; rfl); refine done_ (by kernel_rfl) ?_
  go_wp2_with fail
  refine bodyPost_ret (results_none rfl _ _ _) rfl ?_; exact ⟨rfl, (Below.refl _ W).drew⟩
theorem TB.ne {W : World} {base p g : Nat} {S : List S81} {n used : Nat} {D : S50 → Option Int} (h : TB W base p g S n used D) : p ≠ g := by
  intro e; have a := h.tw.bp; have b := h.tw.bg; rw [e] at a; rw [a] at b; simp at b
theorem OK.place2 {S : List S81} {live used : Nat} {D : S50 → Option Int} (ok : OK S live used D) (hf : 4 * used ≤ 3 * S.length) (k : S50) :
    ∃ (f j : Nat) (b : Bool), plc S k f (hashN k % S.length) (-1) = some ((j : Int), b) ∧ j < S.length ∧
      ((b = true ∧ (at60 S j).f0 = 1 ∧ (at60 S j).f1 = k) ∨
       (b = false ∧ (at60 S j).f0 ≠ 1 ∧ (∀ i, i < S.length → (at60 S i).f0 = 1 → (at60 S i).f1 ≠ k) ∧ ∃ t, j = (hashN k + t) % S.length ∧ ∀ u, u < t → ¬ (at60 S ((hashN k + u) % S.length)).f0 = 0)) := by
  have hL := ok.len.1; obtain ⟨f, r, h1, ⟨j, hj, rfl, h2⟩ | ⟨j, hj, rfl, h2⟩⟩ := ok.place (by omega) k; (exact ⟨f, j, true, h1, hj, Or.inl ⟨rfl, h2⟩⟩); (exact ⟨f, j, false, h1, hj, Or.inr ⟨rfl, h2⟩⟩)
theorem fs_set (x : S81) : ∀ (S : List S81) (j : Nat), j < S.length → ((((((fs S).set (j * 5) (.int .i64 x.f0)).set (j * 5 + 1) (.string x.f1.f0)).set (j * 5 + 2) (.string x.f1.f1)).set (j * 5 + 3) (.int .i64 x.f1.f2)).set (j * 5 + 4) (.int .i64 x.f2)) = fs (S.set j x) := by
  intro S
  induction S with
  | nil => intro j h; exact absurd h (Nat.not_lt_zero _)
  | cons y S ih =>
    intro j h
    cases j with
    | zero => rfl
    | succ j =>
      have h' : j < S.length := by simpa using h
      rw [zv, fs, fs, ← ih j h', show (j + 1) * 5 = j * 5 + 5 by omega]; rfl
theorem TW.slot {W : World} {base p g : Nat} {S : List S81} {live used : Int} (h : TW W base p g S live used) (hpg : p ≠ g) (j : Nat) (hj : j < S.length) (x : S81) :
    TW (((((W.setCell ⟨g, j * 5, none⟩ (.int .i64 x.f0)).setCell ⟨g, j * 5 + 1, none⟩ (.string x.f1.f0)).setCell ⟨g, j * 5 + 2, none⟩ (.string x.f1.f1)).setCell ⟨g, j * 5 + 3, none⟩ (.int .i64 x.f1.f2)).setCell ⟨g, j * 5 + 4, none⟩ (.int .i64 x.f2)) base p g (S.set j x) live used := by
  have e := zP (zP (zP (zP (zP h.bg (j * 5) (.int .i64 x.f0) rfl) (j * 5 + 1) (.string x.f1.f0) rfl) (j * 5 + 2) (.string x.f1.f1) rfl) (j * 5 + 3) (.int .i64 x.f1.f2) rfl) (j * 5 + 4) (.int .i64 x.f2) rfl; refine ⟨?_, ?_, h.hp, h.hg⟩; (rw [List.length_set]; exact zG (zG (zG (zG (zG h.bp (p := ⟨g, j * 5, none⟩) hpg _) (p := ⟨g, j * 5 + 1, none⟩) hpg _) (p := ⟨g, j * 5 + 2, none⟩) hpg _) (p := ⟨g, j * 5 + 3, none⟩) hpg _) (p := ⟨g, j * 5 + 4, none⟩) hpg _); (rw [e]; simp only [zt]; rw [fs_set x S j hj])
theorem Kp.slot {W V : World} {p g g' : Nat} (h : Kp W V p g) (hg : g' = g ∨ W.heap.size ≤ g') (a b c d e : Nat) (v1 v2 v3 v4 v5 : Value) :
    Kp W (((((V.setCell ⟨g', a, none⟩ v1).setCell ⟨g', b, none⟩ v2).setCell ⟨g', c, none⟩ v3).setCell ⟨g', d, none⟩ v4).setCell ⟨g', e, none⟩ v5) p g :=
  ((((h.trans hg (Kp.set _ _ (Or.inr rfl))).trans hg (Kp.set _ _ (Or.inr rfl))).trans hg (Kp.set _ _ (Or.inr rfl))).trans hg (Kp.set _ _ (Or.inr rfl))).trans hg (Kp.set _ _ (Or.inr rfl))
theorem TW.used {W : World} {base p g : Nat} {S : List S81} {live used : Int} (h : TW W base p g S live used) (hpg : p ≠ g) (u : Int) : TW (W.setCell ⟨p, 2, none⟩ (.int .i64 u)) base p g S live u :=
  ⟨zP h.bp 2 _ rfl, zG h.bg (p := ⟨p, 2, none⟩) (Ne.symm hpg) _, h.hp, h.hg⟩
theorem TW.live {W : World} {base p g : Nat} {S : List S81} {live used : Int} (h : TW W base p g S live used) (hpg : p ≠ g) (u : Int) : TW (W.setCell ⟨p, 1, none⟩ (.int .i64 u)) base p g S u used :=
  ⟨zP h.bp 1 _ rfl, zG h.bg (p := ⟨p, 1, none⟩) (Ne.symm hpg) _, h.hp, h.hg⟩
theorem box_kept {W w1 w2 : World} {gb p g : Nat} {o : Obj} (h : w1.heap[gb]? = some o) (hgb : gb = W.heap.size) (hl : p < W.heap.size ∧ g < W.heap.size) (hk : Kp w1 w2 p g) : w2.heap[gb]? = some o :=
  (hk.block gb (blk_lt h) (by omega) (by omega)).trans h
/-- What growing leaves. -/
def Grown (W w : World) (base p g n : Nat) (D : S50 → Option Int) (P : Nat → Nat → Prop) : Prop := Kp W w p g ∧ ∃ g' S' used', (g' = g ∨ W.heap.size ≤ g') ∧ TB w base p g' S' n used' D ∧ 4 * (used' + 1) ≤ 3 * S'.length ∧ P S'.length used'
/-- What putting leaves. -/
def Put (W w : World) (base p g n : Nat) (D : S50 → Option Int) (P : Nat → Nat → Prop) : Prop := Kp W w p g ∧ ∃ g' S' used', (g' = g ∨ W.heap.size ≤ g') ∧ TB w base p g' S' n used' D ∧ ∃ u, P S'.length u ∧ used' ≤ u + 1
set_option maxHeartbeats 4000000 in
set_option maxRecDepth 100000 in
theorem put_walk (W : World) (base p g : Nat) (n : Nat) (D : S50 → Option Int) (k : S50) (v : Int) (hk : Fit k) (hnb : n ≤ 1073741824) (P : Nat → Nat → Prop)
    (HT0 : ∃ S used, TB W base p g S n used D)
    (Hg : ∀ W1, Below W.heap.size W W1 → Calls Try.prog 44 #[.pointer (some ⟨p, 0, none⟩)] W1 fun e w' => e = .returned (.tuple #[]) ∧ Grown W1 w' base p g n D P) :
    Calls Try.prog 41 #[.pointer (some ⟨p, 0, none⟩), .agg #[.string k.f0, .string k.f1, .int .i64 k.f2], .int .i64 v] W fun e w' => (D k ≠ none ∧ e = .returned (.bool false) ∧ Put W w' base p g n D P) ∨ (D k = none ∧ e = .returned (.bool true) ∧ Put W w' base p g (n + 1) (upd D k (some v)) P) := by
  have HK := Aside0.mk hk; have HN := Aside0.mk hnb; have HG := Aside0.mk Hg; have hlt : Aside0 (p < W.heap.size ∧ g < W.heap.size) := ⟨by obtain ⟨S, used, h⟩ := HT0; exact ⟨blk_lt h.tw.bp, blk_lt h.tw.bg⟩⟩; clear hk hnb Hg HT0
  go_enter Try.func41, Try.ntmps41
  go_upto_region 3 with (first | ((with_reducible refine gd (N := 4) rfl ?_); refine zb ?hg (N := 4) ?hd (cs := #[.string k.f0, .string k.f1, .int .i64 k.f2]) (t := 50) ?hr ?_; (case hd => rfl); (case hg => rfl); (case hr => go_simp; first | done | rfl); intro gb hg w1 hbox hb; have G1 := Aside0.mk hg; have X1 := Aside0.mk hbox; have B1 := Aside0.mk hb; clear hbox hb hg) | (go_at_call 44; refine (HG.out w1 B1.out).mono ?_; rintro e w2 ⟨rfl, hgr⟩; obtain ⟨hk2, g', S', used', hgg, hT2, hle, hP⟩ := hgr; have PP := Aside0.mk hP; obtain ⟨f, j, b, hplc, hjl, hcase⟩ := hT2.ok.place2 hT2.le k; have K2 := Aside0.mk hk2; have GG := Aside0.mk hgg; have T2 := Aside0.mk hT2; have LE := Aside0.mk hle; have PL := Aside0.mk hplc; have JL := Aside0.mk hjl; have CA := Aside0.mk hcase; have X2 := Aside0.mk (box_kept X1.out G1.out hlt.out hk2); clear hgg hT2 hle hplc hjl hcase hk2 hP; have c0 : w2.cell? ⟨gb, 0, none⟩ = some (.string k.f0) := (zC X2.out 0).trans rfl; have c1 : w2.cell? ⟨gb, 1, none⟩ = some (.string k.f1) := (zC X2.out 1).trans rfl; have c2 : w2.cell? ⟨gb, 2, none⟩ = some (.int .i64 k.f2) := (zC X2.out 2).trans rfl) | (go_at_call 42; refine (place f w2 base p g' S' n used' k _ _ T2.out.tw T2.out.ok.pw.choose_spec.1 T2.out.ok.pw.choose_spec.2 PL.out HK.out.1 HK.out.2).mono ?_; rintro e w3 ⟨rfl, hb3⟩; have B3 := Aside0.mk hb3; clear hb3))
  have T3 := Aside0.mk (T2.out.below B3.out); have X3 := Aside0.mk (blk_below X2.out B3.out); have KP := Aside0.mk (show Kp W w3 p g from ((Kp.of B1.out p g).trans (Or.inl rfl) K2.out).trans (by have := GG.out; have := B1.out.size; rcases GG.out with e | e <;> omega) (Kp.of B3.out p g')); have GF := Aside0.mk (show g' = g ∨ W.heap.size ≤ g' from by have := B1.out.size; rcases GG.out with e | e <;> omega)
  have GB := Aside0.mk (show gb ≠ p ∧ gb ≠ g' from by
    have h1 := G1.out; have h2 := hlt.out; have h3 := X3.out; refine ⟨by omega, fun e => ?_⟩; have h4 := T3.out.tw.bg; rw [← e, h3] at h4
    simp at h4)
  clear c0 c1 c2 T2 X2 X1 B1 B3 K2 GG HG G1
  rcases CA.out with ⟨rfl, q1, q2⟩ | ⟨rfl, q1, q2, q3⟩
  · have Q := Aside0.mk (T3.out.ok.some_of JL.out q1 q2)
    clear q1 q2 CA
    go_wp2_with fail
    refine bodyPost_ret (results_tmp rfl _ _ _) rfl ?_
    exact Or.inl ⟨(by rw [Q.out]; intro h; cases h), rfl, KP.out, g', S', used', GF.out, T3.out, used', PP.out, by omega⟩
  · have hp0 : w3.cell? ⟨p, 0, none⟩ = some (.slice (some ⟨g', 0, none⟩) S'.length S'.length) := (zC T3.out.tw.bp 0).trans rfl
    have hp1 : w3.cell? ⟨p, 1, none⟩ = some (.int .i64 (n : Int)) := (zC T3.out.tw.bp 1).trans rfl
    have hp2 : w3.cell? ⟨p, 2, none⟩ = some (.int .i64 (used' : Int)) := (zC T3.out.tw.bp 2).trans rfl
    have fz := zR T3.out.tw.bp 2
    have fz1 := zR T3.out.tw.bp 1
    obtain ⟨s0, hs0⟩ : ∃ s0, (at60 S' j).f0 = s0 := ⟨_, rfl⟩
    have t0 : w3.cell? ⟨g', j * 5, none⟩ = some (.int .i64 s0) := hs0 ▸ T3.out.tw.cell j JL.out 0 (by omega)
    have c0 : w3.cell? ⟨gb, 0, none⟩ = some (.string k.f0) := (zC X3.out 0).trans rfl
    have c1 : w3.cell? ⟨gb, 1, none⟩ = some (.string k.f1) := (zC X3.out 1).trans rfl
    have c2 : w3.cell? ⟨gb, 2, none⟩ = some (.int .i64 k.f2) := (zC X3.out 2).trans rfl
    have hjb : (0 : Int) ≤ (j : Int) ∧ (j : Int) < (S'.length : Int) := by have := JL.out; omega
    have Q1 := Aside0.mk q1
    have Q2 := Aside0.mk q2
    have Q3 := Aside0.mk q3
    have HS0 := Aside0.mk hs0
    clear q1 q2 q3 CA hs0
    by_cases h0 : s0 = 0
    · have h0b : (s0 == 0) = true := by simp [h0]
      have U4 := Aside0.mk (show (if (at60 S' j).f0 = 0 then used' + 1 else used') = used' + 1 from by rw [HS0.out, if_pos h0])
      clear h0
      go_upto_region 7 with (fail)
      obtain ⟨w4, hw4⟩ : ∃ w4, w3.setCell ⟨p, 2, none⟩ (.int .i64 (wrap64 ((used' : Int) + 1))) = w4 := ⟨_, rfl⟩
      rw [hw4]
      have hwu : wrap64 ((used' : Int) + 1) = ((used' + 1 : Nat) : Int) := by have := LE.out; have := T3.out.ok.len.2; unfold wrap64; omega
      rw [hwu] at hw4
      obtain ⟨u4, hu4⟩ : ∃ u4, used' + 1 = u4 := ⟨_, rfl⟩
      have U4 := Aside0.mk (show (if (at60 S' j).f0 = 0 then used' + 1 else used') = u4 from U4.out.trans hu4)
      rw [hu4] at hw4
      have HU := Aside0.mk (show u4 ≤ used' + 1 from by omega)
      have T4 := Aside0.mk (show TW w4 base p g' S' (n : Int) (u4 : Int) from hw4 ▸ T3.out.tw.used T3.out.ne _)
      have X4 := Aside0.mk (show w4.heap[gb]? = some (.cells #[.string k.f0, .string k.f1, .int .i64 k.f2] 50 (0, 0)) from by
        rw [← hw4]; refine zG (p := ⟨p, 2, none⟩) X3.out ?_ _; have := GB.out.1
        exact this)
      have KP4 := Aside0.mk (show Kp W w4 p g from hw4 ▸ KP.out.trans GF.out (Kp.set _ _ (Or.inl rfl)))
      clear hp0 hp1 hp2 t0 c0 c1 c2 fz fz1 hw4 X3 KP
      have hp0 : w4.cell? ⟨p, 0, none⟩ = some (.slice (some ⟨g', 0, none⟩) S'.length S'.length) := (zC T4.out.bp 0).trans rfl
      have c0 : w4.cell? ⟨gb, 0, none⟩ = some (.string k.f0) := (zC X4.out 0).trans rfl
      have c1 : w4.cell? ⟨gb, 1, none⟩ = some (.string k.f1) := (zC X4.out 1).trans rfl
      have c2 : w4.cell? ⟨gb, 2, none⟩ = some (.int .i64 k.f2) := (zC X4.out 2).trans rfl
      refine start_ (n := 10) (S := (fun w' => w'.cell? ⟨p, 0, none⟩ = some (.slice (some ⟨g', 0, none⟩) S'.length S'.length) ∧ w'.cell? ⟨gb, 0, none⟩ = some (.string k.f0) ∧ w'.cell? ⟨gb, 1, none⟩ = some (.string k.f1) ∧ w'.cell? ⟨gb, 2, none⟩ = some (.int .i64 k.f2))) (ds := [9]) #[F,F,F,F,F,F,F,F,F,F] (by kernel_rfl) rfl rfl ?_ ?_
      · exact ⟨hp0, c0, c1, c2⟩
      intro hHeld
      refine pure_ (i := 0) (N := some 34) (v := ?_) (a' := ?_) #[T,F,F,F,F,F,F,F,F,F] rfl rfl (by kernel_rfl) (fun _ _ _ h => h) (Or.inl ⟨by rfl, ?_⟩) ?_ ?_
      rotate_left
      · intro w'
        go_simp
        with_reducible rfl
      rotate_left
      · simp only [Act.put, zt, zu, zv, i64_w, i32_w]
        rfl
      refine pure_ (i := 1) (N := some 35) (v := ?_) (a' := ?_) #[T,T,F,F,F,F,F,F,F,F] rfl rfl (by kernel_rfl) (fun _ _ _ h => h) (Or.inl ⟨by rfl, ?_⟩) ?_ ?_
      rotate_left
      · intro w'
        go_simp
        with_reducible rfl
      rotate_left
      · simp only [Act.put, zt, zu, zv, i64_w, i32_w]
        rfl
      refine pure_ (i := 2) (N := some 36) (v := ?_) (a' := ?_) #[T,T,T,F,F,F,F,F,F,F] rfl rfl (by kernel_rfl) (fun _ _ _ h => h) (Or.inl ⟨by rfl, ?_⟩) ?_ ?_
      rotate_left
      · intro w'
        go_simp
        with_reducible rfl
      rotate_left
      · simp only [Act.put, zt, zu, zv, i64_w, i32_w]
        rfl
      refine pure_ (i := 4) (N := some 38) (v := ?_) (a' := ?_) #[T,T,T,F,T,F,F,F,F,F] rfl rfl (by kernel_rfl) (fun _ _ _ h => h) (Or.inl ⟨by rfl, ?_⟩) ?_ ?_
      rotate_left
      · intro w'
        go_simp
        with_reducible rfl
      rotate_left
      · simp only [Act.put, zt, zu, zv, i64_w, i32_w]
        rfl
      refine pure_ (i := 6) (N := some 40) (v := ?_) (a' := ?_) #[T,T,T,F,T,F,T,F,F,F] rfl rfl (by kernel_rfl) (fun _ _ _ h => h) (Or.inl ⟨by rfl, ?_⟩) ?_ ?_
      rotate_left
      · intro w'
        go_simp
        with_reducible rfl
      rotate_left
      · simp only [Act.put, zt, zu, zv, i64_w, i32_w]
        rfl
      refine take_ (i := 3) (N := some 37) (v := ?_) (a' := ?_) #[T,T,T,T,T,F,T,F,F,F] rfl rfl (by kernel_rfl) (fun _ _ _ h => h) (Or.inl ⟨by rfl, ?_⟩) hHeld ?_ ?_
      rotate_left
      · rintro w' ⟨s0, s1, s2, s3⟩
        go_simp
        with_reducible rfl
      rotate_left
      · simp only [Act.put, zt, zu, zv, i64_w, i32_w]
        rfl
      refine take_ (i := 5) (N := some 39) (v := ?_) (a' := ?_) #[T,T,T,T,T,T,T,F,F,F] rfl rfl (by kernel_rfl) (fun _ _ _ h => h) (Or.inl ⟨by rfl, ?_⟩) hHeld ?_ ?_
      rotate_left
      · rintro w' ⟨s0, s1, s2, s3⟩
        go_simp
        with_reducible rfl
      rotate_left
      · simp only [Act.put, zt, zu, zv, i64_w, i32_w]
        rfl
      refine pure_ (i := 7) (N := some 41) (v := ?_) (a' := ?_) #[T,T,T,T,T,T,T,T,F,F] rfl rfl (by kernel_rfl) (fun _ _ _ h => h) (Or.inl ⟨by rfl, ?_⟩) ?_ ?_
      rotate_left
      · intro w'
        go_simp
        with_reducible rfl
      rotate_left
      · simp only [Act.put, zt, zu, zv, i64_w, i32_w]
        rfl
      refine pure_ (i := 8) (N := some 42) (v := ?_) (a' := ?_) #[T,T,T,T,T,T,T,T,T,F] rfl rfl (by kernel_rfl) (fun _ _ _ h => h) (Or.inl ⟨by rfl, ?_⟩) ?_ ?_
      rotate_left
      · intro w'
        go_simp
        with_reducible rfl
      rotate_left
      · simp only [Act.put, zt, zu, zv, i64_w, i32_w]
        rfl
      refine last_ (i := 9) (N := none) #[T,T,T,T,T,T,T,T,T,T] rfl rfl (by kernel_rfl) (by decide) (fun K hK => ?_)
      obtain ⟨W5, hW5⟩ : ∃ W5, w4.drew = W5 := ⟨_, rfl⟩
      rw [hW5]
      have T5 := Aside0.mk (show TW W5 base p g' S' (n : Int) (u4 : Int) from hW5 ▸ T4.out.below ((Below.refl _ w4).drew))
      have KP5 := Aside0.mk (show Kp W W5 p g from hW5 ▸ KP4.out.trans GF.out (Kp.of (Below.refl _ w4).drew p g'))
      have z0 := zR T5.out.bg (j * 5)
      have z1 := zR T5.out.bg (j * 5 + 1)
      have z2 := zR T5.out.bg (j * 5 + 2)
      have z3 := zR T5.out.bg (j * 5 + 3)
      have z4 := zR T5.out.bg (j * 5 + 4)
      have y0 : W5.cell? ⟨g', j * 5, none⟩ = some (.int .i64 (at60 S' j).f0) := T5.out.cell j JL.out 0 (by omega)
      have y1 : W5.cell? ⟨g', j * 5 + 1, none⟩ = some (.string (at60 S' j).f1.f0) := T5.out.cell j JL.out 1 (by omega)
      have y2 : W5.cell? ⟨g', j * 5 + 2, none⟩ = some (.string (at60 S' j).f1.f1) := T5.out.cell j JL.out 2 (by omega)
      have y3 : W5.cell? ⟨g', j * 5 + 3, none⟩ = some (.int .i64 (at60 S' j).f1.f2) := T5.out.cell j JL.out 3 (by omega)
      have y4 : W5.cell? ⟨g', j * 5 + 4, none⟩ = some (.int .i64 (at60 S' j).f2) := T5.out.cell j JL.out 4 (by omega)
      refine skip_ (w1 := ?_) (by rfl) rfl ?_ ?_
      rotate_left
      · go_simp
        rfl
      refine hK.out _ _ ?_
      clear hK K
      refine done_ (by kernel_rfl) ?_
      obtain ⟨W6, hW6⟩ : ∃ W6, ((((W5.setCell ⟨g', j * 5, none⟩ (.int .i64 1)).setCell ⟨g', j * 5 + 1, none⟩ (.string k.f0)).setCell ⟨g', j * 5 + 2, none⟩ (.string k.f1)).setCell ⟨g', j * 5 + 3, none⟩ (.int .i64 k.f2)).setCell ⟨g', j * 5 + 4, none⟩ (.int .i64 v) = W6 := ⟨_, rfl⟩
      rw [hW6]
      have T6 := Aside0.mk (show TW W6 base p g' (S'.set j ⟨1, k, v⟩) (n : Int) (u4 : Int) from hW6 ▸ T5.out.slot T3.out.ne j JL.out ⟨1, k, v⟩)
      have KP6 := Aside0.mk (show Kp W W6 p g from hW6 ▸ KP5.out.slot GF.out _ _ _ _ _ _ _ _ _ _)
      have hp1 : W6.cell? ⟨p, 1, none⟩ = some (.int .i64 (n : Int)) := (zC T6.out.bp 1).trans rfl
      have fz1 := zR T6.out.bp 1
      clear hW6 z0 z1 z2 z3 z4 y0 y1 y2 y3 y4 hp0 c0 c1 c2 hHeld hW5
      go_wp2_with fail
      refine bodyPost_ret (results_tmp rfl _ _ _) rfl ?_
      have hwn : wrap64 ((n : Int) + 1) = ((n + 1 : Nat) : Int) := by have := HN.out; unfold wrap64; omega
      rw [hwn]
      have K7 := KP6.out.trans GF.out (Kp.set (W := W6) (p := p) (g := g') ⟨p, 1, none⟩ (.int .i64 ((n + 1 : Nat) : Int)) (Or.inl rfl))
      have T7 := T6.out.live T3.out.ne ((n + 1 : Nat) : Int)
      have O7 := T3.out.ok.put v JL.out Q1.out Q2.out Q3.out HK.out
      rw [U4.out] at O7
      exact Or.inr ⟨T3.out.ok.none_of Q2.out, rfl, K7, g', _, u4, GF.out, ⟨T7, O7, by rw [List.length_set]; have := LE.out; have := HU.out; omega⟩, used', by rw [List.length_set]; exact PP.out, HU.out⟩
    · have h0b : (s0 == 0) = false := by simp [h0]
      have U4 := Aside0.mk (show (if (at60 S' j).f0 = 0 then used' + 1 else used') = used' from by rw [HS0.out, if_neg h0])
      clear h0
      go_upto_region 7 with (fail)
      obtain ⟨w4, hw4⟩ : ∃ w4, w3 = w4 := ⟨_, rfl⟩
      obtain ⟨u4, hu4⟩ : ∃ u4, used' = u4 := ⟨_, rfl⟩
      have HU := Aside0.mk (show u4 ≤ used' + 1 from by omega)
      have U4 := Aside0.mk (show (if (at60 S' j).f0 = 0 then used' + 1 else used') = u4 from U4.out.trans hu4)
      have T4 := Aside0.mk (show TW w4 base p g' S' (n : Int) (u4 : Int) from by rw [← hw4, ← hu4]; exact T3.out.tw)
      have X4 := Aside0.mk (hw4 ▸ X3.out)
      have KP4 := Aside0.mk (hw4 ▸ KP.out)
      rw [hw4]
      clear hp0 hp1 hp2 t0 c0 c1 c2 fz fz1 hw4 hu4 X3 KP
      have hp0 : w4.cell? ⟨p, 0, none⟩ = some (.slice (some ⟨g', 0, none⟩) S'.length S'.length) := (zC T4.out.bp 0).trans rfl
      have c0 : w4.cell? ⟨gb, 0, none⟩ = some (.string k.f0) := (zC X4.out 0).trans rfl
      have c1 : w4.cell? ⟨gb, 1, none⟩ = some (.string k.f1) := (zC X4.out 1).trans rfl
      have c2 : w4.cell? ⟨gb, 2, none⟩ = some (.int .i64 k.f2) := (zC X4.out 2).trans rfl
      refine start_ (n := 10) (S := (fun w' => w'.cell? ⟨p, 0, none⟩ = some (.slice (some ⟨g', 0, none⟩) S'.length S'.length) ∧ w'.cell? ⟨gb, 0, none⟩ = some (.string k.f0) ∧ w'.cell? ⟨gb, 1, none⟩ = some (.string k.f1) ∧ w'.cell? ⟨gb, 2, none⟩ = some (.int .i64 k.f2))) (ds := [9]) #[F,F,F,F,F,F,F,F,F,F] (by kernel_rfl) rfl rfl ?_ ?_
      · exact ⟨hp0, c0, c1, c2⟩
      intro hHeld
      refine pure_ (i := 0) (N := some 34) (v := ?_) (a' := ?_) #[T,F,F,F,F,F,F,F,F,F] rfl rfl (by kernel_rfl) (fun _ _ _ h => h) (Or.inl ⟨by rfl, ?_⟩) ?_ ?_
      rotate_left
      · intro w'
        go_simp
        with_reducible rfl
      rotate_left
      · simp only [Act.put, zt, zu, zv, i64_w, i32_w]
        rfl
      refine pure_ (i := 1) (N := some 35) (v := ?_) (a' := ?_) #[T,T,F,F,F,F,F,F,F,F] rfl rfl (by kernel_rfl) (fun _ _ _ h => h) (Or.inl ⟨by rfl, ?_⟩) ?_ ?_
      rotate_left
      · intro w'
        go_simp
        with_reducible rfl
      rotate_left
      · simp only [Act.put, zt, zu, zv, i64_w, i32_w]
        rfl
      refine pure_ (i := 2) (N := some 36) (v := ?_) (a' := ?_) #[T,T,T,F,F,F,F,F,F,F] rfl rfl (by kernel_rfl) (fun _ _ _ h => h) (Or.inl ⟨by rfl, ?_⟩) ?_ ?_
      rotate_left
      · intro w'
        go_simp
        with_reducible rfl
      rotate_left
      · simp only [Act.put, zt, zu, zv, i64_w, i32_w]
        rfl
      refine pure_ (i := 4) (N := some 38) (v := ?_) (a' := ?_) #[T,T,T,F,T,F,F,F,F,F] rfl rfl (by kernel_rfl) (fun _ _ _ h => h) (Or.inl ⟨by rfl, ?_⟩) ?_ ?_
      rotate_left
      · intro w'
        go_simp
        with_reducible rfl
      rotate_left
      · simp only [Act.put, zt, zu, zv, i64_w, i32_w]
        rfl
      refine pure_ (i := 6) (N := some 40) (v := ?_) (a' := ?_) #[T,T,T,F,T,F,T,F,F,F] rfl rfl (by kernel_rfl) (fun _ _ _ h => h) (Or.inl ⟨by rfl, ?_⟩) ?_ ?_
      rotate_left
      · intro w'
        go_simp
        with_reducible rfl
      rotate_left
      · simp only [Act.put, zt, zu, zv, i64_w, i32_w]
        rfl
      refine take_ (i := 3) (N := some 37) (v := ?_) (a' := ?_) #[T,T,T,T,T,F,T,F,F,F] rfl rfl (by kernel_rfl) (fun _ _ _ h => h) (Or.inl ⟨by rfl, ?_⟩) hHeld ?_ ?_
      rotate_left
      · rintro w' ⟨s0, s1, s2, s3⟩
        go_simp
        with_reducible rfl
      rotate_left
      · simp only [Act.put, zt, zu, zv, i64_w, i32_w]
        rfl
      refine take_ (i := 5) (N := some 39) (v := ?_) (a' := ?_) #[T,T,T,T,T,T,T,F,F,F] rfl rfl (by kernel_rfl) (fun _ _ _ h => h) (Or.inl ⟨by rfl, ?_⟩) hHeld ?_ ?_
      rotate_left
      · rintro w' ⟨s0, s1, s2, s3⟩
        go_simp
        with_reducible rfl
      rotate_left
      · simp only [Act.put, zt, zu, zv, i64_w, i32_w]
        rfl
      refine pure_ (i := 7) (N := some 41) (v := ?_) (a' := ?_) #[T,T,T,T,T,T,T,T,F,F] rfl rfl (by kernel_rfl) (fun _ _ _ h => h) (Or.inl ⟨by rfl, ?_⟩) ?_ ?_
      rotate_left
      · intro w'
        go_simp
        with_reducible rfl
      rotate_left
      · simp only [Act.put, zt, zu, zv, i64_w, i32_w]
        rfl
      refine pure_ (i := 8) (N := some 42) (v := ?_) (a' := ?_) #[T,T,T,T,T,T,T,T,T,F] rfl rfl (by kernel_rfl) (fun _ _ _ h => h) (Or.inl ⟨by rfl, ?_⟩) ?_ ?_
      rotate_left
      · intro w'
        go_simp
        with_reducible rfl
      rotate_left
      · simp only [Act.put, zt, zu, zv, i64_w, i32_w]
        rfl
      refine last_ (i := 9) (N := none) #[T,T,T,T,T,T,T,T,T,T] rfl rfl (by kernel_rfl) (by decide) (fun K hK => ?_)
      obtain ⟨W5, hW5⟩ : ∃ W5, w4.drew = W5 := ⟨_, rfl⟩
      rw [hW5]
      have T5 := Aside0.mk (show TW W5 base p g' S' (n : Int) (u4 : Int) from hW5 ▸ T4.out.below ((Below.refl _ w4).drew))
      have KP5 := Aside0.mk (show Kp W W5 p g from hW5 ▸ KP4.out.trans GF.out (Kp.of (Below.refl _ w4).drew p g'))
      have z0 := zR T5.out.bg (j * 5)
      have z1 := zR T5.out.bg (j * 5 + 1)
      have z2 := zR T5.out.bg (j * 5 + 2)
      have z3 := zR T5.out.bg (j * 5 + 3)
      have z4 := zR T5.out.bg (j * 5 + 4)
      have y0 : W5.cell? ⟨g', j * 5, none⟩ = some (.int .i64 (at60 S' j).f0) := T5.out.cell j JL.out 0 (by omega)
      have y1 : W5.cell? ⟨g', j * 5 + 1, none⟩ = some (.string (at60 S' j).f1.f0) := T5.out.cell j JL.out 1 (by omega)
      have y2 : W5.cell? ⟨g', j * 5 + 2, none⟩ = some (.string (at60 S' j).f1.f1) := T5.out.cell j JL.out 2 (by omega)
      have y3 : W5.cell? ⟨g', j * 5 + 3, none⟩ = some (.int .i64 (at60 S' j).f1.f2) := T5.out.cell j JL.out 3 (by omega)
      have y4 : W5.cell? ⟨g', j * 5 + 4, none⟩ = some (.int .i64 (at60 S' j).f2) := T5.out.cell j JL.out 4 (by omega)
      refine skip_ (w1 := ?_) (by rfl) rfl ?_ ?_
      rotate_left
      · go_simp
        rfl
      refine hK.out _ _ ?_
      clear hK K
      refine done_ (by kernel_rfl) ?_
      obtain ⟨W6, hW6⟩ : ∃ W6, ((((W5.setCell ⟨g', j * 5, none⟩ (.int .i64 1)).setCell ⟨g', j * 5 + 1, none⟩ (.string k.f0)).setCell ⟨g', j * 5 + 2, none⟩ (.string k.f1)).setCell ⟨g', j * 5 + 3, none⟩ (.int .i64 k.f2)).setCell ⟨g', j * 5 + 4, none⟩ (.int .i64 v) = W6 := ⟨_, rfl⟩
      rw [hW6]
      have T6 := Aside0.mk (show TW W6 base p g' (S'.set j ⟨1, k, v⟩) (n : Int) (u4 : Int) from hW6 ▸ T5.out.slot T3.out.ne j JL.out ⟨1, k, v⟩)
      have KP6 := Aside0.mk (show Kp W W6 p g from hW6 ▸ KP5.out.slot GF.out _ _ _ _ _ _ _ _ _ _)
      have hp1 : W6.cell? ⟨p, 1, none⟩ = some (.int .i64 (n : Int)) := (zC T6.out.bp 1).trans rfl
      have fz1 := zR T6.out.bp 1
      clear hW6 z0 z1 z2 z3 z4 y0 y1 y2 y3 y4 hp0 c0 c1 c2 hHeld hW5
      go_wp2_with fail
      refine bodyPost_ret (results_tmp rfl _ _ _) rfl ?_
      have hwn : wrap64 ((n : Int) + 1) = ((n + 1 : Nat) : Int) := by have := HN.out; unfold wrap64; omega
      rw [hwn]
      have K7 := KP6.out.trans GF.out (Kp.set (W := W6) (p := p) (g := g') ⟨p, 1, none⟩ (.int .i64 ((n + 1 : Nat) : Int)) (Or.inl rfl))
      have T7 := T6.out.live T3.out.ne ((n + 1 : Nat) : Int)
      have O7 := T3.out.ok.put v JL.out Q1.out Q2.out Q3.out HK.out
      rw [U4.out] at O7
      exact Or.inr ⟨T3.out.ok.none_of Q2.out, rfl, K7, g', _, u4, GF.out, ⟨T7, O7, by rw [List.length_set]; have := LE.out; have := HU.out; omega⟩, used', by rw [List.length_set]; exact PP.out, HU.out⟩
theorem made60 (m : Nat) : madeCells (Value.agg #[(.int .i64 0), (.string ⟨#[]⟩), (.string ⟨#[]⟩), (.int .i64 0), (.int .i64 0)]).cells (m * 5) = (fs (List.replicate m z81)).toArray := by
  apply Array.ext'; apply List.ext_getElem?; intro i
  by_cases hi : i < m * 5
  · have h1 : i / 5 < m := by omega
    have h2 : i = i / 5 * 5 + i % 5 := by omega
    have h3 : i % 5 < 5 := by omega
    have e := fs_at (List.replicate m z81) (i / 5) (by rw [List.length_replicate]; exact h1) (i % 5) h3
    rw [← h2, List.getElem_replicate] at e
    show _ = (fs (List.replicate m z81))[i]?
    rw [e]
    unfold madeCells
    rw [Array.getElem?_toList, Array.getElem?_map, Array.getElem?_range, if_pos hi]
    show some ((#[(.int .i64 0), (.string ⟨#[]⟩), (.string ⟨#[]⟩), (.int .i64 0), (.int .i64 0)] : Array Value)[i % 5]!) = _
    generalize i % 5 = r at h3
    match r, h3 with
    | 0, _ => rfl
    | 1, _ => rfl
    | 2, _ => rfl
    | 3, _ => rfl
    | 4, _ => rfl
  · rw [List.getElem?_eq_none, List.getElem?_eq_none]
    · rw [List.toList_toArray, fs_len, List.length_replicate]; omega
    · rw [Array.length_toList, size_madeCells]; omega
theorem make60 (w : World) (m : Nat) (hm : m ≤ 1099511627776) : (Instr.makeSlice 68 (.int .i64 (m : Int)) (.int .i64 (m : Int))).run Try.prog w = .ok (.slice (some ⟨w.heap.size, 0, none⟩) m m) (w.alloc (.cells (fs (List.replicate m z81)).toArray 81)) := by
  have hi := info81
  cases hq : Try.prog.info? 81 with
  | none => rw [hq] at hi; cases hi
  | some i =>
    rw [hq] at hi; simp only [Option.map_some, Option.some.injEq, Prod.mk.injEq] at hi; have h := run_make (P := Try.prog) w 68 81 i _ Try.underlying68 hq hi.1 .i64 .i64 (m : Int) (m : Int) (by omega) (by omega) (by rw [hi.2.2]; omega) (by omega); rw [hi.2.1, Int.toNat_natCast, made60] at h; exact h
/-- Putting where there is room. -/
theorem put_no (W : World) (base p g : Nat) (S : List S81) (n used : Nat) (D : S50 → Option Int) (k : S50) (v : Int) (hk : Fit k) (hnb : n ≤ 1073741824) (h : TB W base p g S n used D) (hn : 4 * (used + 1) ≤ 3 * S.length) :
    Calls Try.prog 41 #[.pointer (some ⟨p, 0, none⟩), .agg #[.string k.f0, .string k.f1, .int .i64 k.f2], .int .i64 v] W fun e w' => (D k ≠ none ∧ e = .returned (.bool false) ∧ Put W w' base p g n D (fun L u => L = S.length ∧ u = used)) ∨ (D k = none ∧ e = .returned (.bool true) ∧ Put W w' base p g (n + 1) (upd D k (some v)) (fun L u => L = S.length ∧ u = used)) := by
  refine put_walk W base p g n D k v hk hnb _ ⟨S, used, h⟩ ?_; intro W1 hb; have h1 := h.below hb; refine (grow_no W1 base p g S n used D h1 hn).mono ?_; rintro e w' ⟨rfl, hb2⟩; exact ⟨rfl, Kp.of hb2 p g, g, S, used, Or.inl rfl, h1.below hb2, hn, rfl, rfl⟩
/-- The old places, and the new ones under way. -/
structure GL (W w : World) (base p g m : Nat) (S : List S81) (D : S50 → Option Int) (i g' : Nat) (S' : List S81) (u' : Nat) : Prop where
  kp : Kp W w p g
  old : w.heap[g]? = some (.cells (fs S).toArray 81 (0, 0))
  tb : TB w base p g' S' (cnt S i) u' (part S D i)
  hg : W.heap.size ≤ g'
  hm : S'.length = m
  hu : u' ≤ cnt S i
theorem GL.below {W w w' : World} {base p g m : Nat} {S : List S81} {D : S50 → Option Int} {i g' : Nat} {S' : List S81} {u' : Nat} (h : GL W w base p g m S D i g' S' u') (hb : Below w.heap.size w w') : GL W w' base p g m S D i g' S' u' :=
  ⟨h.kp.trans (Or.inl rfl) (Kp.of hb p g), blk_below h.old hb, h.tb.below hb, h.hg, h.hm, h.hu⟩
set_option maxHeartbeats 4000000 in
set_option maxRecDepth 100000 in
theorem grow (W : World) (base p g : Nat) (S : List S81) (n used : Nat) (D : S50 → Option Int) (h : TB W base p g S n used D) (hnb : n ≤ 1073741824) (hbase : base ≤ W.heap.size) :
    Calls Try.prog 44 #[.pointer (some ⟨p, 0, none⟩)] W fun e w' => e = .returned (.tuple #[]) ∧ Grown W w' base p g n D (fun _ _ => True) := by
  by_cases hn : 4 * (used + 1) ≤ 3 * S.length
  (refine (grow_no W base p g S n used D h hn).mono ?_; rintro e w' ⟨rfl, hb⟩; exact ⟨rfl, Kp.of hb p g, g, S, used, Or.inl rfl, h.below hb, hn, trivial⟩); have HT := Aside0.mk h; have HN := Aside0.mk hnb; have HBS := Aside0.mk hbase; have hp0 : W.cell? ⟨p, 0, none⟩ = some (.slice (some ⟨g, 0, none⟩) S.length S.length) := (zC h.tw.bp 0).trans rfl; have hp2 : W.cell? ⟨p, 2, none⟩ = some (.int .i64 (used : Int)) := (zC h.tw.bp 2).trans rfl; have hL := h.ok.len.2; have hU := h.ok.live_le
  have w1 : wrap64 ((used : Int) + 1) = (used : Int) + 1 := by unfold wrap64; omega
  have w2 : wrap64 (4 * ((used : Int) + 1)) = 4 * ((used : Int) + 1) := by unfold wrap64; omega
  have w3 : wrap64 (3 * (S.length : Int)) = 3 * (S.length : Int) := by unfold wrap64; omega
  have hd : decide (4 * ((used : Int) + 1) ≤ 3 * (S.length : Int)) = false := decide_eq_false (by omega); clear h hn hL hU hnb hbase
  go_enter Try.func44, Try.ntmps44
  go_upto_region 0 with (fail)
  refine start_ (n := 13) (S := (fun w' => w'.cell? ⟨p, 0, none⟩ = some (.slice (some ⟨g, 0, none⟩) S.length S.length) ∧ w'.cell? ⟨p, 2, none⟩ = some (.int .i64 (used : Int)))) (ds := []) #[F,F,F,F,F,F,F,F,F,F,F,F,F] (by kernel_rfl) rfl rfl ?_ ?_; (exact ⟨hp0, hp2⟩); intro hHeld; refine pure_ (i := 0) (N := some 6) (v := ?_) (a' := ?_) #[T,F,F,F,F,F,F,F,F,F,F,F,F] rfl rfl (by kernel_rfl) (fun _ _ _ h => h) (Or.inl ⟨by rfl, ?_⟩) ?_ ?_; rotate_left; (intro w'; go_simp; (with_reducible rfl)); rotate_left; (simp only [Act.put, zt, zu, zv, i64_w, i32_w]; rfl); refine pure_ (i := 1) (N := some 7) (v := ?_) (a' := ?_) #[T,T,F,F,F,F,F,F,F,F,F,F,F] rfl rfl (by kernel_rfl) (fun _ _ _ h => h) (Or.inl ⟨by rfl, ?_⟩) ?_ ?_; rotate_left; (intro w'; go_simp; (with_reducible rfl)); rotate_left; (simp only [Act.put, zt, zu, zv, i64_w, i32_w]; rfl); refine pure_ (i := 2) (N := some 8) (v := ?_) (a' := ?_) #[T,T,T,F,F,F,F,F,F,F,F,F,F] rfl rfl (by kernel_rfl) (fun _ _ _ h => h) (Or.inl ⟨by rfl, ?_⟩) ?_ ?_; rotate_left; (intro w'; go_simp; (with_reducible rfl)); rotate_left; (simp only [Act.put, zt, zu, zv, i64_w, i32_w]; rfl); refine pure_ (i := 6) (N := some 12) (v := ?_) (a' := ?_) #[T,T,T,F,F,F,T,F,F,F,F,F,F] rfl rfl (by kernel_rfl) (fun _ _ _ h => h) (Or.inl ⟨by rfl, ?_⟩) ?_ ?_; rotate_left; (intro w'; go_simp; (with_reducible rfl)); rotate_left; (simp only [Act.put, zt, zu, zv, i64_w, i32_w]; rfl); refine pure_ (i := 7) (N := some 13) (v := ?_) (a' := ?_) #[T,T,T,F,F,F,T,T,F,F,F,F,F] rfl rfl (by kernel_rfl) (fun _ _ _ h => h) (Or.inl ⟨by rfl, ?_⟩) ?_ ?_; rotate_left; (intro w'; go_simp; (with_reducible rfl)); rotate_left; (simp only [Act.put, zt, zu, zv, i64_w, i32_w]; rfl); refine pure_ (i := 8) (N := some 14) (v := ?_) (a' := ?_) #[T,T,T,F,F,F,T,T,T,F,F,F,F] rfl rfl (by kernel_rfl) (fun _ _ _ h => h) (Or.inl ⟨by rfl, ?_⟩) ?_ ?_; rotate_left; (intro w'; go_simp; (with_reducible rfl)); rotate_left; (simp only [Act.put, zt, zu, zv, i64_w, i32_w]; rfl); refine take_ (i := 3) (N := some 9) (v := ?_) (a' := ?_) #[T,T,T,T,F,F,T,T,T,F,F,F,F] rfl rfl (by kernel_rfl) (fun _ _ _ h => h) (Or.inl ⟨by rfl, ?_⟩) hHeld ?_ ?_; rotate_left; (rintro w' ⟨s0, s1⟩; go_simp; (with_reducible rfl)); rotate_left; (simp only [Act.put, zt, zu, zv, i64_w, i32_w]; rfl); refine pure_ (i := 4) (N := some 10) (v := ?_) (a' := ?_) #[T,T,T,T,T,F,T,T,T,F,F,F,F] rfl rfl (by kernel_rfl) (fun _ _ _ h => h) (Or.inl ⟨by rfl, ?_⟩) ?_ ?_; rotate_left; (intro w'; go_simp; (with_reducible rfl)); rotate_left; (simp only [Act.put, zt, zu, zv, i64_w, i32_w]; rfl); refine pure_ (i := 5) (N := some 11) (v := ?_) (a' := ?_) #[T,T,T,T,T,T,T,T,T,F,F,F,F] rfl rfl (by kernel_rfl) (fun _ _ _ h => h) (Or.inl ⟨by rfl, ?_⟩) ?_ ?_; rotate_left; (intro w'; go_simp; (with_reducible rfl)); rotate_left; (simp only [Act.put, zt, zu, zv, i64_w, i32_w]; rfl); refine take_ (i := 9) (N := some 15) (v := ?_) (a' := ?_) #[T,T,T,T,T,T,T,T,T,T,F,F,F] rfl rfl (by kernel_rfl) (fun _ _ _ h => h) (Or.inl ⟨by rfl, ?_⟩) hHeld ?_ ?_; rotate_left; (rintro w' ⟨s0, s1⟩; go_simp; (with_reducible rfl)); rotate_left; (simp only [Act.put, zt, zu, zv, i64_w, i32_w]; rfl); refine pure_ (i := 10) (N := some 16) (v := ?_) (a' := ?_) #[T,T,T,T,T,T,T,T,T,T,T,F,F] rfl rfl (by kernel_rfl) (fun _ _ _ h => h) (Or.inl ⟨by rfl, ?_⟩) ?_ ?_; rotate_left; (intro w'; go_simp; (with_reducible rfl)); rotate_left; (simp only [Act.put, zt, zu, zv, i64_w, i32_w]; rfl); refine pure_ (i := 11) (N := some 17) (v := ?_) (a' := ?_) #[T,T,T,T,T,T,T,T,T,T,T,T,F] rfl rfl (by kernel_rfl) (fun _ _ _ h => h) (Or.inl ⟨by rfl, ?_⟩) ?_ ?_; rotate_left; (intro w'; go_simp; (with_reducible rfl)); rotate_left; (simp only [Act.put, zt, zu, zv, i64_w, i32_w]; rfl); refine pure_ (i := 12) (N := some 18) (v := ?_) (a' := ?_) #[T,T,T,T,T,T,T,T,T,T,T,T,T] rfl rfl (by kernel_rfl) (fun _ _ _ h => h) (Or.inl ⟨by rfl, ?_⟩) ?_ ?_; rotate_left; (intro w'; go_simp; (with_reducible rfl)); rotate_left; (simp only [Act.put, zt, zu, zv, i64_w, i32_w]; rfl); refine done_ (by kernel_rfl) ?_; obtain ⟨W1, hW1⟩ : ∃ W1, W.drew = W1 := ⟨_, rfl⟩; rw [hW1]; have T1 := Aside0.mk (show TB W1 base p g S n used D from hW1 ▸ HT.out.below (Below.refl _ W).drew); have K1 := Aside0.mk (show Kp W W1 p g from hW1 ▸ Kp.of (Below.refl _ W).drew p g); have Z1 := Aside0.mk (show W1.heap.size = W.heap.size from hW1 ▸ rfl); clear hp0 hp2 hW1 w1 w2 w3 hd; have hp0 : W1.cell? ⟨p, 0, none⟩ = some (.slice (some ⟨g, 0, none⟩) S.length S.length) := (zC T1.out.tw.bp 0).trans rfl; have hp1 : W1.cell? ⟨p, 1, none⟩ = some (.int .i64 (n : Int)) := (zC T1.out.tw.bp 1).trans rfl
  have wn : wrap64 ((n : Int) + 1) = (n : Int) + 1 := by have := HN.out; unfold wrap64; omega
  have wn4 : wrap64 (4 * ((n : Int) + 1)) = 4 * ((n : Int) + 1) := by have := HN.out; unfold wrap64; omega
  go_wp2_with fail
  go_loopg [2] 37 (fun kq v2 W' => ∃ m : Nat, v2 = .int .i64 (m : Int) ∧ Aside0 (W' = W1) ∧ Aside0 (∃ e, m = 2 ^ e ∧ e + kq = 40))
  case atStart => exact ⟨8, rfl, ⟨rfl⟩, ⟨3, rfl, rfl⟩⟩
  case round =>
  obtain ⟨m, rfl, ⟨rfl⟩, HM⟩ := hrel; obtain ⟨e, he, hek⟩ := HM.out; have hm40 : Aside0 (m ≤ 1099511627776) := ⟨by rw [he]; exact Nat.le_trans (Nat.pow_le_pow_right (by decide) (show e ≤ 40 by omega)) (by decide)⟩
  by_cases hlt : (m : Int) < 4 * ((n : Int) + 1)
  · have hltb : decide ((m : Int) < 4 * ((n : Int) + 1)) = true := decide_eq_true hlt
    have hk : Aside0 (∃ k1, gk = k1 + 1) := ⟨by
      cases gk with
      | succ k => exact ⟨k, rfl⟩
      | zero =>
        have : e = 40 := by omega
        rw [this] at he; have := HN.out
        omega⟩
    have HE := Aside0.mk (And.intro he hek)
    clear hlt he hek HM
    go_wp2_with fail
    obtain ⟨k1, hk1⟩ := hk.out
    go_roundg k1
    case measure => omega
    case rel =>
      have hw : wrap64 ((m : Int) * 2) = ((m * 2 : Nat) : Int) := by have := hm40.out; unfold wrap64; omega
      exact ⟨m * 2, by rw [hw], ⟨rfl⟩, ⟨e + 1, by rw [HE.out.1, Nat.pow_succ], by have := HE.out.2; omega⟩⟩
  have hltb : decide ((m : Int) < 4 * ((n : Int) + 1)) = false := decide_eq_false hlt; have HM2 := Aside0.mk (show 4 * (n + 1) ≤ m ∧ ∃ e, m = 2 ^ e ∧ e ≤ 40 from ⟨by omega, e, he, by omega⟩); clear hlt he hek HM
  go_wp2_with fail
  rw [make60 wr m hm40.out]; simp only [Result.andThen]; rw [Oper.upon_value]; obtain ⟨g2, hg2⟩ : ∃ g2, wr.heap.size = g2 := ⟨_, rfl⟩; rw [hg2]; obtain ⟨W2, hW2⟩ : ∃ W2, wr.alloc (.cells (fs (List.replicate m z81)).toArray 81) = W2 := ⟨_, rfl⟩; rw [hW2]; have B2 := Aside0.mk (show Below wr.heap.size wr W2 from hW2 ▸ zA (Below.refl _ wr) _); have G2 := Aside0.mk (show W2.heap[g2]? = some (.cells (fs (List.replicate m z81)).toArray 81 (0, 0)) from by rw [← hW2, ← hg2]; exact heap_alloc_new wr _); have L2 := Aside0.mk (And.intro hg2 (blk_lt T1.out.tw.bp)); have P2 := Aside0.mk (blk_below T1.out.tw.bp B2.out); have Q2 := Aside0.mk (blk_below T1.out.tw.bg B2.out); clear hg2 hW2 hp0 hp1 wn wn4 hltb; have fz := zR P2.out 0; have hp0 : W2.cell? ⟨p, 0, none⟩ = some (.slice (some ⟨g, 0, none⟩) S.length S.length) := (zC P2.out 0).trans rfl; have hp1 : W2.cell? ⟨p, 1, none⟩ = some (.int .i64 (n : Int)) := (zC P2.out 1).trans rfl; have hp2 : W2.cell? ⟨p, 2, none⟩ = some (.int .i64 (used : Int)) := (zC P2.out 2).trans rfl; have fz1 := zR P2.out 1; have fz2 := zR P2.out 2
  go_wp2_with fail
  obtain ⟨W3, hW3⟩ : ∃ W3, ((W2.setCell ⟨p, 0, none⟩ (.slice (some ⟨g2, 0, none⟩) m m)).setCell ⟨p, 1, none⟩ (.int .i64 0)).setCell ⟨p, 2, none⟩ (.int .i64 0) = W3 := ⟨_, rfl⟩; rw [hW3]
  have hpg : p ≠ g2 := by have := L2.out.1; have := L2.out.2; omega
  have GS := Aside0.mk (show GL W W3 base p g m S D 0 g2 (List.replicate m z81) 0 from by
    have k2 := K1.out.trans (Or.inl rfl) (Kp.of B2.out p g); refine ⟨?_, ?_, ⟨⟨?_, ?_, T1.out.tw.hp, ?_⟩, ?_, by omega⟩, ?_, List.length_replicate, by rw [cnt_zero]; exact Nat.le_refl _⟩; (rw [← hW3]; exact ((k2.trans (Or.inl rfl) (Kp.set _ _ (Or.inl rfl))).trans (Or.inl rfl) (Kp.set _ _ (Or.inl rfl))).trans (Or.inl rfl) (Kp.set _ _ (Or.inl rfl))); (rw [← hW3]; exact zG (zG (zG Q2.out (p := ⟨p, 0, none⟩) (Ne.symm T1.out.ne) _) (p := ⟨p, 1, none⟩) (Ne.symm T1.out.ne) _) (p := ⟨p, 2, none⟩) (Ne.symm T1.out.ne) _); (rw [← hW3, List.length_replicate, cnt_zero]; exact zP (zP (zP P2.out 0 _ rfl) 1 _ rfl) 2 _ rfl); (rw [← hW3]; exact zG (zG (zG G2.out (p := ⟨p, 0, none⟩) (Ne.symm hpg) _) (p := ⟨p, 1, none⟩) (Ne.symm hpg) _) (p := ⟨p, 2, none⟩) (Ne.symm hpg) _); (have := HBS.out; have := K1.out.size; have := L2.out.1; omega); (rw [part_zero, cnt_zero]; exact OK.fresh m HM2.out.2)
    · have := K1.out.size; have := L2.out.1; omega)
  have HS := Aside0.mk (And.intro T1.out.ok.hl (And.intro (blk_lt HT.out.tw.bg) T1.out.ne)); have OKS := Aside0.mk T1.out.ok; have SL := Aside0.mk T1.out.ok.len.2; clear fz fz1 fz2 hp0 hp1 hp2 hW3 hpg B2 G2 L2 P2 Q2 T1 K1 Z1
  go_loopg [46] S.length (fun kq v46 w => ∃ i g' S' u', v46 = .int .i64 ((i : Nat) : Int) ∧ Aside0 (i + kq = S.length) ∧ Aside0 (GL W w base p g m S D i g' S' u'))
  case atStart => exact ⟨0, g2, _, 0, rfl, ⟨by omega⟩, GS⟩
  case round =>
  clear GS; obtain ⟨i, g', S', u', rfl, HI, GLi⟩ := hrel
  cases gk with
  | zero =>
    have hlt : decide ((i : Int) < (S.length : Int)) = false := decide_eq_false (by have := HI.out; omega)
    have hlt2 : ¬ i < S.length := by have := HI.out; omega
    go_wp2_with fail
    refine bodyPost_end (results_none rfl _ _ _) rfl ?_
    have hi : i = S.length := by have := HI.out; omega
    subst hi; have hc := cnt_all S; rw [← HS.out.1] at hc; have ht := GLi.out.tb; have hu := GLi.out.hu; rw [part_all OKS.out, hc] at ht; rw [hc] at hu; exact ⟨rfl, GLi.out.kp, g', S', u', Or.inr GLi.out.hg, ht, by rw [GLi.out.hm]; have := HM2.out.1; omega, trivial⟩
  | succ k1 =>
    have hlt : i < S.length := by have := HI.out; omega
    have HIL := Aside0.mk hlt; obtain ⟨x, hx⟩ : ∃ x, at60 S i = x := ⟨_, rfl⟩; have HX := Aside0.mk hx
    have old : ∀ j, j < 5 → wr.cell? ⟨g, i * 5 + j, none⟩ = [Value.int .i64 x.f0, .string x.f1.f0, .string x.f1.f1, .int .i64 x.f1.f2, .int .i64 x.f2][j]? := by
      intro j hj; rw [zC GLi.out.old, ← hx, at60_eq S i hlt, ← fs_at S i hlt j hj]; simp
    have t0 : wr.cell? ⟨g, i * 5, none⟩ = some (.int .i64 x.f0) := old 0 (by omega); have t1 : wr.cell? ⟨g, i * 5 + 1, none⟩ = some (.string x.f1.f0) := old 1 (by omega); have t2 : wr.cell? ⟨g, i * 5 + 2, none⟩ = some (.string x.f1.f1) := old 2 (by omega); have t3 : wr.cell? ⟨g, i * 5 + 3, none⟩ = some (.int .i64 x.f1.f2) := old 3 (by omega); have t4 : wr.cell? ⟨g, i * 5 + 4, none⟩ = some (.int .i64 x.f2) := old 4 (by omega); clear old hx; have hwi : Aside0 (wrap64 ((i : Int) + 1) = ((i + 1 : Nat) : Int)) := ⟨by have := SL.out; have := HIL.out; unfold wrap64; omega⟩
    by_cases s1 : x.f0 = 1
    · have s1b : (x.f0 == 1) = true := by simp [s1]
      have H1 := Aside0.mk s1
      clear s1
      have PN := Aside0.mk (part_step OKS.out i HIL.out (by rw [HX.out]; exact H1.out))
      have CN := Aside0.mk (show cnt S (i + 1) = cnt S i + 1 from by rw [cnt_step S i HIL.out, if_pos (by rw [HX.out]; exact H1.out)])
      have RM := Aside0.mk (show 4 * (u' + 1) ≤ 3 * S'.length ∧ cnt S i ≤ 1073741824 from by
        have h1 := cnt_le S (i + 1); have h2 := HS.out.1; have h3 := CN.out; have h4 := GLi.out.hu; have h5 := HM2.out.1; have h6 := HN.out; rw [GLi.out.hm]
        omega)
      have HP := Aside0.mk (fun (w : World) (hb : Below wr.heap.size wr w) => put_no w base p g' S' (cnt S i) u' (part S D i) x.f1 x.f2 (HX.out ▸ OKS.out.sz i HIL.out (by rw [HX.out]; exact H1.out)) RM.out.2 (GLi.out.tb.below hb) RM.out.1)
      go_wp2_with (go_at_call 41; refine (HP.out _ (zA (Below.refl _ wr) _)).mono ?_; rintro e w' (⟨hno, rfl, hput⟩ | ⟨hyes, rfl, hput⟩); exact absurd (HX.out ▸ PN.out.1) hno; have PT := Aside0.mk hput; clear hput hyes)
      go_roundg k1
      case measure => omega
      case rel =>
        obtain ⟨kp, g'', S'', u'', hgg, tb, u, ⟨hl, hu⟩, hu2⟩ := PT.out; have hg := GLi.out.below (zA (Below.refl _ wr) (.cells #[.int .i64 x.f0, .string x.f1.f0, .string x.f1.f1, .int .i64 x.f1.f2, .int .i64 x.f2] 81)); have hgw := HS.out.2; refine ⟨i + 1, g'', S'', u'', by rw [hwi.out], ⟨by have := HI.out; omega⟩, ⟨⟨hg.kp.trans (Or.inr hg.hg) kp, ?_, ?_, ?_, hl.trans hg.hm, ?_⟩⟩⟩; (refine (kp.block g (blk_lt hg.old) (Ne.symm hgw.2) ?_).trans hg.old; have := hg.hg; have := hgw.1; omega); (rw [CN.out, PN.out.2, HX.out]; exact tb)
        · have := hg.hg
          have := hg.kp.size
          rcases hgg with e | e <;> omega
        · have := hg.hu
          have := CN.out; omega
    · have s1b : (x.f0 == 1) = false := by simp [s1]
      have H1 := Aside0.mk s1
      clear s1
      go_wp2_with fail
      go_roundg k1
      case measure => omega
      case rel =>
        have hc : cnt S (i + 1) = cnt S i := by rw [cnt_step S i HIL.out, if_neg (by rw [HX.out]; exact H1.out)]; rfl
        have hp : part S D (i + 1) = part S D i := part_skip S D i (by rw [HX.out]; exact H1.out); have hg := GLi.out.below (zA (Below.refl _ wr) (.cells #[.int .i64 x.f0, .string x.f1.f0, .string x.f1.f1, .int .i64 x.f1.f2, .int .i64 x.f2] 81)); exact ⟨i + 1, g', S', u', by rw [hwi.out], ⟨by have := HI.out; omega⟩, ⟨⟨hg.kp, hg.old, by rw [hc, hp]; exact hg.tb, hg.hg, hg.hm, by rw [hc]; exact hg.hu⟩⟩⟩
/-- An index in memory: a map from labels to numbers, of n labels. -/
def IX (W : World) (base p n : Nat) (D : S50 → Option Int) : Prop := ∃ g S used, TB W base p g S n used D
theorem IX.below {W W' : World} {base p n : Nat} {D : S50 → Option Int} (h : IX W base p n D) (hb : Below W.heap.size W W') : IX W' base p n D := by
  obtain ⟨g, S, used, h⟩ := h; exact ⟨g, S, used, h.below hb⟩
theorem put (W : World) (base p n : Nat) (D : S50 → Option Int) (k : S50) (v : Int) (hk : Fit k) (hnb : n ≤ 1073741824) (hbase : base ≤ W.heap.size) (h : IX W base p n D) :
    Calls Try.prog 41 #[.pointer (some ⟨p, 0, none⟩), .agg #[.string k.f0, .string k.f1, .int .i64 k.f2], .int .i64 v] W fun e w' => Below base W w' ∧ ((D k ≠ none ∧ e = .returned (.bool false) ∧ IX w' base p n D) ∨ (D k = none ∧ e = .returned (.bool true) ∧ IX w' base p (n + 1) (upd D k (some v)))) := by
  obtain ⟨g, S, used, ht⟩ := h; refine (put_walk W base p g n D k v hk hnb (fun _ _ => True) ⟨S, used, ht⟩ ?_).mono ?_; (intro W1 hb; exact grow W1 base p g S n used D (ht.below hb) hnb (Nat.le_trans hbase hb.size))
  · rintro e w' (⟨h1, rfl, kp, g', S', used', hgg, tb, _⟩ | ⟨h1, rfl, kp, g', S', used', hgg, tb, _⟩)
    · exact ⟨kp.below ht.tw.hp ht.tw.hg hbase, Or.inl ⟨h1, rfl, g', S', used', tb⟩⟩
    · exact ⟨kp.below ht.tw.hp ht.tw.hg hbase, Or.inr ⟨h1, rfl, g', S', used', tb⟩⟩
set_option maxHeartbeats 4000000 in
set_option maxRecDepth 100000 in
theorem get (W : World) (base p n : Nat) (D : S50 → Option Int) (k : S50) (hk : Fit k) (h : IX W base p n D) :
    Calls Try.prog 36 #[.pointer (some ⟨p, 0, none⟩), .agg #[.string k.f0, .string k.f1, .int .i64 k.f2]] W fun e w' => Below W.heap.size W w' ∧ e = .returned (.tuple #[.int .i64 ((D k).getD 0), .bool (D k).isSome]) := by
  obtain ⟨g, S, used, ht⟩ := h; have HK := Aside0.mk hk; have HT := Aside0.mk ht; have hp1 : W.cell? ⟨p, 1, none⟩ = some (.int .i64 (n : Int)) := (zC ht.tw.bp 1).trans rfl; obtain ⟨f, j, b, hplc, hjl, hcase⟩ := ht.ok.place2 ht.le k; have PL := Aside0.mk hplc; have JL := Aside0.mk hjl; have CA := Aside0.mk hcase; clear hk ht hplc hjl hcase
  by_cases hn : n = 0
  · have H0 := Aside0.mk (show D k = none from by have := HT.out.ok; rw [hn] at this; rw [this.zero])
    have hnb : ((n : Int) == 0) = true := by simp [hn]
    clear hn
    go_enter Try.func36, Try.ntmps36
    go_wp2_with ((with_reducible refine gd (N := 3) rfl ?_); refine zb ?hg (N := 3) ?hd (cs := #[.string k.f0, .string k.f1, .int .i64 k.f2]) (t := 50) ?hr ?_; (case hd => rfl); (case hg => rfl); (case hr => go_simp; first | done | rfl); intro gb hg w1 hbox hb; have G1 := Aside0.mk hg; have B1 := Aside0.mk hb; have hp1 : w1.cell? ⟨p, 1, none⟩ = some (.int .i64 (n : Int)) := (zC (HT.out.below hb).tw.bp 1).trans rfl; clear hbox hb hg)
    go_ret2
    exact ⟨B1.out, by rw [H0.out]; rfl⟩
  · have hnb : ((n : Int) == 0) = false := by simp [hn]
    clear hn
    go_enter Try.func36, Try.ntmps36
    go_upto_region 4 with (first | ((with_reducible refine gd (N := 3) rfl ?_); refine zb ?hg (N := 3) ?hd (cs := #[.string k.f0, .string k.f1, .int .i64 k.f2]) (t := 50) ?hr ?_; (case hd => rfl); (case hg => rfl); (case hr => go_simp; first | done | rfl); intro gb hg w1 hbox hb; have G1 := Aside0.mk hg; have B1 := Aside0.mk hb; have X1 := Aside0.mk hbox; have hp1 : w1.cell? ⟨p, 1, none⟩ = some (.int .i64 (n : Int)) := (zC (HT.out.below hb).tw.bp 1).trans rfl; have c0 : w1.cell? ⟨gb, 0, none⟩ = some (.string k.f0) := (zC hbox 0).trans rfl; have c1 : w1.cell? ⟨gb, 1, none⟩ = some (.string k.f1) := (zC hbox 1).trans rfl; have c2 : w1.cell? ⟨gb, 2, none⟩ = some (.int .i64 k.f2) := (zC hbox 2).trans rfl; clear hbox hb hg) | (go_at_call 42; refine (place f w1 base p g S n used k _ _ (HT.out.below B1.out).tw HT.out.ok.pw.choose_spec.1 HT.out.ok.pw.choose_spec.2 PL.out HK.out.1 HK.out.2).mono ?_; rintro e w3 ⟨rfl, hb3⟩; have B3 := Aside0.mk (B1.out.trans (hb3.mono B1.out.size)); clear hb3))
    have T3 := Aside0.mk (HT.out.below B3.out)
    clear hp1 c0 c1 c2 X1 B1
    rcases CA.out with ⟨rfl, q1, q2⟩ | ⟨rfl, q1, q2, q3⟩
    · have Q := Aside0.mk (HT.out.ok.some_of JL.out q1 q2)
      have hp0 : w3.cell? ⟨p, 0, none⟩ = some (.slice (some ⟨g, 0, none⟩) S.length S.length) := (zC T3.out.tw.bp 0).trans rfl
      obtain ⟨s0, hs0⟩ : ∃ s0, (at60 S j).f2 = s0 := ⟨_, rfl⟩
      have t0 : w3.cell? ⟨g, j * 5 + 4, none⟩ = some (.int .i64 s0) := hs0 ▸ T3.out.tw.cell j JL.out 4 (by omega)
      have hjn := JL.out
      have HS := Aside0.mk hs0
      clear q1 q2 CA hs0
      go_wp2_with fail
      go_ret2
      exact ⟨B3.out, by rw [Q.out, HS.out]; rfl⟩
    · have Q := Aside0.mk (HT.out.ok.none_of q2)
      clear q1 q2 q3 CA
      go_wp2_with fail
      go_ret2
      exact ⟨B3.out, by rw [Q.out]; rfl⟩
end Go.Proofs.Ytpekchebllobmaa.G
