/- What the claim LawAttrsNorm rests on, part 1 of 5: the kit's words, the printed walks, the walks by hand, the plain laws. -/
import Derived.Test.YtnellpilmjjbcaaB0
import Derived.Lib.Strings
import Derived.Lib.Slices
import Derived.Lib.Walk
import Derived.Lib.Bytealg
import Derived.Laws.CopyRow
import Derived.Laws.CopyOwn
import Derived.WalkMore
import Derived.Laws.EntriesVeiled
namespace Go.Proofs.Ytnellpilmjjbcaa.G
open List renaming setIfInBounds_toArray → zt, set_cons_zero → zu, set_cons_succ → zv
open Bool renaming true → T, false → F
open Go.RowKit Go.Proofs.YtnellpilmjjbcaaW.PrintWords Go.Proofs.YtnellpilmjjbcaaW.PrintLast Go.Proofs.YtnellpilmjjbcaaW.PrintMore
attribute [local go_sem] max2_int min2_int max_two min_two max_three min_three max_four min_four
set_option linter.unusedVariables false
set_option linter.unusedSimpArgs false
mutual
def r09_With.j1 : Nat → List (S45) → ByteArray → ByteArray → Int → Int → Option ((List (S45)))
 | 0, _, _, _, _, _ => none
 | k + 1, x0, x1, x2, x7, x8 => r09_With.l1 k x0 x1 x2 x7 x8 ([] : List (S45)) (x0.length : Int) 0
def r09_With.l1 : Nat → List (S45) → ByteArray → ByteArray → Int → Int → List (S45) → Int → Int → Option ((List (S45)))
 | 0, _, _, _, _, _, _, _, _ => none
 | k + 1, x0, x1, x2, x7, x8, x9, x32, x33 => if x33 < x32 then (if x7 < 0 then (r09_With.j3 k x0 x1 x2 x7 x8 x9 x33 x32 x33 (x33 == x8)) else (r09_With.j3 k x0 x1 x2 x7 x8 x9 x33 x32 x33 false)) else (if x7 < 0 then (if x8 = (x0.length : Int) then (if x9.length < 4398046511104 then (some (x9 ++ [(⟨x1, x2⟩ : S45)])) else (none)) else (some x9)) else (some x9))
def r09_With.j3 : Nat → List (S45) → ByteArray → ByteArray → Int → Int → List (S45) → Int → Int → Int → Bool → Option ((List (S45)))
 | 0, _, _, _, _, _, _, _, _, _, _ => none
 | k + 1, x0, x1, x2, x7, x8, x9, x10, x32, x33, x42 => if x42 = true then (if x9.length < 4398046511104 then ((some (x9 ++ [(⟨x1, x2⟩ : S45)] : List (S45))).bind fun y162 => (if 0 ≤ x10 then (if x10 < (x0.length : Int) then (if x10 = x7 then (if y162.length < 4398046511104 then (r09_With.l1 k x0 x1 x2 x7 x8 (y162 ++ [(⟨(rd_T45 x0 x10).f0, x2⟩ : S45)]) x32 (wrap64 (x33 + 1))) else (none)) else (if y162.length < 4398046511104 then (r09_With.l1 k x0 x1 x2 x7 x8 (y162 ++ [(⟨(rd_T45 x0 x10).f0, (rd_T45 x0 x10).f1⟩ : S45)]) x32 (wrap64 (x33 + 1))) else (none))) else (none)) else (none))) else (none)) else (if 0 ≤ x10 then (if x10 < (x0.length : Int) then (if x10 = x7 then (if x9.length < 4398046511104 then (r09_With.l1 k x0 x1 x2 x7 x8 (x9 ++ [(⟨(rd_T45 x0 x10).f0, x2⟩ : S45)]) x32 (wrap64 (x33 + 1))) else (none)) else (if x9.length < 4398046511104 then (r09_With.l1 k x0 x1 x2 x7 x8 (x9 ++ [(⟨(rd_T45 x0 x10).f0, (rd_T45 x0 x10).f1⟩ : S45)]) x32 (wrap64 (x33 + 1))) else (none))) else (none)) else (none))
def r09_With.l0 : Nat → List (S45) → ByteArray → ByteArray → Int → Int → Option ((List (S45)))
 | 0, _, _, _, _, _ => none
 | k + 1, x0, x1, x2, x7, x8 => if x8 < (x0.length : Int) then (if 0 ≤ x8 then ((r02_Compare.f k ((rd_T45 x0 x8).f0) x1).bind fun t158 => (if t158 ≤ 0 then (r09_With.l0 k x0 x1 x2 x7 (wrap64 (x8 + 1))) else (r09_With.j1 k x0 x1 x2 x7 x8))) else (none)) else (r09_With.j1 k x0 x1 x2 x7 x8)
end
def r09_With.f (k : Nat) (l0 : List (S45)) (a1 : ByteArray) (a2 : ByteArray) : Option ((List (S45))) := (r09_Find.f k l0 a1).bind fun t156 => (r09_With.l0 k l0 a1 a2 t156 0)
set_option maxHeartbeats 8000000 in
set_option maxRecDepth 100000 in
theorem r09_With.calls (k : Nat) (A0 : Option Addr) (c0 : Nat) (l0 : List (S45)) (a1 : ByteArray) (a2 : ByteArray) (r : List (S45)) (w : World) (hr0 : Kd.C k45 w A0 l0.length l0) (hc0 : l0.length ≤ c0) (h : r09_With.f k l0 a1 a2 = some r) :
  Calls Try.prog 17 #[.slice A0 l0.length c0, .string a1, .string a2] w fun e w' => ∃ v0_ : Value, e = .returned (v0_) ∧ Kd.R k45 45 w' w.heap.size (fun _ => True) v0_ r ∧ Below w.heap.size w w' := by
 have hu45 := Try.underlying45
 have HR0 := zk hr0
 have HC0 := zk hc0
 clear hr0 hc0
 have HB := zk (Below.refl w.heap.size w)
 have H : ((r09_Find.f k l0 a1).bind fun t156 => (r09_With.l0 k l0 a1 a2 t156 0)) = some r := h
 clear h
 replace H := Option.bind_eq_some_iff.mp H
 obtain ⟨t156, A40, H⟩ := H
 replace H : (r09_With.l0 k l0 a1 a2 t156 0) = some r := H
 have A4 := zk A40
 clear A40
 have HC5 := zk H
 clear H
 go_enter Try.func17, Try.ntmps17
 go_upto_block 0 with (first | ((with_reducible refine zgk (f := 27) rfl ?_); refine zgl (some 14) rfl rfl Try.func27 (by kernel_rfl) rfl #[.slice A0 l0.length c0, .string a1] rfl (by (try simp only [List.map_toArray, List.map_cons, List.map_nil]); first | done | rfl | (simp only [List.length_drop, List.length_take]; rfl)) ?_; (with_reducible refine (r09_Find.calls k _ _ l0 a1 t156 _ ?side1 ?side2 A4.out).mono ?_); (case side1 => repeat (first | exact HR0.out | (with_reducible refine Kd.C_alloc ?_ _) | (with_reducible refine Kd.C_drewN ?_ _) | (with_reducible refine Kd.C_drew ?_))); (case side2 => exact HC0.out); rintro e w' ⟨rfl, ⟨nd, rfl⟩⟩; refine ⟨_, rfl, ?_⟩))
 (try simp only [Act.put, zt, zu, zv])
 go_cut [8] (fun v8 wc => ∃ (kq : Nat) (x8_4 : Int), v8 = .int .i64 x8_4 ∧ Aside0 (r09_With.j1 kq l0 a1 a2 t156 x8_4 = some r) ∧ Aside0 (kq ≤ k) ∧ Aside0 (Below w.heap.size w wc))
 case first =>
  have H := HC5.out; clear HC5; have H' := zk H; clear H; go_wp2
  go_loopg [8] k (fun kq v8 w' => ∃ (x8_1 : Int), v8 = .int .i64 x8_1 ∧ Aside0 (r09_With.l0 kq l0 a1 a2 t156 x8_1 = some r) ∧ Aside0 (kq ≤ k) ∧ Aside0 (Below w.heap.size w w'))
  case atStart => exact ⟨(0), (by first | rfl | (simp; done) | (simp [*]; done)), H', ⟨Nat.le_refl _⟩, ⟨by with_reducible repeat first | exact HB.out | apply zA | apply zN | apply zD⟩⟩
  case round =>
   clear H'; (try clear c1); (try clear c2); (try clear p2); obtain ⟨x8_1, rfl, HA, HK1, HB⟩ := hrel
   cases gk with
   | zero => exact absurd HA.out (by simp [r09_With.l0])
   | succ k1 =>
    have H := HA.out; clear HA; simp only [r09_With.l0] at H
    by_cases c6 : x8_1 < (l0.length : Int)
    ·
     rw [if_pos c6] at H; have c6b0 := decide_eq_true c6; clear c6
     (first | rw [c6b0] | (simp only [i64_w, i32_w]; rw [c6b0]) | skip)
     by_cases c7 : 0 ≤ x8_1
     ·
      rw [if_pos c7] at H; have c7b0 := decide_eq_true c7; clear c7; replace H := Option.bind_eq_some_iff.mp H; obtain ⟨t158, A80, H⟩ := H; replace H : (if t158 ≤ 0 then (r09_With.l0 k1 l0 a1 a2 t156 (wrap64 (x8_1 + 1))) else (r09_With.j1 k1 l0 a1 a2 t156 x8_1)) = some r := H; have A8 := zk A80; clear A80
      by_cases c9 : t158 ≤ 0
      ·
       rw [if_pos c9] at H; have c9b0 := decide_eq_true c9; clear c9; have H' := zk H; clear H; have p157 : 0 ≤ (x8_1 : Int) := zo (by assumption); have q157 : x8_1 < (l0.length : Int) := zo (by assumption); obtain ⟨ad157, e157, hx157_0, hx157_1⟩ := at_T45 HR0.out x8_1 p157 q157; cases e157; replace hx157_0 := zB HB hx157_0; replace hx157_1 := zB HB hx157_1; replace p157 := eq_true p157; replace q157 := eq_true q157
       go_wp2_with (first | (go_at_call 25; (with_reducible refine (r02_Compare.calls k1 ((rd_T45 l0 x8_1).f0) a1 t158 _ A8.out).mono ?_); rintro e w' ⟨rfl, ⟨nd, rfl⟩⟩))
       go_roundg k1
       case measure => have := HK1.out; omega
       case rel => exact ⟨(wrap64 (x8_1 + 1)), (by first | rfl | (simp; done) | (simp [*]; done)), H', ⟨by have := HK1.out; omega⟩, ⟨by with_reducible repeat first | exact HB.out | apply zA | apply zN | apply zD⟩⟩
      ·
       rw [if_neg c9] at H; have c9b0 := decide_eq_false c9; clear c9; have H' := zk H; clear H; have p157 : 0 ≤ (x8_1 : Int) := zo (by assumption); have q157 : x8_1 < (l0.length : Int) := zo (by assumption); obtain ⟨ad157, e157, hx157_0, hx157_1⟩ := at_T45 HR0.out x8_1 p157 q157; cases e157; replace hx157_0 := zB HB hx157_0; replace hx157_1 := zB HB hx157_1; replace p157 := eq_true p157; replace q157 := eq_true q157
       go_wp2_with (first | (go_at_call 25; (with_reducible refine (r02_Compare.calls k1 ((rd_T45 l0 x8_1).f0) a1 t158 _ A8.out).mono ?_); rintro e w' ⟨rfl, ⟨nd, rfl⟩⟩))
       go_meet
       case rel => exact ⟨_, (x8_1), (by first | rfl | (simp; done) | (simp [*]; done)), H', ⟨by have := HK1.out; first | omega | exact Nat.le_refl _⟩, ⟨by with_reducible repeat first | exact HB.out | apply zA | apply zN | apply zD⟩⟩
     ·
      rw [if_neg c7] at H; exact absurd H (by simp)
    ·
     rw [if_neg c6] at H; have c6b0 := decide_eq_false c6; clear c6
     (first | rw [c6b0] | (simp only [i64_w, i32_w]; rw [c6b0]) | skip)
     have H' := zk H; clear H; go_wp2
     go_meet
     case rel => exact ⟨_, (x8_1), (by first | rfl | (simp; done) | (simp [*]; done)), H', ⟨by have := HK1.out; first | omega | exact Nat.le_refl _⟩, ⟨by with_reducible repeat first | exact HB.out | apply zA | apply zN | apply zD⟩⟩
 case rest =>
  clear HC5; (try clear c1); (try clear p1); (try clear q1); (try clear hx1); (try clear c2); (try clear p2); (try clear c6); (try clear c6b0); (try clear p6); (try clear c7); (try clear c7b0); (try clear c9); (try clear c9b0); (try clear hx157_0); (try clear hx157_1); (try clear p157); (try clear p2); (try clear q157); obtain ⟨kq, x8_4, rfl, HA, HJ4, HB⟩ := hcut
  cases kq with
  | zero => exact absurd HA.out (by simp [r09_With.j1])
  | succ kj4 =>
   have H := HA.out; clear HA; simp only [r09_With.j1] at H; have H' := zk H; clear H; go_wp2
   go_loopg [9, 33] kj4 (fun kq v9 v33 w' => ∃ (x9_2 : List (S45)) (x33_2 : Int), v33 = .int .i64 x33_2 ∧ Aside0 (r09_With.l1 kq l0 a1 a2 t156 x8_4 x9_2 (l0.length : Int) x33_2 = some r) ∧ Aside0 (kq ≤ kj4) ∧ Aside0 (Kd.R k45 45 w' w.heap.size (fun _ => True) v9 x9_2) ∧ Aside0 (Below w.heap.size w w'))
   case atStart => exact ⟨(([] : List (S45))), (0), (by first | rfl | (simp; done) | (simp [*]; done)), H', ⟨Nat.le_refl _⟩, ⟨by first | exact Kd.R_nil _ _ _ _ _ | exact Kd.N_nil _ _ _ _ _ | exact Kd.V_nil _ _ _ _ _ | exact Kd.Q_nil _ _ _ _ _ | exact Kd.S_nil _ _ _ _ _⟩, ⟨by with_reducible repeat first | exact HB.out | apply zA | apply zN | apply zD⟩⟩
   case round =>
    clear H'; (try clear c1); (try clear p1); (try clear q1); (try clear hx1); (try clear c2); (try clear p2); (try clear c6); (try clear c6b0); (try clear p6); (try clear c7); (try clear c7b0); (try clear c9); (try clear c9b0); (try clear hx157_0); (try clear hx157_1); (try clear p1); (try clear p157); (try clear p2); (try clear p6); (try clear q1); (try clear q157); obtain ⟨x9_2, x33_2, rfl, HA, HK2, HO_9, HB⟩ := hrel
    cases gk with
    | zero => exact absurd HA.out (by simp [r09_With.l1])
    | succ k2 =>
     have H := HA.out; clear HA; simp only [r09_With.l1] at H
     by_cases c10 : x33_2 < (l0.length : Int)
     ·
      rw [if_pos c10] at H; have c10b0 := decide_eq_true c10; clear c10; have HC11 := zk H; clear H
      go_upto_region 9 with (fail)
      go_cut [42] (fun v42 wc => ∃ (kq : Nat) (x42_10 : Bool), v42 = .bool x42_10 ∧ Aside0 (r09_With.j3 kq l0 a1 a2 t156 x8_4 x9_2 x33_2 (l0.length : Int) x33_2 x42_10 = some r) ∧ Aside0 (kq ≤ k2) ∧ Aside0 (Kd.R k45 45 wc w.heap.size (fun _ => True) u9 x9_2) ∧ Aside0 (Below w.heap.size w wc))
      case first =>
       have H := HC11.out; clear HC11
       by_cases c12 : t156 < 0
       ·
        rw [if_pos c12] at H; have c12b0 := decide_eq_true c12; clear c12
        (first | rw [c12b0] | (simp only [i64_w, i32_w]; rw [c12b0]) | skip)
        have H' := zk H; clear H; go_wp2
        go_meet
        case rel => exact ⟨_, ((x33_2 == x8_4)), (by first | rfl | (simp; done) | (simp [*]; done)), H', ⟨by have := HJ4.out; have := HK2.out; first | omega | exact Nat.le_refl _⟩, ⟨by (with_reducible repeat (first | apply Kd.R_alloc | apply Kd.R_drewN | apply Kd.R_drew)); exact HO_9.out⟩, ⟨by with_reducible repeat first | exact HB.out | apply zA | apply zN | apply zD⟩⟩
       ·
        rw [if_neg c12] at H; have c12b0 := decide_eq_false c12; clear c12
        (first | rw [c12b0] | (simp only [i64_w, i32_w]; rw [c12b0]) | skip)
        have H' := zk H; clear H; go_wp2
        go_meet
        case rel => exact ⟨_, (false), (by first | rfl | (simp; done) | (simp [*]; done)), H', ⟨by have := HJ4.out; have := HK2.out; first | omega | exact Nat.le_refl _⟩, ⟨by (with_reducible repeat (first | apply Kd.R_alloc | apply Kd.R_drewN | apply Kd.R_drew)); exact HO_9.out⟩, ⟨by with_reducible repeat first | exact HB.out | apply zA | apply zN | apply zD⟩⟩
      case rest =>
       clear HC11; (try clear c1); (try clear p1); (try clear q1); (try clear hx1); (try clear c2); (try clear p2); (try clear c6); (try clear c6b0); (try clear p6); (try clear c7); (try clear c7b0); (try clear c9); (try clear c9b0); (try clear c10); (try clear c10b0); (try clear c12); (try clear c12b0); (try clear hx157_0); (try clear hx157_1); (try clear p1); (try clear p157); (try clear p2); (try clear p6); (try clear q1); (try clear q157); obtain ⟨kq, x42_10, rfl, HA, HJ10, HO_9, HB⟩ := hcut
       cases kq with
       | zero => exact absurd HA.out (by simp [r09_With.j3])
       | succ kj10 =>
        have H := HA.out; clear HA; simp only [r09_With.j3] at H
        by_cases c13 : x42_10 = true
        ·
         subst c13
         have H1 : (if x9_2.length < 4398046511104 then ((some (x9_2 ++ [(⟨a1, a2⟩ : S45)] : List (S45))).bind fun y162 => (if 0 ≤ x33_2 then (if x33_2 < (l0.length : Int) then (if x33_2 = t156 then (if y162.length < 4398046511104 then (r09_With.l1 kj10 l0 a1 a2 t156 x8_4 (y162 ++ [(⟨(rd_T45 l0 x33_2).f0, a2⟩ : S45)]) (l0.length : Int) (wrap64 (x33_2 + 1))) else (none)) else (if y162.length < 4398046511104 then (r09_With.l1 kj10 l0 a1 a2 t156 x8_4 (y162 ++ [(⟨(rd_T45 l0 x33_2).f0, (rd_T45 l0 x33_2).f1⟩ : S45)]) (l0.length : Int) (wrap64 (x33_2 + 1))) else (none))) else (none)) else (none))) else (none)) = some r := by rw [if_pos rfl] at H; exact H
         clear H; have H := H1; clear H1
         by_cases c14 : x9_2.length < 4398046511104
         ·
          rw [if_pos c14] at H; have LMc14 := zk c14; clear c14; obtain ⟨y162, hy162⟩ : ∃ y_ : List (S45), y_ = (x9_2 ++ [(⟨a1, a2⟩ : S45)]) := ⟨_, rfl⟩
          replace H : (if 0 ≤ x33_2 then (if x33_2 < (l0.length : Int) then (if x33_2 = t156 then (if y162.length < 4398046511104 then (r09_With.l1 kj10 l0 a1 a2 t156 x8_4 (y162 ++ [(⟨(rd_T45 l0 x33_2).f0, a2⟩ : S45)]) (l0.length : Int) (wrap64 (x33_2 + 1))) else (none)) else (if y162.length < 4398046511104 then (r09_With.l1 kj10 l0 a1 a2 t156 x8_4 (y162 ++ [(⟨(rd_T45 l0 x33_2).f0, (rd_T45 l0 x33_2).f1⟩ : S45)]) (l0.length : Int) (wrap64 (x33_2 + 1))) else (none))) else (none)) else (none)) = some r := by first | (rw [hy162]; with_reducible exact H) | (have H2_ := (Option.bind_some _ _).symm.trans H; rw [hy162]; with_reducible exact H2_) | (have H2_ := (Option.bind_some _ _).symm.trans H; with_reducible exact H2_) | with_reducible exact H | (rw [hy162]; exact H) | exact H
          have Ny162 := zk hy162; clear hy162
          by_cases c15 : 0 ≤ x33_2
          ·
           rw [if_pos c15] at H; have c15b0 := decide_eq_true c15; clear c15
           by_cases c16 : x33_2 < (l0.length : Int)
           ·
            rw [if_pos c16] at H; have c16b0 := decide_eq_true c16; clear c16
            by_cases c17 : x33_2 = t156
            ·
             rw [if_pos c17] at H; have c17b0 := beq_iff_eq.mpr c17; have c17b1 := bne_eq_false_iff_eq.mpr c17; clear c17
             by_cases c18 : y162.length < 4398046511104
             ·
              rw [if_pos c18] at H; have LMc18 := zk c18; clear c18; obtain ⟨y167, hy167⟩ : ∃ y_ : List (S45), y_ = (y162 ++ [(⟨(rd_T45 l0 x33_2).f0, a2⟩ : S45)]) := ⟨_, rfl⟩
              replace H : (r09_With.l1 kj10 l0 a1 a2 t156 x8_4 y167 (l0.length : Int) (wrap64 (x33_2 + 1))) = some r := by first | (rw [hy167]; with_reducible exact H) | (have H2_ := (Option.bind_some _ _).symm.trans H; rw [hy167]; with_reducible exact H2_) | (have H2_ := (Option.bind_some _ _).symm.trans H; with_reducible exact H2_) | with_reducible exact H | (rw [hy167]; exact H) | exact H
              have Ny167 := zk hy167; clear hy167; have H' := zk H; clear H
              go_wp2_with (first | ((with_reducible refine zgn (b := .append) (xs := #[.tmp 43, .tmp 47]) rfl ?_); (try (refine zgg (by rfl) ?_; dsimp only)); at_builtin; refine Kd.R_append k45 (w0 := w) w.heap.size rfl (.tmp 43) (.tmp 47) 22 45 (.agg #[(.string ⟨#[]⟩), (.string ⟨#[]⟩)]) 32 rfl Try.underlying22 info45 rfl (by decide) (by omega) u9 x9_2 (⟨a1, a2⟩ : S45) [.string a1, .string a2] (fun _ => True) (fun _ => False) rfl rfl ?aP (fun _ hk => hk.elim) ?aF ?aO ?aB ?aS ?aL ?_; (case aP => exact k45_mkM _ _ _ (⟨a1, a2⟩ : S45)); (case aB => exact (by with_reducible repeat first | exact HB.out | apply zA | apply zN | apply zD)); (case aF => exact (fun _ _ => trivial)); (case aO => exact (by (with_reducible repeat (first | apply Kd.R_alloc | apply Kd.R_drewN | apply Kd.R_drew)); exact HO_9.out)); (case aS => exact (zq (by with_reducible repeat first | exact HB.out | apply zA | apply zN | apply zD))); (case aL => have := LMc14.out; omega); intro v163 w19 ho hb hg hat; rw [← Ny162.out] at ho; have n0_ := zk (hb); have n1_ := zk (ho); clear HB; clear HO_9; have HB := n0_; have HO164 := n1_; clear n0_ n1_; clear ho hb hg hat; have p165 : 0 ≤ (x33_2 : Int) := zo (by assumption); have q165 : x33_2 < (l0.length : Int) := zo (by assumption); obtain ⟨ad165, e165, hx165_0, hx165_1⟩ := at_T45 HR0.out x33_2 p165 q165; cases e165; replace hx165_0 := zB HB hx165_0; replace hx165_1 := zB HB hx165_1; replace p165 := eq_true p165; replace q165 := eq_true q165) | ((with_reducible refine zgd (N := 11) rfl ?_); (try (refine zgg (by rfl) ?_; dsimp only)); refine zb ?hg (N := 11) ?hd (cs := #[.string ⟨#[]⟩, .string ⟨#[]⟩]) (t := 45) ?hr ?_; (case hd => rfl); (case hg => rfl); (case hr => go_simp; first | done | rfl); intro gb166 hg w20 hbox hb; have n0_ := zk (Kd.R_below (Kd.R_elderB (by (with_reducible repeat (first | apply Kd.R_alloc | apply Kd.R_drewN | apply Kd.R_drew)); exact HO164.out) gb166 (Nat.le_of_eq hg.symm)) hb); have n1_ := zk (zs (by with_reducible repeat first | exact HB.out | apply zA | apply zN | apply zD) hb); have n2_ := zk (hbox); have n3_ := zk ((by rw [hg]; exact (zq (by with_reducible repeat first | exact HB.out | apply zA | apply zN | apply zD)) : w.heap.size ≤ gb166)); have n4_ := n3_; clear HO164; clear HB; have HO164 := n0_; have HB := n1_; have BK166 := n2_; have GW166 := n3_; have GE166 := n4_; clear n0_ n1_ n2_ n3_ n4_; clear hb hbox hg; obtain ⟨hcz21_0, hcz21_1, hfz21_0, hfz21_1⟩ := zc2 BK166.out) | ((with_reducible refine zgn (b := .append) (xs := #[.tmp 58, .tmp 60]) rfl ?_); (try (refine zgg (by rfl) ?_; dsimp only)); at_builtin; refine Kd.R_append k45 (w0 := w) w.heap.size rfl (.tmp 58) (.tmp 60) 22 45 (.agg #[(.string ⟨#[]⟩), (.string ⟨#[]⟩)]) 32 rfl Try.underlying22 info45 rfl (by decide) (by omega) v163 y162 (⟨(rd_T45 l0 x33_2).f0, a2⟩ : S45) [.string ((rd_T45 l0 x33_2).f0), .string a2] (fun k_ => k_ ≠ gb166) (fun _ => False) rfl (by first | (go_simp; done) | (go_simp; rfl)) ?aP (fun _ hk => hk.elim) ?aF ?aO ?aB ?aS ?aL ?_; (case aP => exact k45_mkM _ _ _ (⟨(rd_T45 l0 x33_2).f0, a2⟩ : S45)); (case aB => exact (by with_reducible repeat first | exact HB.out | apply zA | apply zN | apply zD | refine zS ?_ GE166.out)); (case aF => exact (fun k_ hk => Kd.freshB (g := gb166) (o := .cells #[.string ((rd_T45 l0 x33_2).f0), .string a2] 45 (0, 0)) (by (with_reducible repeat first | apply zM | apply zE | apply zF); refine zP (cs := #[.string ((rd_T45 l0 x33_2).f0), .string ((rd_T45 l0 x33_2).f1)]) ?_ 1 _ rfl; (with_reducible repeat first | apply zM | apply zE | apply zF); refine zP (cs := #[.string ((rd_T45 l0 x33_2).f0), .string ⟨#[]⟩]) ?_ 1 _ rfl; (with_reducible repeat first | apply zM | apply zE | apply zF); refine zP (cs := #[.string ⟨#[]⟩, .string ⟨#[]⟩]) ?_ 0 _ rfl; (with_reducible repeat first | apply zM | apply zE | apply zF); exact BK166.out) k_ hk)); (case aO => exact (by (with_reducible repeat (first | apply Kd.R_alloc | apply Kd.R_drewN | apply Kd.R_drew)); exact Kd.R_mono (Kd.R_far (p := ⟨gb166, 1, none⟩) (Kd.R_far (p := ⟨gb166, 1, none⟩) (Kd.R_far (p := ⟨gb166, 0, none⟩) (Kd.R_mono HO164.out (fun k_ hk => (⟨hk, hk.2⟩ : _ ∧ k_ ≠ gb166))) (fun _ hk => hk.2) (.string ((rd_T45 l0 x33_2).f0))) (fun _ hk => hk.2) (.string ((rd_T45 l0 x33_2).f1))) (fun _ hk => hk.2) (.string a2)) (fun _ hk => hk.1.2))); (case aS => exact (zq (by with_reducible repeat first | exact HB.out | apply zA | apply zN | apply zD | refine zS ?_ GE166.out))); (case aL => have := LMc18.out; omega); intro v168 w22 ho hb hg hat; rw [← Ny167.out] at ho; have n0_ := zk (blk_grown (g := gb166) (o := .cells #[.string ((rd_T45 l0 x33_2).f0), .string a2] 45 (0, 0)) (by (with_reducible repeat first | apply zM | apply zE | apply zF); refine zP (cs := #[.string ((rd_T45 l0 x33_2).f0), .string ((rd_T45 l0 x33_2).f1)]) ?_ 1 _ rfl; (with_reducible repeat first | apply zM | apply zE | apply zF); refine zP (cs := #[.string ((rd_T45 l0 x33_2).f0), .string ⟨#[]⟩]) ?_ 1 _ rfl; (with_reducible repeat first | apply zM | apply zE | apply zF); refine zP (cs := #[.string ⟨#[]⟩, .string ⟨#[]⟩]) ?_ 0 _ rfl; (with_reducible repeat first | apply zM | apply zE | apply zF); exact BK166.out) hg (Kd.R_away HO164.out (fun _ hk => hk.2))); have n1_ := zk (hb); have n2_ := zk (ho); clear BK166; clear HB; clear HO164; have BK166 := n0_; have HB := n1_; have HO169 := n2_; clear n0_ n1_ n2_; clear ho hb hg hat))
              go_roundg kj10
              case measure => have := HJ4.out; have := HK2.out; have := HJ10.out; omega
              case rel => exact ⟨(y167), (wrap64 (x33_2 + 1)), (by first | rfl | (simp; done) | (simp [*]; done)), H', ⟨by have := HJ4.out; have := HK2.out; have := HJ10.out; omega⟩, ⟨by (with_reducible repeat (first | apply Kd.R_alloc | apply Kd.R_drewN | apply Kd.R_drew)); exact Kd.R_mono HO169.out (fun _ hk => trivial)⟩, ⟨by with_reducible repeat first | exact HB.out | apply zA | apply zN | apply zD | refine zS ?_ GE166.out⟩⟩
             ·
              rw [if_neg c18] at H; exact absurd H (by simp)
            ·
             rw [if_neg c17] at H; have c17b0 := beq_eq_false_iff_ne.mpr c17; have c17b1 := bne_iff_ne.mpr c17
             by_cases c23 : y162.length < 4398046511104
             ·
              rw [if_pos c23] at H; have LMc23 := zk c23; clear c23; obtain ⟨y170, hy170⟩ : ∃ y_ : List (S45), y_ = (y162 ++ [(⟨(rd_T45 l0 x33_2).f0, (rd_T45 l0 x33_2).f1⟩ : S45)]) := ⟨_, rfl⟩
              replace H : (r09_With.l1 kj10 l0 a1 a2 t156 x8_4 y170 (l0.length : Int) (wrap64 (x33_2 + 1))) = some r := by first | (rw [hy170]; with_reducible exact H) | (have H2_ := (Option.bind_some _ _).symm.trans H; rw [hy170]; with_reducible exact H2_) | (have H2_ := (Option.bind_some _ _).symm.trans H; with_reducible exact H2_) | with_reducible exact H | (rw [hy170]; exact H) | exact H
              have Ny170 := zk hy170; clear hy170; have H' := zk H; clear H
              go_wp2_with (first | ((with_reducible refine zgn (b := .append) (xs := #[.tmp 43, .tmp 47]) rfl ?_); (try (refine zgg (by rfl) ?_; dsimp only)); at_builtin; refine Kd.R_append k45 (w0 := w) w.heap.size rfl (.tmp 43) (.tmp 47) 22 45 (.agg #[(.string ⟨#[]⟩), (.string ⟨#[]⟩)]) 32 rfl Try.underlying22 info45 rfl (by decide) (by omega) u9 x9_2 (⟨a1, a2⟩ : S45) [.string a1, .string a2] (fun _ => True) (fun _ => False) rfl rfl ?aP (fun _ hk => hk.elim) ?aF ?aO ?aB ?aS ?aL ?_; (case aP => exact k45_mkM _ _ _ (⟨a1, a2⟩ : S45)); (case aB => exact (by with_reducible repeat first | exact HB.out | apply zA | apply zN | apply zD)); (case aF => exact (fun _ _ => trivial)); (case aO => exact (by (with_reducible repeat (first | apply Kd.R_alloc | apply Kd.R_drewN | apply Kd.R_drew)); exact HO_9.out)); (case aS => exact (zq (by with_reducible repeat first | exact HB.out | apply zA | apply zN | apply zD))); (case aL => have := LMc14.out; omega); intro v163 w24 ho hb hg hat; rw [← Ny162.out] at ho; have n0_ := zk (hb); have n1_ := zk (ho); clear HB; clear HO_9; have HB := n0_; have HO164 := n1_; clear n0_ n1_; clear ho hb hg hat; have p165 : 0 ≤ (x33_2 : Int) := zo (by assumption); have q165 : x33_2 < (l0.length : Int) := zo (by assumption); obtain ⟨ad165, e165, hx165_0, hx165_1⟩ := at_T45 HR0.out x33_2 p165 q165; cases e165; replace hx165_0 := zB HB hx165_0; replace hx165_1 := zB HB hx165_1; replace p165 := eq_true p165; replace q165 := eq_true q165) | ((with_reducible refine zgd (N := 11) rfl ?_); (try (refine zgg (by rfl) ?_; dsimp only)); refine zb ?hg (N := 11) ?hd (cs := #[.string ⟨#[]⟩, .string ⟨#[]⟩]) (t := 45) ?hr ?_; (case hd => rfl); (case hg => rfl); (case hr => go_simp; first | done | rfl); intro gb166 hg w25 hbox hb; have n0_ := zk (Kd.R_below (Kd.R_elderB (by (with_reducible repeat (first | apply Kd.R_alloc | apply Kd.R_drewN | apply Kd.R_drew)); exact HO164.out) gb166 (Nat.le_of_eq hg.symm)) hb); have n1_ := zk (zs (by with_reducible repeat first | exact HB.out | apply zA | apply zN | apply zD) hb); have n2_ := zk (hbox); have n3_ := zk ((by rw [hg]; exact (zq (by with_reducible repeat first | exact HB.out | apply zA | apply zN | apply zD)) : w.heap.size ≤ gb166)); have n4_ := n3_; clear HO164; clear HB; have HO164 := n0_; have HB := n1_; have BK166 := n2_; have GW166 := n3_; have GE166 := n4_; clear n0_ n1_ n2_ n3_ n4_; clear hb hbox hg; obtain ⟨hcz26_0, hcz26_1, hfz26_0, hfz26_1⟩ := zc2 BK166.out) | ((with_reducible refine zgn (b := .append) (xs := #[.tmp 58, .tmp 60]) rfl ?_); (try (refine zgg (by rfl) ?_; dsimp only)); at_builtin; refine Kd.R_append k45 (w0 := w) w.heap.size rfl (.tmp 58) (.tmp 60) 22 45 (.agg #[(.string ⟨#[]⟩), (.string ⟨#[]⟩)]) 32 rfl Try.underlying22 info45 rfl (by decide) (by omega) v163 y162 (⟨(rd_T45 l0 x33_2).f0, (rd_T45 l0 x33_2).f1⟩ : S45) [.string ((rd_T45 l0 x33_2).f0), .string ((rd_T45 l0 x33_2).f1)] (fun k_ => k_ ≠ gb166) (fun _ => False) rfl (by first | (go_simp; done) | (go_simp; rfl)) ?aP (fun _ hk => hk.elim) ?aF ?aO ?aB ?aS ?aL ?_; (case aP => exact k45_mkM _ _ _ (⟨(rd_T45 l0 x33_2).f0, (rd_T45 l0 x33_2).f1⟩ : S45)); (case aB => exact (by with_reducible repeat first | exact HB.out | apply zA | apply zN | apply zD | refine zS ?_ GE166.out)); (case aF => exact (fun k_ hk => Kd.freshB (g := gb166) (o := .cells #[.string ((rd_T45 l0 x33_2).f0), .string ((rd_T45 l0 x33_2).f1)] 45 (0, 0)) (by (with_reducible repeat first | apply zM | apply zE | apply zF); refine zP (cs := #[.string ((rd_T45 l0 x33_2).f0), .string ⟨#[]⟩]) ?_ 1 _ rfl; (with_reducible repeat first | apply zM | apply zE | apply zF); refine zP (cs := #[.string ⟨#[]⟩, .string ⟨#[]⟩]) ?_ 0 _ rfl; (with_reducible repeat first | apply zM | apply zE | apply zF); exact BK166.out) k_ hk)); (case aO => exact (by (with_reducible repeat (first | apply Kd.R_alloc | apply Kd.R_drewN | apply Kd.R_drew)); exact Kd.R_mono (Kd.R_far (p := ⟨gb166, 1, none⟩) (Kd.R_far (p := ⟨gb166, 0, none⟩) (Kd.R_mono HO164.out (fun k_ hk => (⟨hk, hk.2⟩ : _ ∧ k_ ≠ gb166))) (fun _ hk => hk.2) (.string ((rd_T45 l0 x33_2).f0))) (fun _ hk => hk.2) (.string ((rd_T45 l0 x33_2).f1))) (fun _ hk => hk.1.2))); (case aS => exact (zq (by with_reducible repeat first | exact HB.out | apply zA | apply zN | apply zD | refine zS ?_ GE166.out))); (case aL => have := LMc23.out; omega); intro v171 w27 ho hb hg hat; rw [← Ny170.out] at ho; have n0_ := zk (blk_grown (g := gb166) (o := .cells #[.string ((rd_T45 l0 x33_2).f0), .string ((rd_T45 l0 x33_2).f1)] 45 (0, 0)) (by (with_reducible repeat first | apply zM | apply zE | apply zF); refine zP (cs := #[.string ((rd_T45 l0 x33_2).f0), .string ⟨#[]⟩]) ?_ 1 _ rfl; (with_reducible repeat first | apply zM | apply zE | apply zF); refine zP (cs := #[.string ⟨#[]⟩, .string ⟨#[]⟩]) ?_ 0 _ rfl; (with_reducible repeat first | apply zM | apply zE | apply zF); exact BK166.out) hg (Kd.R_away HO164.out (fun _ hk => hk.2))); have n1_ := zk (hb); have n2_ := zk (ho); clear BK166; clear HB; clear HO164; have BK166 := n0_; have HB := n1_; have HO172 := n2_; clear n0_ n1_ n2_; clear ho hb hg hat))
              go_roundg kj10
              case measure => have := HJ4.out; have := HK2.out; have := HJ10.out; omega
              case rel => exact ⟨(y170), (wrap64 (x33_2 + 1)), (by first | rfl | (simp; done) | (simp [*]; done)), H', ⟨by have := HJ4.out; have := HK2.out; have := HJ10.out; omega⟩, ⟨by (with_reducible repeat (first | apply Kd.R_alloc | apply Kd.R_drewN | apply Kd.R_drew)); exact Kd.R_mono HO172.out (fun _ hk => trivial)⟩, ⟨by with_reducible repeat first | exact HB.out | apply zA | apply zN | apply zD | refine zS ?_ GE166.out⟩⟩
             ·
              rw [if_neg c23] at H; exact absurd H (by simp)
           ·
            rw [if_neg c16] at H; exact absurd H (by simp)
          ·
           rw [if_neg c15] at H; exact absurd H (by simp)
         ·
          rw [if_neg c14] at H; exact absurd H (by simp)
        ·
         replace c13 := Bool.eq_false_iff.mpr c13; subst c13
         have H1 : (if 0 ≤ x33_2 then (if x33_2 < (l0.length : Int) then (if x33_2 = t156 then (if x9_2.length < 4398046511104 then (r09_With.l1 kj10 l0 a1 a2 t156 x8_4 (x9_2 ++ [(⟨(rd_T45 l0 x33_2).f0, a2⟩ : S45)]) (l0.length : Int) (wrap64 (x33_2 + 1))) else (none)) else (if x9_2.length < 4398046511104 then (r09_With.l1 kj10 l0 a1 a2 t156 x8_4 (x9_2 ++ [(⟨(rd_T45 l0 x33_2).f0, (rd_T45 l0 x33_2).f1⟩ : S45)]) (l0.length : Int) (wrap64 (x33_2 + 1))) else (none))) else (none)) else (none)) = some r := by rw [if_neg (show ¬ (false = true) by decide)] at H; exact H
         clear H; have H := H1; clear H1
         by_cases c28 : 0 ≤ x33_2
         ·
          rw [if_pos c28] at H; have c28b0 := decide_eq_true c28; clear c28
          by_cases c29 : x33_2 < (l0.length : Int)
          ·
           rw [if_pos c29] at H; have c29b0 := decide_eq_true c29; clear c29
           by_cases c30 : x33_2 = t156
           ·
            rw [if_pos c30] at H; have c30b0 := beq_iff_eq.mpr c30; have c30b1 := bne_eq_false_iff_eq.mpr c30; clear c30
            by_cases c31 : x9_2.length < 4398046511104
            ·
             rw [if_pos c31] at H; have LMc31 := zk c31; clear c31; obtain ⟨y175, hy175⟩ : ∃ y_ : List (S45), y_ = (x9_2 ++ [(⟨(rd_T45 l0 x33_2).f0, a2⟩ : S45)]) := ⟨_, rfl⟩
             replace H : (r09_With.l1 kj10 l0 a1 a2 t156 x8_4 y175 (l0.length : Int) (wrap64 (x33_2 + 1))) = some r := by first | (rw [hy175]; with_reducible exact H) | (have H2_ := (Option.bind_some _ _).symm.trans H; rw [hy175]; with_reducible exact H2_) | (have H2_ := (Option.bind_some _ _).symm.trans H; with_reducible exact H2_) | with_reducible exact H | (rw [hy175]; exact H) | exact H
             have Ny175 := zk hy175; clear hy175; have H' := zk H; clear H; have p173 : 0 ≤ (x33_2 : Int) := zo (by assumption); have q173 : x33_2 < (l0.length : Int) := zo (by assumption); obtain ⟨ad173, e173, hx173_0, hx173_1⟩ := at_T45 HR0.out x33_2 p173 q173; cases e173; replace hx173_0 := zB HB hx173_0; replace hx173_1 := zB HB hx173_1; replace p173 := eq_true p173; replace q173 := eq_true q173
             go_wp2_with (first | ((with_reducible refine zgd (N := 11) rfl ?_); (try (refine zgg (by rfl) ?_; dsimp only)); refine zb ?hg (N := 11) ?hd (cs := #[.string ⟨#[]⟩, .string ⟨#[]⟩]) (t := 45) ?hr ?_; (case hd => rfl); (case hg => rfl); (case hr => go_simp; first | done | rfl); intro gb174 hg w32 hbox hb; have n0_ := zk (Kd.R_below (Kd.R_elderB (by (with_reducible repeat (first | apply Kd.R_alloc | apply Kd.R_drewN | apply Kd.R_drew)); exact HO_9.out) gb174 (Nat.le_of_eq hg.symm)) hb); have n1_ := zk (zs (by with_reducible repeat first | exact HB.out | apply zA | apply zN | apply zD) hb); have n2_ := zk (hbox); have n3_ := zk ((by rw [hg]; exact (zq (by with_reducible repeat first | exact HB.out | apply zA | apply zN | apply zD)) : w.heap.size ≤ gb174)); have n4_ := n3_; clear HO_9; clear HB; have HO_9 := n0_; have HB := n1_; have BK174 := n2_; have GW174 := n3_; have GE174 := n4_; clear n0_ n1_ n2_ n3_ n4_; clear hb hbox hg; obtain ⟨hcz33_0, hcz33_1, hfz33_0, hfz33_1⟩ := zc2 BK174.out) | ((with_reducible refine zgn (b := .append) (xs := #[.tmp 58, .tmp 60]) rfl ?_); (try (refine zgg (by rfl) ?_; dsimp only)); at_builtin; refine Kd.R_append k45 (w0 := w) w.heap.size rfl (.tmp 58) (.tmp 60) 22 45 (.agg #[(.string ⟨#[]⟩), (.string ⟨#[]⟩)]) 32 rfl Try.underlying22 info45 rfl (by decide) (by omega) u9 x9_2 (⟨(rd_T45 l0 x33_2).f0, a2⟩ : S45) [.string ((rd_T45 l0 x33_2).f0), .string a2] (fun k_ => k_ ≠ gb174) (fun _ => False) rfl (by first | (go_simp; done) | (go_simp; rfl)) ?aP (fun _ hk => hk.elim) ?aF ?aO ?aB ?aS ?aL ?_; (case aP => exact k45_mkM _ _ _ (⟨(rd_T45 l0 x33_2).f0, a2⟩ : S45)); (case aB => exact (by with_reducible repeat first | exact HB.out | apply zA | apply zN | apply zD | refine zS ?_ GE174.out)); (case aF => exact (fun k_ hk => Kd.freshB (g := gb174) (o := .cells #[.string ((rd_T45 l0 x33_2).f0), .string a2] 45 (0, 0)) (by (with_reducible repeat first | apply zM | apply zE | apply zF); refine zP (cs := #[.string ((rd_T45 l0 x33_2).f0), .string ((rd_T45 l0 x33_2).f1)]) ?_ 1 _ rfl; (with_reducible repeat first | apply zM | apply zE | apply zF); refine zP (cs := #[.string ((rd_T45 l0 x33_2).f0), .string ⟨#[]⟩]) ?_ 1 _ rfl; (with_reducible repeat first | apply zM | apply zE | apply zF); refine zP (cs := #[.string ⟨#[]⟩, .string ⟨#[]⟩]) ?_ 0 _ rfl; (with_reducible repeat first | apply zM | apply zE | apply zF); exact BK174.out) k_ hk)); (case aO => exact (by (with_reducible repeat (first | apply Kd.R_alloc | apply Kd.R_drewN | apply Kd.R_drew)); exact Kd.R_mono (Kd.R_far (p := ⟨gb174, 1, none⟩) (Kd.R_far (p := ⟨gb174, 1, none⟩) (Kd.R_far (p := ⟨gb174, 0, none⟩) (Kd.R_mono HO_9.out (fun k_ hk => (⟨hk, hk.2⟩ : _ ∧ k_ ≠ gb174))) (fun _ hk => hk.2) (.string ((rd_T45 l0 x33_2).f0))) (fun _ hk => hk.2) (.string ((rd_T45 l0 x33_2).f1))) (fun _ hk => hk.2) (.string a2)) (fun _ hk => hk.1.2))); (case aS => exact (zq (by with_reducible repeat first | exact HB.out | apply zA | apply zN | apply zD | refine zS ?_ GE174.out))); (case aL => have := LMc31.out; omega); intro v176 w34 ho hb hg hat; rw [← Ny175.out] at ho; have n0_ := zk (blk_grown (g := gb174) (o := .cells #[.string ((rd_T45 l0 x33_2).f0), .string a2] 45 (0, 0)) (by (with_reducible repeat first | apply zM | apply zE | apply zF); refine zP (cs := #[.string ((rd_T45 l0 x33_2).f0), .string ((rd_T45 l0 x33_2).f1)]) ?_ 1 _ rfl; (with_reducible repeat first | apply zM | apply zE | apply zF); refine zP (cs := #[.string ((rd_T45 l0 x33_2).f0), .string ⟨#[]⟩]) ?_ 1 _ rfl; (with_reducible repeat first | apply zM | apply zE | apply zF); refine zP (cs := #[.string ⟨#[]⟩, .string ⟨#[]⟩]) ?_ 0 _ rfl; (with_reducible repeat first | apply zM | apply zE | apply zF); exact BK174.out) hg (Kd.R_away HO_9.out (fun _ hk => hk.2))); have n1_ := zk (hb); have n2_ := zk (ho); clear BK174; clear HB; clear HO_9; have BK174 := n0_; have HB := n1_; have HO177 := n2_; clear n0_ n1_ n2_; clear ho hb hg hat))
             go_roundg kj10
             case measure => have := HJ4.out; have := HK2.out; have := HJ10.out; omega
             case rel => exact ⟨(y175), (wrap64 (x33_2 + 1)), (by first | rfl | (simp; done) | (simp [*]; done)), H', ⟨by have := HJ4.out; have := HK2.out; have := HJ10.out; omega⟩, ⟨by (with_reducible repeat (first | apply Kd.R_alloc | apply Kd.R_drewN | apply Kd.R_drew)); exact Kd.R_mono HO177.out (fun _ hk => trivial)⟩, ⟨by with_reducible repeat first | exact HB.out | apply zA | apply zN | apply zD | refine zS ?_ GE174.out⟩⟩
            ·
             rw [if_neg c31] at H; exact absurd H (by simp)
           ·
            rw [if_neg c30] at H; have c30b0 := beq_eq_false_iff_ne.mpr c30; have c30b1 := bne_iff_ne.mpr c30
            by_cases c35 : x9_2.length < 4398046511104
            ·
             rw [if_pos c35] at H; have LMc35 := zk c35; clear c35; obtain ⟨y178, hy178⟩ : ∃ y_ : List (S45), y_ = (x9_2 ++ [(⟨(rd_T45 l0 x33_2).f0, (rd_T45 l0 x33_2).f1⟩ : S45)]) := ⟨_, rfl⟩
             replace H : (r09_With.l1 kj10 l0 a1 a2 t156 x8_4 y178 (l0.length : Int) (wrap64 (x33_2 + 1))) = some r := by first | (rw [hy178]; with_reducible exact H) | (have H2_ := (Option.bind_some _ _).symm.trans H; rw [hy178]; with_reducible exact H2_) | (have H2_ := (Option.bind_some _ _).symm.trans H; with_reducible exact H2_) | with_reducible exact H | (rw [hy178]; exact H) | exact H
             have Ny178 := zk hy178; clear hy178; have H' := zk H; clear H; have p173 : 0 ≤ (x33_2 : Int) := zo (by assumption); have q173 : x33_2 < (l0.length : Int) := zo (by assumption); obtain ⟨ad173, e173, hx173_0, hx173_1⟩ := at_T45 HR0.out x33_2 p173 q173; cases e173; replace hx173_0 := zB HB hx173_0; replace hx173_1 := zB HB hx173_1; replace p173 := eq_true p173; replace q173 := eq_true q173
             go_wp2_with (first | ((with_reducible refine zgd (N := 11) rfl ?_); (try (refine zgg (by rfl) ?_; dsimp only)); refine zb ?hg (N := 11) ?hd (cs := #[.string ⟨#[]⟩, .string ⟨#[]⟩]) (t := 45) ?hr ?_; (case hd => rfl); (case hg => rfl); (case hr => go_simp; first | done | rfl); intro gb174 hg w36 hbox hb; have n0_ := zk (Kd.R_below (Kd.R_elderB (by (with_reducible repeat (first | apply Kd.R_alloc | apply Kd.R_drewN | apply Kd.R_drew)); exact HO_9.out) gb174 (Nat.le_of_eq hg.symm)) hb); have n1_ := zk (zs (by with_reducible repeat first | exact HB.out | apply zA | apply zN | apply zD) hb); have n2_ := zk (hbox); have n3_ := zk ((by rw [hg]; exact (zq (by with_reducible repeat first | exact HB.out | apply zA | apply zN | apply zD)) : w.heap.size ≤ gb174)); have n4_ := n3_; clear HO_9; clear HB; have HO_9 := n0_; have HB := n1_; have BK174 := n2_; have GW174 := n3_; have GE174 := n4_; clear n0_ n1_ n2_ n3_ n4_; clear hb hbox hg; obtain ⟨hcz37_0, hcz37_1, hfz37_0, hfz37_1⟩ := zc2 BK174.out) | ((with_reducible refine zgn (b := .append) (xs := #[.tmp 58, .tmp 60]) rfl ?_); (try (refine zgg (by rfl) ?_; dsimp only)); at_builtin; refine Kd.R_append k45 (w0 := w) w.heap.size rfl (.tmp 58) (.tmp 60) 22 45 (.agg #[(.string ⟨#[]⟩), (.string ⟨#[]⟩)]) 32 rfl Try.underlying22 info45 rfl (by decide) (by omega) u9 x9_2 (⟨(rd_T45 l0 x33_2).f0, (rd_T45 l0 x33_2).f1⟩ : S45) [.string ((rd_T45 l0 x33_2).f0), .string ((rd_T45 l0 x33_2).f1)] (fun k_ => k_ ≠ gb174) (fun _ => False) rfl (by first | (go_simp; done) | (go_simp; rfl)) ?aP (fun _ hk => hk.elim) ?aF ?aO ?aB ?aS ?aL ?_; (case aP => exact k45_mkM _ _ _ (⟨(rd_T45 l0 x33_2).f0, (rd_T45 l0 x33_2).f1⟩ : S45)); (case aB => exact (by with_reducible repeat first | exact HB.out | apply zA | apply zN | apply zD | refine zS ?_ GE174.out)); (case aF => exact (fun k_ hk => Kd.freshB (g := gb174) (o := .cells #[.string ((rd_T45 l0 x33_2).f0), .string ((rd_T45 l0 x33_2).f1)] 45 (0, 0)) (by (with_reducible repeat first | apply zM | apply zE | apply zF); refine zP (cs := #[.string ((rd_T45 l0 x33_2).f0), .string ⟨#[]⟩]) ?_ 1 _ rfl; (with_reducible repeat first | apply zM | apply zE | apply zF); refine zP (cs := #[.string ⟨#[]⟩, .string ⟨#[]⟩]) ?_ 0 _ rfl; (with_reducible repeat first | apply zM | apply zE | apply zF); exact BK174.out) k_ hk)); (case aO => exact (by (with_reducible repeat (first | apply Kd.R_alloc | apply Kd.R_drewN | apply Kd.R_drew)); exact Kd.R_mono (Kd.R_far (p := ⟨gb174, 1, none⟩) (Kd.R_far (p := ⟨gb174, 0, none⟩) (Kd.R_mono HO_9.out (fun k_ hk => (⟨hk, hk.2⟩ : _ ∧ k_ ≠ gb174))) (fun _ hk => hk.2) (.string ((rd_T45 l0 x33_2).f0))) (fun _ hk => hk.2) (.string ((rd_T45 l0 x33_2).f1))) (fun _ hk => hk.1.2))); (case aS => exact (zq (by with_reducible repeat first | exact HB.out | apply zA | apply zN | apply zD | refine zS ?_ GE174.out))); (case aL => have := LMc35.out; omega); intro v179 w38 ho hb hg hat; rw [← Ny178.out] at ho; have n0_ := zk (blk_grown (g := gb174) (o := .cells #[.string ((rd_T45 l0 x33_2).f0), .string ((rd_T45 l0 x33_2).f1)] 45 (0, 0)) (by (with_reducible repeat first | apply zM | apply zE | apply zF); refine zP (cs := #[.string ((rd_T45 l0 x33_2).f0), .string ⟨#[]⟩]) ?_ 1 _ rfl; (with_reducible repeat first | apply zM | apply zE | apply zF); refine zP (cs := #[.string ⟨#[]⟩, .string ⟨#[]⟩]) ?_ 0 _ rfl; (with_reducible repeat first | apply zM | apply zE | apply zF); exact BK174.out) hg (Kd.R_away HO_9.out (fun _ hk => hk.2))); have n1_ := zk (hb); have n2_ := zk (ho); clear BK174; clear HB; clear HO_9; have BK174 := n0_; have HB := n1_; have HO180 := n2_; clear n0_ n1_ n2_; clear ho hb hg hat))
             go_roundg kj10
             case measure => have := HJ4.out; have := HK2.out; have := HJ10.out; omega
             case rel => exact ⟨(y178), (wrap64 (x33_2 + 1)), (by first | rfl | (simp; done) | (simp [*]; done)), H', ⟨by have := HJ4.out; have := HK2.out; have := HJ10.out; omega⟩, ⟨by (with_reducible repeat (first | apply Kd.R_alloc | apply Kd.R_drewN | apply Kd.R_drew)); exact Kd.R_mono HO180.out (fun _ hk => trivial)⟩, ⟨by with_reducible repeat first | exact HB.out | apply zA | apply zN | apply zD | refine zS ?_ GE174.out⟩⟩
            ·
             rw [if_neg c35] at H; exact absurd H (by simp)
          ·
           rw [if_neg c29] at H; exact absurd H (by simp)
         ·
          rw [if_neg c28] at H; exact absurd H (by simp)
     ·
      rw [if_neg c10] at H; have c10b0 := decide_eq_false c10; clear c10
      by_cases c39 : t156 < 0
      ·
       rw [if_pos c39] at H; have c39b0 := decide_eq_true c39; clear c39
       by_cases c40 : x8_4 = (l0.length : Int)
       ·
        rw [if_pos c40] at H; have c40b0 := beq_iff_eq.mpr c40; have c40b1 := bne_eq_false_iff_eq.mpr c40; clear c40
        by_cases c41 : x9_2.length < 4398046511104
        ·
         rw [if_pos c41] at H; have LMc41 := zk c41; clear c41; obtain ⟨y159, hy159⟩ : ∃ y_ : List (S45), y_ = (x9_2 ++ [(⟨a1, a2⟩ : S45)]) := ⟨_, rfl⟩
         replace H : (some y159) = some r := by first | (rw [hy159]; with_reducible exact H) | (have H2_ := (Option.bind_some _ _).symm.trans H; rw [hy159]; with_reducible exact H2_) | (have H2_ := (Option.bind_some _ _).symm.trans H; with_reducible exact H2_) | with_reducible exact H | (rw [hy159]; exact H) | exact H
         have Ny159 := zk hy159; clear hy159; obtain rfl := Option.some.inj H
         go_wp2_with (first | ((with_reducible refine zgn (b := .append) (xs := #[.tmp 71, .tmp 75]) rfl ?_); (try (refine zgg (by rfl) ?_; dsimp only)); at_builtin; refine Kd.R_append k45 (w0 := w) w.heap.size rfl (.tmp 71) (.tmp 75) 22 45 (.agg #[(.string ⟨#[]⟩), (.string ⟨#[]⟩)]) 32 rfl Try.underlying22 info45 rfl (by decide) (by omega) u9 x9_2 (⟨a1, a2⟩ : S45) [.string a1, .string a2] (fun _ => True) (fun _ => False) rfl rfl ?aP (fun _ hk => hk.elim) ?aF ?aO ?aB ?aS ?aL ?_; (case aP => exact k45_mkM _ _ _ (⟨a1, a2⟩ : S45)); (case aB => exact (by with_reducible repeat first | exact HB.out | apply zA | apply zN | apply zD)); (case aF => exact (fun _ _ => trivial)); (case aO => exact (by (with_reducible repeat (first | apply Kd.R_alloc | apply Kd.R_drewN | apply Kd.R_drew)); exact HO_9.out)); (case aS => exact (zq (by with_reducible repeat first | exact HB.out | apply zA | apply zN | apply zD))); (case aL => have := LMc41.out; omega); intro v160 w42 ho hb hg hat; rw [← Ny159.out] at ho; have n0_ := zk (hb); have n1_ := zk (ho); clear HB; clear HO_9; have HB := n0_; have HO161 := n1_; clear n0_ n1_; clear ho hb hg hat))
         go_ret; exact ⟨_, by first | rfl | (simp [wN, wS] <;> rfl) | (simp [*, wN, wS] <;> rfl), by (with_reducible repeat (first | apply Kd.R_alloc | apply Kd.R_drewN | apply Kd.R_drew)); exact HO161.out, by with_reducible repeat first | exact HB.out | apply zA | apply zN | apply zD⟩
        ·
         rw [if_neg c41] at H; exact absurd H (by simp)
       ·
        rw [if_neg c40] at H; have c40b0 := beq_eq_false_iff_ne.mpr c40; have c40b1 := bne_iff_ne.mpr c40; obtain rfl := Option.some.inj H; go_wp2; go_ret; exact ⟨_, by first | rfl | (simp [wN, wS] <;> rfl) | (simp [*, wN, wS] <;> rfl), by (with_reducible repeat (first | apply Kd.R_alloc | apply Kd.R_drewN | apply Kd.R_drew)); exact HO_9.out, by with_reducible repeat first | exact HB.out | apply zA | apply zN | apply zD⟩
      ·
       rw [if_neg c39] at H; have c39b0 := decide_eq_false c39; clear c39; obtain rfl := Option.some.inj H; go_wp2; go_ret; exact ⟨_, by first | rfl | (simp [wN, wS] <;> rfl) | (simp [*, wN, wS] <;> rfl), by (with_reducible repeat (first | apply Kd.R_alloc | apply Kd.R_drewN | apply Kd.R_drew)); exact HO_9.out, by with_reducible repeat first | exact HB.out | apply zA | apply zN | apply zD⟩
def r09_Norm.l0 : Nat → List (S45) → List (S45) → Int → Int → Option ((List (S45)))
  | 0, _, _, _, _ => none
  | k + 1, x0, x3, x6, x7 => if x7 < x6 then (if 0 ≤ x7 then (if x7 < (x0.length : Int) then ((r09_With.f k x3 ((rd_T45 x0 x7).f0) ((rd_T45 x0 x7).f1)).bind fun t183 => (r09_Norm.l0 k x0 t183 x6 (wrap64 (x7 + 1)))) else (none)) else (none)) else (some x3)
def r09_Norm.f (k : Nat) (l0 : List (S45)) : Option ((List (S45))) := r09_Norm.l0 k l0 ([] : List (S45)) (l0.length : Int) 0
def r09_Norm.T5 : Bool × List (List Nat × List Nat) := (true, [([], []), ([], []), ([], []), ([1, 2], [1, 2]), ([3], [3]), ([4], [4]), ([], []), ([], []), ([6, 7], [6, 7]), ([8], [8]), ([9], [9]), ([0, 5, 10], [0, 5, 10]), ([11, 11, 0, 1, 2, 3, 4, 5, 6, 7, 8, 9, 10, 11], [0, 11])])
def r09_Norm.B5 : List Nat := [0, 0, 0, 6, 14, 30, 0, 0, 192, 448, 960, 2047, 4095]
theorem r09_Norm.tab5 : rtab .any (opsOf Try.f20 5) = r09_Norm.T5 := by kernel_rfl
theorem r09_Norm.bits5 : waitsOk r09_Norm.T5.2 r09_Norm.B5 = true := by kernel_rfl
set_option maxHeartbeats 8000000 in
set_option maxRecDepth 100000 in
theorem r09_Norm.calls (k : Nat) (A0 : Option Addr) (c0 : Nat) (l0 : List (S45)) (r : List (S45)) (w : World) (hr0 : Kd.C k45 w A0 l0.length l0) (hc0 : l0.length ≤ c0) (h : r09_Norm.f k l0 = some r) :
    Calls Try.prog 20 #[.slice A0 l0.length c0] w fun e w' => ∃ v0_ : Value, e = .returned (v0_) ∧ Kd.R k45 45 w' w.heap.size (fun _ => True) v0_ r ∧ Below w.heap.size w w' := by
  have HR0 := zk hr0; have HC0 := zk hc0; clear hr0 hc0; have HB := zk (Below.refl w.heap.size w); have H : (r09_Norm.l0 k l0 ([] : List (S45)) (l0.length : Int) 0) = some r := h; clear h; have H' := zk H; clear H
  go_enter Try.func20, Try.ntmps20
  go_wp2
  go_loopg [3, 7] k (fun kq v3 v7 w' => ∃ (x3_1 : List (S45)) (x7_1 : Int), v7 = .int .i64 x7_1 ∧ Aside0 (r09_Norm.l0 kq l0 x3_1 (l0.length : Int) x7_1 = some r) ∧ Aside0 (kq ≤ k) ∧ Aside0 (Kd.R k45 45 w' w.heap.size (fun _ => True) v3 x3_1) ∧ Aside0 (Below w.heap.size w w'))
  case atStart => exact ⟨(([] : List (S45))), (0), (by first | rfl | (simp; done) | (simp [*]; done)), H', ⟨Nat.le_refl _⟩, ⟨by first | exact Kd.R_nil _ _ _ _ _ | exact Kd.N_nil _ _ _ _ _ | exact Kd.V_nil _ _ _ _ _ | exact Kd.Q_nil _ _ _ _ _ | exact Kd.S_nil _ _ _ _ _⟩, ⟨by with_reducible repeat first | exact HB.out | apply zA | apply zN | apply zD⟩⟩
  case round =>
    clear H'; obtain ⟨x3_1, x7_1, rfl, HA, HK1, HO_3, HB⟩ := hrel
    cases gk with
    | zero => exact absurd HA.out (by simp [r09_Norm.l0])
    | succ k1 =>
      have H := HA.out; clear HA; simp only [r09_Norm.l0] at H
      by_cases c2 : x7_1 < (l0.length : Int)
      · rw [if_pos c2] at H
        have c2b0 := decide_eq_true c2
        clear c2
        by_cases c3 : 0 ≤ x7_1
        · rw [if_pos c3] at H
          have c3b0 := decide_eq_true c3
          clear c3
          by_cases c4 : x7_1 < (l0.length : Int)
          · rw [if_pos c4] at H
            have c4b0 := decide_eq_true c4
            clear c4
            replace H := Option.bind_eq_some_iff.mp H
            obtain ⟨t183, A50, H⟩ := H
            replace H : (r09_Norm.l0 k1 l0 t183 (l0.length : Int) (wrap64 (x7_1 + 1))) = some r := H
            have A5 := zk A50
            clear A50
            have H' := zk H
            clear H
            try go_wp2
            have n0_ := zk (Kd.R_drew HO_3.out)
            have n1_ := zk (zD HB.out)
            clear HO_3
            clear HB
            have HO_3 := n0_
            have HB := n1_
            clear n0_ n1_
            have p181 : 0 ≤ (x7_1 : Int) := zo (by assumption)
            have q181 : x7_1 < (l0.length : Int) := zo (by assumption)
            obtain ⟨ad181, e181, hx181_0, hx181_1⟩ := at_T45 HR0.out x7_1 p181 q181
            have hw181_1 := hx181_1
            have hw181_0 := hx181_0
            cases e181
            replace hx181_0 := zB HB hx181_0
            replace hx181_1 := zB HB hx181_1
            replace p181 := eq_true p181
            replace q181 := eq_true q181
            have p182 : 0 ≤ (x7_1 : Int) := zo (by assumption)
            have q182 : x7_1 < (l0.length : Int) := zo (by assumption)
            obtain ⟨ad182, e182, hx182_0, hx182_1⟩ := at_T45 HR0.out x7_1 p182 q182
            have hw182_1 := hx182_1
            have hw182_0 := hx182_0
            obtain rfl : ad181 = ad182 := (by injection e182)
            replace hx182_0 := zB HB hx182_0
            replace hx182_1 := zB HB hx182_1
            replace p182 := eq_true p182
            replace q182 := eq_true q182
            obtain ⟨Ao7, co7, eo7⟩ := Kd.R_slice HO_3.out
            (first | subst eo7 | (injection eo7 with f1_ f2_ f3_; have f4_ := f1_.symm; have f5_ := f3_.symm; clear f1_ f2_ f3_; subst f4_; subst f5_))
            refine start_ (n := 13) (S := fun w' => w'.cell? (ad181.add ((x7_1).toNat * 2)) = some (.string ((rd_T45 l0 x7_1).f0)) ∧ w'.cell? ⟨(ad181.add ((x7_1).toNat * 2)).block, (ad181.add ((x7_1).toNat * 2)).off + 1, none⟩ = some (.string ((rd_T45 l0 x7_1).f1)) ∧ w'.cell? (ad181.add ((x7_1).toNat * 2)) = some (.string ((rd_T45 l0 x7_1).f0)) ∧ w'.cell? ⟨(ad181.add ((x7_1).toNat * 2)).block, (ad181.add ((x7_1).toNat * 2)).off + 1, none⟩ = some (.string ((rd_T45 l0 x7_1).f1))) (ds := []) #[F,F,F,F,F,F,F,F,F,F,F,F,F] (by kernel_rfl) rfl rfl ⟨(zB HB hw181_0), (zB HB hw181_1), (zB HB hw182_0), (zB HB hw182_1)⟩ (fun hHeld => ?_); refine with_tabW r09_Norm.tab5 r09_Norm.bits5 (fun HT_ HW_ => ?_)
            generalize wr.drew = w6 at HO_3 HB hx181_0 hx181_1 hx182_0 hx182_1 hHeld ⊢
            refine pure_ (i := 0) (N := some 10) (v := ?_) (a' := ?_) #[T,F,F,F,F,F,F,F,F,F,F,F,F] rfl rfl (any_of HT_.out (by kernel_rfl)) (fun _ _ _ h => h) (Or.inl ⟨by rfl, ?_⟩) ?_ ?_
            rotate_left
            · intro w'
              go_simp
              with_reducible rfl
            rotate_left
            · simp only [Act.put, zt, zu, zv, i64_w, i32_w]
              rfl
            refine pure_ (i := 1) (N := some 11) (v := ?_) (a' := ?_) #[T,T,F,F,F,F,F,F,F,F,F,F,F] rfl rfl (any_of HT_.out (by kernel_rfl)) (fun _ _ _ h => h) (Or.inl ⟨by rfl, ?_⟩) ?_ ?_
            rotate_left
            · intro w'
              go_simp
              with_reducible rfl
            rotate_left
            · simp only [Act.put, zt, zu, zv, i64_w, i32_w]
              rfl
            refine pure_ (i := 2) (N := some 12) (v := ?_) (a' := ?_) #[T,T,T,F,F,F,F,F,F,F,F,F,F] rfl rfl (any_of HT_.out (by kernel_rfl)) (fun _ _ _ h => h) (Or.inl ⟨by rfl, ?_⟩) ?_ ?_
            rotate_left
            · intro w'
              go_simp
              with_reducible rfl
            rotate_left
            · simp only [Act.put, zt, zu, zv, i64_w, i32_w]
              rfl
            refine pure_ (i := 3) (N := some 13) (v := ?_) (a' := ?_) #[T,T,T,T,F,F,F,F,F,F,F,F,F] rfl rfl (any_of HT_.out (by kernel_rfl)) (fun _ _ _ h => h) (Or.inl ⟨by rfl, ?_⟩) ?_ ?_
            rotate_left
            · intro w'
              go_simp
              with_reducible rfl
            rotate_left
            · simp only [Act.put, zt, zu, zv, i64_w, i32_w]
              rfl
            refine pure_ (i := 4) (N := some 14) (v := ?_) (a' := ?_) #[T,T,T,T,T,F,F,F,F,F,F,F,F] rfl rfl (any_of HT_.out (by kernel_rfl)) (fun _ _ _ h => h) (Or.inl ⟨by rfl, ?_⟩) ?_ ?_
            rotate_left
            · intro w'
              go_simp
              with_reducible rfl
            rotate_left
            · simp only [Act.put, zt, zu, zv, i64_w, i32_w]
              rfl
            refine pure_ (i := 6) (N := some 16) (v := ?_) (a' := ?_) #[T,T,T,T,T,F,T,F,F,F,F,F,F] rfl rfl (any_of HT_.out (by kernel_rfl)) (fun _ _ _ h => h) (Or.inl ⟨by rfl, ?_⟩) ?_ ?_
            rotate_left
            · intro w'
              go_simp
              with_reducible rfl
            rotate_left
            · simp only [Act.put, zt, zu, zv, i64_w, i32_w]
              rfl
            refine pure_ (i := 7) (N := some 17) (v := ?_) (a' := ?_) #[T,T,T,T,T,F,T,T,F,F,F,F,F] rfl rfl (any_of HT_.out (by kernel_rfl)) (fun _ _ _ h => h) (Or.inl ⟨by rfl, ?_⟩) ?_ ?_
            rotate_left
            · intro w'
              go_simp
              with_reducible rfl
            rotate_left
            · simp only [Act.put, zt, zu, zv, i64_w, i32_w]
              rfl
            refine pure_ (i := 8) (N := some 18) (v := ?_) (a' := ?_) #[T,T,T,T,T,F,T,T,T,F,F,F,F] rfl rfl (any_of HT_.out (by kernel_rfl)) (fun _ _ _ h => h) (Or.inl ⟨by rfl, ?_⟩) ?_ ?_
            rotate_left
            · intro w'
              go_simp
              with_reducible rfl
            rotate_left
            · simp only [Act.put, zt, zu, zv, i64_w, i32_w]
              rfl
            refine pure_ (i := 9) (N := some 19) (v := ?_) (a' := ?_) #[T,T,T,T,T,F,T,T,T,T,F,F,F] rfl rfl (any_of HT_.out (by kernel_rfl)) (fun _ _ _ h => h) (Or.inl ⟨by rfl, ?_⟩) ?_ ?_
            rotate_left
            · intro w'
              go_simp
              with_reducible rfl
            rotate_left
            · simp only [Act.put, zt, zu, zv, i64_w, i32_w]
              rfl
            refine take_ (i := 5) (N := some 15) (v := ?_) (a' := ?_) #[T,T,T,T,T,T,T,T,T,T,F,F,F] rfl rfl (take_ofW HT_.out HW_.out (by kernel_rfl)) (fun _ _ _ h => h) (Or.inl ⟨by rfl, ?_⟩) hHeld ?_ ?_
            rotate_left
            · rintro w' ⟨s0, s1, s2, s3⟩
              go_simp
              with_reducible rfl
            rotate_left
            · simp only [Act.put, zt, zu, zv, i64_w, i32_w]
              rfl
            refine take_ (i := 10) (N := some 20) (v := ?_) (a' := ?_) #[T,T,T,T,T,T,T,T,T,T,T,F,F] rfl rfl (take_ofW HT_.out HW_.out (by kernel_rfl)) (fun _ _ _ h => h) (Or.inl ⟨by rfl, ?_⟩) hHeld ?_ ?_
            rotate_left
            · rintro w' ⟨s0, s1, s2, s3⟩
              go_simp
              with_reducible rfl
            rotate_left
            · simp only [Act.put, zt, zu, zv, i64_w, i32_w]
              rfl
            refine one_ (i := 11) (N := some 21) #[T,T,T,T,T,T,T,T,T,T,T,T,F] rfl rfl (one_of HT_.out (by kernel_rfl)) (by decide) (fun K hK => ?_)
            refine goes_ Try.func17 (by kernel_rfl) rfl #[.slice Ao7 x3_1.length co7, .string ((rd_T45 l0 x7_1).f0), .string ((rd_T45 l0 x7_1).f1)] (by rfl) rfl rfl (by (try simp only [List.map_toArray, List.map_cons, List.map_nil]); first | done | rfl | (simp only [List.length_drop, List.length_take]; rfl)) ?_
            with_reducible refine (r09_With.calls k1 _ _ x3_1 ((rd_T45 l0 x7_1).f0) ((rd_T45 l0 x7_1).f1) t183 _ ?side1 ?side2 A5.out).mono ?_
            (case side1 => repeat (first | exact (Kd.R_reads' HO_3.out).2.2 | (with_reducible refine Kd.C_alloc ?_ _) | (with_reducible refine Kd.C_drewN ?_ _) | (with_reducible refine Kd.C_drew ?_)))
            (case side2 => exact (Kd.R_reads' HO_3.out).2.1)
            rintro e w8 ⟨v184, rfl, ho0, hb⟩
            refine ⟨_, rfl, ?_⟩
            have n0_ := zk (Kd.R_elder' (by (with_reducible repeat (first | apply Kd.R_alloc | apply Kd.R_drewN | apply Kd.R_drew)); exact HO_3.out) (Kd.R_base ho0) hb)
            have n1_ := zk (Kd.R_lower (Kd.R_new' ho0 (Kd.R_lt (by (with_reducible repeat (first | apply Kd.R_alloc | apply Kd.R_drewN | apply Kd.R_drew)); exact HO_3.out))) (zq (by with_reducible repeat first | exact HB.out | apply zA | apply zN | apply zD)))
            have n2_ := zk (zs (by with_reducible repeat first | exact HB.out | apply zA | apply zN | apply zD) hb)
            clear HO_3
            clear HB
            have HO_3 := n0_
            have HO185 := n1_
            have HB := n2_
            clear n0_ n1_ n2_
            (try clear hb)
            (try clear hb2)
            (try clear hk)
            (try clear hi)
            (try clear ho0)
            refine hK.out _ _ ⟨(zB HB hw181_0), (zB HB hw181_1), (zB HB hw182_0), (zB HB hw182_1)⟩ (fun hHeld => ?_)
            clear hK K
            refine norm_ (a' := ?_) ?_ ?_
            rotate_left
            · show Act.put _ (some 21) _ = _
              simp only [Act.put, zt, zu, zv, i64_w, i32_w]
              rfl
            refine pure_ (i := 12) (N := some 3) (v := ?_) (a' := ?_) #[T,T,T,T,T,T,T,T,T,T,T,T,T] rfl rfl (any_of HT_.out (by kernel_rfl)) (fun _ _ _ h => h) (Or.inl ⟨by rfl, ?_⟩) ?_ ?_
            rotate_left
            · intro w'
              go_simp
              with_reducible rfl
            rotate_left
            · simp only [Act.put, zt, zu, zv, i64_w, i32_w]
              rfl
            refine done_ (done_of HT_.out (by kernel_rfl)) ?_
            try go_wp2
            go_roundg k1
            case measure => have := HK1.out; omega
            case rel => exact ⟨(t183), (wrap64 (x7_1 + 1)), (by first | rfl | (simp; done) | (simp [*]; done)), H', ⟨by have := HK1.out; omega⟩, ⟨by (with_reducible repeat (first | apply Kd.R_alloc | apply Kd.R_drewN | apply Kd.R_drew)); exact Kd.R_mono HO185.out (fun _ hk => trivial)⟩, ⟨by with_reducible repeat first | exact HB.out | apply zA | apply zN | apply zD⟩⟩
          · rw [if_neg c4] at H
            exact absurd H (by simp)
        · rw [if_neg c3] at H
          exact absurd H (by simp)
      · rw [if_neg c2] at H
        have c2b0 := decide_eq_false c2; clear c2; obtain rfl := Option.some.inj H; go_wp2; go_ret; exact ⟨_, by first | rfl | (simp [wN, wS] <;> rfl) | (simp [*, wN, wS] <;> rfl), by (with_reducible repeat (first | apply Kd.R_alloc | apply Kd.R_drewN | apply Kd.R_drew)); exact HO_3.out, by with_reducible repeat first | exact HB.out | apply zA | apply zN | apply zD⟩
end Go.Proofs.Ytnellpilmjjbcaa.G
namespace Go.Proofs.Ytnellpilmjjbcaa.G
open Go.RowKit Go.Proofs.YtnellpilmjjbcaaW.PrintWords Go.Proofs.YtnellpilmjjbcaaW.PrintLast Go.Proofs.YtnellpilmjjbcaaW.PrintMore
set_option linter.unusedVariables false
set_option maxHeartbeats 1000000 in
set_option maxRecDepth 100000 in
theorem stringslite_IndexByte (s : ByteArray) (c : Int) (w : World) :
    Calls Try.prog 49 #[.string s, .int .u8 c] w fun e w' => e = .returned (.int .i64 (Lib.indexByte s.data.toList c.toNat.toUInt8)) ∧ w' = w := by
  go_enter Try.func49, Try.ntmps49
  go_wp2; rw [run_callFunc_extern Try.func52 (by kernel_rfl) (by kernel_rfl) (by kernel_rfl) (e := Extern.BytealgIndexByte.indexByte) (by kernel_rfl), Lib.run_indexByteString]; simp only [Result.andThen]; rw [Oper.upon_value]; go_wp2; go_ret; exact ⟨rfl, rfl⟩
def strings_IndexByte.f (a0 : ByteArray) (a1 : Int) : Option Int := some (Lib.indexByte a0.data.toList a1.toNat.toUInt8)
set_option maxHeartbeats 1000000 in
theorem strings_IndexByte.calls (a0 : ByteArray) (a1 : Int) (r : Int) (w : World) (h : strings_IndexByte.f a0 a1 = some r) :
    Calls Try.prog 45 #[.string a0, .int .u8 a1] w fun e w' => e = .returned (.int .i64 r) ∧ Drawn0 w w' := by
  obtain rfl : _ = r := Option.some.inj h
  go_enter Try.func45, Try.ntmps45
  go_wp2_with (go_at_call 49; refine (stringslite_IndexByte _ _ _).mono ?_; rintro e w' ⟨rfl, rfl⟩)
  go_ret; exact ⟨rfl, ⟨0, rfl⟩⟩
end Go.Proofs.Ytnellpilmjjbcaa.G
namespace Go.Proofs.Ytnellpilmjjbcaa.G
open Go.RowKit Go.Proofs.YtnellpilmjjbcaaW.PrintWords Go.Proofs.YtnellpilmjjbcaaW.PrintLast Go.Proofs.YtnellpilmjjbcaaW.PrintMore
attribute [local go_sem] max2_int min2_int max_two min_two max_three min_three max_four min_four
set_option linter.unusedVariables false
set_option linter.unusedSimpArgs false
mutual
def chars_named.j0 : Nat → ByteArray → ByteArray → Bool → Option (Bool)
 | 0, _, _, _ => none
 | k + 1, x0, x1, x19 => if x19 = true then (some false) else (chars_named.l0 k x0 x1 (x0.size : Int) 0)
def chars_named.l0 : Nat → ByteArray → ByteArray → Int → Int → Option (Bool)
 | 0, _, _, _, _ => none
 | k + 1, x0, x1, x21, x22 => if x22 < x21 then (if 0 ≤ x22 then (if x22 < (x0.size : Int) then ((chars_small.f (bt x0 x22)).bind fun t117 => (if t117 = true then (chars_named.l0 k x0 x1 x21 (wrap64 (x22 + 1))) else (if (bt x0 x22) < 48 then ((strings_IndexByte.f x1 (bt x0 x22)).bind fun t118 => (if t118 < 0 then (some false) else (chars_named.l0 k x0 x1 x21 (wrap64 (x22 + 1))))) else (if (bt x0 x22) > 57 then ((strings_IndexByte.f x1 (bt x0 x22)).bind fun t119 => (if t119 < 0 then (some false) else (chars_named.l0 k x0 x1 x21 (wrap64 (x22 + 1))))) else (chars_named.l0 k x0 x1 x21 (wrap64 (x22 + 1))))))) else (none)) else (none)) else (some true)
end
def chars_named.f (k : Nat) (a0 : ByteArray) (a1 : ByteArray) : Option (Bool) := if a0.toList = ([] : List UInt8) then (chars_named.j0 k a0 a1 true) else (if (a0.size : Int) > 32 then (chars_named.j0 k a0 a1 true) else (if 0 < (a0.size : Int) then ((chars_small.f (bt a0 0)).bind fun t116 => (chars_named.j0 k a0 a1 (!t116))) else (none)))
theorem chars_named.mono_l : ∀ k, (∀ y0 y1 y2, LeO (chars_named.j0 k y0 y1 y2) (chars_named.j0 (k + 1) y0 y1 y2)) ∧ (∀ y0 y1 y2 y3, LeO (chars_named.l0 k y0 y1 y2 y3) (chars_named.l0 (k + 1) y0 y1 y2 y3))
 | 0 => ⟨fun _ _ _ r h => by simp [chars_named.j0] at h, fun _ _ _ _ r h => by simp [chars_named.l0] at h⟩
 | k + 1 => by
  obtain ⟨ih0, ih1⟩ := chars_named.mono_l k
  refine ⟨?_, ?_⟩
  ·
   intro y0 y1 y2
   unfold chars_named.j0
   with_reducible repeat' first | exact ih0 _ _ _ | exact ih1 _ _ _ _ | exact LeO.refl _ | exact LeO.none _ | refine LeO.ite ?_ ?_ | refine LeO.bind ?_ (fun _ => ?_)
  ·
   intro y0 y1 y2 y3
   unfold chars_named.l0
   with_reducible repeat' first | exact ih0 _ _ _ | exact ih1 _ _ _ _ | exact LeO.refl _ | exact LeO.none _ | refine LeO.ite ?_ ?_ | refine LeO.bind ?_ (fun _ => ?_)
theorem chars_named.mono : ∀ a0 a1 k, LeO (chars_named.f k a0 a1) (chars_named.f (k + 1) a0 a1) := by
 intro a0 a1 k
 obtain ⟨ih0, ih1⟩ := chars_named.mono_l k
 unfold chars_named.f
 with_reducible repeat' first | exact ih0 _ _ _ | exact ih1 _ _ _ _ | exact LeO.refl _ | exact LeO.none _ | refine LeO.ite ?_ ?_ | refine LeO.bind ?_ (fun _ => ?_)
set_option maxHeartbeats 8000000 in
set_option maxRecDepth 100000 in
theorem chars_named.calls (k : Nat) (a0 : ByteArray) (a1 : ByteArray) (r : Bool) (w : World) (h : chars_named.f k a0 a1 = some r) :
  Calls Try.prog 38 #[.string a0, .string a1] w fun e w' => e = .returned (.bool r) ∧ Drawn0 w w' := by
 have H : (if a0.toList = ([] : List UInt8) then (chars_named.j0 k a0 a1 true) else (if (a0.size : Int) > 32 then (chars_named.j0 k a0 a1 true) else (if 0 < (a0.size : Int) then ((chars_small.f (bt a0 0)).bind fun t116 => (chars_named.j0 k a0 a1 (!t116))) else (none)))) = some r := h
 clear h
 have HC3 := zk H
 clear H
 go_enter Try.func38, Try.ntmps38
 go_upto_region 1 with (fail)
 go_cut [19] (fun v19 wc => ∃ (kq : Nat) (x19_2 : Bool), v19 = .bool x19_2 ∧ Aside0 (chars_named.j0 kq a0 a1 x19_2 = some r) ∧ Aside0 (kq ≤ k) ∧ Drawn0 w wc)
 case first =>
  have H := HC3.out; clear HC3
  by_cases c4 : a0.toList = ([] : List UInt8)
  ·
   rw [if_pos c4] at H; have c4b0 := beq_iff_eq.mpr c4; have c4b1 := bne_eq_false_iff_eq.mpr c4; clear c4
   (first | rw [c4b0] | (simp only [i64_w, i32_w]; rw [c4b0]) | skip)
   have H' := zk H; clear H; go_wp2
   go_meet
   case rel => exact ⟨_, (true), (by first | rfl | (simp; done) | (simp [*]; done)), H', ⟨by first | omega | exact Nat.le_refl _⟩, by repeat (first | exact Drawn0.refl _ | apply Drawn0.step)⟩
  ·
   rw [if_neg c4] at H; have c4b0 := beq_eq_false_iff_ne.mpr c4; have c4b1 := bne_iff_ne.mpr c4
   (first | rw [c4b0] | (simp only [i64_w, i32_w]; rw [c4b0]) | skip)
   by_cases c5 : (a0.size : Int) > 32
   ·
    rw [if_pos c5] at H; have c5b0 : decide (32 < (a0.size : Int)) = true := decide_eq_true c5; have c5b1 : decide (32 < a0.size) = true := decide_eq_true (by omega); clear c5; have H' := zk H; clear H; go_wp2
    go_meet
    case rel => exact ⟨_, (true), (by first | rfl | (simp; done) | (simp [*]; done)), H', ⟨by first | omega | exact Nat.le_refl _⟩, by repeat (first | exact Drawn0.refl _ | apply Drawn0.step)⟩
   ·
    rw [if_neg c5] at H; have c5b0 : decide (32 < (a0.size : Int)) = false := decide_eq_false c5; have c5b1 : decide (32 < a0.size) = false := decide_eq_false (by omega); clear c5
    by_cases c6 : 0 < (a0.size : Int)
    ·
     rw [if_pos c6] at H; have c6b0 := decide_eq_true c6; have c6b1 : decide (0 < a0.size) = true := decide_eq_true (by omega); clear c6; replace H := Option.bind_eq_some_iff.mp H; obtain ⟨t116, A80, H⟩ := H; replace H : (chars_named.j0 k a0 a1 (!t116)) = some r := H; have A8 := zk A80; clear A80; have H' := zk H; clear H; have p7 : 0 ≤ (0 : Int) := (by omega); have q7 : 0 < a0.size := (by have : (0 : Int) < (a0.size : Int) := zo (by assumption); omega); have hx7 : ∀ h : 0 < a0.size, ((a0[0]'h).toNat : Int) = bt a0 0 := bt_at a0 0; clear p7; have qi7 : (0 < (a0.size : Int)) = True := eq_true (zo (by assumption)); replace q7 := eq_true q7
     go_wp2_with (first | (go_at_call 44; (with_reducible refine (chars_small.calls (bt a0 0) t116 _ A8.out).mono ?_); rintro e w' ⟨rfl, ⟨nd, rfl⟩⟩))
     go_meet
     case rel => exact ⟨_, (!t116), (by first | rfl | (simp; done) | (simp [*]; done)), H', ⟨by first | omega | exact Nat.le_refl _⟩, by repeat (first | exact Drawn0.refl _ | apply Drawn0.step)⟩
    ·
     rw [if_neg c6] at H; exact absurd H (by simp)
 case rest =>
  clear HC3; (try clear p2); (try clear c3); (try clear c4); (try clear c4b0); (try clear c4b1); (try clear c5); (try clear c5b0); (try clear c5b1); (try clear c6); (try clear c6b0); (try clear c6b1); (try clear p7); (try clear q7); (try clear hx7); (try clear qi7); (try clear p7); (try clear q7); obtain ⟨kq, x19_2, rfl, HA, HJ2, ⟨mc2, rfl⟩⟩ := hcut
  cases kq with
  | zero => exact absurd HA.out (by simp [chars_named.j0])
  | succ kj2 =>
   have H := HA.out; clear HA; simp only [chars_named.j0] at H
   by_cases c9 : x19_2 = true
   ·
    subst c9
    have H1 : (some false) = some r := by rw [if_pos rfl] at H; exact H
    clear H; have H := H1; clear H1; obtain rfl := Option.some.inj H; go_wp2; go_ret; exact ⟨by first | rfl | (simp; done) | (simp [*]; done), by repeat (first | exact Drawn0.refl _ | apply Drawn0.step)⟩
   ·
    replace c9 := Bool.eq_false_iff.mpr c9; subst c9
    have H1 : (chars_named.l0 kj2 a0 a1 (a0.size : Int) 0) = some r := by rw [if_neg (show ¬ (false = true) by decide)] at H; exact H
    clear H; have H := H1; clear H1; have H' := zk H; clear H; go_wp2
    go_loopg [22] kj2 (fun kq v22 w' => ∃ (x22_2 : Int), v22 = .int .i64 x22_2 ∧ Aside0 (chars_named.l0 kq a0 a1 (a0.size : Int) x22_2 = some r) ∧ Aside0 (kq ≤ kj2) ∧ Drawn0 w w')
    case atStart => exact ⟨(0), (by first | rfl | (simp; done) | (simp [*]; done)), H', ⟨Nat.le_refl _⟩, by repeat (first | exact Drawn0.refl _ | apply Drawn0.step)⟩
    case round =>
     clear H'; (try clear c2); (try clear p2); (try clear c3); (try clear c4); (try clear c4b0); (try clear c4b1); (try clear c5); (try clear c5b0); (try clear c5b1); (try clear c6); (try clear c6b0); (try clear c6b1); (try clear p7); (try clear q7); (try clear hx7); (try clear qi7); (try clear c9); (try clear p2); (try clear p7); (try clear q7); obtain ⟨x22_2, rfl, HA, HK2, ⟨m2, rfl⟩⟩ := hrel
     cases gk with
     | zero => exact absurd HA.out (by simp [chars_named.l0])
     | succ k2 =>
      have H := HA.out; clear HA; simp only [chars_named.l0] at H
      by_cases c10 : x22_2 < (a0.size : Int)
      ·
       rw [if_pos c10] at H; have c10b0 := decide_eq_true c10; clear c10
       by_cases c11 : 0 ≤ x22_2
       ·
        rw [if_pos c11] at H; have c11b0 := decide_eq_true c11; clear c11
        by_cases c12 : x22_2 < (a0.size : Int)
        ·
         rw [if_pos c12] at H; have c12b0 := decide_eq_true c12; clear c12; replace H := Option.bind_eq_some_iff.mp H; obtain ⟨t117, A140, H⟩ := H; replace H : (if t117 = true then (chars_named.l0 k2 a0 a1 (a0.size : Int) (wrap64 (x22_2 + 1))) else (if (bt a0 x22_2) < 48 then ((strings_IndexByte.f a1 (bt a0 x22_2)).bind fun t118 => (if t118 < 0 then (some false) else (chars_named.l0 k2 a0 a1 (a0.size : Int) (wrap64 (x22_2 + 1))))) else (if (bt a0 x22_2) > 57 then ((strings_IndexByte.f a1 (bt a0 x22_2)).bind fun t119 => (if t119 < 0 then (some false) else (chars_named.l0 k2 a0 a1 (a0.size : Int) (wrap64 (x22_2 + 1))))) else (chars_named.l0 k2 a0 a1 (a0.size : Int) (wrap64 (x22_2 + 1)))))) = some r := H; have A14 := zk A140; clear A140
         by_cases c15 : t117 = true
         ·
          subst c15
          have H1 : (chars_named.l0 k2 a0 a1 (a0.size : Int) (wrap64 (x22_2 + 1))) = some r := by rw [if_pos rfl] at H; exact H
          clear H; have H := H1; clear H1; have H' := zk H; clear H; have p13 : 0 ≤ (x22_2 : Int) := zo (by assumption); have q13 : x22_2 < (a0.size : Int) := zo (by assumption); have hx13 := bt_at a0 x22_2; replace p13 := eq_true p13; replace q13 := eq_true q13
          go_wp2_with (first | ((with_reducible refine zgk (f := 44) rfl ?_); refine zgl (some 29) rfl rfl Try.func44 (by kernel_rfl) rfl #[.int .u8 (bt a0 x22_2)] rfl (by (try simp only [List.map_toArray, List.map_cons, List.map_nil]); first | done | rfl | (simp only [List.length_drop, List.length_take]; rfl)) ?_; (with_reducible refine (chars_small.calls (bt a0 x22_2) true _ A14.out).mono ?_); rintro e w' ⟨rfl, ⟨nd, rfl⟩⟩; refine ⟨_, rfl, ?_⟩))
          go_roundg k2
          case measure => have := HJ2.out; have := HK2.out; omega
          case rel => exact ⟨(wrap64 (x22_2 + 1)), (by first | rfl | (simp; done) | (simp [*]; done)), H', ⟨by have := HJ2.out; have := HK2.out; omega⟩, by repeat (first | exact Drawn0.refl _ | apply Drawn0.step)⟩
         ·
          replace c15 := Bool.eq_false_iff.mpr c15; subst c15
          have H1 : (if (bt a0 x22_2) < 48 then ((strings_IndexByte.f a1 (bt a0 x22_2)).bind fun t118 => (if t118 < 0 then (some false) else (chars_named.l0 k2 a0 a1 (a0.size : Int) (wrap64 (x22_2 + 1))))) else (if (bt a0 x22_2) > 57 then ((strings_IndexByte.f a1 (bt a0 x22_2)).bind fun t119 => (if t119 < 0 then (some false) else (chars_named.l0 k2 a0 a1 (a0.size : Int) (wrap64 (x22_2 + 1))))) else (chars_named.l0 k2 a0 a1 (a0.size : Int) (wrap64 (x22_2 + 1))))) = some r := by rw [if_neg (show ¬ (false = true) by decide)] at H; exact H
          clear H; have H := H1; clear H1
          by_cases c16 : (bt a0 x22_2) < 48
          ·
           rw [if_pos c16] at H; have c16b0 := decide_eq_true c16; clear c16; replace H := Option.bind_eq_some_iff.mp H; obtain ⟨t118, A170, H⟩ := H; replace H : (if t118 < 0 then (some false) else (chars_named.l0 k2 a0 a1 (a0.size : Int) (wrap64 (x22_2 + 1)))) = some r := H; have A17 := zk A170; clear A170
           by_cases c18 : t118 < 0
           ·
            rw [if_pos c18] at H; have c18b0 := decide_eq_true c18; clear c18; obtain rfl := Option.some.inj H; have p13 : 0 ≤ (x22_2 : Int) := zo (by assumption); have q13 : x22_2 < (a0.size : Int) := zo (by assumption); have hx13 := bt_at a0 x22_2; replace p13 := eq_true p13; replace q13 := eq_true q13
            go_wp2_with (first | ((with_reducible refine zgk (f := 44) rfl ?_); refine zgl (some 29) rfl rfl Try.func44 (by kernel_rfl) rfl #[.int .u8 (bt a0 x22_2)] rfl (by (try simp only [List.map_toArray, List.map_cons, List.map_nil]); first | done | rfl | (simp only [List.length_drop, List.length_take]; rfl)) ?_; (with_reducible refine (chars_small.calls (bt a0 x22_2) false _ A14.out).mono ?_); rintro e w' ⟨rfl, ⟨nd, rfl⟩⟩; refine ⟨_, rfl, ?_⟩) | (go_at_call 45; (with_reducible refine (strings_IndexByte.calls a1 (bt a0 x22_2) t118 _ A17.out).mono ?_); rintro e w' ⟨rfl, ⟨nd, rfl⟩⟩))
            go_ret; exact ⟨by first | rfl | (simp; done) | (simp [*]; done), by repeat (first | exact Drawn0.refl _ | apply Drawn0.step)⟩
           ·
            rw [if_neg c18] at H; have c18b0 := decide_eq_false c18; clear c18; have H' := zk H; clear H; have p13 : 0 ≤ (x22_2 : Int) := zo (by assumption); have q13 : x22_2 < (a0.size : Int) := zo (by assumption); have hx13 := bt_at a0 x22_2; replace p13 := eq_true p13; replace q13 := eq_true q13
            go_wp2_with (first | ((with_reducible refine zgk (f := 44) rfl ?_); refine zgl (some 29) rfl rfl Try.func44 (by kernel_rfl) rfl #[.int .u8 (bt a0 x22_2)] rfl (by (try simp only [List.map_toArray, List.map_cons, List.map_nil]); first | done | rfl | (simp only [List.length_drop, List.length_take]; rfl)) ?_; (with_reducible refine (chars_small.calls (bt a0 x22_2) false _ A14.out).mono ?_); rintro e w' ⟨rfl, ⟨nd, rfl⟩⟩; refine ⟨_, rfl, ?_⟩) | (go_at_call 45; (with_reducible refine (strings_IndexByte.calls a1 (bt a0 x22_2) t118 _ A17.out).mono ?_); rintro e w' ⟨rfl, ⟨nd, rfl⟩⟩))
            go_roundg k2
            case measure => have := HJ2.out; have := HK2.out; omega
            case rel => exact ⟨(wrap64 (x22_2 + 1)), (by first | rfl | (simp; done) | (simp [*]; done)), H', ⟨by have := HJ2.out; have := HK2.out; omega⟩, by repeat (first | exact Drawn0.refl _ | apply Drawn0.step)⟩
          ·
           rw [if_neg c16] at H; have c16b0 := decide_eq_false c16; clear c16
           by_cases c19 : (bt a0 x22_2) > 57
           ·
            rw [if_pos c19] at H; have c19b0 : decide (57 < (bt a0 x22_2)) = true := decide_eq_true c19; clear c19; replace H := Option.bind_eq_some_iff.mp H; obtain ⟨t119, A200, H⟩ := H; replace H : (if t119 < 0 then (some false) else (chars_named.l0 k2 a0 a1 (a0.size : Int) (wrap64 (x22_2 + 1)))) = some r := H; have A20 := zk A200; clear A200
            by_cases c21 : t119 < 0
            ·
             rw [if_pos c21] at H; have c21b0 := decide_eq_true c21; clear c21; obtain rfl := Option.some.inj H; have p13 : 0 ≤ (x22_2 : Int) := zo (by assumption); have q13 : x22_2 < (a0.size : Int) := zo (by assumption); have hx13 := bt_at a0 x22_2; replace p13 := eq_true p13; replace q13 := eq_true q13
             go_wp2_with (first | ((with_reducible refine zgk (f := 44) rfl ?_); refine zgl (some 29) rfl rfl Try.func44 (by kernel_rfl) rfl #[.int .u8 (bt a0 x22_2)] rfl (by (try simp only [List.map_toArray, List.map_cons, List.map_nil]); first | done | rfl | (simp only [List.length_drop, List.length_take]; rfl)) ?_; (with_reducible refine (chars_small.calls (bt a0 x22_2) false _ A14.out).mono ?_); rintro e w' ⟨rfl, ⟨nd, rfl⟩⟩; refine ⟨_, rfl, ?_⟩) | (go_at_call 45; (with_reducible refine (strings_IndexByte.calls a1 (bt a0 x22_2) t119 _ A20.out).mono ?_); rintro e w' ⟨rfl, ⟨nd, rfl⟩⟩))
             go_ret; exact ⟨by first | rfl | (simp; done) | (simp [*]; done), by repeat (first | exact Drawn0.refl _ | apply Drawn0.step)⟩
            ·
             rw [if_neg c21] at H; have c21b0 := decide_eq_false c21; clear c21; have H' := zk H; clear H; have p13 : 0 ≤ (x22_2 : Int) := zo (by assumption); have q13 : x22_2 < (a0.size : Int) := zo (by assumption); have hx13 := bt_at a0 x22_2; replace p13 := eq_true p13; replace q13 := eq_true q13
             go_wp2_with (first | ((with_reducible refine zgk (f := 44) rfl ?_); refine zgl (some 29) rfl rfl Try.func44 (by kernel_rfl) rfl #[.int .u8 (bt a0 x22_2)] rfl (by (try simp only [List.map_toArray, List.map_cons, List.map_nil]); first | done | rfl | (simp only [List.length_drop, List.length_take]; rfl)) ?_; (with_reducible refine (chars_small.calls (bt a0 x22_2) false _ A14.out).mono ?_); rintro e w' ⟨rfl, ⟨nd, rfl⟩⟩; refine ⟨_, rfl, ?_⟩) | (go_at_call 45; (with_reducible refine (strings_IndexByte.calls a1 (bt a0 x22_2) t119 _ A20.out).mono ?_); rintro e w' ⟨rfl, ⟨nd, rfl⟩⟩))
             go_roundg k2
             case measure => have := HJ2.out; have := HK2.out; omega
             case rel => exact ⟨(wrap64 (x22_2 + 1)), (by first | rfl | (simp; done) | (simp [*]; done)), H', ⟨by have := HJ2.out; have := HK2.out; omega⟩, by repeat (first | exact Drawn0.refl _ | apply Drawn0.step)⟩
           ·
            rw [if_neg c19] at H; have c19b0 : decide (57 < (bt a0 x22_2)) = false := decide_eq_false c19; clear c19; have H' := zk H; clear H; have p13 : 0 ≤ (x22_2 : Int) := zo (by assumption); have q13 : x22_2 < (a0.size : Int) := zo (by assumption); have hx13 := bt_at a0 x22_2; replace p13 := eq_true p13; replace q13 := eq_true q13
            go_wp2_with (first | ((with_reducible refine zgk (f := 44) rfl ?_); refine zgl (some 29) rfl rfl Try.func44 (by kernel_rfl) rfl #[.int .u8 (bt a0 x22_2)] rfl (by (try simp only [List.map_toArray, List.map_cons, List.map_nil]); first | done | rfl | (simp only [List.length_drop, List.length_take]; rfl)) ?_; (with_reducible refine (chars_small.calls (bt a0 x22_2) false _ A14.out).mono ?_); rintro e w' ⟨rfl, ⟨nd, rfl⟩⟩; refine ⟨_, rfl, ?_⟩))
            go_roundg k2
            case measure => have := HJ2.out; have := HK2.out; omega
            case rel => exact ⟨(wrap64 (x22_2 + 1)), (by first | rfl | (simp; done) | (simp [*]; done)), H', ⟨by have := HJ2.out; have := HK2.out; omega⟩, by repeat (first | exact Drawn0.refl _ | apply Drawn0.step)⟩
        ·
         rw [if_neg c12] at H; exact absurd H (by simp)
       ·
        rw [if_neg c11] at H; exact absurd H (by simp)
      ·
       rw [if_neg c10] at H; have c10b0 := decide_eq_false c10; clear c10; obtain rfl := Option.some.inj H; go_wp2; go_ret; exact ⟨by first | rfl | (simp; done) | (simp [*]; done), by repeat (first | exact Drawn0.refl _ | apply Drawn0.step)⟩
def chars_Name.f (k : Nat) (a0 : ByteArray) : Option (Bool) := (chars_named.f k a0 (⟨#[45, 58, 46]⟩ : ByteArray)).bind fun t120 => (some t120)
theorem chars_Name.mono : ∀ a0 k, LeO (chars_Name.f k a0) (chars_Name.f (k + 1) a0) := by
  intro a0 k; unfold chars_Name.f
  with_reducible repeat' first | exact chars_named.mono _ _ _ | exact LeO.refl _ | exact LeO.none _ | refine LeO.ite ?_ ?_ | refine LeO.bind ?_ (fun _ => ?_)
set_option maxHeartbeats 8000000 in
set_option maxRecDepth 100000 in
theorem chars_Name.calls (k : Nat) (a0 : ByteArray) (r : Bool) (w : World) (h : chars_Name.f k a0 = some r) :
    Calls Try.prog 23 #[.string a0] w fun e w' => e = .returned (.bool r) ∧ Drawn0 w w' := by
  have H : ((chars_named.f k a0 (⟨#[45, 58, 46]⟩ : ByteArray)).bind fun t120 => (some t120)) = some r := h; clear h; replace H := Option.bind_eq_some_iff.mp H; obtain ⟨t120, A20, H⟩ := H; replace H : (some t120) = some r := H; have A2 := zk A20; clear A20; obtain rfl := Option.some.inj H
  go_enter Try.func23, Try.ntmps23
  go_wp2_with (first | ((with_reducible refine zgk (f := 38) rfl ?_); refine zgl (some 4) rfl rfl Try.func38 (by kernel_rfl) rfl #[.string a0, .string (⟨#[45, 58, 46]⟩ : ByteArray)] rfl (by (try simp only [List.map_toArray, List.map_cons, List.map_nil]); first | done | rfl | (simp only [List.length_drop, List.length_take]; rfl)) ?_; (with_reducible refine (chars_named.calls k a0 (⟨#[45, 58, 46]⟩ : ByteArray) t120 _ A2.out).mono ?_); rintro e w' ⟨rfl, ⟨nd, rfl⟩⟩; refine ⟨_, rfl, ?_⟩))
  go_ret; exact ⟨by first | rfl | (simp; done) | (simp [*]; done), by repeat (first | exact Drawn0.refl _ | apply Drawn0.step)⟩
def chars_Fits.f (a0 : ByteArray) : Option (Bool) := some (decide ((a0.size : Int) ≤ 65536))
set_option maxHeartbeats 8000000 in
set_option maxRecDepth 100000 in
theorem chars_Fits.calls (a0 : ByteArray) (r : Bool) (w : World) (h : chars_Fits.f a0 = some r) :
    Calls Try.prog 24 #[.string a0] w fun e w' => e = .returned (.bool r) ∧ Drawn0 w w' := by
  have H : (some (decide ((a0.size : Int) ≤ 65536))) = some r := h; clear h; obtain rfl := Option.some.inj H
  go_enter Try.func24, Try.ntmps24
  go_wp2; go_ret; exact ⟨by first | rfl | (simp; done) | (simp [*]; done), by repeat (first | exact Drawn0.refl _ | apply Drawn0.step)⟩
end Go.Proofs.Ytnellpilmjjbcaa.G
namespace Go.Proofs.Ytnellpilmjjbcaa.G
open Go.RowKit Go.Proofs.YtnellpilmjjbcaaW.PrintWords Go.Proofs.YtnellpilmjjbcaaW.PrintLast Go.Proofs.YtnellpilmjjbcaaW.PrintMore
set_option linter.unusedVariables false
set_option linter.unusedSimpArgs false
theorem info45b : (Try.prog.info? 45).map (fun i => (i.zero, i.size, i.bytes)) = some (some (.agg #[(.string ⟨#[]⟩), (.string ⟨#[]⟩)]), 2, 32) := by kernel_rfl
def api_Attr_28.f (l0 : List S45) : Option (List S45) := if l0.length ≤ 4398046510976 then some l0 else none
set_option maxHeartbeats 4000000 in
set_option maxRecDepth 100000 in
theorem api_Attr_28.calls (A0 : Option Addr) (c0 : Nat) (l0 : List (S45)) (r : List S45) (w : World) (hr0 : Kd.C k45 w A0 l0.length l0) (hc0 : l0.length ≤ c0) (h : api_Attr_28.f l0 = some r) :
    Calls Try.prog 28 #[.slice A0 l0.length c0] w fun e w' => ∃ v0_ : Value, e = .returned (v0_) ∧ Kd.R k45 45 w' w.heap.size (fun _ => True) v0_ r ∧ Below w.heap.size w w' := by
  unfold api_Attr_28.f at h; split at h
  case isFalse => cases h
  rename_i hl
  obtain rfl := Option.some.inj h; clear h; have HR := zk hr0; have HC := zk hc0; clear hr0 hc0
  cases A0 with
  | none =>
    have hn : l0 = [] := by
      cases l0 with
      | nil => rfl
      | cons x xs => obtain ⟨ad, _, e, _⟩ := Kd.C_get HR.out z45 0 (by omega) (by simp)
                     cases e
    subst hn
    have he : ∀ W, (binOp .eql 22 (.slice none 0 c0) (.slice none 0 0)).run Try.prog W = .ok (.bool true) W := fun _ => rfl
    go_enter Try.func28, Try.ntmps28
    go_wp2_with fail
    go_ret; exact ⟨_, rfl, Kd.R_nil _ _ _ _ _, Below.refl _ _⟩
  | some ad =>
    have he : ∀ W, (binOp .eql 22 (.slice (some ad) l0.length c0) (.slice none 0 0)).run Try.prog W = .ok (.bool false) W := fun _ => rfl
    go_enter Try.func28, Try.ntmps28
    obtain ⟨W, hW⟩ : ∃ W, w.alloc (.cells #[] 45) = W := ⟨_, rfl⟩; have HB := zk (show Below w.heap.size w W from hW ▸ zA (Below.refl _ _) _); have HRW := zk (show Kd.C k45 W (some ad) l0.length l0 from hW ▸ Kd.C_alloc HR.out _)
    have HO := zk (show Kd.R k45 45 W w.heap.size (fun _ => True) (.slice (some ⟨w.heap.size, 0, none⟩) 0 0) [] from
      ⟨fun _ _ => trivial, [], ⟨by simp, .inr ⟨w.heap.size, 0, #[], rfl, Nat.le_refl _, by rw [← hW]; exact blk_new w _, Nat.le_refl _, by unfold maxLen; omega, by simp, by simp⟩⟩, by simp [Reps]⟩)
    have HL := zk hl
    go_wp2_with (at_builtin; (try rw [hW]); refine Kd.R_append_rows k45 (Rr := k45.K W) (w0 := w) w.heap.size rfl _ _ 22 45 _ 32 rfl Try.underlying22 info45b rfl (by decide) (by decide) (.slice (some ⟨w.heap.size, 0, none⟩) 0 0) [] l0 (some ad) l0.length c0 (fun _ => True) (fun _ => False) rfl rfl HO.out HRW.out (fun x cs hx => by have hx := k45_open hx; subst hx; exact k45_mkM _ _ _ x) (fun _ h => h.elim) (fun _ _ => trivial) HB.out HB.out.size (by have := HL.out; simp; omega) ?_; intro v1 w1 hr1 hb1 hg1 ho1; have R1 := zk hr1; have B1 := zk hb1; clear hr1 hb1 hg1 ho1)
    obtain ⟨A9, c9, ev⟩ := Kd.R_slice R1.out; subst ev
    go_wp2_with fail
    go_ret; exact ⟨_, rfl, R1.out, B1.out⟩
theorem ins_inplace {α : Type} (A B C X : List α) (hX : X.length = 2) (hC : 2 ≤ C.length) (L1 : List α) (hL : L1 = (A ++ B ++ C).take (A.length + 2) ++ B ++ (A ++ B ++ C).drop (A.length + 2 + B.length)) :
    L1.take A.length ++ X ++ L1.drop (A.length + 2) = A ++ X ++ B ++ C.drop 2 := by
  have h0 : ((A ++ B ++ C).take (A.length + 2)).length = A.length + 2 := by simp; omega
  have h1 : L1.take A.length = A := by
    rw [hL, List.append_assoc, List.take_append_of_le_length (by omega), List.take_take, Nat.min_eq_left (by omega), List.append_assoc, List.take_left]
  have h2 : L1.drop (A.length + 2) = B ++ C.drop 2 := by
    rw [hL, List.append_assoc]; rw [List.drop_append, h0, Nat.sub_self, List.drop_zero, List.drop_eq_nil_of_le (by omega), List.nil_append]
    congr 1
    rw [List.drop_append]; rw [List.drop_eq_nil_of_le (by first | (simp; done) | (simp; omega)), List.nil_append]
    congr 1
    first | done | (simp; omega) | (congr 1; omega)
  rw [h1, h2]; simp
theorem run_copy2 {P : Program} (w : World) (dT sT ty elem : TypeId) (g o dLen dCap : Nat) (a : Addr) (sLen sCap : Nat) (cur : Array Value) (t : TypeId) (cs : List Value)
    (hu : P.underlying dT = some (.slice elem)) (hs : (P.info? elem).map (·.size) = some 2)
    (hg : w.heap[g]? = some (.cells cur t (0, 0))) (hn : cs.length = Nat.min sLen dLen * 2)
    (hsrc : ∀ j v, cs[j]? = some v → w.cell? (a.add j) = some v) (hfit : o + cs.length ≤ cur.size) (h1 : ∀ v ∈ cs, v.oneCell' = true) :
    (Builtin.copy_ #[dT, sT] ty #[.slice (some ⟨g, o, none⟩) dLen dCap, .slice (some a) sLen sCap]).run P w =
      .ok (goInt (Nat.min sLen dLen)) (w.setRow g (cur.toList.take o ++ cs ++ cur.toList.drop (o + cs.length)).toArray) := by
  have hl := run_loadCells_list (P := P) w a cs hsrc; have hst := run_storeCells_at P g o t cs 0 cur w hg (by simpa using hfit) h1
  cases hq : P.info? elem with
  | none => simp [hq] at hs
  | some i =>
    have hi : i.size = 2 := by simpa [hq] using hs
    rw [hn] at hl; simp [Builtin.copy_, run_underlying hu, Builtin.lenOf, Builtin.firstCells, sizeOf, typeInfo, hq, hi, hl, hst]
theorem wp_val {P : Program} {ops : Array Oper} {rest : List Oper} {o : Oper} {a : Act} {w w' : World} {v : Value} {Q : Exit → Act → World → Prop} (hgd : o.guard = none) (hrun : (execOp a.eval o).run P w = .ok (.value v) w')
    (h : wpList P ops Q rest (a.put o.dst v) w') : wpList P ops Q (o :: rest) a w :=
  wpList_plain hgd fun K hK => by unfold Oper.wp; rw [hrun]; exact hK _ _ h
theorem run_append_op {P : Program} {o : Oper} {a : Act} {w w' : World} {s x : Operand} {t t2 : TypeId} {vs vx v : Value} (ho : o.op = .call { callee := .builtin .append, args := #[s, x], argTypes := #[t, t2] }) (hs : a.eval s = vs) (hx : a.eval x = vx)
    (hrun : (Builtin.append_ #[t, t2] o.type #[vs, vx]).run P w = .ok v w') : (execOp a.eval o).run P w = .ok (.value v) w' := by
  unfold execOp; simp only [ho, resolve, invoke, builtin, Sem.run_bind, Sem.run_pure, Result.andThen_ok, List.map_toArray, List.map_cons, List.map_nil, hs, hx, hrun]
theorem run_copy_op {P : Program} {o : Oper} {a : Act} {w w' : World} {s x : Operand} {t t2 : TypeId} {vs vx v : Value} (ho : o.op = .call { callee := .builtin .copy, args := #[s, x], argTypes := #[t, t2] }) (hs : a.eval s = vs) (hx : a.eval x = vx)
    (hrun : (Builtin.copy_ #[t, t2] o.type #[vs, vx]).run P w = .ok v w') : (execOp a.eval o).run P w = .ok (.value v) w' := by
  unfold execOp; simp only [ho, resolve, invoke, builtin, Sem.run_bind, Sem.run_pure, Result.andThen_ok, List.map_toArray, List.map_cons, List.map_nil, hs, hx, hrun]
/-- append(s[:n], make(T, m)...), where it does not fit. -/
theorem run_append_make {P : Program} (w : World) (t ti ty e : TypeId) (i : TypeInfo) (z : Value) (size bytes : Nat) (ht : P.underlying t = some (.slice e)) {k : IntKind} (hti : P.underlying ti = some (.int k)) (hi : P.info? e = some i) (hz : i.zero = some z)
    (hsize : i.size = size) (hby : i.bytes = bytes) (hzs : z.cells.size = size) (hsz : 0 < size) (hb0 : 0 < bytes) (g n cap : Nat) (xs : List Value) (hlx : xs.length = n * size) (hxs : ∀ j v, xs[j]? = some v → w.cell? ((⟨g, 0, none⟩ : Addr).add j) = some v) (kx : IntKind) (m : Nat) (hm : 0 < m) (hcap : cap < n + m) (hbytes : (n + m) * bytes ≤ 140737488355328) :
    (Builtin.append_ #[t, ti] ty #[.slice (some ⟨g, 0, none⟩) n cap, .int kx m]).run P w =
      .ok (.slice (some ⟨w.heap.size, 0, none⟩) (n + m) (grownCap w (n + m) cap e)) (w.drew.alloc (.cells (xs.toArray ++ Builtin.zeroCells z.cells m ++ Builtin.zeroCells z.cells (grownCap w (n + m) cap e - (n + m))) e)) := by
  subst hsize; subst hby; have hle : n + m ≤ 140737488355328 := Nat.le_trans (Nat.le_mul_of_pos_right _ hb0) hbytes
  have hw : IntKind.i64.wrap (m : Int) = m := by rw [IntKind.wrap_i64]; omega
  have hneg : ¬ ((m : Int) < 0) := by omega
  have hmb : m * i.bytes ≤ 140737488355328 := Nat.le_trans (Nat.mul_le_mul_right _ (Nat.le_add_left m n)) hbytes
  have hbig : ¬ (281474976710656 < (m : Int) * (i.bytes : Int)) := by
    rw [← Int.natCast_mul]; omega
  have hsn : i.size ≠ 0 := by omega
  have hn : ¬ (n + m ≤ cap) := by omega
  have h63' : ¬ (9223372036854775807 < ((n : Int) + (m : Int))) := by omega
  have hfit := growslice_fits hcap hbytes
  have h48' : ¬ (281474976710656 < Builtin.nextslicecap (n + m) cap * i.bytes) := by omega
  have hmz : ¬ (m * i.size = 0) := Nat.mul_ne_zero (by omega) hsn; have hfo := run_firstCells_some (P := P) w.drew i.size n ⟨g, 0, none⟩ n cap xs hlx (by simpa using hxs)
  have hna : Builtin.zeroCells z.cells m = (Builtin.zeroCells z.cells m).toList.toArray := by simp
  simp [Builtin.append_, run_underlying ht, run_underlying hti, sizeOf, typeInfo, zeroValue, hi, hz, asInt, asIntOf, hw, hneg, hbig, hn, h63', h48', Question.forced, hfo, newRow, grownCap, hmz]
theorem run_overlaps (W : World) (gv g o la ca lb cb : Nat) (cv cg : Array Value) (hv : W.heap[gv]? = some (.cells cv 45 (0, 0))) (hg : W.heap[g]? = some (.cells cg 45 (0, 0))) (hne : gv ≠ g) :
    (Extern.SlicesOverlaps.overlaps #[22, 22] #[4] #[.slice (some ⟨gv, 0, none⟩) la ca, .slice (some ⟨g, o, none⟩) lb cb]).run Try.prog W = .ok (.bool false) W := by
  have hs : (sizeOf 45).run Try.prog W = .ok 2 W := by kernel_rfl
  have h22 : Try.prog.underlying 22 = some (.slice 45) := by kernel_rfl
  have hfa : (frozen ⟨gv, 0, none⟩).run Try.prog W = .ok false W := by simp [frozen, Sem.run, World.frozen?, hv]
  delta Extern.SlicesOverlaps.overlaps
  conv => lhs; arg 2; whnf
  simp only [Sem.run]; simp only [Sem.bind]
  change Sem.run Try.prog (sizeOf 45 >>= _) W = _
  rw [Sem.run_bind, hs, Result.andThen_ok]
  have hsv : W.shape? gv = some (45, cv.size) := by simp [World.shape?, hv]
  have hsg : W.shape? g = some (45, cg.size) := by simp [World.shape?, hg]
  simp [frozen, noView, viewAt, mayBeOne, stringish, shape, Sem.run, World.frozen?, hv, hg, hne, hsv, hsg]
/-- The cells of a row. -/
def fl : List S45 → List Value
  | [] => []
  | x :: l => .string x.f0 :: .string x.f1 :: fl l
theorem fl_len (l : List S45) : (fl l).length = l.length * 2 := by
  induction l with
  | nil => rfl
  | cons x l ih => simp [fl, ih]; omega
theorem fl_append (l m : List S45) : fl (l ++ m) = fl l ++ fl m := by
  induction l with
  | nil => rfl
  | cons x l ih => simp [fl, ih]
theorem fl_take (l : List S45) : ∀ i : Nat, (fl l).take (i * 2) = fl (l.take i) := by
  induction l with
  | nil => intro i; simp [fl]
  | cons x l ih =>
    intro i
    cases i with
    | zero => simp [fl]
    | succ i =>
      rw [show (i + 1) * 2 = i * 2 + 1 + 1 by omega, fl, List.take_succ_cons, List.take_succ_cons, ih, List.take_succ_cons, fl]
theorem fl_drop (l : List S45) : ∀ i : Nat, (fl l).drop (i * 2) = fl (l.drop i) := by
  induction l with
  | nil => intro i; simp [fl]
  | cons x l ih =>
    intro i
    cases i with
    | zero => simp
    | succ i =>
      rw [show (i + 1) * 2 = i * 2 + 1 + 1 by omega, fl, List.drop_succ_cons, List.drop_succ_cons, ih, List.drop_succ_cons]
theorem fl_one (l : List S45) : ∀ u ∈ fl l, u.oneCell' = true := by
  induction l with
  | nil => intro u hu; cases hu
  | cons x l ih =>
    intro u hu; simp only [fl, List.mem_cons] at hu
    rcases hu with rfl | rfl | hu
    (rfl); (rfl); (exact ih u hu)
theorem reps_fl {R : S45 → List Value → Prop} (hR : ∀ x c, R x c → c = [.string x.f0, .string x.f1]) (l : List S45) : ∀ inner : List Value, Reps R 2 l inner → inner = fl l := by
  induction l with
  | nil =>
    intro inner h; exact List.eq_nil_of_length_eq_zero (by simpa using h.1)
  | cons x l ih =>
    intro inner h; have h0 := hR _ _ (h.2 0 x rfl); simp only [Nat.zero_mul, List.drop_zero] at h0
    have h1 : inner.drop 2 = fl l := by
      refine ih _ ⟨?_, fun j p hj => ?_⟩; (have := h.1; simp at this ⊢; omega); (have := h.2 (j + 1) p (by simpa using hj); rw [List.drop_drop]; rwa [show 2 + j * 2 = (j + 1) * 2 by omega])
    rw [← List.take_append_drop 2 inner, h0, h1]; rfl
theorem fl_reps {R : S45 → List Value → Prop} (hR : ∀ x, R x [.string x.f0, .string x.f1]) (l : List S45) : Reps R 2 l (fl l) := by
  refine ⟨fl_len l, fun j p hj => ?_⟩; have hl : j < l.length := (List.getElem?_eq_some_iff.1 hj).1; rw [fl_drop, List.drop_eq_getElem_cons hl]; have : l[j] = p := (List.getElem?_eq_some_iff.1 hj).2; rw [this]; exact hR p
theorem R_raw {W : World} {base g c m : Nat} {l : List S45} {cur : Array Value} (hb : base ≤ g) (hg : W.heap[g]? = some (.cells cur 45 (0, 0))) (hm : m ≤ c) (hcm : c ≤ maxLen) (hcs : cur.size = c * 2) (htake : cur.toList.take (m * 2) = fl l) (hl : l.length = m) :
    k45.R 45 W base (fun _ => True) (.slice (some ⟨g, 0, none⟩) m c) l := by
  subst hl; exact ⟨fun _ _ => trivial, fl l, ⟨fl_len l, .inr ⟨g, c, cur, rfl, hb, hg, hm, hcm, hcs, htake⟩⟩, fl_reps (fun x => k45_mkM _ _ _ x) l⟩
theorem ins_fl (l : List S45) (i : Nat) (x : S45) : fl (l.take i ++ [x] ++ l.drop i) = fl (l.take i) ++ [.string x.f0, .string x.f1] ++ fl (l.drop i) := by
  rw [fl_append, fl_append]; rfl
theorem ins_take (cur L1 : List Value) (l : List S45) (i n : Nat) (x : S45) (hn : n = l.length) (hi : i ≤ n) (ht : cur.take (n * 2) = fl l) (hc : n * 2 + 2 ≤ cur.length) (hL : cur.take ((i + 1) * 2) ++ fl (l.drop i) ++ cur.drop ((i + 1) * 2 + (fl (l.drop i)).length) = L1) :
    (L1.take (i * 2) ++ [Value.string x.f0, Value.string x.f1] ++ L1.drop (i * 2 + 2)).length = cur.length ∧ (L1.take (i * 2) ++ [Value.string x.f0, Value.string x.f1] ++ L1.drop (i * 2 + 2)).take ((n + 1) * 2) = fl (l.take i ++ [x] ++ l.drop i) := by
  have hA : (fl (l.take i)).length = i * 2 := by rw [fl_len, List.length_take]; omega
  have hB : (fl (l.drop i)).length = (n - i) * 2 := by rw [fl_len, List.length_drop]; omega
  have hcur : cur = fl (l.take i) ++ fl (l.drop i) ++ cur.drop (n * 2) := by
    rw [← fl_append, List.take_append_drop, ← ht, List.take_append_drop]
  have hC : 2 ≤ (cur.drop (n * 2)).length := by rw [List.length_drop]; omega
  have h := ins_inplace (fl (l.take i)) (fl (l.drop i)) (cur.drop (n * 2)) [Value.string x.f0, Value.string x.f1] rfl hC L1 (by
    rw [← hL, ← hcur, hA, show (i + 1) * 2 = i * 2 + 2 by omega])
  rw [hA] at h; rw [h]; constructor; (simp only [List.length_append, hA, hB, List.length_drop, List.length_cons, List.length_nil]; omega); (rw [ins_fl]; refine List.take_left' ?_; simp only [List.length_append, hA, hB, List.length_cons, List.length_nil]; omega)
theorem ins_grow (l : List S45) (i n : Nat) (x : S45) (hn : n = l.length) (hi : i ≤ n) (D Z L0 L2 : List Value) (hD : D = fl (l.take i) ++ Z) (hl : (n + 1) * 2 ≤ D.length) (h0 : D.take (i * 2) ++ [Value.string x.f0, Value.string x.f1] ++ D.drop (i * 2 + 2) = L0) (h2 : L0.take ((i + 1) * 2) ++ fl (l.drop i) ++ L0.drop ((i + 1) * 2 + (fl (l.drop i)).length) = L2) :
    L0.length = D.length ∧ L2.length = D.length ∧ L2.take ((n + 1) * 2) = fl (l.take i ++ [x] ++ l.drop i) := by
  have hA : (fl (l.take i)).length = i * 2 := by rw [fl_len, List.length_take]; omega
  have hB : (fl (l.drop i)).length = (n - i) * 2 := by rw [fl_len, List.length_drop]; omega
  have hL0 : L0.length = D.length := by
    rw [← h0]; simp only [List.length_append, List.length_take, List.length_drop, List.length_cons, List.length_nil]; omega
  have ht : D.take (i * 2) = fl (l.take i) := by rw [hD, ← hA]; exact List.take_left
  have ht0 : L0.take ((i + 1) * 2) = fl (l.take i) ++ [Value.string x.f0, Value.string x.f1] := by
    rw [← h0, ht]; refine List.take_left' ?_; simp only [List.length_append, hA, List.length_cons, List.length_nil]; omega
  refine ⟨hL0, ?_, ?_⟩; (rw [← h2, hB]; simp only [List.length_append, List.length_take, List.length_drop, hB, hL0]; omega); (rw [← h2, ht0, ins_fl]; refine List.take_left' ?_; simp only [List.length_append, hA, hB, List.length_cons, List.length_nil]; omega)
open List renaming setIfInBounds_toArray → zt, set_cons_zero → zu, set_cons_succ → zv
open Bool renaming true → T, false → F
theorem row_one (W : World) (gv : Nat) (x : S45) (hv : W.heap[gv]? = some (.cells #[.string x.f0, .string x.f1] 45 (0, 0))) : Kd.C k45 W (some ⟨gv, 0, none⟩) 1 [x] := by
  refine ⟨rfl, by omega, fun _ => ⟨_, rfl, fun j p hj => ?_⟩⟩
  cases j with
  | zero =>
    simp only [List.getElem?_cons_zero, Option.some.injEq] at hj; subst hj; refine ⟨[.string x.f0, .string x.f1], rfl, k45_mk W x, fun q u hq => ?_⟩; have := zC hv q; simp only [Nat.zero_mul, Nat.zero_add, Addr.add_lit] at *; rw [this]; simpa using hq
  | succ j => simp at hj
set_option maxHeartbeats 4000000 in
set_option maxRecDepth 100000 in
theorem insert (w0 W : World) (ok : Nat → Prop) (A : Option Addr) (n c : Nat) (l : List S45) (i : Nat) (x : S45) (gv : Nat)
    (hR : Kd.R k45 45 W w0.heap.size ok (.slice A n c) l) (hB : Below w0.heap.size w0 W) (hv : W.heap[gv]? = some (.cells #[.string x.f0, .string x.f1] 45 (0, 0))) (hgv : w0.heap.size ≤ gv) (hne : some gv ≠ (Value.slice A n c).ownBlock) (hi : i ≤ n) (hl : (n + 1) * 32 ≤ 140737488355328) (res : List S45) (hres : res = l.take i ++ [x] ++ l.drop i) :
    Calls Try.prog 29 #[.slice A n c, .int .i64 i, .slice (some ⟨gv, 0, none⟩) 1 1] W fun e w' => ∃ v', e = .returned v' ∧ Kd.R k45 45 w' w0.heap.size (fun _ => True) v' res ∧ Below w0.heap.size w0 w' := by
  have hn : n = l.length := (Kd.R_reads' hR).1; have hnc : n ≤ c := (Kd.R_reads' hR).2.1; have HR := Aside0.mk hR; have HB := Aside0.mk hB; have HV := Aside0.mk hv; have HGV := Aside0.mk hgv; have HNE := Aside0.mk hne; have HI := Aside0.mk hi; have HL := Aside0.mk hl; have HN := Aside0.mk hn; have HNC := Aside0.mk hnc; have a1 : decide ((0 : Int) ≤ (i : Int)) = true := decide_eq_true (by omega); have a2 : decide ((i : Int) ≤ (n : Int)) = true := decide_eq_true (by omega); have HRES := Aside0.mk hres; clear hres hR hB hv hgv hne hl hn
  by_cases hin : i = n
  · have HIN := Aside0.mk hin
    have a3 : ((i : Int) == (n : Int)) = true := by simp [hin]
    clear hin
    go_enter Try.func29, Try.ntmps29
    have HRV := Aside0.mk (row_one W gv x HV.out)
    have HR2 := Aside0.mk (Kd.R_mono (ok' := fun _ => True) HR.out (fun _ _ => trivial))
    go_wp2_with (at_builtin; refine Kd.R_append_rows k45 (Rr := k45.K W) (w0 := w0) w0.heap.size rfl _ _ 22 45 _ 32 rfl Try.underlying22 info45 rfl (by decide) (by decide) _ l [x] (some ⟨gv, 0, none⟩) 1 1 (fun _ => True) (fun _ => False) rfl rfl HR2.out HRV.out (fun y cs hy => by have hy := k45_open hy; subst hy; exact k45_mkM _ _ _ y) (fun _ h => h.elim) (fun _ _ => trivial) HB.out HB.out.size (by have := HL.out; have := HN.out; omega) ?_; intro v1 w1 hr1 hb1 hg1 ho1; have R1 := Aside0.mk (show Kd.R k45 45 w1 w0.heap.size (fun _ => True) v1 res from by rw [HRES.out, List.take_of_length_le (by have := HIN.out; have := HN.out; omega), List.drop_eq_nil_of_le (by have := HIN.out; have := HN.out; omega), List.append_nil]; exact hr1); have B1 := Aside0.mk hb1; clear hr1 hb1 hg1 ho1)
    all_goals
      go_ret
      exact ⟨_, rfl, R1.out, B1.out⟩
  · have HIN := Aside0.mk hin
    have a3 : ((i : Int) == (n : Int)) = false := by simp; omega
    have hlt := Aside0.mk (show i < n by omega)
    clear hin
    obtain ⟨hok, inner, hown, hrep⟩ := HR.out
    rcases hown.2 with ⟨e, _⟩ | ⟨g, cap, cur, e, hbg, hg, hnc', hcm, hcs, htake⟩
    · injection e with e1 e2 e3
      exact absurd e2 (by have := hlt.out; omega)
    injection e with e1 e2 e3
    subst e1 e3
    have ha : (i : Int) < (c : Int) := by have := hlt.out; omega
    have HG := Aside0.mk hg
    have HBG := Aside0.mk hbg
    have HCS := Aside0.mk (show cur.size = c * 2 from hcs)
    have HCM := Aside0.mk hcm
    have HT := Aside0.mk (show cur.toList.take (n * 2) = inner by have h2 := htake; rw [← HN.out] at h2; exact h2)
    have HREP := Aside0.mk hrep
    have HIL := Aside0.mk hown.1
    clear hown hrep hg hbg hcs hcm htake hok hnc' e2
    by_cases hcap : n + 1 ≤ c
    · have a5 : decide ((c : Int) < (n : Int) + 1) = false := decide_eq_false (by omega)
      have hw1 : wrap64 ((n : Int) + 1) = (n : Int) + 1 := by have := HL.out; unfold wrap64; omega
      have hw2 : wrap64 ((i : Int) + 1) = (i : Int) + 1 := by have := HL.out; unfold wrap64; omega
      go_enter Try.func29, Try.ntmps29
      have b1 : (0 : Int) ≤ (i : Int) + 1 := by omega
      have b2 : (i : Int) ≤ (n : Int) + 1 := by omega
      have q1 : ¬ c = i := by have := hlt.out; omega
      have q2 : ¬ c = i + 1 := by have := hlt.out; omega
      have q3 : i < n := hlt.out
      have q4 : i < c := by have := hlt.out; omega
      have q5 : i + 1 < c := by have := hlt.out; omega
      go_upto_region 14 with (fail)
      go_wp2
      have HGN := Aside0.mk (show gv ≠ g from fun e => HNE.out (by rw [e]; rfl))
      rw [run_callFunc_extern Try.func39 (by kernel_rfl) (by kernel_rfl) (by kernel_rfl) (e := Extern.SlicesOverlaps.overlaps #[22, 22] #[4]) (by kernel_rfl), run_overlaps W gv g _ _ _ _ _ _ _ HV.out HG.out HGN.out]
      simp only [Result.andThen]
      rw [Oper.upon_value]
      have HIN2 := Aside0.mk (show inner = fl l from reps_fl (fun _ _ h => k45_openM h) l inner HREP.out)
      go_upto_region 15 with (fail)
      refine start_ (n := 9) (S := (fun w' => True)) (ds := [8]) #[F,F,F,F,F,F,F,F,F] (by kernel_rfl) rfl rfl ?_ ?_
      · exact trivial
      intro hHeld
      obtain ⟨W5, hW5⟩ : ∃ W5, W.drew = W5 := ⟨_, rfl⟩; rw [hW5]; have HG5 := Aside0.mk (show W5.heap[g]? = some (.cells cur 45 (0, 0)) from hW5 ▸ HG.out); have HV5 := Aside0.mk (show W5.heap[gv]? = some (.cells #[.string x.f0, .string x.f1] 45 (0, 0)) from hW5 ▸ HV.out); have HB5 := Aside0.mk (show Below w0.heap.size w0 W5 from hW5 ▸ below_drew HB.out); clear hW5
      refine pure_ (i := 0) (N := some 69) (v := ?_) (a' := ?_) #[T,F,F,F,F,F,F,F,F] rfl rfl (by kernel_rfl) (fun _ _ _ h => h) (Or.inl ⟨by rfl, ?_⟩) ?_ ?_
      rotate_left
      · intro w'
        go_simp
        with_reducible rfl
      rotate_left
      · simp only [Act.put, zt, zu, zv, i64_w, i32_w]
        rfl
      refine pure_ (i := 1) (N := some 70) (v := ?_) (a' := ?_) #[T,T,F,F,F,F,F,F,F] rfl rfl (by kernel_rfl) (fun _ _ _ h => h) (Or.inl ⟨by rfl, ?_⟩) ?_ ?_
      rotate_left
      · intro w'
        go_simp
        with_reducible rfl
      rotate_left
      · simp only [Act.put, zt, zu, zv, i64_w, i32_w]
        rfl
      refine pure_ (i := 2) (N := some 71) (v := ?_) (a' := ?_) #[T,T,T,F,F,F,F,F,F] rfl rfl (by kernel_rfl) (fun _ _ _ h => h) (Or.inl ⟨by rfl, ?_⟩) ?_ ?_
      rotate_left
      · intro w'
        go_simp
        with_reducible rfl
      rotate_left
      · simp only [Act.put, zt, zu, zv, i64_w, i32_w]
        rfl
      refine pure_ (i := 3) (N := some 72) (v := ?_) (a' := ?_) #[T,T,T,T,F,F,F,F,F] rfl rfl (by kernel_rfl) (fun _ _ _ h => h) (Or.inl ⟨by rfl, ?_⟩) ?_ ?_
      rotate_left
      · intro w'
        go_simp
        with_reducible rfl
      rotate_left
      · simp only [Act.put, zt, zu, zv, i64_w, i32_w]
        rfl
      refine pure_ (i := 4) (N := some 73) (v := ?_) (a' := ?_) #[T,T,T,T,T,F,F,F,F] rfl rfl (by kernel_rfl) (fun _ _ _ h => h) (Or.inl ⟨by rfl, ?_⟩) ?_ ?_
      rotate_left
      · intro w'
        go_simp
        with_reducible rfl
      rotate_left
      · simp only [Act.put, zt, zu, zv, i64_w, i32_w]
        rfl
      refine pure_ (i := 5) (N := some 74) (v := ?_) (a' := ?_) #[T,T,T,T,T,T,F,F,F] rfl rfl (by kernel_rfl) (fun _ _ _ h => h) (Or.inl ⟨by rfl, ?_⟩) ?_ ?_
      rotate_left
      · intro w'
        go_simp
        with_reducible rfl
      rotate_left
      · simp only [Act.put, zt, zu, zv, i64_w, i32_w]
        rfl
      refine pure_ (i := 6) (N := some 75) (v := ?_) (a' := ?_) #[T,T,T,T,T,T,T,F,F] rfl rfl (by kernel_rfl) (fun _ _ _ h => h) (Or.inl ⟨by rfl, ?_⟩) ?_ ?_
      rotate_left
      · intro w'
        go_simp
        with_reducible rfl
      rotate_left
      · simp only [Act.put, zt, zu, zv, i64_w, i32_w]
        rfl
      refine pure_ (i := 7) (N := some 76) (v := ?_) (a' := ?_) #[T,T,T,T,T,T,T,T,F] rfl rfl (by kernel_rfl) (fun _ _ _ h => h) (Or.inl ⟨by rfl, ?_⟩) ?_ ?_
      rotate_left
      · intro w'
        go_simp
        with_reducible rfl
      rotate_left
      · simp only [Act.put, zt, zu, zv, i64_w, i32_w]
        rfl
      refine last_ (i := 8) (N := some 77) #[T,T,T,T,T,T,T,T,T] rfl rfl (by kernel_rfl) (by decide) (fun K hK => ?_)
      have hrun := run_copy2 (P := Try.prog) W5 22 22 3 45 g ((i + 1) * 2) (n - i) (c - (i + 1)) ⟨g, i * 2, none⟩ (n + 1 - i) (c - i) cur 45 (fl (l.drop i)) Try.underlying22 (by kernel_rfl) HG5.out (by rw [fl_len, List.length_drop]; have := HN.out; have : Nat.min (n + 1 - i) (n - i) = n - i := Nat.min_eq_right (by omega); rw [this]; omega) (by
        intro j v hj; rw [Addr.add_lit, zC HG5.out, ← Array.getElem?_toList]; rw [← fl_drop, ← HIN2.out, ← HT.out, List.getElem?_drop, List.getElem?_take] at hj; split at hj; (exact hj)
        · cases hj) (by rw [fl_len, List.length_drop, HCS.out]; have := HN.out; have := hlt.out; omega) (fl_one _)
      refine value_ (w1 := _) (v := _) (by rfl) rfl (run_copy_op (s := .tmp 73) (x := .tmp 76) rfl rfl rfl hrun) ?_
      refine hK.out _ _ ?_
      clear hK K
      refine norm_ (a' := ?_) ?_ ?_
      rotate_left
      · show Act.put _ (some 77) _ = _
        simp only [Act.put, zt, zu, zv, i64_w, i32_w]
        rfl
      refine done_ (by kernel_rfl) ?_
      obtain ⟨L1, hL1⟩ : ∃ L1 : List Value, cur.toList.take ((i + 1) * 2) ++ fl (l.drop i) ++ cur.toList.drop ((i + 1) * 2 + (fl (l.drop i)).length) = L1 := ⟨_, rfl⟩
      obtain ⟨W6, hW6⟩ : ∃ W6, W5.setRow g (cur.toList.take ((i + 1) * 2) ++ fl (l.drop i) ++ cur.toList.drop ((i + 1) * 2 + (fl (l.drop i)).length)).toArray = W6 := ⟨_, rfl⟩
      rw [hW6]
      rw [hL1] at hW6
      have HL1 := Aside0.mk hL1
      have HG6 := Aside0.mk (show W6.heap[g]? = some (.cells L1.toArray 45 (0, 0)) from hW6 ▸ setRow_heap W5 g cur _ 45 _ HG5.out)
      have HV6 := Aside0.mk (show W6.heap[gv]? = some (.cells #[.string x.f0, .string x.f1] 45 (0, 0)) from hW6 ▸ (setRow_other W5 g gv _ HGN.out).trans HV5.out)
      have HB6 := Aside0.mk (show Below w0.heap.size w0 W6 from hW6 ▸ below_setRow HB5.out HBG.out _)
      clear hW6 hL1
      have hrun2 := Aside0.mk (run_copy2 (P := Try.prog) W6 22 22 3 45 g (i * 2) (n + 1 - i) (c - i) ⟨gv, 0, none⟩ 1 1 L1.toArray 45 [.string x.f0, .string x.f1] Try.underlying22 (by kernel_rfl) HG6.out (by have : Nat.min 1 (n + 1 - i) = 1 := Nat.min_eq_left (by omega); rw [this]; rfl) (by
        intro j v hj; rw [Addr.add_lit, zC HV6.out, Nat.zero_add]
        simpa using hj) (by
        rw [← HL1.out]; simp only [List.size_toArray, List.length_append, List.length_take, List.length_drop, Array.length_toList, fl_len, HCS.out, List.length_cons, List.length_nil]; have := HN.out; have := hlt.out
        omega) (by intro u hu; simp at hu; rcases hu with rfl | rfl <;> rfl))
      go_wp2_with fail
      rw [hrun2.out]
      simp only [Result.andThen]
      rw [Oper.upon_value]
      go_wp2_with fail
      go_ret
      have hins := ins_take cur.toList L1 l i n x HN.out hi (by rw [HT.out, HIN2.out]) (by rw [Array.length_toList, HCS.out]; omega) HL1.out
      have hl1 := hins.1.trans (show cur.toList.length = c * 2 by rw [Array.length_toList, HCS.out])
      refine ⟨_, rfl, ?_, ?_⟩
      · refine R_raw HBG.out (setRow_heap W6 g _ _ 45 _ HG6.out) hcap HCM.out ?_ ?_ ?_
        · simpa using hl1
        · rw [HRES.out]
          simpa using hins.2
        · rw [HRES.out]
          simp only [List.length_append, List.length_take, List.length_drop, List.length_cons, List.length_nil]
          have := HN.out
          omega
      · exact below_setRow HB6.out HBG.out _
    · have a5 : decide ((c : Int) < (n : Int) + 1) = true := decide_eq_true (by omega)
      have hw1 : wrap64 ((n : Int) + 1) = (n : Int) + 1 := by have := HL.out; unfold wrap64; omega
      have hw2 : wrap64 ((i : Int) + 1) = (i : Int) + 1 := by have := HL.out; unfold wrap64; omega
      obtain ⟨m, hm⟩ : ∃ m : Nat, n + 1 = i + m := ⟨n + 1 - i, by omega⟩
      have hm1 : 2 ≤ m := by have := hlt.out; omega
      have hw3 : wrap64 ((n : Int) + 1 - (i : Int)) = (m : Int) := by have := HL.out; unfold wrap64; omega
      have HM := Aside0.mk hm
      have q0 : ¬ c = i := by have := hlt.out; omega
      have q1 : i ≤ c := by have := hlt.out; omega
      have HCAP := Aside0.mk hcap
      clear hm hcap
      have HIN2 := Aside0.mk (show inner = fl l from reps_fl (fun _ _ h => k45_openM h) l inner HREP.out)
      obtain ⟨i0, hi0, hzz⟩ := Option.map_eq_some_iff.1 info45
      simp only [Prod.mk.injEq] at hzz
      obtain ⟨hz0, hz1, hz2⟩ := hzz
      have hxs : ∀ j v, (fl (l.take i))[j]? = some v → W.cell? ((⟨g, 0, none⟩ : Addr).add j) = some v := by
        intro j v hj; rw [Addr.add_lit, zC HG.out, ← Array.getElem?_toList, Nat.zero_add]; rw [← fl_take, ← HIN2.out, ← HT.out, List.getElem?_take] at hj; split at hj
        · rw [List.getElem?_take] at hj
          split at hj
          · exact hj
          · cases hj
        · cases hj
      have hrunA := run_append_make (P := Try.prog) W 22 3 22 45 i0 _ 2 32 Try.underlying22 (k := .i64) (by kernel_rfl) hi0 hz0 hz1 hz2 rfl (by omega) (by omega) g i c (fl (l.take i)) (by rw [fl_len, List.length_take]; have := HN.out; omega) hxs .i64 m (by omega) (by have := HM.out; have := HCAP.out; omega) (by have := HM.out; have := HL.out; omega)
      have hge := grownCap_ge W (i + m) c 45
      have hcm1 := grownCap_le_maxLen W (i + m) c 45 (by have := HM.out; have := HL.out; unfold maxLen; omega)
      obtain ⟨C1, hC1⟩ : ∃ C1, grownCap W (i + m) c 45 = C1 := ⟨_, rfl⟩
      rw [hC1] at hrunA hge hcm1
      obtain ⟨Z, hZ⟩ : ∃ Z : List Value, (Builtin.zeroCells (Value.agg #[.string ⟨#[]⟩, .string ⟨#[]⟩]).cells m ++ Builtin.zeroCells (Value.agg #[.string ⟨#[]⟩, .string ⟨#[]⟩]).cells (C1 - (i + m))).toList = Z := ⟨_, rfl⟩
      have hZl : Z.length = (C1 - i) * 2 := by
        rw [← hZ, Array.length_toList, Array.size_append, size_zeroCells, size_zeroCells]
        show m * 2 + (C1 - (i + m)) * 2 = _
        omega
      obtain ⟨W1, hW1⟩ : ∃ W1, W.drew.alloc (.cells ((fl (l.take i)).toArray ++ Builtin.zeroCells (Value.agg #[.string ⟨#[]⟩, .string ⟨#[]⟩]).cells m ++ Builtin.zeroCells (Value.agg #[.string ⟨#[]⟩, .string ⟨#[]⟩]).cells (C1 - (i + m))) 45) = W1 := ⟨_, rfl⟩
      rw [hW1] at hrunA
      obtain ⟨g1, hg1⟩ : ∃ g1, W.heap.size = g1 := ⟨_, rfl⟩
      rw [hg1] at hrunA
      have HG1 := Aside0.mk (show W1.heap[g1]? = some (.cells (fl (l.take i) ++ Z).toArray 45 (0, 0)) from by
        rw [← hW1, ← hg1]; refine (heap_alloc_new W.drew _).trans ?_
        congr 2
        apply Array.ext'; rw [← hZ]
        simp)
      have ltg := blk_lt HG.out
      have ltv := blk_lt HV.out
      have HGo := Aside0.mk (show W1.heap[g]? = some (.cells cur 45 (0, 0)) from by rw [← hW1]; exact (heap_alloc_old W.drew _ ltg).trans HG.out)
      have HV1 := Aside0.mk (show W1.heap[gv]? = some (.cells #[.string x.f0, .string x.f1] 45 (0, 0)) from by rw [← hW1]; exact (heap_alloc_old W.drew _ ltv).trans HV.out)
      have HB1 := Aside0.mk (show Below w0.heap.size w0 W1 from by rw [← hW1]; exact zA (below_drew HB.out) _)
      have LG := Aside0.mk (show g ≠ g1 ∧ gv ≠ g1 ∧ w0.heap.size ≤ g1 by have := HB.out.size; exact ⟨by omega, by omega, by omega⟩)
      clear hW1 ltg ltv hg1 hxs hz0 hz1 hz2 hi0
      have HRA := Aside0.mk hrunA
      have HCM1 := Aside0.mk hcm1
      have HZL := Aside0.mk hZl
      clear hrunA hZ hC1 hcm1 hZl
      obtain ⟨D, hD⟩ : ∃ D, fl (l.take i) ++ Z = D := ⟨_, rfl⟩
      rw [hD] at HG1
      have HD := Aside0.mk hD
      have HDL := Aside0.mk (show D.length = C1 * 2 by rw [← hD, List.length_append, fl_len, List.length_take, HZL.out]; have := HN.out; omega)
      clear hD
      obtain ⟨L0, hL0⟩ : ∃ L0 : List Value, D.take (i * 2) ++ [Value.string x.f0, Value.string x.f1] ++ D.drop (i * 2 + 2) = L0 := ⟨_, rfl⟩
      have hrunB := run_copy2 (P := Try.prog) W1 22 22 3 45 g1 (i * 2) m (C1 - i) ⟨gv, 0, none⟩ 1 1 D.toArray 45 [.string x.f0, .string x.f1] Try.underlying22 (by kernel_rfl) HG1.out (by have : Nat.min 1 m = 1 := Nat.min_eq_left (by omega); rw [this]; rfl) (by
        intro j v hj; rw [Addr.add_lit, zC HV1.out, Nat.zero_add]
        simpa using hj) (by
        rw [List.size_toArray, HDL.out]; simp only [List.length_cons, List.length_nil]
        omega) (by intro u hu; simp at hu; rcases hu with rfl | rfl <;> rfl)
      rw [show [Value.string x.f0, Value.string x.f1].length = 2 from rfl] at hrunB
      simp only [List.toList_toArray] at hrunB
      rw [hL0] at hrunB
      obtain ⟨W2, hW2⟩ : ∃ W2, W1.setRow g1 L0.toArray = W2 := ⟨_, rfl⟩
      rw [hW2] at hrunB
      have HRB := Aside0.mk hrunB
      have HG2 := Aside0.mk (show W2.heap[g1]? = some (.cells L0.toArray 45 (0, 0)) from hW2 ▸ setRow_heap W1 g1 _ _ 45 _ HG1.out)
      have HGo2 := Aside0.mk (show W2.heap[g]? = some (.cells cur 45 (0, 0)) from hW2 ▸ (setRow_other W1 g1 g _ LG.out.1).trans HGo.out)
      have HB2 := Aside0.mk (show Below w0.heap.size w0 W2 from hW2 ▸ below_setRow HB1.out LG.out.2.2 _)
      have HL0 := Aside0.mk hL0
      clear hrunB hW2 hL0
      have b1 : (0 : Int) ≤ (i : Int) + 1 := by omega
      have b2 : (i : Int) ≤ (i : Int) + (m : Int) := by omega
      have b3 : (i : Int) + 1 ≤ (i : Int) + (m : Int) := by omega
      have r1 : ¬ C1 = i := by omega
      have r2 : ¬ C1 = i + 1 := by omega
      have r3 : 1 ≤ m := by omega
      have r4 : i + 1 ≤ i + m := by omega
      go_enter Try.func29, Try.ntmps29
      go_upto_region 10 with (at_builtin; refine wp_val (v := .slice (some ⟨g1, 0, none⟩) (i + m) C1) (w' := W1) rfl (run_append_op (s := .tmp 34) (x := .tmp 39) (t := 22) (t2 := 3) (vs := .slice (some ⟨g, 0, none⟩) i c) (vx := .int .i64 m) rfl rfl (congrArg (Value.int .i64) hw3) HRA.out) ?_)
      go_wp2_with fail
      rw [HRB.out]
      simp only [Result.andThen]
      rw [Oper.upon_value]
      go_upto_region 11 with (fail)
      refine start_ (n := 9) (S := (fun w' => True)) (ds := [8]) #[F,F,F,F,F,F,F,F,F] (by kernel_rfl) rfl rfl ?_ ?_
      · exact trivial
      intro hHeld
      obtain ⟨W5, hW5⟩ : ∃ W5, W2.drew = W5 := ⟨_, rfl⟩; rw [hW5]; have HG5 := Aside0.mk (show W5.heap[g1]? = some (.cells L0.toArray 45 (0, 0)) from hW5 ▸ HG2.out); have HGo5 := Aside0.mk (show W5.heap[g]? = some (.cells cur 45 (0, 0)) from hW5 ▸ HGo2.out); have HB5 := Aside0.mk (show Below w0.heap.size w0 W5 from hW5 ▸ below_drew HB2.out); clear hW5
      refine pure_ (i := 0) (N := some 46) (v := ?_) (a' := ?_) #[T,F,F,F,F,F,F,F,F] rfl rfl (by kernel_rfl) (fun _ _ _ h => h) (Or.inl ⟨by rfl, ?_⟩) ?_ ?_
      rotate_left
      · intro w'
        go_simp
        with_reducible rfl
      rotate_left
      · simp only [Act.put, zt, zu, zv, i64_w, i32_w]
        rfl
      refine pure_ (i := 1) (N := some 47) (v := ?_) (a' := ?_) #[T,T,F,F,F,F,F,F,F] rfl rfl (by kernel_rfl) (fun _ _ _ h => h) (Or.inl ⟨by rfl, ?_⟩) ?_ ?_
      rotate_left
      · intro w'
        go_simp
        with_reducible rfl
      rotate_left
      · simp only [Act.put, zt, zu, zv, i64_w, i32_w]
        rfl
      refine pure_ (i := 2) (N := some 48) (v := ?_) (a' := ?_) #[T,T,T,F,F,F,F,F,F] rfl rfl (by kernel_rfl) (fun _ _ _ h => h) (Or.inl ⟨by rfl, ?_⟩) ?_ ?_
      rotate_left
      · intro w'
        go_simp
        with_reducible rfl
      rotate_left
      · simp only [Act.put, zt, zu, zv, i64_w, i32_w]
        rfl
      refine pure_ (i := 3) (N := some 49) (v := ?_) (a' := ?_) #[T,T,T,T,F,F,F,F,F] rfl rfl (by kernel_rfl) (fun _ _ _ h => h) (Or.inl ⟨by rfl, ?_⟩) ?_ ?_
      rotate_left
      · intro w'
        go_simp
        with_reducible rfl
      rotate_left
      · simp only [Act.put, zt, zu, zv, i64_w, i32_w]
        rfl
      refine pure_ (i := 4) (N := some 50) (v := ?_) (a' := ?_) #[T,T,T,T,T,F,F,F,F] rfl rfl (by kernel_rfl) (fun _ _ _ h => h) (Or.inl ⟨by rfl, ?_⟩) ?_ ?_
      rotate_left
      · intro w'
        go_simp
        with_reducible rfl
      rotate_left
      · simp only [Act.put, zt, zu, zv, i64_w, i32_w]
        rfl
      refine pure_ (i := 5) (N := some 51) (v := ?_) (a' := ?_) #[T,T,T,T,T,T,F,F,F] rfl rfl (by kernel_rfl) (fun _ _ _ h => h) (Or.inl ⟨by rfl, ?_⟩) ?_ ?_
      rotate_left
      · intro w'
        go_simp
        with_reducible rfl
      rotate_left
      · simp only [Act.put, zt, zu, zv, i64_w, i32_w]
        rfl
      refine pure_ (i := 6) (N := some 52) (v := ?_) (a' := ?_) #[T,T,T,T,T,T,T,F,F] rfl rfl (by kernel_rfl) (fun _ _ _ h => h) (Or.inl ⟨by rfl, ?_⟩) ?_ ?_
      rotate_left
      · intro w'
        go_simp
        with_reducible rfl
      rotate_left
      · simp only [Act.put, zt, zu, zv, i64_w, i32_w]
        rfl
      refine pure_ (i := 7) (N := some 53) (v := ?_) (a' := ?_) #[T,T,T,T,T,T,T,T,F] rfl rfl (by kernel_rfl) (fun _ _ _ h => h) (Or.inl ⟨by rfl, ?_⟩) ?_ ?_
      rotate_left
      · intro w'
        go_simp
        with_reducible rfl
      rotate_left
      · simp only [Act.put, zt, zu, zv, i64_w, i32_w]
        rfl
      refine last_ (i := 8) (N := some 54) #[T,T,T,T,T,T,T,T,T] rfl rfl (by kernel_rfl) (by decide) (fun K hK => ?_)
      have hL2 := ins_grow l i n x HN.out hi D Z L0 _ HD.out.symm (by rw [HDL.out]; have := HM.out; omega) HL0.out rfl
      have hrun := run_copy2 (P := Try.prog) W5 22 22 3 45 g1 ((i + 1) * 2) (i + m - (i + 1)) (C1 - (i + 1)) ⟨g, i * 2, none⟩ (n - i) (c - i) L0.toArray 45 (fl (l.drop i)) Try.underlying22 (by kernel_rfl) HG5.out (by rw [fl_len, List.length_drop]; have := HN.out; have h2 := HM.out; have : Nat.min (n - i) (i + m - (i + 1)) = n - i := Nat.min_eq_left (by omega); rw [this]; omega) (by
        intro j v hj; rw [Addr.add_lit, zC HGo5.out, ← Array.getElem?_toList]; rw [← fl_drop, ← HIN2.out, ← HT.out, List.getElem?_drop, List.getElem?_take] at hj; split at hj; (exact hj)
        · cases hj) (by rw [fl_len, List.length_drop, List.size_toArray, hL2.1, HDL.out]; have := HN.out; have := HM.out; omega) (fl_one _)
      refine value_ (w1 := _) (v := _) (by rfl) rfl (run_copy_op (s := .tmp 50) (x := .tmp 53) rfl rfl rfl hrun) ?_
      refine hK.out _ _ ?_
      clear hK K
      refine norm_ (a' := ?_) ?_ ?_
      rotate_left
      · show Act.put _ (some 54) _ = _
        simp only [Act.put, zt, zu, zv, i64_w, i32_w]
        rfl
      refine done_ (by kernel_rfl) ?_
      go_wp2_with fail
      go_ret
      refine ⟨_, rfl, ?_, ?_⟩
      · refine R_raw LG.out.2.2 (setRow_heap W5 g1 _ _ 45 _ HG5.out) (by omega) HCM1.out ?_ ?_ ?_
        · have := hL2.2.1.trans HDL.out
          simpa using this
        · rw [HRES.out, ← HM.out]
          simpa using hL2.2.2
        · rw [HRES.out, ← HM.out]
          simp only [List.length_append, List.length_take, List.length_drop, List.length_cons, List.length_nil]
          have := HN.out
          omega
      · exact below_setRow HB5.out LG.out.2.2 _
/-- A list in which a name has a value, by the place that was found. -/
def withAt (l : List S45) (n v : ByteArray) (t : Int × Bool) : Option (List S45) :=
  if l.length ≤ 4398046510000 ∧ 0 ≤ t.1 ∧ t.1 ≤ l.length then (if t.2 = true then (if t.1 < l.length then some (l.set t.1.toNat ⟨(rd_T45 l t.1).f0, v⟩) else none) else some (l.take t.1.toNat ++ [⟨n, v⟩] ++ l.drop t.1.toNat)) else none
def attrs_With.f (k : Nat) (l0 : List S45) (a1 : ByteArray) (a2 : ByteArray) : Option (List S45) := (attrs_find.f k l0 a1).bind (withAt l0 a1 a2)
theorem attrs_With.mono : ∀ a0 a1 a2 k, LeO (attrs_With.f k a0 a1 a2) (attrs_With.f (k + 1) a0 a1 a2) := fun _ _ _ _ => LeO.bind (attrs_find.mono _ _ _) (fun _ => LeO.refl _)
set_option maxHeartbeats 4000000 in
set_option maxRecDepth 100000 in
theorem attrs_With.calls (k : Nat) (A0 : Option Addr) (c0 : Nat) (l0 : List (S45)) (a1 : ByteArray) (a2 : ByteArray) (r : List S45) (w : World) (hr0 : Kd.C k45 w A0 l0.length l0) (hc0 : l0.length ≤ c0) (h : attrs_With.f k l0 a1 a2 = some r) :
    Calls Try.prog 13 #[.slice A0 l0.length c0, .string a1, .string a2] w fun e w' => ∃ v0_ : Value, e = .returned v0_ ∧ Kd.R k45 45 w' w.heap.size (fun _ => True) v0_ r ∧ Below w.heap.size w w' := by
  obtain ⟨⟨t1, t2⟩, hf, h2⟩ := Option.bind_eq_some_iff.1 h; unfold withAt at h2; split at h2
  case isFalse => cases h2
  rename_i hc
  obtain ⟨hl, h0, hle⟩ := hc; have HF := zk hf; have HR := zk hr0; have HC := zk hc0; have HL := zk hl; have H0 := zk h0; have HLE := zk hle; clear hr0 hc0 h hf hl h0 hle
  cases t2 with
  | true =>
    rw [if_pos rfl] at h2; split at h2
    case isFalse => cases h2
    rename_i hlt
    have HRES := zk (Option.some.inj h2); have HLT := zk hlt; have a1' : decide (0 ≤ t1) = true := decide_eq_true H0.out; have a2' : decide (t1 < (l0.length : Int)) = true := decide_eq_true hlt; clear h2 hlt
    go_enter Try.func13, Try.ntmps13
    go_upto_region 4 with (first
      | (go_at_call 26; refine (attrs_find.calls k _ _ l0 a1 t1 true _ HR.out HC.out HF.out).mono ?_; rintro e w1 ⟨rfl, hb⟩; have B1 := zk hb; clear hb)
      | (go_at_call 28; refine (api_Attr_28.calls _ _ l0 l0 _ (Kd.C_below HR.out B1.out) HC.out (by unfold api_Attr_28.f; rw [if_pos (by have := HL.out; omega)])).mono ?_; rintro e w2 ⟨v2, rfl, hr2, hb⟩; have R2 := zk (Kd.R_lower hr2 B1.out.size); have B2 := zk (B1.out.trans (hb.mono B1.out.size)); clear hb hr2))
    obtain ⟨go9, co9, eo9, gb9, gl9, cl9, HG9⟩ := Kd.R_form R2.out (by have := HLT.out; have := H0.out; omega); subst eo9; obtain ⟨ce9, hcl9, hM9, hcc9, hfr9⟩ := Kd.R_elem R2.out z45 t1 H0.out HLT.out; obtain rfl := k45_openM hM9; have HP := zk (Kd.R_seg R2.out t1 H0.out HLT.out (seg := [.string a2]) (j := 1) hcl9 hcc9 (show 2 ≤ 2 from by decide) (x' := (⟨(rd_T45 l0 t1).f0, a2⟩ : S45)) (k45_mkM _ _ _ (⟨(rd_T45 l0 t1).f0, a2⟩ : S45)) (fun _ hk => hk)); have hx1 := hcc9 1 _ rfl; have hf1 := hfr9 1; simp only [show k45.sz = 2 from rfl] at hx1 hf1; have GB := zk gb9; have p9 := eq_true H0.out; have q9 := eq_true HLT.out; clear gb9 gl9 cl9 HG9 hcl9 hM9 hcc9 hfr9
    go_wp2_with fail
    go_ret; refine ⟨_, rfl, ?_, zS B2.out GB.out⟩; have h1 := HP.out.1; rw [HRES.out] at h1; exact h1
  | false =>
    have HRES := zk (Option.some.inj h2); clear h2; obtain ⟨i, hi⟩ : ∃ i : Nat, t1 = (i : Int) := ⟨t1.toNat, by have := H0.out; omega⟩; subst hi
    go_enter Try.func13, Try.ntmps13
    go_upto_region 6 with (first
      | (go_at_call 26; refine (attrs_find.calls k _ _ l0 a1 i false _ HR.out HC.out HF.out).mono ?_; rintro e w1 ⟨rfl, hb⟩; have B1 := zk hb; clear hb)
      | (go_at_call 28; refine (api_Attr_28.calls _ _ l0 l0 _ (Kd.C_below HR.out B1.out) HC.out (by unfold api_Attr_28.f; rw [if_pos (by have := HL.out; omega)])).mono ?_; rintro e w2 ⟨v2, rfl, hr2, hb⟩; have R2 := zk (Kd.R_lower hr2 B1.out.size); have B2 := zk (B1.out.trans (hb.mono B1.out.size)); clear hb hr2))
    obtain ⟨A2, c2, ev⟩ := Kd.R_slice R2.out; subst ev
    go_wp2_with (go_at_call 29; refine (insert w (w2.alloc (.cells #[.string a1, .string a2] 45)) (fun _ => True) A2 l0.length c2 l0 i ⟨a1, a2⟩ w2.heap.size (Kd.R_alloc (Kd.R_mono R2.out (fun _ _ => trivial)) _) (zA B2.out _) (blk_new w2 _) B2.out.size (fun e => by have := Kd.R_lt R2.out _ e.symm; omega) (by have := HLE.out; omega) (by have := HL.out; omega) _ rfl).mono ?_; rintro e w3 ⟨v3, rfl, hr3, hb⟩; have R3 := zk hr3; have B3 := zk hb; clear hb hr3)
    go_ret; refine ⟨_, rfl, ?_, B3.out⟩; have h1 := R3.out; rw [← HRES.out]; exact h1
end Go.Proofs.Ytnellpilmjjbcaa.G
namespace Go.Proofs.Ytnellpilmjjbcaa.G
open Go.RowKit Go.Proofs.YtnellpilmjjbcaaW.PrintWords Go.Proofs.YtnellpilmjjbcaaW.PrintLast Go.Proofs.YtnellpilmjjbcaaW.PrintMore
attribute [local go_sem] max2_int min2_int max_two min_two max_three min_three max_four min_four
set_option linter.unusedVariables false
set_option linter.unusedSimpArgs false
mutual
def attrs_Check.l0 : Nat → List (S45) → List (S45) → Int → Int → Option (Int × Int)
 | 0, _, _, _, _ => none
 | k + 1, x0, x7, x8, x9 => if x9 < x8 then (if 0 ≤ x9 then (if x9 < (x7.length : Int) then (if x9 = 64 then (if 12 = 0 then (attrs_Check.l0 k x0 x7 x8 (wrap64 (x9 + 1))) else (some (x9, 12))) else ((chars_Name.f k ((rd_T45 x7 x9).f0)).bind fun t123 => (if t123 = true then ((chars_Fits.f ((rd_T45 x7 x9).f1)).bind fun t124 => (if t124 = true then (if x9 > 0 then (if 0 ≤ (wrap64 (x9 - 1)) then (if (wrap64 (x9 - 1)) < (x0.length : Int) then (attrs_Check.j1 k x0 x9 0 x7 x8 x9 (((rd_T45 x0 (wrap64 (x9 - 1))).f0).toList == ((rd_T45 x7 x9).f0).toList) ((rd_T45 x7 x9).f0) ((rd_T45 x7 x9).f1)) else (none)) else (none)) else (attrs_Check.j1 k x0 x9 0 x7 x8 x9 false ((rd_T45 x7 x9).f0) ((rd_T45 x7 x9).f1))) else (if 3 = 0 then (attrs_Check.l0 k x0 x7 x8 (wrap64 (x9 + 1))) else (some (x9, 3))))) else (if 8 = 0 then (attrs_Check.l0 k x0 x7 x8 (wrap64 (x9 + 1))) else (some (x9, 8)))))) else (none)) else (none)) else (some (0, 0))
def attrs_Check.j1 : Nat → List (S45) → Int → Int → List (S45) → Int → Int → Bool → ByteArray → ByteArray → Option (Int × Int)
 | 0, _, _, _, _, _, _, _, _, _ => none
 | k + 1, x0, x4, x6, x7, x8, x9, x27, x123000, x123001 => if x27 = true then (if 10 = 0 then (attrs_Check.l0 k x0 x7 x8 (wrap64 (x9 + 1))) else (some (x4, 10))) else (if x4 > 0 then (if 0 ≤ (wrap64 (x4 - 1)) then (if (wrap64 (x4 - 1)) < (x0.length : Int) then (attrs_Check.j2 k x0 x4 x6 x7 x8 x9 (Op.bytesLess x123000.toList (((rd_T45 x0 (wrap64 (x4 - 1))).f0).toList))) else (none)) else (none)) else (attrs_Check.j2 k x0 x4 x6 x7 x8 x9 false))
def attrs_Check.j2 : Nat → List (S45) → Int → Int → List (S45) → Int → Int → Bool → Option (Int × Int)
 | 0, _, _, _, _, _, _, _ => none
 | k + 1, x0, x4, x6, x7, x8, x9, x41 => if x41 = true then (if 9 = 0 then (attrs_Check.l0 k x0 x7 x8 (wrap64 (x9 + 1))) else (some (x4, 9))) else (if x6 = 0 then (attrs_Check.l0 k x0 x7 x8 (wrap64 (x9 + 1))) else (some (x4, x6)))
end
def attrs_Check.f (k : Nat) (l0 : List (S45)) : Option (Int × Int) := attrs_Check.l0 k l0 l0 (l0.length : Int) 0
theorem attrs_Check.mono_l : ∀ k, (∀ y0 y1 y2 y3, LeO (attrs_Check.l0 k y0 y1 y2 y3) (attrs_Check.l0 (k + 1) y0 y1 y2 y3)) ∧ (∀ y0 y1 y2 y3 y4 y5 y6 y7 y8, LeO (attrs_Check.j1 k y0 y1 y2 y3 y4 y5 y6 y7 y8) (attrs_Check.j1 (k + 1) y0 y1 y2 y3 y4 y5 y6 y7 y8)) ∧ (∀ y0 y1 y2 y3 y4 y5 y6, LeO (attrs_Check.j2 k y0 y1 y2 y3 y4 y5 y6) (attrs_Check.j2 (k + 1) y0 y1 y2 y3 y4 y5 y6))
 | 0 => ⟨fun _ _ _ _ r h => by simp [attrs_Check.l0] at h, fun _ _ _ _ _ _ _ _ _ r h => by simp [attrs_Check.j1] at h, fun _ _ _ _ _ _ _ r h => by simp [attrs_Check.j2] at h⟩
 | k + 1 => by
  obtain ⟨ih0, ih1, ih2⟩ := attrs_Check.mono_l k
  refine ⟨?_, ?_, ?_⟩
  ·
   intro y0 y1 y2 y3
   unfold attrs_Check.l0
   with_reducible repeat' first | exact ih0 _ _ _ _ | exact ih1 _ _ _ _ _ _ _ _ _ | exact ih2 _ _ _ _ _ _ _ | exact chars_Name.mono _ _ | exact LeO.refl _ | exact LeO.none _ | refine LeO.ite ?_ ?_ | refine LeO.bind ?_ (fun _ => ?_)
  ·
   intro y0 y1 y2 y3 y4 y5 y6 y7 y8
   unfold attrs_Check.j1
   with_reducible repeat' first | exact ih0 _ _ _ _ | exact ih1 _ _ _ _ _ _ _ _ _ | exact ih2 _ _ _ _ _ _ _ | exact chars_Name.mono _ _ | exact LeO.refl _ | exact LeO.none _ | refine LeO.ite ?_ ?_ | refine LeO.bind ?_ (fun _ => ?_)
  ·
   intro y0 y1 y2 y3 y4 y5 y6
   unfold attrs_Check.j2
   with_reducible repeat' first | exact ih0 _ _ _ _ | exact ih1 _ _ _ _ _ _ _ _ _ | exact ih2 _ _ _ _ _ _ _ | exact chars_Name.mono _ _ | exact LeO.refl _ | exact LeO.none _ | refine LeO.ite ?_ ?_ | refine LeO.bind ?_ (fun _ => ?_)
theorem attrs_Check.mono : ∀ a0 k, LeO (attrs_Check.f k a0) (attrs_Check.f (k + 1) a0) := by
 intro a0 k
 obtain ⟨ih0, ih1, ih2⟩ := attrs_Check.mono_l k
 unfold attrs_Check.f
 with_reducible repeat' first | exact ih0 _ _ _ _ | exact ih1 _ _ _ _ _ _ _ _ _ | exact ih2 _ _ _ _ _ _ _ | exact chars_Name.mono _ _ | exact LeO.refl _ | exact LeO.none _ | refine LeO.ite ?_ ?_ | refine LeO.bind ?_ (fun _ => ?_)
set_option maxHeartbeats 8000000 in
set_option maxRecDepth 100000 in
theorem attrs_Check.calls (k : Nat) (A0 : Option Addr) (c0 : Nat) (l0 : List (S45)) (r1 : Int) (r2 : Int) (w : World) (hr0 : Kd.C k45 w A0 l0.length l0) (hc0 : l0.length ≤ c0) (h : attrs_Check.f k l0 = some (r1, r2)) :
  Calls Try.prog 9 #[.slice A0 l0.length c0] w fun e w' => e = .returned (.tuple #[.int .i64 r1, .int .i64 r2]) ∧ Below w.heap.size w w' := by
 have hu45 := Try.underlying45
 have HR0 := zk hr0
 have HC0 := zk hc0
 clear hr0 hc0
 have HB := zk (Below.refl w.heap.size w)
 have H : (attrs_Check.l0 k l0 l0 (l0.length : Int) 0) = some (r1, r2) := h
 clear h
 have H' := zk H
 clear H
 go_enter Try.func9, Try.ntmps9
 go_wp2
 repeat (go_quiet (fail); try go_wp2)
 go_loopg [9] k (fun kq v9 w' => ∃ (x9_1 : Int), v9 = .int .i64 x9_1 ∧ Aside0 (attrs_Check.l0 kq l0 l0 (l0.length : Int) x9_1 = some (r1, r2)) ∧ Aside0 (kq ≤ k) ∧ Aside0 (Below w.heap.size w w'))
 case atStart => exact ⟨(0), (by first | rfl | (simp; done) | (simp [*]; done)), H', ⟨Nat.le_refl _⟩, ⟨by with_reducible repeat first | exact HB.out | apply zA | apply zN | apply zD⟩⟩
 case round =>
  clear H'; obtain ⟨x9_1, rfl, HA, HK1, HB⟩ := hrel
  cases gk with
  | zero => exact absurd HA.out (by simp [attrs_Check.l0])
  | succ k1 =>
   have H := HA.out; clear HA; simp only [attrs_Check.l0] at H
   by_cases c2 : x9_1 < (l0.length : Int)
   ·
    rw [if_pos c2] at H; have c2b0 := decide_eq_true c2; clear c2
    by_cases c3 : 0 ≤ x9_1
    ·
     rw [if_pos c3] at H; have c3b0 := decide_eq_true c3; clear c3
     by_cases c4 : x9_1 < (l0.length : Int)
     ·
      rw [if_pos c4] at H; have c4b0 : decide (x9_1 < (l0.length : Int)) = true := decide_eq_true c4; clear c4
      by_cases c5 : x9_1 = 64
      ·
       rw [if_pos c5] at H; have c5b0 : (x9_1 == 64) = true := beq_iff_eq.mpr c5; have c5b1 : (x9_1 != 64) = false := bne_eq_false_iff_eq.mpr c5; clear c5
       by_cases c6 : 12 = 0
       ·
        exact absurd c6 (by decide)
       ·
        rw [if_neg c6] at H; have c6b0 : (12 == 0) = false := beq_eq_false_iff_ne.mpr c6; have c6b1 : (12 != 0) = true := bne_iff_ne.mpr c6; simp only [Option.some.injEq, Prod.mk.injEq] at H; obtain ⟨rfl, rfl⟩ := H; have p121 : 0 ≤ (x9_1 : Int) := zo (by assumption); have q121 : x9_1 < (l0.length : Int) := zo (by assumption); obtain ⟨ad121, e121, hx121_0, hx121_1⟩ := at_T45 HR0.out x9_1 p121 q121; cases e121; replace hx121_0 := zB HB hx121_0; replace hx121_1 := zB HB hx121_1; replace p121 := eq_true p121; replace q121 := eq_true q121
        go_wp2_with (first | ((with_reducible refine zgd (N := 5) rfl ?_); refine zb ?hg (N := 5) ?hd (cs := #[.string ⟨#[]⟩, .string ⟨#[]⟩]) (t := 45) ?hr ?_; (case hd => rfl); (case hg => rfl); (case hr => go_simp; first | done | rfl); intro gb122 hg w9 hbox hb; have n0_ := zk (zs (by with_reducible repeat first | exact HB.out | apply zA | apply zN | apply zD) hb); have n1_ := zk (hbox); have n2_ := zk ((by rw [hg]; exact (zq (by with_reducible repeat first | exact HB.out | apply zA | apply zN | apply zD)) : w.heap.size ≤ gb122)); have n3_ := n2_; clear HB; have HB := n0_; have BK122 := n1_; have GW122 := n2_; have GE122 := n3_; clear n0_ n1_ n2_ n3_; clear hb hbox hg; obtain ⟨hcz10_0, hcz10_1, hfz10_0, hfz10_1⟩ := zc2 BK122.out))
        repeat (go_quiet (first | ((with_reducible refine zgd (N := 5) rfl ?_); refine zb ?hg (N := 5) ?hd (cs := #[.string ⟨#[]⟩, .string ⟨#[]⟩]) (t := 45) ?hr ?_; (case hd => rfl); (case hg => rfl); (case hr => go_simp; first | done | rfl); intro gb122 hg w9 hbox hb; have n0_ := zk (zs (by with_reducible repeat first | exact HB.out | apply zA | apply zN | apply zD) hb); have n1_ := zk (hbox); have n2_ := zk ((by rw [hg]; exact (zq (by with_reducible repeat first | exact HB.out | apply zA | apply zN | apply zD)) : w.heap.size ≤ gb122)); have n3_ := n2_; clear HB; have HB := n0_; have BK122 := n1_; have GW122 := n2_; have GE122 := n3_; clear n0_ n1_ n2_ n3_; clear hb hbox hg; obtain ⟨hcz10_0, hcz10_1, hfz10_0, hfz10_1⟩ := zc2 BK122.out)); try go_wp2_with (first | ((with_reducible refine zgd (N := 5) rfl ?_); refine zb ?hg (N := 5) ?hd (cs := #[.string ⟨#[]⟩, .string ⟨#[]⟩]) (t := 45) ?hr ?_; (case hd => rfl); (case hg => rfl); (case hr => go_simp; first | done | rfl); intro gb122 hg w9 hbox hb; have n0_ := zk (zs (by with_reducible repeat first | exact HB.out | apply zA | apply zN | apply zD) hb); have n1_ := zk (hbox); have n2_ := zk ((by rw [hg]; exact (zq (by with_reducible repeat first | exact HB.out | apply zA | apply zN | apply zD)) : w.heap.size ≤ gb122)); have n3_ := n2_; clear HB; have HB := n0_; have BK122 := n1_; have GW122 := n2_; have GE122 := n3_; clear n0_ n1_ n2_ n3_; clear hb hbox hg; obtain ⟨hcz10_0, hcz10_1, hfz10_0, hfz10_1⟩ := zc2 BK122.out)))
        go_ret2
        exact ⟨by first | rfl | (simp [wN, wS] <;> rfl) | (simp [*, wN, wS] <;> rfl), by with_reducible repeat first | exact HB.out | apply zA | apply zN | apply zD | refine zS ?_ GE122.out⟩
      ·
       rw [if_neg c5] at H; have c5b0 : (x9_1 == 64) = false := beq_eq_false_iff_ne.mpr c5; have c5b1 : (x9_1 != 64) = true := bne_iff_ne.mpr c5; replace H := Option.bind_eq_some_iff.mp H; obtain ⟨t123, A110, H⟩ := H; replace H : (if t123 = true then ((chars_Fits.f ((rd_T45 l0 x9_1).f1)).bind fun t124 => (if t124 = true then (if x9_1 > 0 then (if 0 ≤ (wrap64 (x9_1 - 1)) then (if (wrap64 (x9_1 - 1)) < (l0.length : Int) then (attrs_Check.j1 k1 l0 x9_1 0 l0 (l0.length : Int) x9_1 (((rd_T45 l0 (wrap64 (x9_1 - 1))).f0).toList == ((rd_T45 l0 x9_1).f0).toList) ((rd_T45 l0 x9_1).f0) ((rd_T45 l0 x9_1).f1)) else (none)) else (none)) else (attrs_Check.j1 k1 l0 x9_1 0 l0 (l0.length : Int) x9_1 false ((rd_T45 l0 x9_1).f0) ((rd_T45 l0 x9_1).f1))) else (if 3 = 0 then (attrs_Check.l0 k1 l0 l0 (l0.length : Int) (wrap64 (x9_1 + 1))) else (some (x9_1, 3))))) else (if 8 = 0 then (attrs_Check.l0 k1 l0 l0 (l0.length : Int) (wrap64 (x9_1 + 1))) else (some (x9_1, 8)))) = some (r1, r2) := H; have A11 := zk A110; clear A110
       by_cases c12 : t123 = true
       ·
        subst c12
        have H1 : ((chars_Fits.f ((rd_T45 l0 x9_1).f1)).bind fun t124 => (if t124 = true then (if x9_1 > 0 then (if 0 ≤ (wrap64 (x9_1 - 1)) then (if (wrap64 (x9_1 - 1)) < (l0.length : Int) then (attrs_Check.j1 k1 l0 x9_1 0 l0 (l0.length : Int) x9_1 (((rd_T45 l0 (wrap64 (x9_1 - 1))).f0).toList == ((rd_T45 l0 x9_1).f0).toList) ((rd_T45 l0 x9_1).f0) ((rd_T45 l0 x9_1).f1)) else (none)) else (none)) else (attrs_Check.j1 k1 l0 x9_1 0 l0 (l0.length : Int) x9_1 false ((rd_T45 l0 x9_1).f0) ((rd_T45 l0 x9_1).f1))) else (if 3 = 0 then (attrs_Check.l0 k1 l0 l0 (l0.length : Int) (wrap64 (x9_1 + 1))) else (some (x9_1, 3))))) = some (r1, r2) := by rw [if_pos rfl] at H; exact H
        clear H; have H := H1; clear H1; replace H := Option.bind_eq_some_iff.mp H; obtain ⟨t124, A130, H⟩ := H; replace H : (if t124 = true then (if x9_1 > 0 then (if 0 ≤ (wrap64 (x9_1 - 1)) then (if (wrap64 (x9_1 - 1)) < (l0.length : Int) then (attrs_Check.j1 k1 l0 x9_1 0 l0 (l0.length : Int) x9_1 (((rd_T45 l0 (wrap64 (x9_1 - 1))).f0).toList == ((rd_T45 l0 x9_1).f0).toList) ((rd_T45 l0 x9_1).f0) ((rd_T45 l0 x9_1).f1)) else (none)) else (none)) else (attrs_Check.j1 k1 l0 x9_1 0 l0 (l0.length : Int) x9_1 false ((rd_T45 l0 x9_1).f0) ((rd_T45 l0 x9_1).f1))) else (if 3 = 0 then (attrs_Check.l0 k1 l0 l0 (l0.length : Int) (wrap64 (x9_1 + 1))) else (some (x9_1, 3)))) = some (r1, r2) := H; have A13 := zk A130; clear A130
        by_cases c14 : t124 = true
        ·
         subst c14
         have H1 : (if x9_1 > 0 then (if 0 ≤ (wrap64 (x9_1 - 1)) then (if (wrap64 (x9_1 - 1)) < (l0.length : Int) then (attrs_Check.j1 k1 l0 x9_1 0 l0 (l0.length : Int) x9_1 (((rd_T45 l0 (wrap64 (x9_1 - 1))).f0).toList == ((rd_T45 l0 x9_1).f0).toList) ((rd_T45 l0 x9_1).f0) ((rd_T45 l0 x9_1).f1)) else (none)) else (none)) else (attrs_Check.j1 k1 l0 x9_1 0 l0 (l0.length : Int) x9_1 false ((rd_T45 l0 x9_1).f0) ((rd_T45 l0 x9_1).f1))) = some (r1, r2) := by rw [if_pos rfl] at H; exact H
         clear H; have H := H1; clear H1; have HC15 := zk H; clear H; have p121 : 0 ≤ (x9_1 : Int) := zo (by assumption); have q121 : x9_1 < (l0.length : Int) := zo (by assumption); obtain ⟨ad121, e121, hx121_0, hx121_1⟩ := at_T45 HR0.out x9_1 p121 q121; cases e121; replace hx121_0 := zB HB hx121_0; replace hx121_1 := zB HB hx121_1; replace p121 := eq_true p121; replace q121 := eq_true q121
         go_upto_region 11 with (first | ((with_reducible refine zgd (N := 5) rfl ?_); refine zb ?hg (N := 5) ?hd (cs := #[.string ⟨#[]⟩, .string ⟨#[]⟩]) (t := 45) ?hr ?_; (case hd => rfl); (case hg => rfl); (case hr => go_simp; first | done | rfl); intro gb122 hg w16 hbox hb; have n0_ := zk (zs (by with_reducible repeat first | exact HB.out | apply zA | apply zN | apply zD) hb); have n1_ := zk (hbox); have n2_ := zk ((by rw [hg]; exact (zq (by with_reducible repeat first | exact HB.out | apply zA | apply zN | apply zD)) : w.heap.size ≤ gb122)); have n3_ := n2_; clear HB; have HB := n0_; have BK122 := n1_; have GW122 := n2_; have GE122 := n3_; clear n0_ n1_ n2_ n3_; clear hb hbox hg; obtain ⟨hcz17_0, hcz17_1, hfz17_0, hfz17_1⟩ := zc2 BK122.out) | (go_at_call 23; (with_reducible refine (chars_Name.calls k1 ((rd_T45 l0 x9_1).f0) true _ A11.out).mono ?_); rintro e w' ⟨rfl, ⟨nd, rfl⟩⟩; (try first | exact ⟨rfl, _, World.drewN_drewN _ _ _⟩ | exact ⟨rfl, _, Eq.trans (World.drewN_drewN _ _ _) (congrArg (World.drewN _) (Nat.add_assoc _ _ _))⟩)) | (go_at_call 24; (with_reducible refine (chars_Fits.calls ((rd_T45 l0 x9_1).f1) true _ A13.out).mono ?_); rintro e w' ⟨rfl, ⟨nd, rfl⟩⟩; (try first | exact ⟨rfl, _, World.drewN_drewN _ _ _⟩ | exact ⟨rfl, _, Eq.trans (World.drewN_drewN _ _ _) (congrArg (World.drewN _) (Nat.add_assoc _ _ _))⟩)))
         repeat (go_quiet (first | ((with_reducible refine zgd (N := 5) rfl ?_); refine zb ?hg (N := 5) ?hd (cs := #[.string ⟨#[]⟩, .string ⟨#[]⟩]) (t := 45) ?hr ?_; (case hd => rfl); (case hg => rfl); (case hr => go_simp; first | done | rfl); intro gb122 hg w16 hbox hb; have n0_ := zk (zs (by with_reducible repeat first | exact HB.out | apply zA | apply zN | apply zD) hb); have n1_ := zk (hbox); have n2_ := zk ((by rw [hg]; exact (zq (by with_reducible repeat first | exact HB.out | apply zA | apply zN | apply zD)) : w.heap.size ≤ gb122)); have n3_ := n2_; clear HB; have HB := n0_; have BK122 := n1_; have GW122 := n2_; have GE122 := n3_; clear n0_ n1_ n2_ n3_; clear hb hbox hg; obtain ⟨hcz17_0, hcz17_1, hfz17_0, hfz17_1⟩ := zc2 BK122.out) | (go_at_call 23; (with_reducible refine (chars_Name.calls k1 ((rd_T45 l0 x9_1).f0) true _ A11.out).mono ?_); rintro e w' ⟨rfl, ⟨nd, rfl⟩⟩; (try first | exact ⟨rfl, _, World.drewN_drewN _ _ _⟩ | exact ⟨rfl, _, Eq.trans (World.drewN_drewN _ _ _) (congrArg (World.drewN _) (Nat.add_assoc _ _ _))⟩)) | (go_at_call 24; (with_reducible refine (chars_Fits.calls ((rd_T45 l0 x9_1).f1) true _ A13.out).mono ?_); rintro e w' ⟨rfl, ⟨nd, rfl⟩⟩; (try first | exact ⟨rfl, _, World.drewN_drewN _ _ _⟩ | exact ⟨rfl, _, Eq.trans (World.drewN_drewN _ _ _) (congrArg (World.drewN _) (Nat.add_assoc _ _ _))⟩))); go_upto_region 11 with (first | ((with_reducible refine zgd (N := 5) rfl ?_); refine zb ?hg (N := 5) ?hd (cs := #[.string ⟨#[]⟩, .string ⟨#[]⟩]) (t := 45) ?hr ?_; (case hd => rfl); (case hg => rfl); (case hr => go_simp; first | done | rfl); intro gb122 hg w16 hbox hb; have n0_ := zk (zs (by with_reducible repeat first | exact HB.out | apply zA | apply zN | apply zD) hb); have n1_ := zk (hbox); have n2_ := zk ((by rw [hg]; exact (zq (by with_reducible repeat first | exact HB.out | apply zA | apply zN | apply zD)) : w.heap.size ≤ gb122)); have n3_ := n2_; clear HB; have HB := n0_; have BK122 := n1_; have GW122 := n2_; have GE122 := n3_; clear n0_ n1_ n2_ n3_; clear hb hbox hg; obtain ⟨hcz17_0, hcz17_1, hfz17_0, hfz17_1⟩ := zc2 BK122.out) | (go_at_call 23; (with_reducible refine (chars_Name.calls k1 ((rd_T45 l0 x9_1).f0) true _ A11.out).mono ?_); rintro e w' ⟨rfl, ⟨nd, rfl⟩⟩; (try first | exact ⟨rfl, _, World.drewN_drewN _ _ _⟩ | exact ⟨rfl, _, Eq.trans (World.drewN_drewN _ _ _) (congrArg (World.drewN _) (Nat.add_assoc _ _ _))⟩)) | (go_at_call 24; (with_reducible refine (chars_Fits.calls ((rd_T45 l0 x9_1).f1) true _ A13.out).mono ?_); rintro e w' ⟨rfl, ⟨nd, rfl⟩⟩; (try first | exact ⟨rfl, _, World.drewN_drewN _ _ _⟩ | exact ⟨rfl, _, Eq.trans (World.drewN_drewN _ _ _) (congrArg (World.drewN _) (Nat.add_assoc _ _ _))⟩))))
         (try simp only [Act.put, List.setIfInBounds_toArray, List.set_cons_zero, List.set_cons_succ])
         go_cut [27] (fun v27 wc => ∃ (kq : Nat) (x27_14 : Bool), v27 = .bool x27_14 ∧ Aside0 (attrs_Check.j1 kq l0 x9_1 0 l0 (l0.length : Int) x9_1 x27_14 ((rd_T45 l0 x9_1).f0) ((rd_T45 l0 x9_1).f1) = some (r1, r2)) ∧ Aside0 (kq ≤ k1) ∧ Aside0 (wc.heap[gb122]? = some (.cells #[.string ((rd_T45 l0 x9_1).f0), .string ((rd_T45 l0 x9_1).f1)] 45 (0, 0))) ∧ Aside0 (Below w.heap.size w wc))
         case first =>
          have H := HC15.out; clear HC15
          by_cases c18 : x9_1 > 0
          ·
           rw [if_pos c18] at H; have c18b0 : decide (0 < x9_1) = true := decide_eq_true c18; clear c18
           (first | rw [c18b0] | (simp only [i64_w, i32_w]; rw [c18b0]) | skip)
           obtain ⟨ji19, hji19⟩ : ∃ j_ : Int, (wrap64 (x9_1 - 1)) = j_ := ⟨_, rfl⟩
           replace H : (if 0 ≤ (ji19) then (if (ji19) < (l0.length : Int) then (attrs_Check.j1 k1 l0 x9_1 0 l0 (l0.length : Int) x9_1 (((rd_T45 l0 (ji19)).f0).toList == ((rd_T45 l0 x9_1).f0).toList) ((rd_T45 l0 x9_1).f0) ((rd_T45 l0 x9_1).f1)) else (none)) else (none)) = some (r1, r2) := by first | (rw [hji19] at H; exact H) | (simp only [hji19] at H ⊢; exact H)
           have hji19w : (IntKind.i64.wrap (x9_1 - 1)) = ji19 := (i64_w _).trans hji19
           by_cases c20 : 0 ≤ (ji19)
           ·
            rw [if_pos c20] at H; have c20b0 := decide_eq_true c20; clear c20
            by_cases c21 : (ji19) < (l0.length : Int)
            ·
             rw [if_pos c21] at H; have c21b0 := decide_eq_true c21; clear c21; have H' := zk H; clear H; have p125 : 0 ≤ ((ji19) : Int) := zo (by assumption); have q125 : (ji19) < (l0.length : Int) := zo (by assumption); obtain ⟨ad125, e125, hx125_0, hx125_1⟩ := at_T45 HR0.out (ji19) p125 q125; obtain rfl : ad121 = ad125 := (by injection e125); have hn125_0 : ad121.block ≠ gb122 := Nat.ne_of_lt (Nat.lt_of_lt_of_le (by have := World.block_lt_of_cell? _ _ hx125_0; first | rwa [add_block] at this | exact this) GW122.out); have hn125_1 : ad121.block ≠ gb122 := Nat.ne_of_lt (Nat.lt_of_lt_of_le (by have := World.block_lt_of_cell? _ _ hx125_0; first | rwa [add_block] at this | exact this) GW122.out); replace hx125_0 := zB HB hx125_0; replace hx125_1 := zB HB hx125_1; replace hx125_0 := zY gb122 0 (.string ((rd_T45 l0 x9_1).f0)) (by first | exact zX hn125_0 | exact hn125_0) hx125_0; replace hx125_1 := zY gb122 0 (.string ((rd_T45 l0 x9_1).f0)) (by first | exact zX hn125_0 | exact hn125_0) hx125_1; replace hx125_0 := zY gb122 1 (.string ((rd_T45 l0 x9_1).f1)) (by first | exact zX hn125_1 | exact hn125_1) hx125_0; replace hx125_1 := zY gb122 1 (.string ((rd_T45 l0 x9_1).f1)) (by first | exact zX hn125_1 | exact hn125_1) hx125_1
             (try have hy125_0 := fun (n_ : Nat) => (show ((((w16.drewN n_).setCell ⟨gb122, 0, none⟩ (.string ((rd_T45 l0 x9_1).f0))).setCell ⟨gb122, 1, none⟩ (.string ((rd_T45 l0 x9_1).f1)))).cell? _ = some _ from hx125_0))
             (try have hy125_1 := fun (n_ : Nat) => (show ((((w16.drewN n_).setCell ⟨gb122, 0, none⟩ (.string ((rd_T45 l0 x9_1).f0))).setCell ⟨gb122, 1, none⟩ (.string ((rd_T45 l0 x9_1).f1)))).cell? _ = some _ from hx125_1))
             clear hn125_0; clear hn125_1; replace p125 := eq_true p125; replace q125 := eq_true q125; have hcz22_0 : w16.cell? ⟨gb122, 0, none⟩ = some (.string ⟨#[]⟩) := (zC BK122.out 0).trans rfl; have hcz22_1 : w16.cell? ⟨gb122, 1, none⟩ = some (.string ⟨#[]⟩) := (zC BK122.out 1).trans rfl; have hfz22_0 := zR BK122.out 0; have hfz22_1 := zR BK122.out 1; go_wp2
             repeat (go_quiet (fail); try go_wp2)
             go_meet
             case rel => exact ⟨_, ((((rd_T45 l0 (ji19)).f0).toList == ((rd_T45 l0 x9_1).f0).toList)), (by first | rfl | (simp; done) | (simp only [← hji19] <;> (first | rfl | simp)) | (simp [*]; done)), H', ⟨by have := HK1.out; first | omega | exact Nat.le_refl _⟩, ⟨by (with_reducible repeat first | apply zM | apply zE | apply zF); refine zP (cs := #[.string ((rd_T45 l0 x9_1).f0), .string ⟨#[]⟩]) ?_ 1 _ rfl; (with_reducible repeat first | apply zM | apply zE | apply zF); refine zP (cs := #[.string ⟨#[]⟩, .string ⟨#[]⟩]) ?_ 0 _ rfl; (with_reducible repeat first | apply zM | apply zE | apply zF); exact BK122.out⟩, ⟨by with_reducible repeat first | exact HB.out | apply zA | apply zN | apply zD | refine zS ?_ GE122.out⟩⟩
            ·
             rw [if_neg c21] at H; exact absurd H (by simp)
           ·
            rw [if_neg c20] at H; exact absurd H (by simp)
          ·
           rw [if_neg c18] at H; have c18b0 : decide (0 < x9_1) = false := decide_eq_false c18; clear c18
           (first | rw [c18b0] | (simp only [i64_w, i32_w]; rw [c18b0]) | skip)
           have H' := zk H; clear H; go_wp2
           repeat (go_quiet (fail); try go_wp2)
           go_meet
           case rel => exact ⟨_, (false), (by first | rfl | (simp; done) | (simp [*]; done)), H', ⟨by have := HK1.out; first | omega | exact Nat.le_refl _⟩, ⟨by (with_reducible repeat first | apply zM | apply zE | apply zF); refine zP (cs := #[.string ((rd_T45 l0 x9_1).f0), .string ⟨#[]⟩]) ?_ 1 _ rfl; (with_reducible repeat first | apply zM | apply zE | apply zF); refine zP (cs := #[.string ⟨#[]⟩, .string ⟨#[]⟩]) ?_ 0 _ rfl; (with_reducible repeat first | apply zM | apply zE | apply zF); exact BK122.out⟩, ⟨by with_reducible repeat first | exact HB.out | apply zA | apply zN | apply zD | refine zS ?_ GE122.out⟩⟩
         case rest =>
          clear HC15; (try clear c1); (try clear p1); (try clear q1); (try clear hx1); (try clear c2); (try clear c2b0); (try clear p2); (try clear c3); (try clear c3b0); (try clear c4); (try clear c4b0); (try clear c5); (try clear c5b0); (try clear c5b1); (try clear c6); (try clear c6b0); (try clear c6b1); (try clear p6); (try clear c9); (try clear c12); (try clear p12); (try clear q12); (try clear hx12); (try clear c14); (try clear c18); (try clear c18b0); (try clear c20); (try clear c20b0); (try clear c21); (try clear c21b0); (try clear hx121_0); (try clear hx121_1); (try clear hx125_0); (try clear hx125_1); (try clear p121); (try clear p125); (try clear q121); (try clear q125); obtain ⟨kq, x27_14, rfl, HA, HJ14, BK122, HB⟩ := hcut
          cases kq with
          | zero => exact absurd HA.out (by simp [attrs_Check.j1])
          | succ kj14 =>
           have H := HA.out; clear HA; simp only [attrs_Check.j1] at H
           by_cases c23 : x27_14 = true
           ·
            subst c23
            have H1 : (if 10 = 0 then (attrs_Check.l0 kj14 l0 l0 (l0.length : Int) (wrap64 (x9_1 + 1))) else (some (x9_1, 10))) = some (r1, r2) := by rw [if_pos rfl] at H; exact H
            clear H; have H := H1; clear H1
            by_cases c24 : 10 = 0
            ·
             exact absurd c24 (by decide)
            ·
             rw [if_neg c24] at H; have c24b0 := beq_eq_false_iff_ne.mpr c24; have c24b1 := bne_iff_ne.mpr c24; simp only [Option.some.injEq, Prod.mk.injEq] at H; obtain ⟨rfl, rfl⟩ := H; go_wp2
             repeat (go_quiet (fail); try go_wp2)
             go_ret2
             exact ⟨by first | rfl | (simp [wN, wS] <;> rfl) | (simp [*, wN, wS] <;> rfl), by with_reducible repeat first | exact HB.out | apply zA | apply zN | apply zD | refine zS ?_ GE122.out⟩
           ·
            replace c23 := Bool.eq_false_iff.mpr c23; subst c23
            have H1 : (if x9_1 > 0 then (if 0 ≤ (wrap64 (x9_1 - 1)) then (if (wrap64 (x9_1 - 1)) < (l0.length : Int) then (attrs_Check.j2 kj14 l0 x9_1 0 l0 (l0.length : Int) x9_1 (Op.bytesLess ((rd_T45 l0 x9_1).f0).toList (((rd_T45 l0 (wrap64 (x9_1 - 1))).f0).toList))) else (none)) else (none)) else (attrs_Check.j2 kj14 l0 x9_1 0 l0 (l0.length : Int) x9_1 false)) = some (r1, r2) := by rw [if_neg (show ¬ (false = true) by decide)] at H; exact H
            clear H; have H := H1; clear H1; have HC25 := zk H; clear H
            go_upto_region 13 with (fail)
            repeat (go_quiet (fail); go_upto_region 13 with (fail))
            go_cut [41] (fun v41 wc => ∃ (kq : Nat) (x41_24 : Bool), v41 = .bool x41_24 ∧ Aside0 (attrs_Check.j2 kq l0 x9_1 0 l0 (l0.length : Int) x9_1 x41_24 = some (r1, r2)) ∧ Aside0 (kq ≤ kj14) ∧ Aside0 (wc.heap[gb122]? = some (.cells #[.string ((rd_T45 l0 x9_1).f0), .string ((rd_T45 l0 x9_1).f1)] 45 (0, 0))) ∧ Aside0 (Below w.heap.size w wc))
            case first =>
             have H := HC25.out; clear HC25
             by_cases c26 : x9_1 > 0
             ·
              rw [if_pos c26] at H; have c26b0 : decide (0 < x9_1) = true := decide_eq_true c26; clear c26
              (first | rw [c26b0] | (simp only [i64_w, i32_w]; rw [c26b0]) | skip)
              obtain ⟨ji27, hji27⟩ : ∃ j_ : Int, (wrap64 (x9_1 - 1)) = j_ := ⟨_, rfl⟩
              replace H : (if 0 ≤ (ji27) then (if (ji27) < (l0.length : Int) then (attrs_Check.j2 kj14 l0 x9_1 0 l0 (l0.length : Int) x9_1 (Op.bytesLess ((rd_T45 l0 x9_1).f0).toList (((rd_T45 l0 (ji27)).f0).toList))) else (none)) else (none)) = some (r1, r2) := by first | (rw [hji27] at H; exact H) | (simp only [hji27] at H ⊢; exact H)
              have hji27w : (IntKind.i64.wrap (x9_1 - 1)) = ji27 := (i64_w _).trans hji27
              by_cases c28 : 0 ≤ (ji27)
              ·
               rw [if_pos c28] at H; have c28b0 := decide_eq_true c28; clear c28
               by_cases c29 : (ji27) < (l0.length : Int)
               ·
                rw [if_pos c29] at H; have c29b0 := decide_eq_true c29; clear c29; have H' := zk H; clear H; have p126 : 0 ≤ ((ji27) : Int) := zo (by assumption); have q126 : (ji27) < (l0.length : Int) := zo (by assumption); obtain ⟨ad126, e126, hx126_0, hx126_1⟩ := at_T45 HR0.out (ji27) p126 q126; obtain rfl : ad121 = ad126 := (by injection e126); replace hx126_0 := zB HB hx126_0; replace hx126_1 := zB HB hx126_1; replace p126 := eq_true p126; replace q126 := eq_true q126; have hcz30_0 : wc.cell? ⟨gb122, 0, none⟩ = some (.string ((rd_T45 l0 x9_1).f0)) := (zC BK122.out 0).trans rfl; have hcz30_1 : wc.cell? ⟨gb122, 1, none⟩ = some (.string ((rd_T45 l0 x9_1).f1)) := (zC BK122.out 1).trans rfl; have hfz30_0 := zR BK122.out 0; have hfz30_1 := zR BK122.out 1; go_wp2
                repeat (go_quiet (fail); try go_wp2)
                go_meet
                case rel => exact ⟨_, ((Op.bytesLess ((rd_T45 l0 x9_1).f0).toList (((rd_T45 l0 (ji27)).f0).toList))), (by first | rfl | (simp; done) | (simp only [← hji27] <;> (first | rfl | simp)) | (simp [*]; done)), H', ⟨by have := HK1.out; have := HJ14.out; first | omega | exact Nat.le_refl _⟩, ⟨by (with_reducible repeat first | apply zM | apply zE | apply zF); exact BK122.out⟩, ⟨by with_reducible repeat first | exact HB.out | apply zA | apply zN | apply zD | refine zS ?_ GE122.out⟩⟩
               ·
                rw [if_neg c29] at H; exact absurd H (by simp)
              ·
               rw [if_neg c28] at H; exact absurd H (by simp)
             ·
              rw [if_neg c26] at H; have c26b0 : decide (0 < x9_1) = false := decide_eq_false c26; clear c26
              (first | rw [c26b0] | (simp only [i64_w, i32_w]; rw [c26b0]) | skip)
              have H' := zk H; clear H; go_wp2
              repeat (go_quiet (fail); try go_wp2)
              go_meet
              case rel => exact ⟨_, (false), (by first | rfl | (simp; done) | (simp [*]; done)), H', ⟨by have := HK1.out; have := HJ14.out; first | omega | exact Nat.le_refl _⟩, ⟨by (with_reducible repeat first | apply zM | apply zE | apply zF); exact BK122.out⟩, ⟨by with_reducible repeat first | exact HB.out | apply zA | apply zN | apply zD | refine zS ?_ GE122.out⟩⟩
            case rest =>
             clear HC25; (try clear c1); (try clear p1); (try clear q1); (try clear hx1); (try clear c2); (try clear c2b0); (try clear p2); (try clear c3); (try clear c3b0); (try clear c4); (try clear c4b0); (try clear c5); (try clear c5b0); (try clear c5b1); (try clear c6); (try clear c6b0); (try clear c6b1); (try clear p6); (try clear c9); (try clear c12); (try clear p12); (try clear q12); (try clear hx12); (try clear c14); (try clear c18); (try clear c18b0); (try clear c20); (try clear c20b0); (try clear c21); (try clear c21b0); (try clear c23); (try clear c24); (try clear c24b0); (try clear c24b1); (try clear c26); (try clear c26b0); (try clear c28); (try clear c28b0); (try clear c29); (try clear c29b0); (try clear hx121_0); (try clear hx121_1); (try clear hx125_0); (try clear hx125_1); (try clear hx126_0); (try clear hx126_1); (try clear p1); (try clear p12); (try clear p121); (try clear p125); (try clear p126); (try clear p2); (try clear p6); (try clear q1); (try clear q12); (try clear q121); (try clear q125); (try clear q126); obtain ⟨kq, x41_24, rfl, HA, HJ24, BK122, HB⟩ := hcut
             cases kq with
             | zero => exact absurd HA.out (by simp [attrs_Check.j2])
             | succ kj24 =>
              have H := HA.out; clear HA; simp only [attrs_Check.j2] at H
              by_cases c31 : x41_24 = true
              ·
               subst c31
               have H1 : (if 9 = 0 then (attrs_Check.l0 kj24 l0 l0 (l0.length : Int) (wrap64 (x9_1 + 1))) else (some (x9_1, 9))) = some (r1, r2) := by rw [if_pos rfl] at H; exact H
               clear H; have H := H1; clear H1
               by_cases c32 : 9 = 0
               ·
                exact absurd c32 (by decide)
               ·
                rw [if_neg c32] at H; have c32b0 := beq_eq_false_iff_ne.mpr c32; have c32b1 := bne_iff_ne.mpr c32; simp only [Option.some.injEq, Prod.mk.injEq] at H; obtain ⟨rfl, rfl⟩ := H; go_wp2
                repeat (go_quiet (fail); try go_wp2)
                go_ret2
                exact ⟨by first | rfl | (simp [wN, wS] <;> rfl) | (simp [*, wN, wS] <;> rfl), by with_reducible repeat first | exact HB.out | apply zA | apply zN | apply zD | refine zS ?_ GE122.out⟩
              ·
               replace c31 := Bool.eq_false_iff.mpr c31; subst c31
               have H1 : (if 0 = 0 then (attrs_Check.l0 kj24 l0 l0 (l0.length : Int) (wrap64 (x9_1 + 1))) else (some (x9_1, 0))) = some (r1, r2) := by rw [if_neg (show ¬ (false = true) by decide)] at H; exact H
               clear H; have H := H1; clear H1
               by_cases c33 : 0 = 0
               ·
                rw [if_pos c33] at H; have c33b0 := beq_iff_eq.mpr c33; have c33b1 := bne_eq_false_iff_eq.mpr c33; clear c33; have H' := zk H; clear H; go_wp2
                repeat (go_quiet (fail); try go_wp2)
                go_roundg kj24
                case measure => have := HK1.out; have := HJ14.out; have := HJ24.out; omega
                case rel => exact ⟨(wrap64 (x9_1 + 1)), (by first | rfl | (simp; done) | (simp [*]; done)), H', ⟨by have := HK1.out; have := HJ14.out; have := HJ24.out; omega⟩, ⟨by with_reducible repeat first | exact HB.out | apply zA | apply zN | apply zD | refine zS ?_ GE122.out⟩⟩
               ·
                exact absurd (by decide) c33
        ·
         replace c14 := Bool.eq_false_iff.mpr c14; subst c14
         have H1 : (if 3 = 0 then (attrs_Check.l0 k1 l0 l0 (l0.length : Int) (wrap64 (x9_1 + 1))) else (some (x9_1, 3))) = some (r1, r2) := by rw [if_neg (show ¬ (false = true) by decide)] at H; exact H
         clear H; have H := H1; clear H1
         by_cases c34 : 3 = 0
         ·
          exact absurd c34 (by decide)
         ·
          rw [if_neg c34] at H; have c34b0 := beq_eq_false_iff_ne.mpr c34; have c34b1 := bne_iff_ne.mpr c34; simp only [Option.some.injEq, Prod.mk.injEq] at H; obtain ⟨rfl, rfl⟩ := H; have p121 : 0 ≤ (x9_1 : Int) := zo (by assumption); have q121 : x9_1 < (l0.length : Int) := zo (by assumption); obtain ⟨ad121, e121, hx121_0, hx121_1⟩ := at_T45 HR0.out x9_1 p121 q121; cases e121; replace hx121_0 := zB HB hx121_0; replace hx121_1 := zB HB hx121_1; replace p121 := eq_true p121; replace q121 := eq_true q121
          go_wp2_with (first | ((with_reducible refine zgd (N := 5) rfl ?_); refine zb ?hg (N := 5) ?hd (cs := #[.string ⟨#[]⟩, .string ⟨#[]⟩]) (t := 45) ?hr ?_; (case hd => rfl); (case hg => rfl); (case hr => go_simp; first | done | rfl); intro gb122 hg w37 hbox hb; have n0_ := zk (zs (by with_reducible repeat first | exact HB.out | apply zA | apply zN | apply zD) hb); have n1_ := zk (hbox); have n2_ := zk ((by rw [hg]; exact (zq (by with_reducible repeat first | exact HB.out | apply zA | apply zN | apply zD)) : w.heap.size ≤ gb122)); have n3_ := n2_; clear HB; have HB := n0_; have BK122 := n1_; have GW122 := n2_; have GE122 := n3_; clear n0_ n1_ n2_ n3_; clear hb hbox hg; obtain ⟨hcz38_0, hcz38_1, hfz38_0, hfz38_1⟩ := zc2 BK122.out) | (go_at_call 23; (with_reducible refine (chars_Name.calls k1 ((rd_T45 l0 x9_1).f0) true _ A11.out).mono ?_); rintro e w' ⟨rfl, ⟨nd, rfl⟩⟩; (try first | exact ⟨rfl, _, World.drewN_drewN _ _ _⟩ | exact ⟨rfl, _, Eq.trans (World.drewN_drewN _ _ _) (congrArg (World.drewN _) (Nat.add_assoc _ _ _))⟩)) | (go_at_call 24; (with_reducible refine (chars_Fits.calls ((rd_T45 l0 x9_1).f1) false _ A13.out).mono ?_); rintro e w' ⟨rfl, ⟨nd, rfl⟩⟩; (try first | exact ⟨rfl, _, World.drewN_drewN _ _ _⟩ | exact ⟨rfl, _, Eq.trans (World.drewN_drewN _ _ _) (congrArg (World.drewN _) (Nat.add_assoc _ _ _))⟩)))
          repeat (go_quiet (first | ((with_reducible refine zgd (N := 5) rfl ?_); refine zb ?hg (N := 5) ?hd (cs := #[.string ⟨#[]⟩, .string ⟨#[]⟩]) (t := 45) ?hr ?_; (case hd => rfl); (case hg => rfl); (case hr => go_simp; first | done | rfl); intro gb122 hg w37 hbox hb; have n0_ := zk (zs (by with_reducible repeat first | exact HB.out | apply zA | apply zN | apply zD) hb); have n1_ := zk (hbox); have n2_ := zk ((by rw [hg]; exact (zq (by with_reducible repeat first | exact HB.out | apply zA | apply zN | apply zD)) : w.heap.size ≤ gb122)); have n3_ := n2_; clear HB; have HB := n0_; have BK122 := n1_; have GW122 := n2_; have GE122 := n3_; clear n0_ n1_ n2_ n3_; clear hb hbox hg; obtain ⟨hcz38_0, hcz38_1, hfz38_0, hfz38_1⟩ := zc2 BK122.out) | (go_at_call 23; (with_reducible refine (chars_Name.calls k1 ((rd_T45 l0 x9_1).f0) true _ A11.out).mono ?_); rintro e w' ⟨rfl, ⟨nd, rfl⟩⟩; (try first | exact ⟨rfl, _, World.drewN_drewN _ _ _⟩ | exact ⟨rfl, _, Eq.trans (World.drewN_drewN _ _ _) (congrArg (World.drewN _) (Nat.add_assoc _ _ _))⟩)) | (go_at_call 24; (with_reducible refine (chars_Fits.calls ((rd_T45 l0 x9_1).f1) false _ A13.out).mono ?_); rintro e w' ⟨rfl, ⟨nd, rfl⟩⟩; (try first | exact ⟨rfl, _, World.drewN_drewN _ _ _⟩ | exact ⟨rfl, _, Eq.trans (World.drewN_drewN _ _ _) (congrArg (World.drewN _) (Nat.add_assoc _ _ _))⟩))); try go_wp2_with (first | ((with_reducible refine zgd (N := 5) rfl ?_); refine zb ?hg (N := 5) ?hd (cs := #[.string ⟨#[]⟩, .string ⟨#[]⟩]) (t := 45) ?hr ?_; (case hd => rfl); (case hg => rfl); (case hr => go_simp; first | done | rfl); intro gb122 hg w37 hbox hb; have n0_ := zk (zs (by with_reducible repeat first | exact HB.out | apply zA | apply zN | apply zD) hb); have n1_ := zk (hbox); have n2_ := zk ((by rw [hg]; exact (zq (by with_reducible repeat first | exact HB.out | apply zA | apply zN | apply zD)) : w.heap.size ≤ gb122)); have n3_ := n2_; clear HB; have HB := n0_; have BK122 := n1_; have GW122 := n2_; have GE122 := n3_; clear n0_ n1_ n2_ n3_; clear hb hbox hg; obtain ⟨hcz38_0, hcz38_1, hfz38_0, hfz38_1⟩ := zc2 BK122.out) | (go_at_call 23; (with_reducible refine (chars_Name.calls k1 ((rd_T45 l0 x9_1).f0) true _ A11.out).mono ?_); rintro e w' ⟨rfl, ⟨nd, rfl⟩⟩; (try first | exact ⟨rfl, _, World.drewN_drewN _ _ _⟩ | exact ⟨rfl, _, Eq.trans (World.drewN_drewN _ _ _) (congrArg (World.drewN _) (Nat.add_assoc _ _ _))⟩)) | (go_at_call 24; (with_reducible refine (chars_Fits.calls ((rd_T45 l0 x9_1).f1) false _ A13.out).mono ?_); rintro e w' ⟨rfl, ⟨nd, rfl⟩⟩; (try first | exact ⟨rfl, _, World.drewN_drewN _ _ _⟩ | exact ⟨rfl, _, Eq.trans (World.drewN_drewN _ _ _) (congrArg (World.drewN _) (Nat.add_assoc _ _ _))⟩))))
          go_ret2
          exact ⟨by first | rfl | (simp [wN, wS] <;> rfl) | (simp [*, wN, wS] <;> rfl), by with_reducible repeat first | exact HB.out | apply zA | apply zN | apply zD | refine zS ?_ GE122.out⟩
       ·
        replace c12 := Bool.eq_false_iff.mpr c12; subst c12
        have H1 : (if 8 = 0 then (attrs_Check.l0 k1 l0 l0 (l0.length : Int) (wrap64 (x9_1 + 1))) else (some (x9_1, 8))) = some (r1, r2) := by rw [if_neg (show ¬ (false = true) by decide)] at H; exact H
        clear H; have H := H1; clear H1
        by_cases c39 : 8 = 0
        ·
         exact absurd c39 (by decide)
        ·
         rw [if_neg c39] at H; have c39b0 := beq_eq_false_iff_ne.mpr c39; have c39b1 := bne_iff_ne.mpr c39; simp only [Option.some.injEq, Prod.mk.injEq] at H; obtain ⟨rfl, rfl⟩ := H; have p121 : 0 ≤ (x9_1 : Int) := zo (by assumption); have q121 : x9_1 < (l0.length : Int) := zo (by assumption); obtain ⟨ad121, e121, hx121_0, hx121_1⟩ := at_T45 HR0.out x9_1 p121 q121; cases e121; replace hx121_0 := zB HB hx121_0; replace hx121_1 := zB HB hx121_1; replace p121 := eq_true p121; replace q121 := eq_true q121
         go_wp2_with (first | ((with_reducible refine zgd (N := 5) rfl ?_); refine zb ?hg (N := 5) ?hd (cs := #[.string ⟨#[]⟩, .string ⟨#[]⟩]) (t := 45) ?hr ?_; (case hd => rfl); (case hg => rfl); (case hr => go_simp; first | done | rfl); intro gb122 hg w42 hbox hb; have n0_ := zk (zs (by with_reducible repeat first | exact HB.out | apply zA | apply zN | apply zD) hb); have n1_ := zk (hbox); have n2_ := zk ((by rw [hg]; exact (zq (by with_reducible repeat first | exact HB.out | apply zA | apply zN | apply zD)) : w.heap.size ≤ gb122)); have n3_ := n2_; clear HB; have HB := n0_; have BK122 := n1_; have GW122 := n2_; have GE122 := n3_; clear n0_ n1_ n2_ n3_; clear hb hbox hg; obtain ⟨hcz43_0, hcz43_1, hfz43_0, hfz43_1⟩ := zc2 BK122.out) | (go_at_call 23; (with_reducible refine (chars_Name.calls k1 ((rd_T45 l0 x9_1).f0) false _ A11.out).mono ?_); rintro e w' ⟨rfl, ⟨nd, rfl⟩⟩; (try first | exact ⟨rfl, _, World.drewN_drewN _ _ _⟩ | exact ⟨rfl, _, Eq.trans (World.drewN_drewN _ _ _) (congrArg (World.drewN _) (Nat.add_assoc _ _ _))⟩)))
         repeat (go_quiet (first | ((with_reducible refine zgd (N := 5) rfl ?_); refine zb ?hg (N := 5) ?hd (cs := #[.string ⟨#[]⟩, .string ⟨#[]⟩]) (t := 45) ?hr ?_; (case hd => rfl); (case hg => rfl); (case hr => go_simp; first | done | rfl); intro gb122 hg w42 hbox hb; have n0_ := zk (zs (by with_reducible repeat first | exact HB.out | apply zA | apply zN | apply zD) hb); have n1_ := zk (hbox); have n2_ := zk ((by rw [hg]; exact (zq (by with_reducible repeat first | exact HB.out | apply zA | apply zN | apply zD)) : w.heap.size ≤ gb122)); have n3_ := n2_; clear HB; have HB := n0_; have BK122 := n1_; have GW122 := n2_; have GE122 := n3_; clear n0_ n1_ n2_ n3_; clear hb hbox hg; obtain ⟨hcz43_0, hcz43_1, hfz43_0, hfz43_1⟩ := zc2 BK122.out) | (go_at_call 23; (with_reducible refine (chars_Name.calls k1 ((rd_T45 l0 x9_1).f0) false _ A11.out).mono ?_); rintro e w' ⟨rfl, ⟨nd, rfl⟩⟩; (try first | exact ⟨rfl, _, World.drewN_drewN _ _ _⟩ | exact ⟨rfl, _, Eq.trans (World.drewN_drewN _ _ _) (congrArg (World.drewN _) (Nat.add_assoc _ _ _))⟩))); try go_wp2_with (first | ((with_reducible refine zgd (N := 5) rfl ?_); refine zb ?hg (N := 5) ?hd (cs := #[.string ⟨#[]⟩, .string ⟨#[]⟩]) (t := 45) ?hr ?_; (case hd => rfl); (case hg => rfl); (case hr => go_simp; first | done | rfl); intro gb122 hg w42 hbox hb; have n0_ := zk (zs (by with_reducible repeat first | exact HB.out | apply zA | apply zN | apply zD) hb); have n1_ := zk (hbox); have n2_ := zk ((by rw [hg]; exact (zq (by with_reducible repeat first | exact HB.out | apply zA | apply zN | apply zD)) : w.heap.size ≤ gb122)); have n3_ := n2_; clear HB; have HB := n0_; have BK122 := n1_; have GW122 := n2_; have GE122 := n3_; clear n0_ n1_ n2_ n3_; clear hb hbox hg; obtain ⟨hcz43_0, hcz43_1, hfz43_0, hfz43_1⟩ := zc2 BK122.out) | (go_at_call 23; (with_reducible refine (chars_Name.calls k1 ((rd_T45 l0 x9_1).f0) false _ A11.out).mono ?_); rintro e w' ⟨rfl, ⟨nd, rfl⟩⟩; (try first | exact ⟨rfl, _, World.drewN_drewN _ _ _⟩ | exact ⟨rfl, _, Eq.trans (World.drewN_drewN _ _ _) (congrArg (World.drewN _) (Nat.add_assoc _ _ _))⟩))))
         go_ret2
         exact ⟨by first | rfl | (simp [wN, wS] <;> rfl) | (simp [*, wN, wS] <;> rfl), by with_reducible repeat first | exact HB.out | apply zA | apply zN | apply zD | refine zS ?_ GE122.out⟩
     ·
      rw [if_neg c4] at H; exact absurd H (by simp)
    ·
     rw [if_neg c3] at H; exact absurd H (by simp)
   ·
    rw [if_neg c2] at H; have c2b0 := decide_eq_false c2; clear c2; simp only [Option.some.injEq, Prod.mk.injEq] at H; obtain ⟨rfl, rfl⟩ := H; go_wp2
    repeat (go_quiet (fail); try go_wp2)
    go_ret2
    exact ⟨by first | rfl | (simp [wN, wS] <;> rfl) | (simp [*, wN, wS] <;> rfl), by with_reducible repeat first | exact HB.out | apply zA | apply zN | apply zD⟩
def attrs_Get.f (k : Nat) (l0 : List (S45)) (a1 : ByteArray) : Option (ByteArray × Bool) := (attrs_find.f k l0 a1).bind fun bt127 => (if bt127.2 = true then (if 0 ≤ bt127.1 then (if bt127.1 < (l0.length : Int) then (some ((rd_T45 l0 bt127.1).f1, true)) else (none)) else (none)) else (some ((⟨#[]⟩ : ByteArray), false)))
theorem attrs_Get.mono : ∀ a0 a1 k, LeO (attrs_Get.f k a0 a1) (attrs_Get.f (k + 1) a0 a1) := by
  intro a0 a1 k; unfold attrs_Get.f
  with_reducible repeat' first | exact attrs_find.mono _ _ _ | exact LeO.refl _ | exact LeO.none _ | refine LeO.ite ?_ ?_ | refine LeO.bind ?_ (fun _ => ?_)
set_option maxHeartbeats 8000000 in
set_option maxRecDepth 100000 in
theorem attrs_Get.calls (k : Nat) (A0 : Option Addr) (c0 : Nat) (l0 : List (S45)) (a1 : ByteArray) (r1 : ByteArray) (r2 : Bool) (w : World) (hr0 : Kd.C k45 w A0 l0.length l0) (hc0 : l0.length ≤ c0) (h : attrs_Get.f k l0 a1 = some (r1, r2)) :
    Calls Try.prog 11 #[.slice A0 l0.length c0, .string a1] w fun e w' => e = .returned (.tuple #[.string r1, .bool r2]) ∧ Below w.heap.size w w' := by
  have HR0 := zk hr0; have HC0 := zk hc0; clear hr0 hc0; have HB := zk (Below.refl w.heap.size w); have H : ((attrs_find.f k l0 a1).bind fun bt127 => (if bt127.2 = true then (if 0 ≤ bt127.1 then (if bt127.1 < (l0.length : Int) then (some ((rd_T45 l0 bt127.1).f1, true)) else (none)) else (none)) else (some ((⟨#[]⟩ : ByteArray), false)))) = some (r1, r2) := h; clear h; replace H := Option.bind_eq_some_iff.mp H; obtain ⟨⟨t127, t128⟩, A30, H⟩ := H; replace H : (if t128 = true then (if 0 ≤ t127 then (if t127 < (l0.length : Int) then (some ((rd_T45 l0 t127).f1, true)) else (none)) else (none)) else (some ((⟨#[]⟩ : ByteArray), false))) = some (r1, r2) := H; have A3 := zk A30; clear A30
  by_cases c4 : t128 = true
  · subst c4
    have H1 : (if 0 ≤ t127 then (if t127 < (l0.length : Int) then (some ((rd_T45 l0 t127).f1, true)) else (none)) else (none)) = some (r1, r2) := by rw [if_pos rfl] at H; exact H
    clear H
    have H := H1
    clear H1
    by_cases c5 : 0 ≤ t127
    · rw [if_pos c5] at H
      have c5b0 : decide (0 ≤ t127) = true := decide_eq_true c5
      clear c5
      by_cases c6 : t127 < (l0.length : Int)
      · rw [if_pos c6] at H
        have c6b0 : decide (t127 < (l0.length : Int)) = true := decide_eq_true c6
        clear c6
        simp only [Option.some.injEq, Prod.mk.injEq] at H
        obtain ⟨rfl, rfl⟩ := H
        go_enter Try.func11, Try.ntmps11
        go_wp2_with (first | ((with_reducible refine zgk (f := 26) rfl ?_); refine zgl (some 11) rfl rfl Try.func26 (by kernel_rfl) rfl #[.slice A0 l0.length c0, .string a1] rfl (by (try simp only [List.map_toArray, List.map_cons, List.map_nil]); first | done | rfl | (simp only [List.length_drop, List.length_take]; rfl)) ?_; (with_reducible refine (attrs_find.calls k _ _ l0 a1 t127 true _ ?side1 ?side2 A3.out).mono ?_); (case side1 => repeat (first | exact HR0.out | (with_reducible refine Kd.C_alloc ?_ _) | (with_reducible refine Kd.C_drewN ?_ _) | (with_reducible refine Kd.C_drew ?_))); (case side2 => exact HC0.out); rintro e w7 ⟨rfl, hb⟩; refine ⟨_, rfl, ?_⟩; have n0_ := zk (zs (by with_reducible repeat first | exact HB.out | apply zA | apply zN | apply zD) hb); clear HB; have HB := n0_; clear n0_; (try clear hb); (try clear hb2); (try clear hk); (try clear hi); have p129 : 0 ≤ (t127 : Int) := zo (by assumption); have q129 : t127 < (l0.length : Int) := zo (by assumption); obtain ⟨ad129, e129, hx129_0, hx129_1⟩ := at_T45 HR0.out t127 p129 q129; cases e129; replace hx129_0 := zB HB hx129_0; replace hx129_1 := zB HB hx129_1; replace p129 := eq_true p129; replace q129 := eq_true q129))
        go_ret2
        exact ⟨by first | rfl | (simp [wN, wS] <;> rfl) | (simp [*, wN, wS] <;> rfl), by with_reducible repeat first | exact HB.out | apply zA | apply zN | apply zD⟩
      · rw [if_neg c6] at H
        exact absurd H (by simp)
    · rw [if_neg c5] at H
      exact absurd H (by simp)
  · replace c4 := Bool.eq_false_iff.mpr c4
    subst c4
    have H1 : (some ((⟨#[]⟩ : ByteArray), false)) = some (r1, r2) := by rw [if_neg (show ¬ (false = true) by decide)] at H; exact H
    clear H
    have H := H1
    clear H1
    simp only [Option.some.injEq, Prod.mk.injEq] at H
    obtain ⟨rfl, rfl⟩ := H
    go_enter Try.func11, Try.ntmps11
    go_wp2_with (first | ((with_reducible refine zgk (f := 26) rfl ?_); refine zgl (some 11) rfl rfl Try.func26 (by kernel_rfl) rfl #[.slice A0 l0.length c0, .string a1] rfl (by (try simp only [List.map_toArray, List.map_cons, List.map_nil]); first | done | rfl | (simp only [List.length_drop, List.length_take]; rfl)) ?_; (with_reducible refine (attrs_find.calls k _ _ l0 a1 t127 false _ ?side1 ?side2 A3.out).mono ?_); (case side1 => repeat (first | exact HR0.out | (with_reducible refine Kd.C_alloc ?_ _) | (with_reducible refine Kd.C_drewN ?_ _) | (with_reducible refine Kd.C_drew ?_))); (case side2 => exact HC0.out); rintro e w8 ⟨rfl, hb⟩; refine ⟨_, rfl, ?_⟩; have n0_ := zk (zs (by with_reducible repeat first | exact HB.out | apply zA | apply zN | apply zD) hb); clear HB; have HB := n0_; clear n0_; (try clear hb); (try clear hb2); (try clear hk); (try clear hi)))
    go_ret2
    exact ⟨by first | rfl | (simp [wN, wS] <;> rfl) | (simp [*, wN, wS] <;> rfl), by with_reducible repeat first | exact HB.out | apply zA | apply zN | apply zD⟩
def lw_same.f (k : Nat)  : Option (Bool) := (attrs_With.f k (([(⟨(⟨#[97]⟩ : ByteArray), (⟨#[49]⟩ : ByteArray)⟩ : S45), (⟨(⟨#[99]⟩ : ByteArray), (⟨#[51]⟩ : ByteArray)⟩ : S45)] : List (S45))) (⟨#[98]⟩ : ByteArray) (⟨#[50]⟩ : ByteArray)).bind fun t133 => ((attrs_Get.f k t133 (⟨#[98]⟩ : ByteArray)).bind fun bt136 => ((attrs_Check.f k (([(⟨(⟨#[98]⟩ : ByteArray), (⟨#[]⟩ : ByteArray)⟩ : S45), (⟨(⟨#[97]⟩ : ByteArray), (⟨#[]⟩ : ByteArray)⟩ : S45)] : List (S45)))).bind fun bt141 => (if (t133.length : Int) = 3 then (if 1 < (t133.length : Int) then (if ((rd_T45 t133 1).f0).toList = ([98] : List UInt8) then (if bt136.1.toList = ([50] : List UInt8) then (if bt136.2 = true then (if bt141.1 = 1 then (some (bt141.2 == 9)) else (some false)) else (some false)) else (some false)) else (some false)) else (none)) else (some false))))
theorem lw_same.mono : ∀ k, LeO (lw_same.f k ) (lw_same.f (k + 1) ) := by
 intro  k
 unfold lw_same.f
 with_reducible repeat' first | exact attrs_Check.mono _ _ | exact attrs_Get.mono _ _ _ | exact attrs_With.mono _ _ _ _ | exact LeO.refl _ | exact LeO.none _ | refine LeO.ite ?_ ?_ | refine LeO.bind ?_ (fun _ => ?_)
set_option maxHeartbeats 8000000 in
set_option maxRecDepth 100000 in
theorem lw_same.calls (k : Nat)  (r : Bool) (w : World) (h : lw_same.f k  = some r) :
  Calls Try.prog 8 #[] w fun e w' => e = .returned (.bool r) ∧ Below w.heap.size w w' := by
 have hu45 := Try.underlying45
 have HB := zk (Below.refl w.heap.size w)
 have H : ((attrs_With.f k (([(⟨(⟨#[97]⟩ : ByteArray), (⟨#[49]⟩ : ByteArray)⟩ : S45), (⟨(⟨#[99]⟩ : ByteArray), (⟨#[51]⟩ : ByteArray)⟩ : S45)] : List (S45))) (⟨#[98]⟩ : ByteArray) (⟨#[50]⟩ : ByteArray)).bind fun t133 => ((attrs_Get.f k t133 (⟨#[98]⟩ : ByteArray)).bind fun bt136 => ((attrs_Check.f k (([(⟨(⟨#[98]⟩ : ByteArray), (⟨#[]⟩ : ByteArray)⟩ : S45), (⟨(⟨#[97]⟩ : ByteArray), (⟨#[]⟩ : ByteArray)⟩ : S45)] : List (S45)))).bind fun bt141 => (if (t133.length : Int) = 3 then (if 1 < (t133.length : Int) then (if ((rd_T45 t133 1).f0).toList = ([98] : List UInt8) then (if bt136.1.toList = ([50] : List UInt8) then (if bt136.2 = true then (if bt141.1 = 1 then (some (bt141.2 == 9)) else (some false)) else (some false)) else (some false)) else (some false)) else (none)) else (some false))))) = some r := h
 clear h
 obtain ⟨y130, hy130⟩ : ∃ y_ : List (S45), y_ = (([(⟨(⟨#[97]⟩ : ByteArray), (⟨#[49]⟩ : ByteArray)⟩ : S45), (⟨(⟨#[99]⟩ : ByteArray), (⟨#[51]⟩ : ByteArray)⟩ : S45)] : List (S45))) := ⟨_, rfl⟩
 replace H : ((attrs_With.f k y130 (⟨#[98]⟩ : ByteArray) (⟨#[50]⟩ : ByteArray)).bind fun t133 => ((attrs_Get.f k t133 (⟨#[98]⟩ : ByteArray)).bind fun bt136 => ((attrs_Check.f k (([(⟨(⟨#[98]⟩ : ByteArray), (⟨#[]⟩ : ByteArray)⟩ : S45), (⟨(⟨#[97]⟩ : ByteArray), (⟨#[]⟩ : ByteArray)⟩ : S45)] : List (S45)))).bind fun bt141 => (if (t133.length : Int) = 3 then (if 1 < (t133.length : Int) then (if ((rd_T45 t133 1).f0).toList = ([98] : List UInt8) then (if bt136.1.toList = ([50] : List UInt8) then (if bt136.2 = true then (if bt141.1 = 1 then (some (bt141.2 == 9)) else (some false)) else (some false)) else (some false)) else (some false)) else (none)) else (some false))))) = some r := by first | (rw [hy130]; with_reducible exact H) | (have H2_ := (Option.bind_some _ _).symm.trans H; rw [hy130]; with_reducible exact H2_) | (have H2_ := (Option.bind_some _ _).symm.trans H; with_reducible exact H2_) | with_reducible exact H | (rw [hy130]; exact H) | exact H
 have Ny130 := zk hy130
 clear hy130
 replace H := Option.bind_eq_some_iff.mp H
 obtain ⟨t133, A10, H⟩ := H
 replace H : ((attrs_Get.f k t133 (⟨#[98]⟩ : ByteArray)).bind fun bt136 => ((attrs_Check.f k (([(⟨(⟨#[98]⟩ : ByteArray), (⟨#[]⟩ : ByteArray)⟩ : S45), (⟨(⟨#[97]⟩ : ByteArray), (⟨#[]⟩ : ByteArray)⟩ : S45)] : List (S45)))).bind fun bt141 => (if (t133.length : Int) = 3 then (if 1 < (t133.length : Int) then (if ((rd_T45 t133 1).f0).toList = ([98] : List UInt8) then (if bt136.1.toList = ([50] : List UInt8) then (if bt136.2 = true then (if bt141.1 = 1 then (some (bt141.2 == 9)) else (some false)) else (some false)) else (some false)) else (some false)) else (none)) else (some false)))) = some r := H
 have A1 := zk A10
 clear A10
 replace H := Option.bind_eq_some_iff.mp H
 obtain ⟨⟨t136, t137⟩, A20, H⟩ := H
 replace H : ((attrs_Check.f k (([(⟨(⟨#[98]⟩ : ByteArray), (⟨#[]⟩ : ByteArray)⟩ : S45), (⟨(⟨#[97]⟩ : ByteArray), (⟨#[]⟩ : ByteArray)⟩ : S45)] : List (S45)))).bind fun bt141 => (if (t133.length : Int) = 3 then (if 1 < (t133.length : Int) then (if ((rd_T45 t133 1).f0).toList = ([98] : List UInt8) then (if t136.toList = ([50] : List UInt8) then (if t137 = true then (if bt141.1 = 1 then (some (bt141.2 == 9)) else (some false)) else (some false)) else (some false)) else (some false)) else (none)) else (some false))) = some r := H
 have A2 := zk A20
 clear A20
 obtain ⟨y138, hy138⟩ : ∃ y_ : List (S45), y_ = (([(⟨(⟨#[98]⟩ : ByteArray), (⟨#[]⟩ : ByteArray)⟩ : S45), (⟨(⟨#[97]⟩ : ByteArray), (⟨#[]⟩ : ByteArray)⟩ : S45)] : List (S45))) := ⟨_, rfl⟩
 replace H : ((attrs_Check.f k y138).bind fun bt141 => (if (t133.length : Int) = 3 then (if 1 < (t133.length : Int) then (if ((rd_T45 t133 1).f0).toList = ([98] : List UInt8) then (if t136.toList = ([50] : List UInt8) then (if t137 = true then (if bt141.1 = 1 then (some (bt141.2 == 9)) else (some false)) else (some false)) else (some false)) else (some false)) else (none)) else (some false))) = some r := by first | (rw [hy138]; with_reducible exact H) | (have H2_ := (Option.bind_some _ _).symm.trans H; rw [hy138]; with_reducible exact H2_) | (have H2_ := (Option.bind_some _ _).symm.trans H; with_reducible exact H2_) | with_reducible exact H | (rw [hy138]; exact H) | exact H
 have Ny138 := zk hy138
 clear hy138
 replace H := Option.bind_eq_some_iff.mp H
 obtain ⟨⟨t141, t142⟩, A30, H⟩ := H
 replace H : (if (t133.length : Int) = 3 then (if 1 < (t133.length : Int) then (if ((rd_T45 t133 1).f0).toList = ([98] : List UInt8) then (if t136.toList = ([50] : List UInt8) then (if t137 = true then (if t141 = 1 then (some (t142 == 9)) else (some false)) else (some false)) else (some false)) else (some false)) else (none)) else (some false)) = some r := H
 have A3 := zk A30
 clear A30
 by_cases c4 : (t133.length : Int) = 3
 ·
  rw [if_pos c4] at H; have c4b0 : ((t133.length : Int) == 3) = true := beq_iff_eq.mpr c4; have c4b1 : ((t133.length : Int) != 3) = false := bne_eq_false_iff_eq.mpr c4; clear c4
  by_cases c5 : 1 < (t133.length : Int)
  ·
   rw [if_pos c5] at H; have c5b0 : decide (1 < (t133.length : Int)) = true := decide_eq_true c5; have c5b1 : decide (1 < t133.length) = true := decide_eq_true (by omega); clear c5
   by_cases c6 : ((rd_T45 t133 1).f0).toList = ([98] : List UInt8)
   ·
    rw [if_pos c6] at H; have c6b0 : (((rd_T45 t133 1).f0).toList == ([98] : List UInt8)) = true := beq_iff_eq.mpr c6; have c6b1 : (((rd_T45 t133 1).f0).toList != ([98] : List UInt8)) = false := bne_eq_false_iff_eq.mpr c6; clear c6
    by_cases c7 : t136.toList = ([50] : List UInt8)
    ·
     rw [if_pos c7] at H; have c7b0 := beq_iff_eq.mpr c7; have c7b1 := bne_eq_false_iff_eq.mpr c7; clear c7
     by_cases c8 : t137 = true
     ·
      subst c8
      have H1 : (if t141 = 1 then (some (t142 == 9)) else (some false)) = some r := by rw [if_pos rfl] at H; exact H
      clear H; have H := H1; clear H1
      by_cases c9 : t141 = 1
      ·
       rw [if_pos c9] at H; have c9b0 := beq_iff_eq.mpr c9; have c9b1 := bne_eq_false_iff_eq.mpr c9; clear c9; obtain rfl := Option.some.inj H
       go_enter Try.func8, Try.ntmps8
       go_wp2_with (first | ((with_reducible refine zgd (N := 8) rfl ?_); refine Kd.R_lit k45 _ 45 ?hg (N := 8) ?hd (xs := ([(⟨(⟨#[97]⟩ : ByteArray), (⟨#[49]⟩ : ByteArray)⟩ : S45), (⟨(⟨#[99]⟩ : ByteArray), (⟨#[51]⟩ : ByteArray)⟩ : S45)] : List (S45))) (inner := [.string (⟨#[97]⟩ : ByteArray), .string (⟨#[49]⟩ : ByteArray), .string (⟨#[99]⟩ : ByteArray), .string (⟨#[51]⟩ : ByteArray)]) (ok := fun _ => True) (okp := fun _ => True) ?hr ?hp (fun _ hk => hk) trivial (Below.refl _ _) (Nat.le_refl _) (by simp) ?_; (case hd => rfl); (case hg => rfl); (case hr => go_simp; first | done | rfl); (case hp => exact (Reps.c2 (show Kd.M k45 _ _ _ (⟨(⟨#[97]⟩ : ByteArray), (⟨#[49]⟩ : ByteArray)⟩ : S45) [.string (⟨#[97]⟩ : ByteArray), .string (⟨#[49]⟩ : ByteArray)] from (k45_mkM _ _ _ (⟨(⟨#[97]⟩ : ByteArray), (⟨#[49]⟩ : ByteArray)⟩ : S45) )) (Reps.c2 (show Kd.M k45 _ _ _ (⟨(⟨#[99]⟩ : ByteArray), (⟨#[51]⟩ : ByteArray)⟩ : S45) [.string (⟨#[99]⟩ : ByteArray), .string (⟨#[51]⟩ : ByteArray)] from (k45_mkM _ _ _ (⟨(⟨#[99]⟩ : ByteArray), (⟨#[51]⟩ : ByteArray)⟩ : S45) )) (Reps.none _ _)))); intro v131 w10 ho11 hb hg_ hnew_; clear hg_ hnew_; (first | rw [← Ny130.out] at ho11 | (simp only [Int.reduceToNat] at ho11; rw [← Ny130.out] at ho11)); have n0_ := zk (Kd.R_lower ho11 (zq (by with_reducible repeat first | exact HB.out | apply zA | apply zN | apply zD))); have n1_ := zk (zs (by with_reducible repeat first | exact HB.out | apply zA | apply zN | apply zD) hb); clear HB; have HO132 := n0_; have HB := n1_; clear n0_ n1_; clear hb ho11; obtain ⟨Ao12, co12, eo12⟩ := Kd.R_slice HO132.out; subst eo12) | ((with_reducible refine zgk (f := 13) rfl ?_); refine zgl (some 9) rfl rfl Try.func13 (by kernel_rfl) rfl #[.slice Ao12 y130.length co12, .string (⟨#[98]⟩ : ByteArray), .string (⟨#[50]⟩ : ByteArray)] rfl (by (try simp only [List.map_toArray, List.map_cons, List.map_nil]); first | done | rfl | (simp only [List.length_drop, List.length_take]; rfl)) ?_; (with_reducible refine (attrs_With.calls k _ _ y130 (⟨#[98]⟩ : ByteArray) (⟨#[50]⟩ : ByteArray) t133 _ ?side1 ?side2 A1.out).mono ?_); (case side1 => repeat (first | exact (Kd.R_reads' HO132.out).2.2 | (with_reducible refine Kd.C_alloc ?_ _) | (with_reducible refine Kd.C_drewN ?_ _) | (with_reducible refine Kd.C_drew ?_))); (case side2 => exact (Kd.R_reads' HO132.out).2.1); rintro e w13 ⟨v134, rfl, ho0, hb⟩; refine ⟨_, rfl, ?_⟩; have n0_ := zk (Kd.R_elder' (by (with_reducible repeat (first | apply Kd.R_alloc | apply Kd.R_drewN | apply Kd.R_drew)); exact HO132.out) (Kd.R_base ho0) hb); have n1_ := zk (Kd.R_lower (Kd.R_new' ho0 (Kd.R_lt (by (with_reducible repeat (first | apply Kd.R_alloc | apply Kd.R_drewN | apply Kd.R_drew)); exact HO132.out))) (zq (by with_reducible repeat first | exact HB.out | apply zA | apply zN | apply zD))); have n2_ := zk (zs (by with_reducible repeat first | exact HB.out | apply zA | apply zN | apply zD) hb); clear HO132; clear HB; have HO132 := n0_; have HO135 := n1_; have HB := n2_; clear n0_ n1_ n2_; (try clear hb); (try clear hb2); (try clear hk); (try clear hi); (try clear ho0); obtain ⟨Ao14, co14, eo14⟩ := Kd.R_slice HO135.out; subst eo14) | ((with_reducible refine zgk (f := 11) rfl ?_); refine zgl (some 12) rfl rfl Try.func11 (by kernel_rfl) rfl #[.slice Ao14 t133.length co14, .string (⟨#[98]⟩ : ByteArray)] rfl (by (try simp only [List.map_toArray, List.map_cons, List.map_nil]); first | done | rfl | (simp only [List.length_drop, List.length_take]; rfl)) ?_; (with_reducible refine (attrs_Get.calls k _ _ t133 (⟨#[98]⟩ : ByteArray) t136 true _ ?side1 ?side2 A2.out).mono ?_); (case side1 => repeat (first | exact (Kd.R_reads' HO135.out).2.2 | (with_reducible refine Kd.C_alloc ?_ _) | (with_reducible refine Kd.C_drewN ?_ _) | (with_reducible refine Kd.C_drew ?_))); (case side2 => exact (Kd.R_reads' HO135.out).2.1); rintro e w15 ⟨rfl, hb⟩; refine ⟨_, rfl, ?_⟩; have n0_ := zk (Kd.R_below (by (with_reducible repeat (first | apply Kd.R_alloc | apply Kd.R_drewN | apply Kd.R_drew)); exact HO132.out) hb); have n1_ := zk (Kd.R_below (by (with_reducible repeat (first | apply Kd.R_alloc | apply Kd.R_drewN | apply Kd.R_drew)); exact HO135.out) hb); have n2_ := zk (zs (by with_reducible repeat first | exact HB.out | apply zA | apply zN | apply zD) hb); clear HO132; clear HO135; clear HB; have HO132 := n0_; have HO135 := n1_; have HB := n2_; clear n0_ n1_ n2_; (try clear hb); (try clear hb2); (try clear hk); (try clear hi)) | ((with_reducible refine zgd (N := 18) rfl ?_); refine Kd.R_lit k45 _ 45 ?hg (N := 18) ?hd (xs := ([(⟨(⟨#[98]⟩ : ByteArray), (⟨#[]⟩ : ByteArray)⟩ : S45), (⟨(⟨#[97]⟩ : ByteArray), (⟨#[]⟩ : ByteArray)⟩ : S45)] : List (S45))) (inner := [.string (⟨#[98]⟩ : ByteArray), .string ⟨#[]⟩, .string (⟨#[97]⟩ : ByteArray), .string ⟨#[]⟩]) (ok := fun _ => True) (okp := fun _ => True) ?hr ?hp (fun _ hk => hk) trivial (Below.refl _ _) (Nat.le_refl _) (by simp) ?_; (case hd => rfl); (case hg => rfl); (case hr => go_simp; first | done | rfl); (case hp => exact (Reps.c2 (show Kd.M k45 _ _ _ (⟨(⟨#[98]⟩ : ByteArray), (⟨#[]⟩ : ByteArray)⟩ : S45) [.string (⟨#[98]⟩ : ByteArray), .string ⟨#[]⟩] from (k45_mkM _ _ _ (⟨(⟨#[98]⟩ : ByteArray), (⟨#[]⟩ : ByteArray)⟩ : S45) )) (Reps.c2 (show Kd.M k45 _ _ _ (⟨(⟨#[97]⟩ : ByteArray), (⟨#[]⟩ : ByteArray)⟩ : S45) [.string (⟨#[97]⟩ : ByteArray), .string ⟨#[]⟩] from (k45_mkM _ _ _ (⟨(⟨#[97]⟩ : ByteArray), (⟨#[]⟩ : ByteArray)⟩ : S45) )) (Reps.none _ _)))); intro v139 w16 ho17 hb hg_ hnew_; clear hg_ hnew_; (first | rw [← Ny138.out] at ho17 | (simp only [Int.reduceToNat] at ho17; rw [← Ny138.out] at ho17)); have n0_ := zk (Kd.R_elder' (by (with_reducible repeat (first | apply Kd.R_alloc | apply Kd.R_drewN | apply Kd.R_drew)); exact HO132.out) (Kd.R_base ho17) hb); have n1_ := zk (Kd.R_elder' (by (with_reducible repeat (first | apply Kd.R_alloc | apply Kd.R_drewN | apply Kd.R_drew)); exact HO135.out) (Kd.R_base ho17) hb); have n2_ := zk (Kd.R_lower (Kd.R_new' (Kd.R_new' ho17 (Kd.R_lt (by (with_reducible repeat (first | apply Kd.R_alloc | apply Kd.R_drewN | apply Kd.R_drew)); exact HO132.out))) (Kd.R_lt (by (with_reducible repeat (first | apply Kd.R_alloc | apply Kd.R_drewN | apply Kd.R_drew)); exact HO135.out))) (zq (by with_reducible repeat first | exact HB.out | apply zA | apply zN | apply zD))); have n3_ := zk (zs (by with_reducible repeat first | exact HB.out | apply zA | apply zN | apply zD) hb); clear HO132; clear HO135; clear HB; have HO132 := n0_; have HO135 := n1_; have HO140 := n2_; have HB := n3_; clear n0_ n1_ n2_ n3_; clear hb ho17; obtain ⟨Ao18, co18, eo18⟩ := Kd.R_slice HO140.out; subst eo18) | ((with_reducible refine zgk (f := 9) rfl ?_); refine zgl (some 19) rfl rfl Try.func9 (by kernel_rfl) rfl #[.slice Ao18 y138.length co18] rfl (by (try simp only [List.map_toArray, List.map_cons, List.map_nil]); first | done | rfl | (simp only [List.length_drop, List.length_take]; rfl)) ?_; (with_reducible refine (attrs_Check.calls k _ _ y138 t141 t142 _ ?side1 ?side2 A3.out).mono ?_); (case side1 => repeat (first | exact (Kd.R_reads' HO140.out).2.2 | (with_reducible refine Kd.C_alloc ?_ _) | (with_reducible refine Kd.C_drewN ?_ _) | (with_reducible refine Kd.C_drew ?_))); (case side2 => exact (Kd.R_reads' HO140.out).2.1); rintro e w19 ⟨rfl, hb⟩; refine ⟨_, rfl, ?_⟩; have n0_ := zk (Kd.R_below (by (with_reducible repeat (first | apply Kd.R_alloc | apply Kd.R_drewN | apply Kd.R_drew)); exact HO132.out) hb); have n1_ := zk (Kd.R_below (by (with_reducible repeat (first | apply Kd.R_alloc | apply Kd.R_drewN | apply Kd.R_drew)); exact HO135.out) hb); have n2_ := zk (Kd.R_below (by (with_reducible repeat (first | apply Kd.R_alloc | apply Kd.R_drewN | apply Kd.R_drew)); exact HO140.out) hb); have n3_ := zk (zs (by with_reducible repeat first | exact HB.out | apply zA | apply zN | apply zD) hb); clear HO132; clear HO135; clear HO140; clear HB; have HO132 := n0_; have HO135 := n1_; have HO140 := n2_; have HB := n3_; clear n0_ n1_ n2_ n3_; (try clear hb); (try clear hb2); (try clear hk); (try clear hi); have p143 : 0 ≤ (1 : Int) := (by omega); have q143 : 1 < (t133.length : Int) := zo (by assumption); obtain ⟨ad143, e143, hx143_0, hx143_1⟩ := at_T45 (Kd.R_reads' HO135.out).2.2 1 p143 q143; cases e143; (try simp only [show (1 : Int).toNat = 1 from rfl, Nat.reduceMul, Nat.reduceEqDiff, Go.Addr.add, ↓reduceIte] at hx143_0); (try simp only [show (1 : Int).toNat = 1 from rfl, Nat.reduceMul, Nat.reduceEqDiff, Go.Addr.add, ↓reduceIte] at hx143_1); have qi143 : (1 < t133.length) = True := eq_true (by omega); (try rw [show ((1 : Int)).toNat = 1 from rfl] at hx143_0); (try rw [show 1 * 2 = 2 from rfl] at hx143_0); (try rw [show ((1 : Int)).toNat = 1 from rfl] at hx143_1); (try rw [show 1 * 2 = 2 from rfl] at hx143_1); replace p143 := eq_true p143; replace q143 := eq_true q143))
       go_ret; exact ⟨by first | rfl | (simp [wN, wS] <;> rfl) | (simp [*, wN, wS] <;> rfl), by with_reducible repeat first | exact HB.out | apply zA | apply zN | apply zD⟩
      ·
       rw [if_neg c9] at H; have c9b0 := beq_eq_false_iff_ne.mpr c9; have c9b1 := bne_iff_ne.mpr c9; obtain rfl := Option.some.inj H
       go_enter Try.func8, Try.ntmps8
       go_wp2_with (first | ((with_reducible refine zgd (N := 8) rfl ?_); refine Kd.R_lit k45 _ 45 ?hg (N := 8) ?hd (xs := ([(⟨(⟨#[97]⟩ : ByteArray), (⟨#[49]⟩ : ByteArray)⟩ : S45), (⟨(⟨#[99]⟩ : ByteArray), (⟨#[51]⟩ : ByteArray)⟩ : S45)] : List (S45))) (inner := [.string (⟨#[97]⟩ : ByteArray), .string (⟨#[49]⟩ : ByteArray), .string (⟨#[99]⟩ : ByteArray), .string (⟨#[51]⟩ : ByteArray)]) (ok := fun _ => True) (okp := fun _ => True) ?hr ?hp (fun _ hk => hk) trivial (Below.refl _ _) (Nat.le_refl _) (by simp) ?_; (case hd => rfl); (case hg => rfl); (case hr => go_simp; first | done | rfl); (case hp => exact (Reps.c2 (show Kd.M k45 _ _ _ (⟨(⟨#[97]⟩ : ByteArray), (⟨#[49]⟩ : ByteArray)⟩ : S45) [.string (⟨#[97]⟩ : ByteArray), .string (⟨#[49]⟩ : ByteArray)] from (k45_mkM _ _ _ (⟨(⟨#[97]⟩ : ByteArray), (⟨#[49]⟩ : ByteArray)⟩ : S45) )) (Reps.c2 (show Kd.M k45 _ _ _ (⟨(⟨#[99]⟩ : ByteArray), (⟨#[51]⟩ : ByteArray)⟩ : S45) [.string (⟨#[99]⟩ : ByteArray), .string (⟨#[51]⟩ : ByteArray)] from (k45_mkM _ _ _ (⟨(⟨#[99]⟩ : ByteArray), (⟨#[51]⟩ : ByteArray)⟩ : S45) )) (Reps.none _ _)))); intro v131 w20 ho21 hb hg_ hnew_; clear hg_ hnew_; (first | rw [← Ny130.out] at ho21 | (simp only [Int.reduceToNat] at ho21; rw [← Ny130.out] at ho21)); have n0_ := zk (Kd.R_lower ho21 (zq (by with_reducible repeat first | exact HB.out | apply zA | apply zN | apply zD))); have n1_ := zk (zs (by with_reducible repeat first | exact HB.out | apply zA | apply zN | apply zD) hb); clear HB; have HO132 := n0_; have HB := n1_; clear n0_ n1_; clear hb ho21; obtain ⟨Ao22, co22, eo22⟩ := Kd.R_slice HO132.out; subst eo22) | ((with_reducible refine zgk (f := 13) rfl ?_); refine zgl (some 9) rfl rfl Try.func13 (by kernel_rfl) rfl #[.slice Ao22 y130.length co22, .string (⟨#[98]⟩ : ByteArray), .string (⟨#[50]⟩ : ByteArray)] rfl (by (try simp only [List.map_toArray, List.map_cons, List.map_nil]); first | done | rfl | (simp only [List.length_drop, List.length_take]; rfl)) ?_; (with_reducible refine (attrs_With.calls k _ _ y130 (⟨#[98]⟩ : ByteArray) (⟨#[50]⟩ : ByteArray) t133 _ ?side1 ?side2 A1.out).mono ?_); (case side1 => repeat (first | exact (Kd.R_reads' HO132.out).2.2 | (with_reducible refine Kd.C_alloc ?_ _) | (with_reducible refine Kd.C_drewN ?_ _) | (with_reducible refine Kd.C_drew ?_))); (case side2 => exact (Kd.R_reads' HO132.out).2.1); rintro e w23 ⟨v134, rfl, ho0, hb⟩; refine ⟨_, rfl, ?_⟩; have n0_ := zk (Kd.R_elder' (by (with_reducible repeat (first | apply Kd.R_alloc | apply Kd.R_drewN | apply Kd.R_drew)); exact HO132.out) (Kd.R_base ho0) hb); have n1_ := zk (Kd.R_lower (Kd.R_new' ho0 (Kd.R_lt (by (with_reducible repeat (first | apply Kd.R_alloc | apply Kd.R_drewN | apply Kd.R_drew)); exact HO132.out))) (zq (by with_reducible repeat first | exact HB.out | apply zA | apply zN | apply zD))); have n2_ := zk (zs (by with_reducible repeat first | exact HB.out | apply zA | apply zN | apply zD) hb); clear HO132; clear HB; have HO132 := n0_; have HO135 := n1_; have HB := n2_; clear n0_ n1_ n2_; (try clear hb); (try clear hb2); (try clear hk); (try clear hi); (try clear ho0); obtain ⟨Ao24, co24, eo24⟩ := Kd.R_slice HO135.out; subst eo24) | ((with_reducible refine zgk (f := 11) rfl ?_); refine zgl (some 12) rfl rfl Try.func11 (by kernel_rfl) rfl #[.slice Ao24 t133.length co24, .string (⟨#[98]⟩ : ByteArray)] rfl (by (try simp only [List.map_toArray, List.map_cons, List.map_nil]); first | done | rfl | (simp only [List.length_drop, List.length_take]; rfl)) ?_; (with_reducible refine (attrs_Get.calls k _ _ t133 (⟨#[98]⟩ : ByteArray) t136 true _ ?side1 ?side2 A2.out).mono ?_); (case side1 => repeat (first | exact (Kd.R_reads' HO135.out).2.2 | (with_reducible refine Kd.C_alloc ?_ _) | (with_reducible refine Kd.C_drewN ?_ _) | (with_reducible refine Kd.C_drew ?_))); (case side2 => exact (Kd.R_reads' HO135.out).2.1); rintro e w25 ⟨rfl, hb⟩; refine ⟨_, rfl, ?_⟩; have n0_ := zk (Kd.R_below (by (with_reducible repeat (first | apply Kd.R_alloc | apply Kd.R_drewN | apply Kd.R_drew)); exact HO132.out) hb); have n1_ := zk (Kd.R_below (by (with_reducible repeat (first | apply Kd.R_alloc | apply Kd.R_drewN | apply Kd.R_drew)); exact HO135.out) hb); have n2_ := zk (zs (by with_reducible repeat first | exact HB.out | apply zA | apply zN | apply zD) hb); clear HO132; clear HO135; clear HB; have HO132 := n0_; have HO135 := n1_; have HB := n2_; clear n0_ n1_ n2_; (try clear hb); (try clear hb2); (try clear hk); (try clear hi)) | ((with_reducible refine zgd (N := 18) rfl ?_); refine Kd.R_lit k45 _ 45 ?hg (N := 18) ?hd (xs := ([(⟨(⟨#[98]⟩ : ByteArray), (⟨#[]⟩ : ByteArray)⟩ : S45), (⟨(⟨#[97]⟩ : ByteArray), (⟨#[]⟩ : ByteArray)⟩ : S45)] : List (S45))) (inner := [.string (⟨#[98]⟩ : ByteArray), .string ⟨#[]⟩, .string (⟨#[97]⟩ : ByteArray), .string ⟨#[]⟩]) (ok := fun _ => True) (okp := fun _ => True) ?hr ?hp (fun _ hk => hk) trivial (Below.refl _ _) (Nat.le_refl _) (by simp) ?_; (case hd => rfl); (case hg => rfl); (case hr => go_simp; first | done | rfl); (case hp => exact (Reps.c2 (show Kd.M k45 _ _ _ (⟨(⟨#[98]⟩ : ByteArray), (⟨#[]⟩ : ByteArray)⟩ : S45) [.string (⟨#[98]⟩ : ByteArray), .string ⟨#[]⟩] from (k45_mkM _ _ _ (⟨(⟨#[98]⟩ : ByteArray), (⟨#[]⟩ : ByteArray)⟩ : S45) )) (Reps.c2 (show Kd.M k45 _ _ _ (⟨(⟨#[97]⟩ : ByteArray), (⟨#[]⟩ : ByteArray)⟩ : S45) [.string (⟨#[97]⟩ : ByteArray), .string ⟨#[]⟩] from (k45_mkM _ _ _ (⟨(⟨#[97]⟩ : ByteArray), (⟨#[]⟩ : ByteArray)⟩ : S45) )) (Reps.none _ _)))); intro v139 w26 ho27 hb hg_ hnew_; clear hg_ hnew_; (first | rw [← Ny138.out] at ho27 | (simp only [Int.reduceToNat] at ho27; rw [← Ny138.out] at ho27)); have n0_ := zk (Kd.R_elder' (by (with_reducible repeat (first | apply Kd.R_alloc | apply Kd.R_drewN | apply Kd.R_drew)); exact HO132.out) (Kd.R_base ho27) hb); have n1_ := zk (Kd.R_elder' (by (with_reducible repeat (first | apply Kd.R_alloc | apply Kd.R_drewN | apply Kd.R_drew)); exact HO135.out) (Kd.R_base ho27) hb); have n2_ := zk (Kd.R_lower (Kd.R_new' (Kd.R_new' ho27 (Kd.R_lt (by (with_reducible repeat (first | apply Kd.R_alloc | apply Kd.R_drewN | apply Kd.R_drew)); exact HO132.out))) (Kd.R_lt (by (with_reducible repeat (first | apply Kd.R_alloc | apply Kd.R_drewN | apply Kd.R_drew)); exact HO135.out))) (zq (by with_reducible repeat first | exact HB.out | apply zA | apply zN | apply zD))); have n3_ := zk (zs (by with_reducible repeat first | exact HB.out | apply zA | apply zN | apply zD) hb); clear HO132; clear HO135; clear HB; have HO132 := n0_; have HO135 := n1_; have HO140 := n2_; have HB := n3_; clear n0_ n1_ n2_ n3_; clear hb ho27; obtain ⟨Ao28, co28, eo28⟩ := Kd.R_slice HO140.out; subst eo28) | ((with_reducible refine zgk (f := 9) rfl ?_); refine zgl (some 19) rfl rfl Try.func9 (by kernel_rfl) rfl #[.slice Ao28 y138.length co28] rfl (by (try simp only [List.map_toArray, List.map_cons, List.map_nil]); first | done | rfl | (simp only [List.length_drop, List.length_take]; rfl)) ?_; (with_reducible refine (attrs_Check.calls k _ _ y138 t141 t142 _ ?side1 ?side2 A3.out).mono ?_); (case side1 => repeat (first | exact (Kd.R_reads' HO140.out).2.2 | (with_reducible refine Kd.C_alloc ?_ _) | (with_reducible refine Kd.C_drewN ?_ _) | (with_reducible refine Kd.C_drew ?_))); (case side2 => exact (Kd.R_reads' HO140.out).2.1); rintro e w29 ⟨rfl, hb⟩; refine ⟨_, rfl, ?_⟩; have n0_ := zk (Kd.R_below (by (with_reducible repeat (first | apply Kd.R_alloc | apply Kd.R_drewN | apply Kd.R_drew)); exact HO132.out) hb); have n1_ := zk (Kd.R_below (by (with_reducible repeat (first | apply Kd.R_alloc | apply Kd.R_drewN | apply Kd.R_drew)); exact HO135.out) hb); have n2_ := zk (Kd.R_below (by (with_reducible repeat (first | apply Kd.R_alloc | apply Kd.R_drewN | apply Kd.R_drew)); exact HO140.out) hb); have n3_ := zk (zs (by with_reducible repeat first | exact HB.out | apply zA | apply zN | apply zD) hb); clear HO132; clear HO135; clear HO140; clear HB; have HO132 := n0_; have HO135 := n1_; have HO140 := n2_; have HB := n3_; clear n0_ n1_ n2_ n3_; (try clear hb); (try clear hb2); (try clear hk); (try clear hi); have p143 : 0 ≤ (1 : Int) := (by omega); have q143 : 1 < (t133.length : Int) := zo (by assumption); obtain ⟨ad143, e143, hx143_0, hx143_1⟩ := at_T45 (Kd.R_reads' HO135.out).2.2 1 p143 q143; cases e143; (try simp only [show (1 : Int).toNat = 1 from rfl, Nat.reduceMul, Nat.reduceEqDiff, Go.Addr.add, ↓reduceIte] at hx143_0); (try simp only [show (1 : Int).toNat = 1 from rfl, Nat.reduceMul, Nat.reduceEqDiff, Go.Addr.add, ↓reduceIte] at hx143_1); have qi143 : (1 < t133.length) = True := eq_true (by omega); (try rw [show ((1 : Int)).toNat = 1 from rfl] at hx143_0); (try rw [show 1 * 2 = 2 from rfl] at hx143_0); (try rw [show ((1 : Int)).toNat = 1 from rfl] at hx143_1); (try rw [show 1 * 2 = 2 from rfl] at hx143_1); replace p143 := eq_true p143; replace q143 := eq_true q143))
       go_ret; exact ⟨by first | rfl | (simp [wN, wS] <;> rfl) | (simp [*, wN, wS] <;> rfl), by with_reducible repeat first | exact HB.out | apply zA | apply zN | apply zD⟩
     ·
      replace c8 := Bool.eq_false_iff.mpr c8; subst c8
      have H1 : (some false) = some r := by rw [if_neg (show ¬ (false = true) by decide)] at H; exact H
      clear H; have H := H1; clear H1; obtain rfl := Option.some.inj H
      go_enter Try.func8, Try.ntmps8
      go_wp2_with (first | ((with_reducible refine zgd (N := 8) rfl ?_); refine Kd.R_lit k45 _ 45 ?hg (N := 8) ?hd (xs := ([(⟨(⟨#[97]⟩ : ByteArray), (⟨#[49]⟩ : ByteArray)⟩ : S45), (⟨(⟨#[99]⟩ : ByteArray), (⟨#[51]⟩ : ByteArray)⟩ : S45)] : List (S45))) (inner := [.string (⟨#[97]⟩ : ByteArray), .string (⟨#[49]⟩ : ByteArray), .string (⟨#[99]⟩ : ByteArray), .string (⟨#[51]⟩ : ByteArray)]) (ok := fun _ => True) (okp := fun _ => True) ?hr ?hp (fun _ hk => hk) trivial (Below.refl _ _) (Nat.le_refl _) (by simp) ?_; (case hd => rfl); (case hg => rfl); (case hr => go_simp; first | done | rfl); (case hp => exact (Reps.c2 (show Kd.M k45 _ _ _ (⟨(⟨#[97]⟩ : ByteArray), (⟨#[49]⟩ : ByteArray)⟩ : S45) [.string (⟨#[97]⟩ : ByteArray), .string (⟨#[49]⟩ : ByteArray)] from (k45_mkM _ _ _ (⟨(⟨#[97]⟩ : ByteArray), (⟨#[49]⟩ : ByteArray)⟩ : S45) )) (Reps.c2 (show Kd.M k45 _ _ _ (⟨(⟨#[99]⟩ : ByteArray), (⟨#[51]⟩ : ByteArray)⟩ : S45) [.string (⟨#[99]⟩ : ByteArray), .string (⟨#[51]⟩ : ByteArray)] from (k45_mkM _ _ _ (⟨(⟨#[99]⟩ : ByteArray), (⟨#[51]⟩ : ByteArray)⟩ : S45) )) (Reps.none _ _)))); intro v131 w30 ho31 hb hg_ hnew_; clear hg_ hnew_; (first | rw [← Ny130.out] at ho31 | (simp only [Int.reduceToNat] at ho31; rw [← Ny130.out] at ho31)); have n0_ := zk (Kd.R_lower ho31 (zq (by with_reducible repeat first | exact HB.out | apply zA | apply zN | apply zD))); have n1_ := zk (zs (by with_reducible repeat first | exact HB.out | apply zA | apply zN | apply zD) hb); clear HB; have HO132 := n0_; have HB := n1_; clear n0_ n1_; clear hb ho31; obtain ⟨Ao32, co32, eo32⟩ := Kd.R_slice HO132.out; subst eo32) | ((with_reducible refine zgk (f := 13) rfl ?_); refine zgl (some 9) rfl rfl Try.func13 (by kernel_rfl) rfl #[.slice Ao32 y130.length co32, .string (⟨#[98]⟩ : ByteArray), .string (⟨#[50]⟩ : ByteArray)] rfl (by (try simp only [List.map_toArray, List.map_cons, List.map_nil]); first | done | rfl | (simp only [List.length_drop, List.length_take]; rfl)) ?_; (with_reducible refine (attrs_With.calls k _ _ y130 (⟨#[98]⟩ : ByteArray) (⟨#[50]⟩ : ByteArray) t133 _ ?side1 ?side2 A1.out).mono ?_); (case side1 => repeat (first | exact (Kd.R_reads' HO132.out).2.2 | (with_reducible refine Kd.C_alloc ?_ _) | (with_reducible refine Kd.C_drewN ?_ _) | (with_reducible refine Kd.C_drew ?_))); (case side2 => exact (Kd.R_reads' HO132.out).2.1); rintro e w33 ⟨v134, rfl, ho0, hb⟩; refine ⟨_, rfl, ?_⟩; have n0_ := zk (Kd.R_elder' (by (with_reducible repeat (first | apply Kd.R_alloc | apply Kd.R_drewN | apply Kd.R_drew)); exact HO132.out) (Kd.R_base ho0) hb); have n1_ := zk (Kd.R_lower (Kd.R_new' ho0 (Kd.R_lt (by (with_reducible repeat (first | apply Kd.R_alloc | apply Kd.R_drewN | apply Kd.R_drew)); exact HO132.out))) (zq (by with_reducible repeat first | exact HB.out | apply zA | apply zN | apply zD))); have n2_ := zk (zs (by with_reducible repeat first | exact HB.out | apply zA | apply zN | apply zD) hb); clear HO132; clear HB; have HO132 := n0_; have HO135 := n1_; have HB := n2_; clear n0_ n1_ n2_; (try clear hb); (try clear hb2); (try clear hk); (try clear hi); (try clear ho0); obtain ⟨Ao34, co34, eo34⟩ := Kd.R_slice HO135.out; subst eo34) | ((with_reducible refine zgk (f := 11) rfl ?_); refine zgl (some 12) rfl rfl Try.func11 (by kernel_rfl) rfl #[.slice Ao34 t133.length co34, .string (⟨#[98]⟩ : ByteArray)] rfl (by (try simp only [List.map_toArray, List.map_cons, List.map_nil]); first | done | rfl | (simp only [List.length_drop, List.length_take]; rfl)) ?_; (with_reducible refine (attrs_Get.calls k _ _ t133 (⟨#[98]⟩ : ByteArray) t136 false _ ?side1 ?side2 A2.out).mono ?_); (case side1 => repeat (first | exact (Kd.R_reads' HO135.out).2.2 | (with_reducible refine Kd.C_alloc ?_ _) | (with_reducible refine Kd.C_drewN ?_ _) | (with_reducible refine Kd.C_drew ?_))); (case side2 => exact (Kd.R_reads' HO135.out).2.1); rintro e w35 ⟨rfl, hb⟩; refine ⟨_, rfl, ?_⟩; have n0_ := zk (Kd.R_below (by (with_reducible repeat (first | apply Kd.R_alloc | apply Kd.R_drewN | apply Kd.R_drew)); exact HO132.out) hb); have n1_ := zk (Kd.R_below (by (with_reducible repeat (first | apply Kd.R_alloc | apply Kd.R_drewN | apply Kd.R_drew)); exact HO135.out) hb); have n2_ := zk (zs (by with_reducible repeat first | exact HB.out | apply zA | apply zN | apply zD) hb); clear HO132; clear HO135; clear HB; have HO132 := n0_; have HO135 := n1_; have HB := n2_; clear n0_ n1_ n2_; (try clear hb); (try clear hb2); (try clear hk); (try clear hi)) | ((with_reducible refine zgd (N := 18) rfl ?_); refine Kd.R_lit k45 _ 45 ?hg (N := 18) ?hd (xs := ([(⟨(⟨#[98]⟩ : ByteArray), (⟨#[]⟩ : ByteArray)⟩ : S45), (⟨(⟨#[97]⟩ : ByteArray), (⟨#[]⟩ : ByteArray)⟩ : S45)] : List (S45))) (inner := [.string (⟨#[98]⟩ : ByteArray), .string ⟨#[]⟩, .string (⟨#[97]⟩ : ByteArray), .string ⟨#[]⟩]) (ok := fun _ => True) (okp := fun _ => True) ?hr ?hp (fun _ hk => hk) trivial (Below.refl _ _) (Nat.le_refl _) (by simp) ?_; (case hd => rfl); (case hg => rfl); (case hr => go_simp; first | done | rfl); (case hp => exact (Reps.c2 (show Kd.M k45 _ _ _ (⟨(⟨#[98]⟩ : ByteArray), (⟨#[]⟩ : ByteArray)⟩ : S45) [.string (⟨#[98]⟩ : ByteArray), .string ⟨#[]⟩] from (k45_mkM _ _ _ (⟨(⟨#[98]⟩ : ByteArray), (⟨#[]⟩ : ByteArray)⟩ : S45) )) (Reps.c2 (show Kd.M k45 _ _ _ (⟨(⟨#[97]⟩ : ByteArray), (⟨#[]⟩ : ByteArray)⟩ : S45) [.string (⟨#[97]⟩ : ByteArray), .string ⟨#[]⟩] from (k45_mkM _ _ _ (⟨(⟨#[97]⟩ : ByteArray), (⟨#[]⟩ : ByteArray)⟩ : S45) )) (Reps.none _ _)))); intro v139 w36 ho37 hb hg_ hnew_; clear hg_ hnew_; (first | rw [← Ny138.out] at ho37 | (simp only [Int.reduceToNat] at ho37; rw [← Ny138.out] at ho37)); have n0_ := zk (Kd.R_elder' (by (with_reducible repeat (first | apply Kd.R_alloc | apply Kd.R_drewN | apply Kd.R_drew)); exact HO132.out) (Kd.R_base ho37) hb); have n1_ := zk (Kd.R_elder' (by (with_reducible repeat (first | apply Kd.R_alloc | apply Kd.R_drewN | apply Kd.R_drew)); exact HO135.out) (Kd.R_base ho37) hb); have n2_ := zk (Kd.R_lower (Kd.R_new' (Kd.R_new' ho37 (Kd.R_lt (by (with_reducible repeat (first | apply Kd.R_alloc | apply Kd.R_drewN | apply Kd.R_drew)); exact HO132.out))) (Kd.R_lt (by (with_reducible repeat (first | apply Kd.R_alloc | apply Kd.R_drewN | apply Kd.R_drew)); exact HO135.out))) (zq (by with_reducible repeat first | exact HB.out | apply zA | apply zN | apply zD))); have n3_ := zk (zs (by with_reducible repeat first | exact HB.out | apply zA | apply zN | apply zD) hb); clear HO132; clear HO135; clear HB; have HO132 := n0_; have HO135 := n1_; have HO140 := n2_; have HB := n3_; clear n0_ n1_ n2_ n3_; clear hb ho37; obtain ⟨Ao38, co38, eo38⟩ := Kd.R_slice HO140.out; subst eo38) | ((with_reducible refine zgk (f := 9) rfl ?_); refine zgl (some 19) rfl rfl Try.func9 (by kernel_rfl) rfl #[.slice Ao38 y138.length co38] rfl (by (try simp only [List.map_toArray, List.map_cons, List.map_nil]); first | done | rfl | (simp only [List.length_drop, List.length_take]; rfl)) ?_; (with_reducible refine (attrs_Check.calls k _ _ y138 t141 t142 _ ?side1 ?side2 A3.out).mono ?_); (case side1 => repeat (first | exact (Kd.R_reads' HO140.out).2.2 | (with_reducible refine Kd.C_alloc ?_ _) | (with_reducible refine Kd.C_drewN ?_ _) | (with_reducible refine Kd.C_drew ?_))); (case side2 => exact (Kd.R_reads' HO140.out).2.1); rintro e w39 ⟨rfl, hb⟩; refine ⟨_, rfl, ?_⟩; have n0_ := zk (Kd.R_below (by (with_reducible repeat (first | apply Kd.R_alloc | apply Kd.R_drewN | apply Kd.R_drew)); exact HO132.out) hb); have n1_ := zk (Kd.R_below (by (with_reducible repeat (first | apply Kd.R_alloc | apply Kd.R_drewN | apply Kd.R_drew)); exact HO135.out) hb); have n2_ := zk (Kd.R_below (by (with_reducible repeat (first | apply Kd.R_alloc | apply Kd.R_drewN | apply Kd.R_drew)); exact HO140.out) hb); have n3_ := zk (zs (by with_reducible repeat first | exact HB.out | apply zA | apply zN | apply zD) hb); clear HO132; clear HO135; clear HO140; clear HB; have HO132 := n0_; have HO135 := n1_; have HO140 := n2_; have HB := n3_; clear n0_ n1_ n2_ n3_; (try clear hb); (try clear hb2); (try clear hk); (try clear hi); have p143 : 0 ≤ (1 : Int) := (by omega); have q143 : 1 < (t133.length : Int) := zo (by assumption); obtain ⟨ad143, e143, hx143_0, hx143_1⟩ := at_T45 (Kd.R_reads' HO135.out).2.2 1 p143 q143; cases e143; (try simp only [show (1 : Int).toNat = 1 from rfl, Nat.reduceMul, Nat.reduceEqDiff, Go.Addr.add, ↓reduceIte] at hx143_0); (try simp only [show (1 : Int).toNat = 1 from rfl, Nat.reduceMul, Nat.reduceEqDiff, Go.Addr.add, ↓reduceIte] at hx143_1); have qi143 : (1 < t133.length) = True := eq_true (by omega); (try rw [show ((1 : Int)).toNat = 1 from rfl] at hx143_0); (try rw [show 1 * 2 = 2 from rfl] at hx143_0); (try rw [show ((1 : Int)).toNat = 1 from rfl] at hx143_1); (try rw [show 1 * 2 = 2 from rfl] at hx143_1); replace p143 := eq_true p143; replace q143 := eq_true q143))
      go_ret; exact ⟨by first | rfl | (simp [wN, wS] <;> rfl) | (simp [*, wN, wS] <;> rfl), by with_reducible repeat first | exact HB.out | apply zA | apply zN | apply zD⟩
    ·
     rw [if_neg c7] at H; have c7b0 := beq_eq_false_iff_ne.mpr c7; have c7b1 := bne_iff_ne.mpr c7; obtain rfl := Option.some.inj H
     go_enter Try.func8, Try.ntmps8
     go_wp2_with (first | ((with_reducible refine zgd (N := 8) rfl ?_); refine Kd.R_lit k45 _ 45 ?hg (N := 8) ?hd (xs := ([(⟨(⟨#[97]⟩ : ByteArray), (⟨#[49]⟩ : ByteArray)⟩ : S45), (⟨(⟨#[99]⟩ : ByteArray), (⟨#[51]⟩ : ByteArray)⟩ : S45)] : List (S45))) (inner := [.string (⟨#[97]⟩ : ByteArray), .string (⟨#[49]⟩ : ByteArray), .string (⟨#[99]⟩ : ByteArray), .string (⟨#[51]⟩ : ByteArray)]) (ok := fun _ => True) (okp := fun _ => True) ?hr ?hp (fun _ hk => hk) trivial (Below.refl _ _) (Nat.le_refl _) (by simp) ?_; (case hd => rfl); (case hg => rfl); (case hr => go_simp; first | done | rfl); (case hp => exact (Reps.c2 (show Kd.M k45 _ _ _ (⟨(⟨#[97]⟩ : ByteArray), (⟨#[49]⟩ : ByteArray)⟩ : S45) [.string (⟨#[97]⟩ : ByteArray), .string (⟨#[49]⟩ : ByteArray)] from (k45_mkM _ _ _ (⟨(⟨#[97]⟩ : ByteArray), (⟨#[49]⟩ : ByteArray)⟩ : S45) )) (Reps.c2 (show Kd.M k45 _ _ _ (⟨(⟨#[99]⟩ : ByteArray), (⟨#[51]⟩ : ByteArray)⟩ : S45) [.string (⟨#[99]⟩ : ByteArray), .string (⟨#[51]⟩ : ByteArray)] from (k45_mkM _ _ _ (⟨(⟨#[99]⟩ : ByteArray), (⟨#[51]⟩ : ByteArray)⟩ : S45) )) (Reps.none _ _)))); intro v131 w40 ho41 hb hg_ hnew_; clear hg_ hnew_; (first | rw [← Ny130.out] at ho41 | (simp only [Int.reduceToNat] at ho41; rw [← Ny130.out] at ho41)); have n0_ := zk (Kd.R_lower ho41 (zq (by with_reducible repeat first | exact HB.out | apply zA | apply zN | apply zD))); have n1_ := zk (zs (by with_reducible repeat first | exact HB.out | apply zA | apply zN | apply zD) hb); clear HB; have HO132 := n0_; have HB := n1_; clear n0_ n1_; clear hb ho41; obtain ⟨Ao42, co42, eo42⟩ := Kd.R_slice HO132.out; subst eo42) | ((with_reducible refine zgk (f := 13) rfl ?_); refine zgl (some 9) rfl rfl Try.func13 (by kernel_rfl) rfl #[.slice Ao42 y130.length co42, .string (⟨#[98]⟩ : ByteArray), .string (⟨#[50]⟩ : ByteArray)] rfl (by (try simp only [List.map_toArray, List.map_cons, List.map_nil]); first | done | rfl | (simp only [List.length_drop, List.length_take]; rfl)) ?_; (with_reducible refine (attrs_With.calls k _ _ y130 (⟨#[98]⟩ : ByteArray) (⟨#[50]⟩ : ByteArray) t133 _ ?side1 ?side2 A1.out).mono ?_); (case side1 => repeat (first | exact (Kd.R_reads' HO132.out).2.2 | (with_reducible refine Kd.C_alloc ?_ _) | (with_reducible refine Kd.C_drewN ?_ _) | (with_reducible refine Kd.C_drew ?_))); (case side2 => exact (Kd.R_reads' HO132.out).2.1); rintro e w43 ⟨v134, rfl, ho0, hb⟩; refine ⟨_, rfl, ?_⟩; have n0_ := zk (Kd.R_elder' (by (with_reducible repeat (first | apply Kd.R_alloc | apply Kd.R_drewN | apply Kd.R_drew)); exact HO132.out) (Kd.R_base ho0) hb); have n1_ := zk (Kd.R_lower (Kd.R_new' ho0 (Kd.R_lt (by (with_reducible repeat (first | apply Kd.R_alloc | apply Kd.R_drewN | apply Kd.R_drew)); exact HO132.out))) (zq (by with_reducible repeat first | exact HB.out | apply zA | apply zN | apply zD))); have n2_ := zk (zs (by with_reducible repeat first | exact HB.out | apply zA | apply zN | apply zD) hb); clear HO132; clear HB; have HO132 := n0_; have HO135 := n1_; have HB := n2_; clear n0_ n1_ n2_; (try clear hb); (try clear hb2); (try clear hk); (try clear hi); (try clear ho0); obtain ⟨Ao44, co44, eo44⟩ := Kd.R_slice HO135.out; subst eo44) | ((with_reducible refine zgk (f := 11) rfl ?_); refine zgl (some 12) rfl rfl Try.func11 (by kernel_rfl) rfl #[.slice Ao44 t133.length co44, .string (⟨#[98]⟩ : ByteArray)] rfl (by (try simp only [List.map_toArray, List.map_cons, List.map_nil]); first | done | rfl | (simp only [List.length_drop, List.length_take]; rfl)) ?_; (with_reducible refine (attrs_Get.calls k _ _ t133 (⟨#[98]⟩ : ByteArray) t136 t137 _ ?side1 ?side2 A2.out).mono ?_); (case side1 => repeat (first | exact (Kd.R_reads' HO135.out).2.2 | (with_reducible refine Kd.C_alloc ?_ _) | (with_reducible refine Kd.C_drewN ?_ _) | (with_reducible refine Kd.C_drew ?_))); (case side2 => exact (Kd.R_reads' HO135.out).2.1); rintro e w45 ⟨rfl, hb⟩; refine ⟨_, rfl, ?_⟩; have n0_ := zk (Kd.R_below (by (with_reducible repeat (first | apply Kd.R_alloc | apply Kd.R_drewN | apply Kd.R_drew)); exact HO132.out) hb); have n1_ := zk (Kd.R_below (by (with_reducible repeat (first | apply Kd.R_alloc | apply Kd.R_drewN | apply Kd.R_drew)); exact HO135.out) hb); have n2_ := zk (zs (by with_reducible repeat first | exact HB.out | apply zA | apply zN | apply zD) hb); clear HO132; clear HO135; clear HB; have HO132 := n0_; have HO135 := n1_; have HB := n2_; clear n0_ n1_ n2_; (try clear hb); (try clear hb2); (try clear hk); (try clear hi)) | ((with_reducible refine zgd (N := 18) rfl ?_); refine Kd.R_lit k45 _ 45 ?hg (N := 18) ?hd (xs := ([(⟨(⟨#[98]⟩ : ByteArray), (⟨#[]⟩ : ByteArray)⟩ : S45), (⟨(⟨#[97]⟩ : ByteArray), (⟨#[]⟩ : ByteArray)⟩ : S45)] : List (S45))) (inner := [.string (⟨#[98]⟩ : ByteArray), .string ⟨#[]⟩, .string (⟨#[97]⟩ : ByteArray), .string ⟨#[]⟩]) (ok := fun _ => True) (okp := fun _ => True) ?hr ?hp (fun _ hk => hk) trivial (Below.refl _ _) (Nat.le_refl _) (by simp) ?_; (case hd => rfl); (case hg => rfl); (case hr => go_simp; first | done | rfl); (case hp => exact (Reps.c2 (show Kd.M k45 _ _ _ (⟨(⟨#[98]⟩ : ByteArray), (⟨#[]⟩ : ByteArray)⟩ : S45) [.string (⟨#[98]⟩ : ByteArray), .string ⟨#[]⟩] from (k45_mkM _ _ _ (⟨(⟨#[98]⟩ : ByteArray), (⟨#[]⟩ : ByteArray)⟩ : S45) )) (Reps.c2 (show Kd.M k45 _ _ _ (⟨(⟨#[97]⟩ : ByteArray), (⟨#[]⟩ : ByteArray)⟩ : S45) [.string (⟨#[97]⟩ : ByteArray), .string ⟨#[]⟩] from (k45_mkM _ _ _ (⟨(⟨#[97]⟩ : ByteArray), (⟨#[]⟩ : ByteArray)⟩ : S45) )) (Reps.none _ _)))); intro v139 w46 ho47 hb hg_ hnew_; clear hg_ hnew_; (first | rw [← Ny138.out] at ho47 | (simp only [Int.reduceToNat] at ho47; rw [← Ny138.out] at ho47)); have n0_ := zk (Kd.R_elder' (by (with_reducible repeat (first | apply Kd.R_alloc | apply Kd.R_drewN | apply Kd.R_drew)); exact HO132.out) (Kd.R_base ho47) hb); have n1_ := zk (Kd.R_elder' (by (with_reducible repeat (first | apply Kd.R_alloc | apply Kd.R_drewN | apply Kd.R_drew)); exact HO135.out) (Kd.R_base ho47) hb); have n2_ := zk (Kd.R_lower (Kd.R_new' (Kd.R_new' ho47 (Kd.R_lt (by (with_reducible repeat (first | apply Kd.R_alloc | apply Kd.R_drewN | apply Kd.R_drew)); exact HO132.out))) (Kd.R_lt (by (with_reducible repeat (first | apply Kd.R_alloc | apply Kd.R_drewN | apply Kd.R_drew)); exact HO135.out))) (zq (by with_reducible repeat first | exact HB.out | apply zA | apply zN | apply zD))); have n3_ := zk (zs (by with_reducible repeat first | exact HB.out | apply zA | apply zN | apply zD) hb); clear HO132; clear HO135; clear HB; have HO132 := n0_; have HO135 := n1_; have HO140 := n2_; have HB := n3_; clear n0_ n1_ n2_ n3_; clear hb ho47; obtain ⟨Ao48, co48, eo48⟩ := Kd.R_slice HO140.out; subst eo48) | ((with_reducible refine zgk (f := 9) rfl ?_); refine zgl (some 19) rfl rfl Try.func9 (by kernel_rfl) rfl #[.slice Ao48 y138.length co48] rfl (by (try simp only [List.map_toArray, List.map_cons, List.map_nil]); first | done | rfl | (simp only [List.length_drop, List.length_take]; rfl)) ?_; (with_reducible refine (attrs_Check.calls k _ _ y138 t141 t142 _ ?side1 ?side2 A3.out).mono ?_); (case side1 => repeat (first | exact (Kd.R_reads' HO140.out).2.2 | (with_reducible refine Kd.C_alloc ?_ _) | (with_reducible refine Kd.C_drewN ?_ _) | (with_reducible refine Kd.C_drew ?_))); (case side2 => exact (Kd.R_reads' HO140.out).2.1); rintro e w49 ⟨rfl, hb⟩; refine ⟨_, rfl, ?_⟩; have n0_ := zk (Kd.R_below (by (with_reducible repeat (first | apply Kd.R_alloc | apply Kd.R_drewN | apply Kd.R_drew)); exact HO132.out) hb); have n1_ := zk (Kd.R_below (by (with_reducible repeat (first | apply Kd.R_alloc | apply Kd.R_drewN | apply Kd.R_drew)); exact HO135.out) hb); have n2_ := zk (Kd.R_below (by (with_reducible repeat (first | apply Kd.R_alloc | apply Kd.R_drewN | apply Kd.R_drew)); exact HO140.out) hb); have n3_ := zk (zs (by with_reducible repeat first | exact HB.out | apply zA | apply zN | apply zD) hb); clear HO132; clear HO135; clear HO140; clear HB; have HO132 := n0_; have HO135 := n1_; have HO140 := n2_; have HB := n3_; clear n0_ n1_ n2_ n3_; (try clear hb); (try clear hb2); (try clear hk); (try clear hi); have p143 : 0 ≤ (1 : Int) := (by omega); have q143 : 1 < (t133.length : Int) := zo (by assumption); obtain ⟨ad143, e143, hx143_0, hx143_1⟩ := at_T45 (Kd.R_reads' HO135.out).2.2 1 p143 q143; cases e143; (try simp only [show (1 : Int).toNat = 1 from rfl, Nat.reduceMul, Nat.reduceEqDiff, Go.Addr.add, ↓reduceIte] at hx143_0); (try simp only [show (1 : Int).toNat = 1 from rfl, Nat.reduceMul, Nat.reduceEqDiff, Go.Addr.add, ↓reduceIte] at hx143_1); have qi143 : (1 < t133.length) = True := eq_true (by omega); (try rw [show ((1 : Int)).toNat = 1 from rfl] at hx143_0); (try rw [show 1 * 2 = 2 from rfl] at hx143_0); (try rw [show ((1 : Int)).toNat = 1 from rfl] at hx143_1); (try rw [show 1 * 2 = 2 from rfl] at hx143_1); replace p143 := eq_true p143; replace q143 := eq_true q143))
     go_ret; exact ⟨by first | rfl | (simp [wN, wS] <;> rfl) | (simp [*, wN, wS] <;> rfl), by with_reducible repeat first | exact HB.out | apply zA | apply zN | apply zD⟩
   ·
    rw [if_neg c6] at H; have c6b0 : (((rd_T45 t133 1).f0).toList == ([98] : List UInt8)) = false := beq_eq_false_iff_ne.mpr c6; have c6b1 : (((rd_T45 t133 1).f0).toList != ([98] : List UInt8)) = true := bne_iff_ne.mpr c6; obtain rfl := Option.some.inj H
    go_enter Try.func8, Try.ntmps8
    go_wp2_with (first | ((with_reducible refine zgd (N := 8) rfl ?_); refine Kd.R_lit k45 _ 45 ?hg (N := 8) ?hd (xs := ([(⟨(⟨#[97]⟩ : ByteArray), (⟨#[49]⟩ : ByteArray)⟩ : S45), (⟨(⟨#[99]⟩ : ByteArray), (⟨#[51]⟩ : ByteArray)⟩ : S45)] : List (S45))) (inner := [.string (⟨#[97]⟩ : ByteArray), .string (⟨#[49]⟩ : ByteArray), .string (⟨#[99]⟩ : ByteArray), .string (⟨#[51]⟩ : ByteArray)]) (ok := fun _ => True) (okp := fun _ => True) ?hr ?hp (fun _ hk => hk) trivial (Below.refl _ _) (Nat.le_refl _) (by simp) ?_; (case hd => rfl); (case hg => rfl); (case hr => go_simp; first | done | rfl); (case hp => exact (Reps.c2 (show Kd.M k45 _ _ _ (⟨(⟨#[97]⟩ : ByteArray), (⟨#[49]⟩ : ByteArray)⟩ : S45) [.string (⟨#[97]⟩ : ByteArray), .string (⟨#[49]⟩ : ByteArray)] from (k45_mkM _ _ _ (⟨(⟨#[97]⟩ : ByteArray), (⟨#[49]⟩ : ByteArray)⟩ : S45) )) (Reps.c2 (show Kd.M k45 _ _ _ (⟨(⟨#[99]⟩ : ByteArray), (⟨#[51]⟩ : ByteArray)⟩ : S45) [.string (⟨#[99]⟩ : ByteArray), .string (⟨#[51]⟩ : ByteArray)] from (k45_mkM _ _ _ (⟨(⟨#[99]⟩ : ByteArray), (⟨#[51]⟩ : ByteArray)⟩ : S45) )) (Reps.none _ _)))); intro v131 w50 ho51 hb hg_ hnew_; clear hg_ hnew_; (first | rw [← Ny130.out] at ho51 | (simp only [Int.reduceToNat] at ho51; rw [← Ny130.out] at ho51)); have n0_ := zk (Kd.R_lower ho51 (zq (by with_reducible repeat first | exact HB.out | apply zA | apply zN | apply zD))); have n1_ := zk (zs (by with_reducible repeat first | exact HB.out | apply zA | apply zN | apply zD) hb); clear HB; have HO132 := n0_; have HB := n1_; clear n0_ n1_; clear hb ho51; obtain ⟨Ao52, co52, eo52⟩ := Kd.R_slice HO132.out; subst eo52) | ((with_reducible refine zgk (f := 13) rfl ?_); refine zgl (some 9) rfl rfl Try.func13 (by kernel_rfl) rfl #[.slice Ao52 y130.length co52, .string (⟨#[98]⟩ : ByteArray), .string (⟨#[50]⟩ : ByteArray)] rfl (by (try simp only [List.map_toArray, List.map_cons, List.map_nil]); first | done | rfl | (simp only [List.length_drop, List.length_take]; rfl)) ?_; (with_reducible refine (attrs_With.calls k _ _ y130 (⟨#[98]⟩ : ByteArray) (⟨#[50]⟩ : ByteArray) t133 _ ?side1 ?side2 A1.out).mono ?_); (case side1 => repeat (first | exact (Kd.R_reads' HO132.out).2.2 | (with_reducible refine Kd.C_alloc ?_ _) | (with_reducible refine Kd.C_drewN ?_ _) | (with_reducible refine Kd.C_drew ?_))); (case side2 => exact (Kd.R_reads' HO132.out).2.1); rintro e w53 ⟨v134, rfl, ho0, hb⟩; refine ⟨_, rfl, ?_⟩; have n0_ := zk (Kd.R_elder' (by (with_reducible repeat (first | apply Kd.R_alloc | apply Kd.R_drewN | apply Kd.R_drew)); exact HO132.out) (Kd.R_base ho0) hb); have n1_ := zk (Kd.R_lower (Kd.R_new' ho0 (Kd.R_lt (by (with_reducible repeat (first | apply Kd.R_alloc | apply Kd.R_drewN | apply Kd.R_drew)); exact HO132.out))) (zq (by with_reducible repeat first | exact HB.out | apply zA | apply zN | apply zD))); have n2_ := zk (zs (by with_reducible repeat first | exact HB.out | apply zA | apply zN | apply zD) hb); clear HO132; clear HB; have HO132 := n0_; have HO135 := n1_; have HB := n2_; clear n0_ n1_ n2_; (try clear hb); (try clear hb2); (try clear hk); (try clear hi); (try clear ho0); obtain ⟨Ao54, co54, eo54⟩ := Kd.R_slice HO135.out; subst eo54) | ((with_reducible refine zgk (f := 11) rfl ?_); refine zgl (some 12) rfl rfl Try.func11 (by kernel_rfl) rfl #[.slice Ao54 t133.length co54, .string (⟨#[98]⟩ : ByteArray)] rfl (by (try simp only [List.map_toArray, List.map_cons, List.map_nil]); first | done | rfl | (simp only [List.length_drop, List.length_take]; rfl)) ?_; (with_reducible refine (attrs_Get.calls k _ _ t133 (⟨#[98]⟩ : ByteArray) t136 t137 _ ?side1 ?side2 A2.out).mono ?_); (case side1 => repeat (first | exact (Kd.R_reads' HO135.out).2.2 | (with_reducible refine Kd.C_alloc ?_ _) | (with_reducible refine Kd.C_drewN ?_ _) | (with_reducible refine Kd.C_drew ?_))); (case side2 => exact (Kd.R_reads' HO135.out).2.1); rintro e w55 ⟨rfl, hb⟩; refine ⟨_, rfl, ?_⟩; have n0_ := zk (Kd.R_below (by (with_reducible repeat (first | apply Kd.R_alloc | apply Kd.R_drewN | apply Kd.R_drew)); exact HO132.out) hb); have n1_ := zk (Kd.R_below (by (with_reducible repeat (first | apply Kd.R_alloc | apply Kd.R_drewN | apply Kd.R_drew)); exact HO135.out) hb); have n2_ := zk (zs (by with_reducible repeat first | exact HB.out | apply zA | apply zN | apply zD) hb); clear HO132; clear HO135; clear HB; have HO132 := n0_; have HO135 := n1_; have HB := n2_; clear n0_ n1_ n2_; (try clear hb); (try clear hb2); (try clear hk); (try clear hi)) | ((with_reducible refine zgd (N := 18) rfl ?_); refine Kd.R_lit k45 _ 45 ?hg (N := 18) ?hd (xs := ([(⟨(⟨#[98]⟩ : ByteArray), (⟨#[]⟩ : ByteArray)⟩ : S45), (⟨(⟨#[97]⟩ : ByteArray), (⟨#[]⟩ : ByteArray)⟩ : S45)] : List (S45))) (inner := [.string (⟨#[98]⟩ : ByteArray), .string ⟨#[]⟩, .string (⟨#[97]⟩ : ByteArray), .string ⟨#[]⟩]) (ok := fun _ => True) (okp := fun _ => True) ?hr ?hp (fun _ hk => hk) trivial (Below.refl _ _) (Nat.le_refl _) (by simp) ?_; (case hd => rfl); (case hg => rfl); (case hr => go_simp; first | done | rfl); (case hp => exact (Reps.c2 (show Kd.M k45 _ _ _ (⟨(⟨#[98]⟩ : ByteArray), (⟨#[]⟩ : ByteArray)⟩ : S45) [.string (⟨#[98]⟩ : ByteArray), .string ⟨#[]⟩] from (k45_mkM _ _ _ (⟨(⟨#[98]⟩ : ByteArray), (⟨#[]⟩ : ByteArray)⟩ : S45) )) (Reps.c2 (show Kd.M k45 _ _ _ (⟨(⟨#[97]⟩ : ByteArray), (⟨#[]⟩ : ByteArray)⟩ : S45) [.string (⟨#[97]⟩ : ByteArray), .string ⟨#[]⟩] from (k45_mkM _ _ _ (⟨(⟨#[97]⟩ : ByteArray), (⟨#[]⟩ : ByteArray)⟩ : S45) )) (Reps.none _ _)))); intro v139 w56 ho57 hb hg_ hnew_; clear hg_ hnew_; (first | rw [← Ny138.out] at ho57 | (simp only [Int.reduceToNat] at ho57; rw [← Ny138.out] at ho57)); have n0_ := zk (Kd.R_elder' (by (with_reducible repeat (first | apply Kd.R_alloc | apply Kd.R_drewN | apply Kd.R_drew)); exact HO132.out) (Kd.R_base ho57) hb); have n1_ := zk (Kd.R_elder' (by (with_reducible repeat (first | apply Kd.R_alloc | apply Kd.R_drewN | apply Kd.R_drew)); exact HO135.out) (Kd.R_base ho57) hb); have n2_ := zk (Kd.R_lower (Kd.R_new' (Kd.R_new' ho57 (Kd.R_lt (by (with_reducible repeat (first | apply Kd.R_alloc | apply Kd.R_drewN | apply Kd.R_drew)); exact HO132.out))) (Kd.R_lt (by (with_reducible repeat (first | apply Kd.R_alloc | apply Kd.R_drewN | apply Kd.R_drew)); exact HO135.out))) (zq (by with_reducible repeat first | exact HB.out | apply zA | apply zN | apply zD))); have n3_ := zk (zs (by with_reducible repeat first | exact HB.out | apply zA | apply zN | apply zD) hb); clear HO132; clear HO135; clear HB; have HO132 := n0_; have HO135 := n1_; have HO140 := n2_; have HB := n3_; clear n0_ n1_ n2_ n3_; clear hb ho57; obtain ⟨Ao58, co58, eo58⟩ := Kd.R_slice HO140.out; subst eo58) | ((with_reducible refine zgk (f := 9) rfl ?_); refine zgl (some 19) rfl rfl Try.func9 (by kernel_rfl) rfl #[.slice Ao58 y138.length co58] rfl (by (try simp only [List.map_toArray, List.map_cons, List.map_nil]); first | done | rfl | (simp only [List.length_drop, List.length_take]; rfl)) ?_; (with_reducible refine (attrs_Check.calls k _ _ y138 t141 t142 _ ?side1 ?side2 A3.out).mono ?_); (case side1 => repeat (first | exact (Kd.R_reads' HO140.out).2.2 | (with_reducible refine Kd.C_alloc ?_ _) | (with_reducible refine Kd.C_drewN ?_ _) | (with_reducible refine Kd.C_drew ?_))); (case side2 => exact (Kd.R_reads' HO140.out).2.1); rintro e w59 ⟨rfl, hb⟩; refine ⟨_, rfl, ?_⟩; have n0_ := zk (Kd.R_below (by (with_reducible repeat (first | apply Kd.R_alloc | apply Kd.R_drewN | apply Kd.R_drew)); exact HO132.out) hb); have n1_ := zk (Kd.R_below (by (with_reducible repeat (first | apply Kd.R_alloc | apply Kd.R_drewN | apply Kd.R_drew)); exact HO135.out) hb); have n2_ := zk (Kd.R_below (by (with_reducible repeat (first | apply Kd.R_alloc | apply Kd.R_drewN | apply Kd.R_drew)); exact HO140.out) hb); have n3_ := zk (zs (by with_reducible repeat first | exact HB.out | apply zA | apply zN | apply zD) hb); clear HO132; clear HO135; clear HO140; clear HB; have HO132 := n0_; have HO135 := n1_; have HO140 := n2_; have HB := n3_; clear n0_ n1_ n2_ n3_; (try clear hb); (try clear hb2); (try clear hk); (try clear hi); have p143 : 0 ≤ (1 : Int) := (by omega); have q143 : 1 < (t133.length : Int) := zo (by assumption); obtain ⟨ad143, e143, hx143_0, hx143_1⟩ := at_T45 (Kd.R_reads' HO135.out).2.2 1 p143 q143; cases e143; (try simp only [show (1 : Int).toNat = 1 from rfl, Nat.reduceMul, Nat.reduceEqDiff, Go.Addr.add, ↓reduceIte] at hx143_0); (try simp only [show (1 : Int).toNat = 1 from rfl, Nat.reduceMul, Nat.reduceEqDiff, Go.Addr.add, ↓reduceIte] at hx143_1); have qi143 : (1 < t133.length) = True := eq_true (by omega); (try rw [show ((1 : Int)).toNat = 1 from rfl] at hx143_0); (try rw [show 1 * 2 = 2 from rfl] at hx143_0); (try rw [show ((1 : Int)).toNat = 1 from rfl] at hx143_1); (try rw [show 1 * 2 = 2 from rfl] at hx143_1); replace p143 := eq_true p143; replace q143 := eq_true q143))
    go_ret; exact ⟨by first | rfl | (simp [wN, wS] <;> rfl) | (simp [*, wN, wS] <;> rfl), by with_reducible repeat first | exact HB.out | apply zA | apply zN | apply zD⟩
  ·
   rw [if_neg c5] at H; exact absurd H (by simp)
 ·
  rw [if_neg c4] at H; have c4b0 : ((t133.length : Int) == 3) = false := beq_eq_false_iff_ne.mpr c4; have c4b1 : ((t133.length : Int) != 3) = true := bne_iff_ne.mpr c4; obtain rfl := Option.some.inj H
  go_enter Try.func8, Try.ntmps8
  go_wp2_with (first | ((with_reducible refine zgd (N := 8) rfl ?_); refine Kd.R_lit k45 _ 45 ?hg (N := 8) ?hd (xs := ([(⟨(⟨#[97]⟩ : ByteArray), (⟨#[49]⟩ : ByteArray)⟩ : S45), (⟨(⟨#[99]⟩ : ByteArray), (⟨#[51]⟩ : ByteArray)⟩ : S45)] : List (S45))) (inner := [.string (⟨#[97]⟩ : ByteArray), .string (⟨#[49]⟩ : ByteArray), .string (⟨#[99]⟩ : ByteArray), .string (⟨#[51]⟩ : ByteArray)]) (ok := fun _ => True) (okp := fun _ => True) ?hr ?hp (fun _ hk => hk) trivial (Below.refl _ _) (Nat.le_refl _) (by simp) ?_; (case hd => rfl); (case hg => rfl); (case hr => go_simp; first | done | rfl); (case hp => exact (Reps.c2 (show Kd.M k45 _ _ _ (⟨(⟨#[97]⟩ : ByteArray), (⟨#[49]⟩ : ByteArray)⟩ : S45) [.string (⟨#[97]⟩ : ByteArray), .string (⟨#[49]⟩ : ByteArray)] from (k45_mkM _ _ _ (⟨(⟨#[97]⟩ : ByteArray), (⟨#[49]⟩ : ByteArray)⟩ : S45) )) (Reps.c2 (show Kd.M k45 _ _ _ (⟨(⟨#[99]⟩ : ByteArray), (⟨#[51]⟩ : ByteArray)⟩ : S45) [.string (⟨#[99]⟩ : ByteArray), .string (⟨#[51]⟩ : ByteArray)] from (k45_mkM _ _ _ (⟨(⟨#[99]⟩ : ByteArray), (⟨#[51]⟩ : ByteArray)⟩ : S45) )) (Reps.none _ _)))); intro v131 w60 ho61 hb hg_ hnew_; clear hg_ hnew_; (first | rw [← Ny130.out] at ho61 | (simp only [Int.reduceToNat] at ho61; rw [← Ny130.out] at ho61)); have n0_ := zk (Kd.R_lower ho61 (zq (by with_reducible repeat first | exact HB.out | apply zA | apply zN | apply zD))); have n1_ := zk (zs (by with_reducible repeat first | exact HB.out | apply zA | apply zN | apply zD) hb); clear HB; have HO132 := n0_; have HB := n1_; clear n0_ n1_; clear hb ho61; obtain ⟨Ao62, co62, eo62⟩ := Kd.R_slice HO132.out; subst eo62) | ((with_reducible refine zgk (f := 13) rfl ?_); refine zgl (some 9) rfl rfl Try.func13 (by kernel_rfl) rfl #[.slice Ao62 y130.length co62, .string (⟨#[98]⟩ : ByteArray), .string (⟨#[50]⟩ : ByteArray)] rfl (by (try simp only [List.map_toArray, List.map_cons, List.map_nil]); first | done | rfl | (simp only [List.length_drop, List.length_take]; rfl)) ?_; (with_reducible refine (attrs_With.calls k _ _ y130 (⟨#[98]⟩ : ByteArray) (⟨#[50]⟩ : ByteArray) t133 _ ?side1 ?side2 A1.out).mono ?_); (case side1 => repeat (first | exact (Kd.R_reads' HO132.out).2.2 | (with_reducible refine Kd.C_alloc ?_ _) | (with_reducible refine Kd.C_drewN ?_ _) | (with_reducible refine Kd.C_drew ?_))); (case side2 => exact (Kd.R_reads' HO132.out).2.1); rintro e w63 ⟨v134, rfl, ho0, hb⟩; refine ⟨_, rfl, ?_⟩; have n0_ := zk (Kd.R_elder' (by (with_reducible repeat (first | apply Kd.R_alloc | apply Kd.R_drewN | apply Kd.R_drew)); exact HO132.out) (Kd.R_base ho0) hb); have n1_ := zk (Kd.R_lower (Kd.R_new' ho0 (Kd.R_lt (by (with_reducible repeat (first | apply Kd.R_alloc | apply Kd.R_drewN | apply Kd.R_drew)); exact HO132.out))) (zq (by with_reducible repeat first | exact HB.out | apply zA | apply zN | apply zD))); have n2_ := zk (zs (by with_reducible repeat first | exact HB.out | apply zA | apply zN | apply zD) hb); clear HO132; clear HB; have HO132 := n0_; have HO135 := n1_; have HB := n2_; clear n0_ n1_ n2_; (try clear hb); (try clear hb2); (try clear hk); (try clear hi); (try clear ho0); obtain ⟨Ao64, co64, eo64⟩ := Kd.R_slice HO135.out; subst eo64) | ((with_reducible refine zgk (f := 11) rfl ?_); refine zgl (some 12) rfl rfl Try.func11 (by kernel_rfl) rfl #[.slice Ao64 t133.length co64, .string (⟨#[98]⟩ : ByteArray)] rfl (by (try simp only [List.map_toArray, List.map_cons, List.map_nil]); first | done | rfl | (simp only [List.length_drop, List.length_take]; rfl)) ?_; (with_reducible refine (attrs_Get.calls k _ _ t133 (⟨#[98]⟩ : ByteArray) t136 t137 _ ?side1 ?side2 A2.out).mono ?_); (case side1 => repeat (first | exact (Kd.R_reads' HO135.out).2.2 | (with_reducible refine Kd.C_alloc ?_ _) | (with_reducible refine Kd.C_drewN ?_ _) | (with_reducible refine Kd.C_drew ?_))); (case side2 => exact (Kd.R_reads' HO135.out).2.1); rintro e w65 ⟨rfl, hb⟩; refine ⟨_, rfl, ?_⟩; have n0_ := zk (Kd.R_below (by (with_reducible repeat (first | apply Kd.R_alloc | apply Kd.R_drewN | apply Kd.R_drew)); exact HO132.out) hb); have n1_ := zk (Kd.R_below (by (with_reducible repeat (first | apply Kd.R_alloc | apply Kd.R_drewN | apply Kd.R_drew)); exact HO135.out) hb); have n2_ := zk (zs (by with_reducible repeat first | exact HB.out | apply zA | apply zN | apply zD) hb); clear HO132; clear HO135; clear HB; have HO132 := n0_; have HO135 := n1_; have HB := n2_; clear n0_ n1_ n2_; (try clear hb); (try clear hb2); (try clear hk); (try clear hi)) | ((with_reducible refine zgd (N := 18) rfl ?_); refine Kd.R_lit k45 _ 45 ?hg (N := 18) ?hd (xs := ([(⟨(⟨#[98]⟩ : ByteArray), (⟨#[]⟩ : ByteArray)⟩ : S45), (⟨(⟨#[97]⟩ : ByteArray), (⟨#[]⟩ : ByteArray)⟩ : S45)] : List (S45))) (inner := [.string (⟨#[98]⟩ : ByteArray), .string ⟨#[]⟩, .string (⟨#[97]⟩ : ByteArray), .string ⟨#[]⟩]) (ok := fun _ => True) (okp := fun _ => True) ?hr ?hp (fun _ hk => hk) trivial (Below.refl _ _) (Nat.le_refl _) (by simp) ?_; (case hd => rfl); (case hg => rfl); (case hr => go_simp; first | done | rfl); (case hp => exact (Reps.c2 (show Kd.M k45 _ _ _ (⟨(⟨#[98]⟩ : ByteArray), (⟨#[]⟩ : ByteArray)⟩ : S45) [.string (⟨#[98]⟩ : ByteArray), .string ⟨#[]⟩] from (k45_mkM _ _ _ (⟨(⟨#[98]⟩ : ByteArray), (⟨#[]⟩ : ByteArray)⟩ : S45) )) (Reps.c2 (show Kd.M k45 _ _ _ (⟨(⟨#[97]⟩ : ByteArray), (⟨#[]⟩ : ByteArray)⟩ : S45) [.string (⟨#[97]⟩ : ByteArray), .string ⟨#[]⟩] from (k45_mkM _ _ _ (⟨(⟨#[97]⟩ : ByteArray), (⟨#[]⟩ : ByteArray)⟩ : S45) )) (Reps.none _ _)))); intro v139 w66 ho67 hb hg_ hnew_; clear hg_ hnew_; (first | rw [← Ny138.out] at ho67 | (simp only [Int.reduceToNat] at ho67; rw [← Ny138.out] at ho67)); have n0_ := zk (Kd.R_elder' (by (with_reducible repeat (first | apply Kd.R_alloc | apply Kd.R_drewN | apply Kd.R_drew)); exact HO132.out) (Kd.R_base ho67) hb); have n1_ := zk (Kd.R_elder' (by (with_reducible repeat (first | apply Kd.R_alloc | apply Kd.R_drewN | apply Kd.R_drew)); exact HO135.out) (Kd.R_base ho67) hb); have n2_ := zk (Kd.R_lower (Kd.R_new' (Kd.R_new' ho67 (Kd.R_lt (by (with_reducible repeat (first | apply Kd.R_alloc | apply Kd.R_drewN | apply Kd.R_drew)); exact HO132.out))) (Kd.R_lt (by (with_reducible repeat (first | apply Kd.R_alloc | apply Kd.R_drewN | apply Kd.R_drew)); exact HO135.out))) (zq (by with_reducible repeat first | exact HB.out | apply zA | apply zN | apply zD))); have n3_ := zk (zs (by with_reducible repeat first | exact HB.out | apply zA | apply zN | apply zD) hb); clear HO132; clear HO135; clear HB; have HO132 := n0_; have HO135 := n1_; have HO140 := n2_; have HB := n3_; clear n0_ n1_ n2_ n3_; clear hb ho67; obtain ⟨Ao68, co68, eo68⟩ := Kd.R_slice HO140.out; subst eo68) | ((with_reducible refine zgk (f := 9) rfl ?_); refine zgl (some 19) rfl rfl Try.func9 (by kernel_rfl) rfl #[.slice Ao68 y138.length co68] rfl (by (try simp only [List.map_toArray, List.map_cons, List.map_nil]); first | done | rfl | (simp only [List.length_drop, List.length_take]; rfl)) ?_; (with_reducible refine (attrs_Check.calls k _ _ y138 t141 t142 _ ?side1 ?side2 A3.out).mono ?_); (case side1 => repeat (first | exact (Kd.R_reads' HO140.out).2.2 | (with_reducible refine Kd.C_alloc ?_ _) | (with_reducible refine Kd.C_drewN ?_ _) | (with_reducible refine Kd.C_drew ?_))); (case side2 => exact (Kd.R_reads' HO140.out).2.1); rintro e w69 ⟨rfl, hb⟩; refine ⟨_, rfl, ?_⟩; have n0_ := zk (Kd.R_below (by (with_reducible repeat (first | apply Kd.R_alloc | apply Kd.R_drewN | apply Kd.R_drew)); exact HO132.out) hb); have n1_ := zk (Kd.R_below (by (with_reducible repeat (first | apply Kd.R_alloc | apply Kd.R_drewN | apply Kd.R_drew)); exact HO135.out) hb); have n2_ := zk (Kd.R_below (by (with_reducible repeat (first | apply Kd.R_alloc | apply Kd.R_drewN | apply Kd.R_drew)); exact HO140.out) hb); have n3_ := zk (zs (by with_reducible repeat first | exact HB.out | apply zA | apply zN | apply zD) hb); clear HO132; clear HO135; clear HO140; clear HB; have HO132 := n0_; have HO135 := n1_; have HO140 := n2_; have HB := n3_; clear n0_ n1_ n2_ n3_; (try clear hb); (try clear hb2); (try clear hk); (try clear hi)))
  go_ret; exact ⟨by first | rfl | (simp [wN, wS] <;> rfl) | (simp [*, wN, wS] <;> rfl), by with_reducible repeat first | exact HB.out | apply zA | apply zN | apply zD⟩
end Go.Proofs.Ytnellpilmjjbcaa.G
namespace Go.Proofs.Ytnellpilmjjbcaa.G
open Go.RowKit Go.Proofs.YtnellpilmjjbcaaW.PrintWords Go.Proofs.YtnellpilmjjbcaaW.PrintLast Go.Proofs.YtnellpilmjjbcaaW.PrintMore
set_option linter.unusedVariables false
set_option linter.unusedSimpArgs false
def isN (n : ByteArray) (x : S45) : Bool := x.f0.toList == n.toList
def idxFrom (n : ByteArray) : List S45 → Int → Int
  | [], _ => -1
  | x :: xs, i => if isN n x = true then i else idxFrom n xs (i + 1)
theorem drop_T45 (xs : List S45) (i : Int) (h0 : 0 ≤ i) (hi : i < xs.length) : xs.drop i.toNat = rd_T45 xs i :: xs.drop (i + 1).toNat := by
  have e : (i + 1).toNat = i.toNat + 1 := by omega
  rw [e, List.drop_eq_getElem_cons (by omega)]; unfold rd_T45; rw [List.getD_eq_getElem?_getD, List.getElem?_eq_getElem (by omega)]; rfl
/-- The others. -/
def keep (n : ByteArray) (l : List S45) : List S45 := l.filter (fun x => !isN n x)
/-- The list under way: the first i are those of the first j that stay; behind j all is as_ it was. -/
structure DL (n : ByteArray) (l L : List S45) (i j : Int) : Prop where
  h0 : 0 ≤ i
  hij : i < j
  hj : j ≤ l.length
  len : L.length = l.length
  pre : L.take i.toNat = keep n (l.take j.toNat)
  post : L.drop j.toNat = l.drop j.toNat
theorem take_T45 (l : List S45) (i : Int) (h0 : 0 ≤ i) (h : i < l.length) : l.take (i + 1).toNat = l.take i.toNat ++ [rd_T45 l i] := by
  have e : (i + 1).toNat = i.toNat + 1 := by omega
  rw [e, List.take_add_one]; unfold rd_T45; rw [List.getD_eq_getElem?_getD, List.getElem?_eq_getElem (by omega)]; rfl
end Go.Proofs.Ytnellpilmjjbcaa.G
namespace Go.Proofs.Ytnellpilmjjbcaa.G
open Go.RowKit Go.Proofs.Ytnellpilmjjbcaa.Opn Go.Proofs.YtnellpilmjjbcaaW.PrintWords
set_option linter.unusedVariables false
set_option maxRecDepth 100000
theorem at_slice2 {α : Type} {P : Program} {n : Nat} {T e : TypeId} {d : Kd α} {Sm : α → Prop} {B : Nat} (ht : P.underlying T = some (.slice e)) (hc : P.cellsOf e = d.sz) (hb : P.bytesOf e = B) (hd : ∀ m, m < n → At P m e d Sm) :
    At P n T (Kd.slice e d) (fun xs => xs.length * B ≤ 140737488351232 ∧ ∀ x ∈ xs, Sm x) := hb ▸ at_slice ht hc hd
structure Sm45 (x : S45) : Prop where
  h0 : x.f0.size ≤ 140737488351232
  h1 : x.f1.size ≤ 140737488351232
theorem at_S45 (n : Nat) : At Try.prog n 45 k45 Sm45 := by
  refine at_imp (at_iso (fun x : S45 => (x.f0, x.f1)) (fun p => ⟨p.1, p.2⟩) (fun _ => rfl) (at_struct (d := (Kd.pair Kd.string Kd.string)) (Sm := fun (p : (ByteArray) × (ByteArray)) => p.1.size ≤ 140737488351232 ∧ p.2.size ≤ 140737488351232) Try.underlying45 (by kernel_rfl) (fun m hm => ?h))) ?k ?s
  case h =>
    refine fields_cons (Sm := fun (q : ByteArray) => q.size ≤ 140737488351232) (Sm2 := fun (p : (ByteArray)) => p.size ≤ 140737488351232) ?_ ?_ ?_ ?_; (rfl)
    · kernel_rfl
    (exact (at_string Try.underlying9)); refine fields_one (Sm := fun (p : (ByteArray)) => p.size ≤ 140737488351232) ?_ ?_ ?_; (rfl)
    · kernel_rfl
    · exact (at_string Try.underlying9)
  case k => exact fun _ _ _ h => h
  case s => exact fun a h => ⟨h.1, h.2⟩
theorem weightsEach_head {H : Type} {P : Program} {t : TypeId} {ts : List TypeId} {d : DataW H} {ds : List (DataW H)} {q : Nat → Bool} (h : (DataW.weightsEach P (t :: ts) (d :: ds)).all q = true) : (d.weights P t).all q = true ∧ (DataW.weightsEach P ts ds).all q = true := by
  simpa only [DataW.weightsEach, List.all_append, Bool.and_eq_true] using h
end Go.Proofs.Ytnellpilmjjbcaa.G
namespace Go.Proofs.Ytnellpilmjjbcaa.Srt
set_option linter.unusedVariables false
structure Swo {α : Type} (lt : α → α → Bool) : Prop where
  irr : ∀ x, lt x x = false
  nt : ∀ x y z, lt x y = false → lt y z = false → lt x z = false
  asy : ∀ x y, lt x y = true → lt y x = false
def eqv {α : Type} (lt : α → α → Bool) (z x : α) : Bool := !lt z x && !lt x z
def Srt {α : Type} (lt : α → α → Bool) (l : List α) : Prop := l.Pairwise (fun a b => lt b a = false)
structure Stb {α : Type} (lt : α → α → Bool) (l r : List α) : Prop where
  len : r.length = l.length
  fl : ∀ z, r.filter (eqv lt z) = l.filter (eqv lt z)
theorem eqv_self {α : Type} {lt : α → α → Bool} (h : Swo lt) (x : α) : eqv lt x x = true := by
  unfold eqv; rw [h.irr]; rfl
theorem Stb.refl {α : Type} (lt : α → α → Bool) (l : List α) : Stb lt l l := ⟨rfl, fun _ => rfl⟩
theorem Stb.trans {α : Type} {lt : α → α → Bool} {a b c : List α} (h : Stb lt a b) (g : Stb lt b c) : Stb lt a c := ⟨g.len.trans h.len, fun z => (g.fl z).trans (h.fl z)⟩
theorem Stb.app {α : Type} {lt : α → α → Bool} {a b c d : List α} (h : Stb lt a b) (g : Stb lt c d) : Stb lt (a ++ c) (b ++ d) :=
  ⟨by rw [List.length_append, List.length_append, h.len, g.len], fun z => by rw [List.filter_append, List.filter_append, h.fl, g.fl]⟩
theorem Stb.mem {α : Type} {lt : α → α → Bool} (w : Swo lt) {a b : List α} (h : Stb lt a b) (x : α) : x ∈ b ↔ x ∈ a := by
  have key : x ∈ b.filter (eqv lt x) ↔ x ∈ a.filter (eqv lt x) := by rw [h.fl]
  rw [List.mem_filter, List.mem_filter, eqv_self w] at key; simpa using key
theorem Stb.swap {α : Type} {lt : α → α → Bool} (w : Swo lt) (u v : List α) (h : ∀ a ∈ u, ∀ b ∈ v, lt b a = true) : Stb lt (u ++ v) (v ++ u) := by
  refine ⟨by rw [List.length_append, List.length_append, Nat.add_comm], fun z => ?_⟩; rw [List.filter_append, List.filter_append]
  by_cases hu : u.filter (eqv lt z) = []
  · rw [hu, List.append_nil, List.nil_append]
  · by_cases hv : v.filter (eqv lt z) = []
    · rw [hv, List.append_nil, List.nil_append]
    · obtain ⟨a, ha⟩ := List.exists_mem_of_ne_nil _ hu
      obtain ⟨b, hb⟩ := List.exists_mem_of_ne_nil _ hv
      rw [List.mem_filter] at ha hb
      have h1 := h a ha.1 b hb.1
      have h2 := ha.2
      have h3 := hb.2
      unfold eqv at h2 h3
      simp only [Bool.and_eq_true, Bool.not_eq_true'] at h2 h3
      rw [w.nt b z a h3.2 h2.1] at h1
      cases h1
/-- Two sorted runs, x ++ u and v ++ y: v and u change places, then each half is sorted by itself. -/
theorem merged {α : Type} {lt : α → α → Bool} (w : Swo lt) {x u v y M1 M2 : List α} (hX : Srt lt (x ++ u)) (hY : Srt lt (v ++ y))
    (hvu : ∀ a ∈ u, ∀ b ∈ v, lt b a = true) (hxy : ∀ a ∈ x, ∀ b ∈ y, lt b a = false)
    (h1 : Srt lt M1) (s1 : Stb lt (x ++ v) M1) (h2 : Srt lt M2) (s2 : Stb lt (u ++ y) M2) : Srt lt (M1 ++ M2) ∧ Stb lt ((x ++ u) ++ (v ++ y)) (M1 ++ M2) := by
  have hX' := List.pairwise_append.1 hX; have hY' := List.pairwise_append.1 hY; refine ⟨List.pairwise_append.2 ⟨h1, h2, fun a ha b hb => ?_⟩, ?_⟩
  · rw [s1.mem w, List.mem_append] at ha
    rw [s2.mem w, List.mem_append] at hb
    rcases ha with ha | ha <;> rcases hb with hb | hb
    · exact hX'.2.2 a ha b hb
    · exact hxy a ha b hb
    · exact w.asy _ _ (hvu b hb a ha)
    · exact hY'.2.2 a ha b hb
  · have e1 : (x ++ u) ++ (v ++ y) = x ++ (u ++ v) ++ y := by simp only [List.append_assoc]
    have e2 : (x ++ v) ++ (u ++ y) = x ++ (v ++ u) ++ y := by simp only [List.append_assoc]
    have e3 := (((Stb.refl lt x).app (Stb.swap w u v hvu)).app (Stb.refl lt y)).trans (e2 ▸ s1.app s2)
    rw [e1]
    exact e3
/-- All of v below all of u, by the two that meet. -/
theorem all_lt {α : Type} {lt : α → α → Bool} (w : Swo lt) {u v : List α} (hu : Srt lt u) (hv : Srt lt v) (h : u = [] ∨ v = [] ∨ ∃ u0 u' v' v0, u = u0 :: u' ∧ v = v' ++ [v0] ∧ lt v0 u0 = true) : ∀ a ∈ u, ∀ b ∈ v, lt b a = true := by
  rcases h with rfl | rfl | ⟨u0, u', v', v0, rfl, rfl, h⟩
  (intro a ha; cases ha); (intro a _ b hb; cases hb)
  · intro a ha b hb
    have hu' := List.pairwise_cons.1 hu
    have hv' := List.pairwise_append.1 hv
    have h1 : lt a u0 = false := by
      rcases List.mem_cons.1 ha with rfl | ha
      (exact w.irr _); (exact hu'.1 a ha)
    have h2 : lt v0 b = false := by
      rcases List.mem_append.1 hb with hb | hb
      (exact hv'.2.2 b hb v0 (by simp)); (rw [List.mem_singleton.1 hb]; exact w.irr _)
    cases h3 : lt b a with
    | true => rfl
    | false => rw [w.nt v0 a u0 (w.nt v0 b a h2 h3) h1] at h; cases h
/-- None of y below any of x, by the two that meet. -/
theorem all_ge {α : Type} {lt : α → α → Bool} (w : Swo lt) {x y : List α} (hx : Srt lt x) (hy : Srt lt y) (h : x = [] ∨ y = [] ∨ ∃ x' x0 y0 y', x = x' ++ [x0] ∧ y = y0 :: y' ∧ lt y0 x0 = false) : ∀ a ∈ x, ∀ b ∈ y, lt b a = false := by
  rcases h with rfl | rfl | ⟨x', x0, y0, y', rfl, rfl, h⟩
  (intro a ha; cases ha); (intro a _ b hb; cases hb)
  · intro a ha b hb
    have hx' := List.pairwise_append.1 hx
    have hy' := List.pairwise_cons.1 hy
    have h1 : lt b y0 = false := by
      rcases List.mem_cons.1 hb with rfl | hb
      (exact w.irr _); (exact hy'.1 b hb)
    have h2 : lt x0 a = false := by
      rcases List.mem_append.1 ha with ha | ha
      (exact hx'.2.2 a ha x0 (by simp)); (rw [List.mem_singleton.1 ha]; exact w.irr _)
    exact w.nt b x0 a (w.nt b y0 x0 h1 h) h2
/-- One more, put into its place in what is sorted. -/
theorem inserted {α : Type} {lt : α → α → Bool} (w : Swo lt) {A B : List α} {x : α} (h : Srt lt (A ++ B)) (hB : ∀ b ∈ B, lt x b = true) (hA : ∀ a ∈ A, lt x a = false) :
    Srt lt (A ++ x :: B) ∧ Stb lt ((A ++ B) ++ [x]) (A ++ x :: B) := by
  have h' := List.pairwise_append.1 h; refine ⟨List.pairwise_append.2 ⟨h'.1, List.pairwise_cons.2 ⟨fun b hb => w.asy _ _ (hB b hb), h'.2.1⟩, fun a ha b hb => ?_⟩, ?_⟩
  · rcases List.mem_cons.1 hb with rfl | hb
    · exact hA a ha
    · exact h'.2.2 a ha b hb
  · have := (Stb.refl lt A).app (Stb.swap w B [x] (fun a ha b hb => by rw [List.mem_singleton.1 hb]; exact hB a ha))
    rw [← List.append_assoc] at this; exact this
theorem srt_last {α : Type} {lt : α → α → Bool} (w : Swo lt) {A : List α} {c x : α} (h : Srt lt (A ++ [c])) (hc : lt x c = false) : ∀ a ∈ A ++ [c], lt x a = false := by
  intro a ha; have h' := List.pairwise_append.1 h
  rcases List.mem_append.1 ha with ha | ha
  (exact w.nt x c a hc (h'.2.2 a ha c (by simp))); (rw [List.mem_singleton.1 ha]; exact hc)
/-- Full blocks, each sorted. -/
def Full {α : Type} (lt : α → α → Bool) (bs : Nat) (cs : List (List α)) : Prop := ∀ c ∈ cs, c.length = bs ∧ Srt lt c
theorem full_snoc {α : Type} {lt : α → α → Bool} {bs : Nat} {cs : List (List α)} {c : List α} (h : Full lt bs cs) (hl : c.length = bs) (hc : Srt lt c) : Full lt bs (cs ++ [c]) := by
  intro d hd
  rcases List.mem_append.1 hd with hd | hd
  (exact h d hd); (rw [List.mem_singleton.1 hd]; exact ⟨hl, hc⟩)
/-- One list is at most one stable sorting of another. -/
theorem uniq {α : Type} {lt : α → α → Bool} (w : Swo lt) : ∀ {a b : List α}, Srt lt a → Srt lt b → (∀ z, a.filter (eqv lt z) = b.filter (eqv lt z)) → a = b
  | [], [], _, _, _ => rfl
  | [], y :: b, _, _, h => by
    have := h y
    rw [List.filter_cons, if_pos (eqv_self w y)] at this
    cases this
  | x :: a, [], _, _, h => by
    have := h x
    rw [List.filter_cons, if_pos (eqv_self w x)] at this
    cases this
  | x :: a, y :: b, ha, hb, h => by
    have ha' := List.pairwise_cons.1 ha
    have hb' := List.pairwise_cons.1 hb
    have hxy : lt y x = false := by
      have : y ∈ (x :: a).filter (eqv lt y) := by rw [h y, List.filter_cons, if_pos (eqv_self w y)]; simp
      have := (List.mem_filter.1 this).1
      rcases List.mem_cons.1 this with rfl | h1
      · exact w.irr _
      · exact ha'.1 y h1
    have hyx : lt x y = false := by
      have : x ∈ (y :: b).filter (eqv lt x) := by rw [← h x, List.filter_cons, if_pos (eqv_self w x)]; simp
      have := (List.mem_filter.1 this).1
      rcases List.mem_cons.1 this with rfl | h1
      (exact w.irr _); (exact hb'.1 x h1)
    have e : x = y := by
      have := h x; rw [List.filter_cons, if_pos (eqv_self w x), List.filter_cons, if_pos (by unfold eqv; rw [hxy, hyx]; rfl)] at this; exact (List.cons.inj this).1
    subst e
    rw [uniq w ha'.2 hb'.2 (fun z => by
      have := h z; rw [List.filter_cons, List.filter_cons] at this; split at this; (exact (List.cons.inj this).2)
      · exact this)]
end Go.Proofs.Ytnellpilmjjbcaa.Srt
namespace Go.Proofs.Ytnellpilmjjbcaa.G
open Go.RowKit Go.Proofs.YtnellpilmjjbcaaW.PrintWords Go.Proofs.YtnellpilmjjbcaaW.PrintLast Go.Proofs.YtnellpilmjjbcaaW.PrintMore Go.Proofs.Ytnellpilmjjbcaa.Srt
set_option linter.unusedVariables false
set_option linter.unusedSimpArgs false
/-- The row at A of n attributes (room c): L. -/
structure Rw (w0 : World) (A : Option Addr) (n c : Nat) (W : World) (L : List S45) : Prop where
  ln : L.length = n
  r : Kd.R k45 45 W w0.heap.size (fun _ => True) (.slice A n c) L
  b : Below w0.heap.size w0 W
theorem Rw.below {w0 : World} {A : Option Addr} {n c : Nat} {W W' : World} {L : List S45} (h : Rw w0 A n c W L) (hb : Below W.heap.size W W') : Rw w0 A n c W' L :=
  ⟨h.ln, Kd.R_below h.r hb, h.b.trans (hb.mono h.b.size)⟩
theorem Rw.drew {w0 : World} {A : Option Addr} {n c : Nat} {W : World} {L : List S45} (h : Rw w0 A n c W L) : Rw w0 A n c W.drew L := h.below (below_drew (Below.refl _ _))
theorem Rw.form {w0 : World} {A : Option Addr} {n c : Nat} {W : World} {L : List S45} (h : Rw w0 A n c W L) (hp : 0 < n) : ∃ g, A = some ⟨g, 0, none⟩ ∧ w0.heap.size ≤ g := by
  have hp' : 0 < L.length := by rw [h.ln]; exact hp
  obtain ⟨g, cap, e, hb, _⟩ := Kd.R_form h.r hp'; injection e with e1 e2 e3; exact ⟨g, e1, hb⟩
/-- An attribute in its two cells. -/
def At2 (W : World) (g i : Nat) (x : S45) : Prop :=
  W.cell? ⟨g, i * 2, none⟩ = some (.string x.f0) ∧ W.cell? ⟨g, i * 2 + 1, none⟩ = some (.string x.f1) ∧ W.frozen? ⟨g, i * 2, none⟩ = false ∧ W.frozen? ⟨g, i * 2 + 1, none⟩ = false
def put2 (W : World) (g i : Nat) (x : S45) : World := (W.setCell ⟨g, i * 2, none⟩ (.string x.f0)).setCell ⟨g, i * 2 + 1, none⟩ (.string x.f1)
theorem Rw.cell {w0 : World} {g n c : Nat} {W : World} {L : List S45} (h : Rw w0 (some ⟨g, 0, none⟩) n c W L) (i : Nat) (hi : i < n) (x : S45) (hx : L[i]? = some x) : At2 W g i x := by
  obtain ⟨ce, hcl, hM, hcc, hfr⟩ := Kd.R_elem h.r z45 (i : Int) (by omega) (by omega)
  have e : L.getD (i : Int).toNat z45 = x := by rw [List.getD_eq_getElem?_getD, Int.toNat_natCast, hx]; rfl
  rw [e] at hM; obtain rfl := k45_openM hM; have h0 := hcc 0 _ rfl; have h1 := hcc 1 _ rfl; have f0 := hfr 0; have f1 := hfr 1; simp only [show k45.sz = 2 from rfl, Int.toNat_natCast, Nat.add_zero] at h0 h1 f0 f1; exact ⟨h0, h1, f0, f1⟩
theorem Rw.set {w0 : World} {g n c : Nat} {W : World} {L : List S45} (h : Rw w0 (some ⟨g, 0, none⟩) n c W L) (i : Nat) (hi : i < n) (v : S45) : Rw w0 (some ⟨g, 0, none⟩) n c (put2 W g i v) (L.set i v) := by
  obtain ⟨g', e, hb⟩ := h.form (by omega); injection e with e; injection e with e; subst e; obtain ⟨ce, hcl, hM, hcc, hfr⟩ := Kd.R_elem h.r z45 (i : Int) (by omega) (by omega); have hl2 : ce.length = 2 := hcl; have hdr : ce.drop 2 = [] := List.drop_eq_nil_of_le (by omega)
  have hr := (Kd.R_seg h.r (i : Int) (by omega) (by omega) (seg := [.string v.f0, .string v.f1]) (j := 0) hcl hcc (show 0 + 2 ≤ 2 from by decide) (x' := v) (by
    rw [List.take_zero, List.nil_append]
    show k45.M W _ _ v ([.string v.f0, .string v.f1] ++ ce.drop 2)
    rw [hdr, List.append_nil]
    exact k45_mkM _ _ _ v) (fun _ hk => hk)).1
  refine ⟨by rw [List.length_set, h.ln], hr, zS (zS h.b hb) hb⟩
theorem set_mid {α : Type} (A B : List α) (u v : α) (i : Nat) (hi : i = A.length) : (A ++ u :: B).set i v = A ++ v :: B := by
  subst hi; simp
theorem get_mid {α : Type} (A B : List α) (u : α) (i : Nat) (hi : i = A.length) : (A ++ u :: B)[i]? = some u := by
  subst hi; simp
/-- Two that change places. -/
theorem Rw.swap {w0 : World} {g n c : Nat} {W : World} {A B C : List S45} {x z : S45} (h : Rw w0 (some ⟨g, 0, none⟩) n c W (A ++ x :: (B ++ z :: C))) (p q : Nat) (hp : p = A.length) (hq : q = A.length + 1 + B.length) :
    Rw w0 (some ⟨g, 0, none⟩) n c (put2 (put2 W g p z) g q x) (A ++ z :: (B ++ x :: C)) := by
  have hl := h.ln; simp at hl; have h1 := (h.set p (by omega) z).set q (by omega) x; rw [set_mid _ _ _ _ p hp] at h1
  have e : (A ++ z :: (B ++ z :: C)) = (A ++ z :: B) ++ z :: C := by simp
  rw [e, set_mid _ _ _ _ q (by simp; omega)] at h1
  have e2 : (A ++ z :: B) ++ x :: C = A ++ z :: (B ++ x :: C) := by simp
  rw [e2] at h1; exact h1
theorem Rw.swap' {w0 : World} {g n c : Nat} {W : World} {A B C : List S45} {x z : S45} (h : Rw w0 (some ⟨g, 0, none⟩) n c W (A ++ x :: (B ++ z :: C))) (p q : Nat) (hp : p = A.length) (hq : q = A.length + 1 + B.length) :
    Rw w0 (some ⟨g, 0, none⟩) n c (put2 (put2 W g q x) g p z) (A ++ z :: (B ++ x :: C)) := by
  have hl := h.ln; simp at hl; have h1 := (h.set q (by omega) x).set p (by omega) z; rw [List.set_comm _ _ (by omega), set_mid _ _ _ _ p hp] at h1
  have e : (A ++ z :: (B ++ z :: C)) = (A ++ z :: B) ++ z :: C := by simp
  rw [e, set_mid _ _ _ _ q (by simp; omega)] at h1
  have e2 : (A ++ z :: B) ++ x :: C = A ++ z :: (B ++ x :: C) := by simp
  rw [e2] at h1; exact h1
theorem Rw.two {w0 : World} {g n c : Nat} {W : World} {A B C : List S45} {x z : S45} (h : Rw w0 (some ⟨g, 0, none⟩) n c W (A ++ x :: (B ++ z :: C))) (p q : Nat) (hp : p = A.length) (hq : q = A.length + 1 + B.length) :
    q < n ∧ At2 W g p x ∧ At2 W g q z ∧ (∀ v, At2 (put2 W g p v) g q z) ∧ (∀ v, At2 (put2 W g q v) g p x) := by
  have hl := h.ln; simp at hl; have h1 := h.cell p (by omega) x (get_mid _ _ _ p hp)
  have e : (A ++ x :: (B ++ z :: C)) = (A ++ x :: B) ++ z :: C := by simp
  have h2 := h.cell q (by omega) z (by rw [e]; exact get_mid _ _ _ q (by simp; omega)); refine ⟨by omega, h1, h2, fun v => (h.set p (by omega) v).cell q (by omega) z ?_, fun v => (h.set q (by omega) v).cell p (by omega) x ?_⟩; (rw [List.getElem?_set_ne (by omega), e]; exact get_mid _ _ _ q (by simp; omega)); (rw [List.getElem?_set_ne (by omega)]; exact get_mid _ _ _ p hp)
/-- What swapRange has come to behind k of m. -/
def swk (P X Y Z Q : List S45) (k : Nat) : List S45 := P ++ (Z.take k ++ X.drop k) ++ Y ++ (X.take k ++ Z.drop k) ++ Q
theorem drop_get {α : Type} {X : List α} {k : Nat} {x : α} (h : X[k]? = some x) : X.drop k = x :: X.drop (k + 1) := by
  obtain ⟨hk, e⟩ := List.getElem?_eq_some_iff.1 h; rw [List.drop_eq_getElem_cons hk, e]
theorem take_get {α : Type} {X : List α} {k : Nat} {x : α} (h : X[k]? = some x) : X.take (k + 1) = X.take k ++ [x] := by
  rw [List.take_add_one, h]; rfl
theorem swk_open (P X Y Z Q : List S45) (k : Nat) (x z : S45) (hX : X[k]? = some x) (hZ : Z[k]? = some z) :
    swk P X Y Z Q k = (P ++ Z.take k) ++ x :: ((X.drop (k + 1) ++ Y ++ X.take k) ++ z :: (Z.drop (k + 1) ++ Q)) := by
  unfold swk; rw [drop_get hX, drop_get hZ]; simp only [List.append_assoc, List.cons_append]
theorem swk_shut (P X Y Z Q : List S45) (k : Nat) (x z : S45) (hX : X[k]? = some x) (hZ : Z[k]? = some z) :
    (P ++ Z.take k) ++ z :: ((X.drop (k + 1) ++ Y ++ X.take k) ++ x :: (Z.drop (k + 1) ++ Q)) = swk P X Y Z Q (k + 1) := by
  unfold swk; rw [take_get hX, take_get hZ]; simp only [List.append_assoc, List.cons_append, List.nil_append]
set_option maxHeartbeats 4000000 in
set_option maxRecDepth 100000 in
theorem swapRange (w0 : World) (A : Option Addr) (n c : Nat) (hn : n ≤ 140737488351232) (cv : Value) (P X Y Z Q : List S45) (m : Nat) (hX : X.length = m) (hZ : Z.length = m) (W : World) (h : Rw w0 A n c W (P ++ X ++ Y ++ Z ++ Q))
    (a b mi : Int) (ha : a = P.length) (hb : b = P.length + m + Y.length) (hmi : mi = m) :
    Calls Try.prog 53 #[.slice A n c, .int .i64 a, .int .i64 b, .int .i64 mi, cv] W fun e w' => e = .returned (.tuple #[]) ∧ Rw w0 A n c w' (P ++ Z ++ Y ++ X ++ Q) := by
  have H := Aside0.mk (show Rw w0 A n c W (swk P X Y Z Q 0) by unfold swk; simpa using h); have HN := Aside0.mk hn; have HA := Aside0.mk ha; have HBB := Aside0.mk hb; have HL := Aside0.mk (And.intro hX hZ); have HMI := Aside0.mk hmi
  have HLN := Aside0.mk (show P.length + m + Y.length + m ≤ n by
    have := h.ln; simp at this
    omega)
  clear h hn ha hb hX hZ hmi
  go_enter Try.func53, Try.ntmps53
  go_wp2_with fail
  go_loopg [10] m (fun kq v10 W' => ∃ (i : Int) (k : Nat), v10 = .int .i64 i ∧ Aside0 (i = k) ∧ Aside0 (k + kq = m) ∧ Aside0 (Rw w0 A n c W' (swk P X Y Z Q k)))
  case atStart => exact ⟨0, 0, rfl, ⟨rfl⟩, ⟨by omega⟩, H⟩
  case round =>
  clear H; obtain ⟨i, k, rfl, HI, HK, H⟩ := hrel
  cases gk with
  | zero =>
    have hib : decide (i < mi) = false := decide_eq_false (by have := HMI.out; have := HI.out; have := HK.out; omega)
    go_wp2_with fail
    refine bodyPost_end (results_none rfl _ _ _) rfl ?_; refine ⟨rfl, ?_⟩
    have hk : k = m := by have := HK.out; omega
    have h := H.out; unfold swk at h; rw [List.take_of_length_le (by have := HL.out; omega), List.take_of_length_le (by have := HL.out; omega), List.drop_eq_nil_of_le (by have := HL.out; omega), List.drop_eq_nil_of_le (by have := HL.out; omega)] at h; simpa using h
  | succ k1 =>
    have hib : decide (i < mi) = true := decide_eq_true (by have := HMI.out; have := HI.out; have := HK.out; omega)
    have hkX : k < X.length := by have := HK.out; have := HL.out; omega
    have hkZ : k < Z.length := by have := HK.out; have := HL.out; omega
    have HKK := Aside0.mk (And.intro hkX hkZ); obtain ⟨g, rfl, hg⟩ := H.out.form (by have := HLN.out; have := HL.out; omega); obtain ⟨p, hp⟩ : ∃ p : Nat, p = P.length + k := ⟨_, rfl⟩; obtain ⟨q, hq⟩ : ∃ q : Nat, q = P.length + m + Y.length + k := ⟨_, rfl⟩; obtain ⟨x, hx⟩ : ∃ x, X[k]? = some x := ⟨_, List.getElem?_eq_getElem hkX⟩; obtain ⟨z, hz⟩ : ∃ z, Z[k]? = some z := ⟨_, List.getElem?_eq_getElem hkZ⟩; have HX := Aside0.mk (And.intro hx hz); have H2 := Aside0.mk (swk_open P X Y Z Q k x z hx hz ▸ H.out)
    have hpA : p = (P ++ Z.take k).length := by rw [List.length_append, List.length_take]; omega
    have hqA : q = (P ++ Z.take k).length + 1 + (X.drop (k + 1) ++ Y ++ X.take k).length := by
      simp only [List.length_append, List.length_take, List.length_drop]; have := HL.out; omega
    have HPQ := Aside0.mk (And.intro hpA hqA); obtain ⟨hqn, ⟨cp0, cp1, fp0, fp1⟩, ⟨cq0, cq1, _, _⟩, c2, _⟩ := H2.out.two p q hpA hqA; obtain ⟨dq0, dq1, fq0, fq1⟩ := c2 z; unfold put2 at dq0 dq1 fq0 fq1
    have hpn : p < n := by omega
    have w1 : IntKind.i64.wrap (a + i) = (p : Int) := by rw [IntWalk.i64_in _ (by have := HA.out; have := HI.out; have := HN.out; omega)]; have := HA.out; have := HI.out; omega
    have w2 : IntKind.i64.wrap (b + i) = (q : Int) := by rw [IntWalk.i64_in _ (by have := HBB.out; have := HI.out; have := HN.out; omega)]; have := HBB.out; have := HI.out; omega
    have hi1 : IntKind.i64.wrap (i + 1) = i + 1 := IntWalk.i64_in _ (by have := HI.out; have := HN.out; omega); have p0 : decide ((0 : Int) ≤ (p : Int)) = true := decide_eq_true (by omega); have q0 : decide ((0 : Int) ≤ (q : Int)) = true := decide_eq_true (by omega); have p1 := eq_true hpn; have q1 := eq_true hqn; clear hx hz hpn hqn hp hq hpA hqA hg hkX hkZ c2
    go_upto_region 3 with fail
    refine start_ (n := 24) (S := (fun w' => w'.cell? ⟨g, p * 2, none⟩ = some (.string x.f0) ∧ w'.cell? ⟨g, p * 2 + 1, none⟩ = some (.string x.f1) ∧ w'.cell? ⟨g, q * 2, none⟩ = some (.string z.f0) ∧ w'.cell? ⟨g, q * 2 + 1, none⟩ = some (.string z.f1))) (ds := [21, 23]) #[false, false, false, false, false, false, false, false, false, false, false, false, false, false, false, false, false, false, false, false, false, false, false, false] (by kernel_rfl) rfl rfl ?_ ?_; (exact ⟨cp0, cp1, cq0, cq1⟩); intro hHeld; refine pure_ (i := 0) (N := some 16) (v := ?_) (a' := ?_) #[true, false, false, false, false, false, false, false, false, false, false, false, false, false, false, false, false, false, false, false, false, false, false, false] rfl rfl (by kernel_rfl) (fun _ _ _ h => h) (Or.inl ⟨by rfl, ?_⟩) ?_ ?_; rotate_left; (intro w'; go_simp; (with_reducible rfl)); rotate_left; (simp only [Act.put, List.setIfInBounds_toArray, List.set_cons_zero, List.set_cons_succ, i64_w, i32_w]; rfl); refine pure_ (i := 1) (N := some 17) (v := ?_) (a' := ?_) #[true, true, false, false, false, false, false, false, false, false, false, false, false, false, false, false, false, false, false, false, false, false, false, false] rfl rfl (by kernel_rfl) (fun _ _ _ h => h) (Or.inl ⟨by rfl, ?_⟩) ?_ ?_; rotate_left; (intro w'; go_simp; (with_reducible rfl)); rotate_left; (simp only [Act.put, List.setIfInBounds_toArray, List.set_cons_zero, List.set_cons_succ, i64_w, i32_w]; rfl); refine pure_ (i := 2) (N := some 18) (v := ?_) (a' := ?_) #[true, true, true, false, false, false, false, false, false, false, false, false, false, false, false, false, false, false, false, false, false, false, false, false] rfl rfl (by kernel_rfl) (fun _ _ _ h => h) (Or.inl ⟨by rfl, ?_⟩) ?_ ?_; rotate_left; (intro w'; go_simp; (with_reducible rfl)); rotate_left; (simp only [Act.put, List.setIfInBounds_toArray, List.set_cons_zero, List.set_cons_succ, i64_w, i32_w]; rfl); refine pure_ (i := 3) (N := some 19) (v := ?_) (a' := ?_) #[true, true, true, true, false, false, false, false, false, false, false, false, false, false, false, false, false, false, false, false, false, false, false, false] rfl rfl (by kernel_rfl) (fun _ _ _ h => h) (Or.inl ⟨by rfl, ?_⟩) ?_ ?_; rotate_left; (intro w'; go_simp; (with_reducible rfl)); rotate_left; (simp only [Act.put, List.setIfInBounds_toArray, List.set_cons_zero, List.set_cons_succ, i64_w, i32_w]; rfl); refine pure_ (i := 4) (N := some 20) (v := ?_) (a' := ?_) #[true, true, true, true, true, false, false, false, false, false, false, false, false, false, false, false, false, false, false, false, false, false, false, false] rfl rfl (by kernel_rfl) (fun _ _ _ h => h) (Or.inl ⟨by rfl, ?_⟩) ?_ ?_; rotate_left; (intro w'; go_simp; (with_reducible rfl)); rotate_left; (simp only [Act.put, List.setIfInBounds_toArray, List.set_cons_zero, List.set_cons_succ, i64_w, i32_w]; rfl); refine pure_ (i := 5) (N := some 21) (v := ?_) (a' := ?_) #[true, true, true, true, true, true, false, false, false, false, false, false, false, false, false, false, false, false, false, false, false, false, false, false] rfl rfl (by kernel_rfl) (fun _ _ _ h => h) (Or.inl ⟨by rfl, ?_⟩) ?_ ?_; rotate_left; (intro w'; go_simp; (with_reducible rfl)); rotate_left; (simp only [Act.put, List.setIfInBounds_toArray, List.set_cons_zero, List.set_cons_succ, i64_w, i32_w]; rfl); refine pure_ (i := 6) (N := some 22) (v := ?_) (a' := ?_) #[true, true, true, true, true, true, true, false, false, false, false, false, false, false, false, false, false, false, false, false, false, false, false, false] rfl rfl (by kernel_rfl) (fun _ _ _ h => h) (Or.inl ⟨by rfl, ?_⟩) ?_ ?_; rotate_left; (intro w'; go_simp; (with_reducible rfl)); rotate_left; (simp only [Act.put, List.setIfInBounds_toArray, List.set_cons_zero, List.set_cons_succ, i64_w, i32_w]; rfl); refine pure_ (i := 7) (N := some 23) (v := ?_) (a' := ?_) #[true, true, true, true, true, true, true, true, false, false, false, false, false, false, false, false, false, false, false, false, false, false, false, false] rfl rfl (by kernel_rfl) (fun _ _ _ h => h) (Or.inl ⟨by rfl, ?_⟩) ?_ ?_; rotate_left; (intro w'; go_simp; (with_reducible rfl)); rotate_left; (simp only [Act.put, List.setIfInBounds_toArray, List.set_cons_zero, List.set_cons_succ, i64_w, i32_w]; rfl); refine pure_ (i := 8) (N := some 24) (v := ?_) (a' := ?_) #[true, true, true, true, true, true, true, true, true, false, false, false, false, false, false, false, false, false, false, false, false, false, false, false] rfl rfl (by kernel_rfl) (fun _ _ _ h => h) (Or.inl ⟨by rfl, ?_⟩) ?_ ?_; rotate_left; (intro w'; go_simp; (with_reducible rfl)); rotate_left; (simp only [Act.put, List.setIfInBounds_toArray, List.set_cons_zero, List.set_cons_succ, i64_w, i32_w]; rfl); refine pure_ (i := 9) (N := some 25) (v := ?_) (a' := ?_) #[true, true, true, true, true, true, true, true, true, true, false, false, false, false, false, false, false, false, false, false, false, false, false, false] rfl rfl (by kernel_rfl) (fun _ _ _ h => h) (Or.inl ⟨by rfl, ?_⟩) ?_ ?_; rotate_left; (intro w'; go_simp; (with_reducible rfl)); rotate_left; (simp only [Act.put, List.setIfInBounds_toArray, List.set_cons_zero, List.set_cons_succ, i64_w, i32_w]; rfl); refine pure_ (i := 10) (N := some 26) (v := ?_) (a' := ?_) #[true, true, true, true, true, true, true, true, true, true, true, false, false, false, false, false, false, false, false, false, false, false, false, false] rfl rfl (by kernel_rfl) (fun _ _ _ h => h) (Or.inl ⟨by rfl, ?_⟩) ?_ ?_; rotate_left; (intro w'; go_simp; (with_reducible rfl)); rotate_left; (simp only [Act.put, List.setIfInBounds_toArray, List.set_cons_zero, List.set_cons_succ, i64_w, i32_w]; rfl); refine pure_ (i := 11) (N := some 27) (v := ?_) (a' := ?_) #[true, true, true, true, true, true, true, true, true, true, true, true, false, false, false, false, false, false, false, false, false, false, false, false] rfl rfl (by kernel_rfl) (fun _ _ _ h => h) (Or.inl ⟨by rfl, ?_⟩) ?_ ?_; rotate_left; (intro w'; go_simp; (with_reducible rfl)); rotate_left; (simp only [Act.put, List.setIfInBounds_toArray, List.set_cons_zero, List.set_cons_succ, i64_w, i32_w]; rfl); refine pure_ (i := 12) (N := some 28) (v := ?_) (a' := ?_) #[true, true, true, true, true, true, true, true, true, true, true, true, true, false, false, false, false, false, false, false, false, false, false, false] rfl rfl (by kernel_rfl) (fun _ _ _ h => h) (Or.inl ⟨by rfl, ?_⟩) ?_ ?_; rotate_left; (intro w'; go_simp; (with_reducible rfl)); rotate_left; (simp only [Act.put, List.setIfInBounds_toArray, List.set_cons_zero, List.set_cons_succ, i64_w, i32_w]; rfl); refine pure_ (i := 14) (N := some 30) (v := ?_) (a' := ?_) #[true, true, true, true, true, true, true, true, true, true, true, true, true, false, true, false, false, false, false, false, false, false, false, false] rfl rfl (by kernel_rfl) (fun _ _ _ h => h) (Or.inl ⟨by rfl, ?_⟩) ?_ ?_; rotate_left; (intro w'; go_simp; (with_reducible rfl)); rotate_left; (simp only [Act.put, List.setIfInBounds_toArray, List.set_cons_zero, List.set_cons_succ, i64_w, i32_w]; rfl); refine pure_ (i := 15) (N := some 31) (v := ?_) (a' := ?_) #[true, true, true, true, true, true, true, true, true, true, true, true, true, false, true, true, false, false, false, false, false, false, false, false] rfl rfl (by kernel_rfl) (fun _ _ _ h => h) (Or.inl ⟨by rfl, ?_⟩) ?_ ?_; rotate_left; (intro w'; go_simp; (with_reducible rfl)); rotate_left; (simp only [Act.put, List.setIfInBounds_toArray, List.set_cons_zero, List.set_cons_succ, i64_w, i32_w]; rfl); refine pure_ (i := 16) (N := some 32) (v := ?_) (a' := ?_) #[true, true, true, true, true, true, true, true, true, true, true, true, true, false, true, true, true, false, false, false, false, false, false, false] rfl rfl (by kernel_rfl) (fun _ _ _ h => h) (Or.inl ⟨by rfl, ?_⟩) ?_ ?_; rotate_left; (intro w'; go_simp; (with_reducible rfl)); rotate_left; (simp only [Act.put, List.setIfInBounds_toArray, List.set_cons_zero, List.set_cons_succ, i64_w, i32_w]; rfl); refine pure_ (i := 17) (N := some 33) (v := ?_) (a' := ?_) #[true, true, true, true, true, true, true, true, true, true, true, true, true, false, true, true, true, true, false, false, false, false, false, false] rfl rfl (by kernel_rfl) (fun _ _ _ h => h) (Or.inl ⟨by rfl, ?_⟩) ?_ ?_; rotate_left; (intro w'; go_simp; (with_reducible rfl)); rotate_left; (simp only [Act.put, List.setIfInBounds_toArray, List.set_cons_zero, List.set_cons_succ, i64_w, i32_w]; rfl); refine pure_ (i := 18) (N := some 34) (v := ?_) (a' := ?_) #[true, true, true, true, true, true, true, true, true, true, true, true, true, false, true, true, true, true, true, false, false, false, false, false] rfl rfl (by kernel_rfl) (fun _ _ _ h => h) (Or.inl ⟨by rfl, ?_⟩) ?_ ?_; rotate_left; (intro w'; go_simp; (with_reducible rfl)); rotate_left; (simp only [Act.put, List.setIfInBounds_toArray, List.set_cons_zero, List.set_cons_succ, i64_w, i32_w]; rfl); refine take_ (i := 13) (N := some 29) (v := ?_) (a' := ?_) #[true, true, true, true, true, true, true, true, true, true, true, true, true, true, true, true, true, true, true, false, false, false, false, false] rfl rfl (by kernel_rfl) (fun _ _ _ h => h) (Or.inl ⟨by rfl, ?_⟩) hHeld ?_ ?_; rotate_left; (rintro w' ⟨s0, s1, s2, s3⟩; go_simp; (with_reducible rfl)); rotate_left; (simp only [Act.put, List.setIfInBounds_toArray, List.set_cons_zero, List.set_cons_succ, i64_w, i32_w]; rfl); refine take_ (i := 19) (N := some 35) (v := ?_) (a' := ?_) #[true, true, true, true, true, true, true, true, true, true, true, true, true, true, true, true, true, true, true, true, false, false, false, false] rfl rfl (by kernel_rfl) (fun _ _ _ h => h) (Or.inl ⟨by rfl, ?_⟩) hHeld ?_ ?_; rotate_left; (rintro w' ⟨s0, s1, s2, s3⟩; go_simp; (with_reducible rfl)); rotate_left; (simp only [Act.put, List.setIfInBounds_toArray, List.set_cons_zero, List.set_cons_succ, i64_w, i32_w]; rfl); refine pure_ (i := 20) (N := some 36) (v := ?_) (a' := ?_) #[true, true, true, true, true, true, true, true, true, true, true, true, true, true, true, true, true, true, true, true, true, false, false, false] rfl rfl (by kernel_rfl) (fun _ _ _ h => h) (Or.inl ⟨by rfl, ?_⟩) ?_ ?_; rotate_left; (intro w'; go_simp; (with_reducible rfl)); rotate_left; (simp only [Act.put, List.setIfInBounds_toArray, List.set_cons_zero, List.set_cons_succ, i64_w, i32_w]; rfl); refine last_ (i := 21) (N := none) #[true, true, true, true, true, true, true, true, true, true, true, true, true, true, true, true, true, true, true, true, true, true, false, false] rfl rfl (by kernel_rfl) (by decide) (fun K hK => ?_); refine skip_ (w1 := put2 wr.drew g p z) (by rfl) rfl ?_ ?_
    · unfold put2; first | (go_simp; done) | (go_simp; rfl)
    refine hK.out _ _ ?_; clear hK K; refine pure_ (i := 22) (N := some 37) (v := ?_) (a' := ?_) #[true, true, true, true, true, true, true, true, true, true, true, true, true, true, true, true, true, true, true, true, true, true, true, false] rfl rfl (by kernel_rfl) (fun _ _ _ h => h) (Or.inl ⟨by rfl, ?_⟩) ?_ ?_; rotate_left; (intro w'; go_simp; (with_reducible rfl)); rotate_left; (simp only [Act.put, List.setIfInBounds_toArray, List.set_cons_zero, List.set_cons_succ, i64_w, i32_w]; rfl); refine last_ (i := 23) (N := none) #[true, true, true, true, true, true, true, true, true, true, true, true, true, true, true, true, true, true, true, true, true, true, true, true] rfl rfl (by kernel_rfl) (by decide) (fun K hK => ?_); refine skip_ (w1 := put2 (put2 wr.drew g p z) g q x) (by rfl) rfl ?_ ?_
    · unfold put2; first | (go_simp; done) | (go_simp; rfl)
    refine hK.out _ _ ?_; clear hK K; refine done_ (by kernel_rfl) ?_; clear cp0 cp1 cq0 cq1 fp0 fp1 fq0 fq1 dq0 dq1
    have H3 := Aside0.mk (show Rw w0 (some ⟨g, 0, none⟩) n c (put2 (put2 wr.drew g p z) g q x) (swk P X Y Z Q (k + 1)) by
      have := H2.out.drew.swap p q HPQ.out.1 HPQ.out.2; rw [swk_shut P X Y Z Q k x z HX.out.1 HX.out.2] at this
      exact this)
    obtain ⟨W3, hW3⟩ : ∃ W3, put2 (put2 wr.drew g p z) g q x = W3 := ⟨_, rfl⟩; rw [hW3] at H3 ⊢; clear hW3
    go_wp2_with fail
    go_roundg k1
    case measure => omega
    case rel => exact ⟨i + 1, k + 1, rfl, ⟨by have := HI.out; omega⟩, ⟨by have := HK.out; omega⟩, H3⟩
theorem split_at {α : Type} (l : List α) (k : Nat) (h : k ≤ l.length) : ∃ u v, l = u ++ v ∧ u.length = k :=
  ⟨l.take k, l.drop k, (List.take_append_drop k l).symm, by rw [List.length_take]; omega⟩
set_option maxHeartbeats 4000000 in
set_option maxRecDepth 100000 in
theorem rotate (w0 : World) (A : Option Addr) (n c : Nat) (hn : n ≤ 140737488351232) (cv : Value) (P X Y Q : List S45) (hX : X ≠ []) (hY : Y ≠ []) (W : World) (h : Rw w0 A n c W (P ++ X ++ Y ++ Q))
    (a m b : Int) (ha : a = P.length) (hm : m = P.length + X.length) (hb : b = P.length + X.length + Y.length) :
    Calls Try.prog 51 #[.slice A n c, .int .i64 a, .int .i64 m, .int .i64 b, cv] W fun e w' => e = .returned (.tuple #[]) ∧ Rw w0 A n c w' (P ++ Y ++ X ++ Q) := by
  have H := Aside0.mk h; have HN := Aside0.mk hn; have HM := Aside0.mk (show m ≤ n ∧ 0 ≤ m by have := h.ln; simp at this; omega); have HX := Aside0.mk (And.intro hX hY); have HMX := Aside0.mk hm
  have e1 : IntKind.i64.wrap (m - a) = (X.length : Int) := by rw [IntWalk.i64_in _ (by have := HM.out; omega)]; omega
  have e2 : IntKind.i64.wrap (b - m) = (Y.length : Int) := by rw [IntWalk.i64_in _ (by have := h.ln; simp at this; omega)]; omega
  clear h hn ha hm hb hX hY; obtain ⟨xi, hxi⟩ : ∃ xi : Int, (X.length : Int) = xi := ⟨_, rfl⟩; obtain ⟨yi, hyi⟩ : ∃ yi : Int, (Y.length : Int) = yi := ⟨_, rfl⟩; rw [hxi] at e1; rw [hyi] at e2; have HXI := Aside0.mk (And.intro hxi hyi); clear hxi hyi
  go_enter Try.func51, Try.ntmps51
  go_wp2_with fail
  go_loopg [10, 11] (X.length + Y.length) (fun kq v10 v11 W' => ∃ (i j : Int) (P1 X1 Y1 Q1 : List S45), v10 = .int .i64 i ∧ v11 = .int .i64 j ∧ Aside0 (i = X1.length ∧ j = Y1.length ∧ m = P1.length + X1.length ∧ X1 ≠ [] ∧ Y1 ≠ [] ∧ X1.length + Y1.length ≤ kq ∧ P1 ++ Y1 ++ X1 ++ Q1 = P ++ Y ++ X ++ Q) ∧ Aside0 (Rw w0 A n c W' (P1 ++ X1 ++ Y1 ++ Q1)))
  case atStart => exact ⟨xi, yi, P, X, Y, Q, rfl, rfl, ⟨HXI.out.1.symm, HXI.out.2.symm, HMX.out, HX.out.1, HX.out.2, Nat.le_refl _, rfl⟩, H⟩
  case round =>
  clear H HXI HX HMX e1 e2; obtain ⟨i, j, P1, X1, Y1, Q1, rfl, rfl, HI, H⟩ := hrel; have HLN := Aside0.mk (show P1.length + X1.length + Y1.length ≤ n by have := H.out.ln; simp at this; omega); have HPOS := Aside0.mk (show 0 < X1.length ∧ 0 < Y1.length from ⟨List.length_pos_iff.2 HI.out.2.2.2.1, List.length_pos_iff.2 HI.out.2.2.2.2.1⟩); have w1 : IntKind.i64.wrap (m - i) = m - i := IntWalk.i64_in _ (by have := HI.out; have := HN.out; have := HLN.out; omega)
  by_cases hij : i = j
  · have hb1 : (i == j) = true := by simp [hij]
    have hb2 : (i != j) = false := by simp [hij]
    have HIJ := Aside0.mk hij
    clear hij
    go_wp2_with (go_at_call 53; refine (swapRange w0 A n c HN.out cv P1 X1 [] Y1 Q1 X1.length rfl (by have := HI.out; have := HIJ.out; omega) wr (by rw [List.append_nil]; exact H.out) (m - i) m i (by have := HI.out; omega) (by have := HI.out; simp; omega) (by have := HI.out; omega)).mono ?_; rintro e w3 ⟨rfl, hR⟩; have H3 := Aside0.mk hR; clear hR)
    refine bodyPost_end (results_none rfl _ _ _) rfl ?_
    refine ⟨rfl, ?_⟩
    have := H3.out
    rw [List.append_nil, HI.out.2.2.2.2.2.2] at this
    exact this
  · have hb1 : (i == j) = false := by simp [hij]
    have hb2 : (i != j) = true := by simp [hij]
    have HIJ := Aside0.mk hij
    cases gk with
    | zero => exact absurd HI.out.2.2.2.2.2.1 (by have := HPOS.out; omega)
    | succ k1 =>
    by_cases hgt : i > j
    · have g1 : decide (i > j) = true := decide_eq_true hgt
      have g2 : decide (j < i) = true := decide_eq_true hgt
      obtain ⟨U, V, hUV, hU⟩ := split_at X1 Y1.length (by have := HI.out; omega)
      have hl := congrArg List.length hUV
      rw [List.length_append] at hl
      have HUV := Aside0.mk (And.intro hUV (And.intro hU hl))
      have H2 := Aside0.mk (show Rw w0 A n c wr (P1 ++ U ++ V ++ Y1 ++ Q1) by have := H.out; rw [hUV] at this; simpa using this)
      have HG := Aside0.mk hgt
      have w2 : IntKind.i64.wrap (i - j) = i - j := IntWalk.i64_in _ (by have := HI.out; have := HN.out; have := HLN.out; omega)
      clear hij hgt hUV hU hl H
      go_wp2_with (go_at_call 53; refine (swapRange w0 A n c HN.out cv P1 U V Y1 Q1 Y1.length HUV.out.2.1 rfl wr H2.out (m - i) m j (by have := HI.out; omega) (by have := HI.out; have := HUV.out; omega) (by have := HI.out; omega)).mono ?_; rintro e w3 ⟨rfl, hR⟩; have H3 := Aside0.mk hR; clear hR)
      go_roundg k1
      case measure => omega
      case rel =>
        refine ⟨i - j, j, P1 ++ Y1, V, U, Q1, rfl, rfl, ⟨?_, ?_, ?_, ?_, ?_, ?_, ?_⟩, H3⟩; (have := HI.out; have := HUV.out; omega); (have := HI.out; have := HUV.out; omega); (have := HI.out; have := HUV.out; rw [List.length_append]; omega); (intro e; have := HI.out; have h1 := HUV.out.2; rw [e] at h1; have := HG.out; simp at h1; omega); (intro e; have := HPOS.out; have h1 := HUV.out.2; rw [e] at h1; simp at h1; omega); (have := HI.out; have := HUV.out; have := HPOS.out; omega); (have h1 := HI.out.2.2.2.2.2.2; rw [HUV.out.1] at h1; rw [← h1]; simp)
    · have g1 : decide (i > j) = false := decide_eq_false hgt
      have g2 : decide (j < i) = false := decide_eq_false hgt
      obtain ⟨U, V, hUV, hU⟩ := split_at Y1 (Y1.length - X1.length) (by omega)
      have hl := congrArg List.length hUV
      rw [List.length_append] at hl
      have HUV := Aside0.mk (And.intro hUV (And.intro hU hl))
      have H2 := Aside0.mk (show Rw w0 A n c wr (P1 ++ X1 ++ U ++ V ++ Q1) by have := H.out; rw [hUV] at this; simpa using this)
      have HG := Aside0.mk hgt
      have w2 : IntKind.i64.wrap (m + j) = m + j := IntWalk.i64_in _ (by have := HI.out; have := HN.out; have := HLN.out; omega)
      have w3 : IntKind.i64.wrap (m + j - i) = m + j - i := IntWalk.i64_in _ (by have := HI.out; have := HN.out; have := HLN.out; omega)
      have w4 : IntKind.i64.wrap (j - i) = j - i := IntWalk.i64_in _ (by have := HI.out; have := HN.out; have := HLN.out; omega)
      clear hij hgt hUV hU hl H
      go_wp2_with (go_at_call 53; refine (swapRange w0 A n c HN.out cv P1 X1 U V Q1 X1.length rfl (by have := HI.out; have := HUV.out; have := HG.out; omega) wr H2.out (m - i) (m + j - i) i (by have := HI.out; omega) (by have := HI.out; have := HUV.out; have := HG.out; omega) (by have := HI.out; omega)).mono ?_; rintro e w3 ⟨rfl, hR⟩; have H3 := Aside0.mk hR; clear hR)
      go_roundg k1
      case measure => omega
      case rel =>
        refine ⟨i, j - i, P1, V, U, X1 ++ Q1, rfl, rfl, ⟨?_, ?_, ?_, ?_, ?_, ?_, ?_⟩, ⟨by have := H3.out; simpa using this⟩⟩; (have := HI.out; have := HUV.out; have := HG.out; omega); (have := HI.out; have := HUV.out; have := HG.out; omega); (have := HI.out; have := HUV.out; have := HG.out; omega); (intro e; have := HPOS.out; have := HI.out; have h1 := HUV.out.2; rw [e] at h1; have := HG.out; simp at h1; omega); (intro e; have := HPOS.out; have := HI.out; have h1 := HUV.out.2; rw [e] at h1; have := HG.out; have := HIJ.out; simp at h1; omega); (have := HI.out; have := HUV.out; have := HPOS.out; have := HG.out; omega); (have h1 := HI.out.2.2.2.2.2.2; rw [HUV.out.1] at h1; rw [← h1]; simp)
end Go.Proofs.Ytnellpilmjjbcaa.G
