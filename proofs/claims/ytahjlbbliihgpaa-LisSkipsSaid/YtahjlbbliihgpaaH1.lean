import Derived.Test.YtahjlbbliihgpaaGx0
namespace Go.Proofs.Ytahjlbbliihgpaa.G
open Go.RowKit Go.Proofs.YtahjlbbliihgpaaW.PrintWords Go.Proofs.YtahjlbbliihgpaaW.PrintLast Go.Proofs.YtahjlbbliihgpaaW.PrintMore
set_option linter.unusedVariables false
set_option linter.unusedSimpArgs false

theorem reti {k : IntKind} {a b : Int} (h : a = b) : Ending.returned (.int k a) = .returned (.int k b) := by rw [h]

/-- The top of a pile. -/
def topOf (ps : List (List Int)) (i : Int) : Int := rd (rd_L1 ps i) ((rd_L1 ps i).length - 1)

/-- find's loop. -/
def findL : Nat → List Int → List (List Int) → Int → Int → Int → Int
  | 0, _, _, _, lo, _ => lo
  | k + 1, l, ps, n, lo, hi => if lo < hi then (if n ≤ rd l (topOf ps ((lo + hi) / 2)) then findL k l ps n lo ((lo + hi) / 2) else findL k l ps n ((lo + hi) / 2 + 1) hi) else lo

set_option maxHeartbeats 2000000 in
theorem find_calls (g : Nat) (ps : List (List Int)) (l : List Int) (Ap : Option Addr) (cp : Nat) (u1 : Value) (A1 : Option Addr) (c1 : Nat) (n : Int) (w : World)
    (hb : w.heap[g]? = some (.cells #[.slice Ap ps.length cp, u1] 32 (0, 0)))
    (hp : Kd.C (Kd.slice 3 (Kd.int .i64)) w Ap ps.length ps) (hl : Kd.C (Kd.int .i64) w A1 l.length l) (hlen : ps.length ≤ 9223372036854775) (hll : l.length ≤ 9223372036854775)
    (hne : ∀ i : Int, 0 ≤ i → i < ps.length → 0 < (rd_L1 ps i).length ∧ ((rd_L1 ps i).length : Int) ≤ 9223372036854775 ∧ 0 ≤ topOf ps i ∧ topOf ps i < l.length) :
    Calls Try.prog 21 #[.pointer (some ⟨g, 0, none⟩), .slice A1 l.length c1, .int .i64 n] w fun e w' => e = .returned (.int .i64 (findL ps.length l ps n 0 ps.length)) ∧ Drawn0 w w' := by
  have hc0 : w.cell? ⟨g, 0, none⟩ = some (.slice Ap ps.length cp) := (blk_cell hb 0).trans rfl
  have HP := Aside0.mk hp
  have HL := Aside0.mk hl
  have HN := Aside0.mk hne
  clear hb hp hl hne
  go_enter Try.func21, Try.ntmps21
  go_wp2_with fail
  go_step3
  go_wp2_with fail
  go_quiet (fail)
  go_wp2_with fail
  go_step3
  go_wp2_with fail
  go_loopg [7, 8] ps.length (fun k v7 v8 w' => ∃ (lo hi : Int), v7 = .int .i64 lo ∧ v8 = .int .i64 hi ∧ Aside0 (0 ≤ lo ∧ lo ≤ hi ∧ hi ≤ ps.length ∧ hi - lo ≤ k ∧ findL k l ps n lo hi = findL ps.length l ps n 0 ps.length) ∧ Drawn0 w w')
  case atStart => exact ⟨0, ps.length, rfl, rfl, ⟨by omega, by omega, by omega, by omega, rfl⟩, ⟨_, rfl⟩⟩
  case round =>
    obtain ⟨lo, hi, rfl, rfl, HI, ⟨m, rfl⟩⟩ := hrel
    by_cases hlt : lo < hi
    · cases gk with
      | zero => exact absurd HI.out (by omega)
      | succ k =>
        have h1 : 0 ≤ lo := HI.out.1
        have h2 : hi ≤ 9223372036854775 := by have := HI.out; omega
        have m0 : 0 ≤ (lo + hi) / 2 := by omega
        have m1 : (lo + hi) / 2 < ps.length := by have := HI.out; omega
        obtain ⟨a0, a1, a2, a3⟩ := HN.out _ m0 m1
        obtain ⟨ad, A0, c0, e, hx, hl0, hi0⟩ := at_L1 HP.out _ m0 m1
        cases e
        have b0 : 0 ≤ ((rd_L1 ps ((lo + hi) / 2)).length : Int) - 1 := by omega
        have b1 : ((rd_L1 ps ((lo + hi) / 2)).length : Int) - 1 < (rd_L1 ps ((lo + hi) / 2)).length := by omega
        obtain ⟨ad2, e2, hx2⟩ := Kd.at_int hi0 _ b0 b1
        cases e2
        obtain ⟨ad3, e3, hx3⟩ := Kd.at_int HL.out (topOf ps ((lo + hi) / 2)) a2 a3
        cases e3
        have hx4 : w.cell? (ad2.add ((rd_L1 ps ((lo + hi) / 2)).length - 1)) = some (.int .i64 (topOf ps ((lo + hi) / 2))) := by
          rw [show (rd_L1 ps ((lo + hi) / 2)).length - 1 = (((rd_L1 ps ((lo + hi) / 2)).length : Int) - 1).toNat from by omega]; exact hx2
        clear hx2 hi0
        have HF : Aside0 (findL (k + 1) l ps n lo hi = if n ≤ rd l (topOf ps ((lo + hi) / 2)) then findL k l ps n lo ((lo + hi) / 2) else findL k l ps n ((lo + hi) / 2 + 1) hi) := ⟨by rw [findL, if_pos hlt]⟩
        by_cases hge : n ≤ rd l (topOf ps ((lo + hi) / 2))
        · go_wp2_with fail
          go_roundg k
          case measure => omega
          case rel =>
            refine ⟨lo, (lo + hi) / 2, rfl, rfl, ⟨?_⟩, ⟨_, rfl⟩⟩
            have h := HI.out; have f := HF.out; rw [if_pos hge] at f; rw [f] at h
            exact ⟨by omega, by omega, by omega, by omega, h.2.2.2.2⟩
        · go_wp2_with fail
          go_roundg k
          case measure => omega
          case rel =>
            refine ⟨(lo + hi) / 2 + 1, hi, rfl, rfl, ⟨?_⟩, ⟨_, rfl⟩⟩
            have h := HI.out; have f := HF.out; rw [if_neg (by omega)] at f; rw [f] at h
            exact ⟨by omega, by omega, by omega, by omega, h.2.2.2.2⟩
    · have HF : Aside0 (findL gk l ps n lo hi = lo) := ⟨by cases gk <;> simp [findL, hlt]⟩
      go_wp2_with fail
      go_ret
      exact ⟨reti (by rw [← HI.out.2.2.2.2, HF.out]), ⟨_, rfl⟩⟩

/-- The top of pile j, or -1. -/
def topAt (ps : List (List Int)) (j : Int) : Int := if j < 0 then -1 else if (ps.length : Int) ≤ j then -1 else topOf ps j

set_option maxHeartbeats 2000000 in
theorem top_calls (g : Nat) (ps : List (List Int)) (Ap : Option Addr) (cp : Nat) (u1 : Value) (j : Int) (w : World)
    (hb : w.heap[g]? = some (.cells #[.slice Ap ps.length cp, u1] 32 (0, 0)))
    (hp : Kd.C (Kd.slice 3 (Kd.int .i64)) w Ap ps.length ps)
    (hne : 0 ≤ j → j < ps.length → 0 < (rd_L1 ps j).length ∧ ((rd_L1 ps j).length : Int) ≤ 9223372036854775) :
    Calls Try.prog 20 #[.pointer (some ⟨g, 0, none⟩), .int .i64 j] w fun e w' => e = .returned (.int .i64 (topAt ps j)) ∧ w' = w := by
  have hc0 : w.cell? ⟨g, 0, none⟩ = some (.slice Ap ps.length cp) := (blk_cell hb 0).trans rfl
  have HP := Aside0.mk hp
  have HN := Aside0.mk hne
  clear hb hp hne
  by_cases h0 : j < 0
  · have HE := Aside0.mk (show topAt ps j = -1 by rw [topAt, if_pos h0])
    go_enter Try.func20, Try.ntmps20
    go_wp2_with fail
    go_ret
    exact ⟨reti HE.out.symm, rfl⟩
  by_cases h1 : (ps.length : Int) ≤ j
  · have HE := Aside0.mk (show topAt ps j = -1 by rw [topAt, if_neg h0, if_pos h1])
    go_enter Try.func20, Try.ntmps20
    go_wp2_with fail
    go_ret
    exact ⟨reti HE.out.symm, rfl⟩
  obtain ⟨a0, a1⟩ := HN.out (by omega) (by omega)
  obtain ⟨ad, A0, c0, e, hx, hl0, hi0⟩ := at_L1 HP.out j (by omega) (by omega)
  cases e
  obtain ⟨ad2, e2, hx2⟩ := Kd.at_int hi0 ((rd_L1 ps j).length - 1) (by omega) (by omega)
  cases e2
  have hx4 : w.cell? (ad2.add ((rd_L1 ps j).length - 1)) = some (.int .i64 (topOf ps j)) := by
    rw [show (rd_L1 ps j).length - 1 = (((rd_L1 ps j).length : Int) - 1).toNat from by omega]; exact hx2
  clear hx2 hi0
  have HE := Aside0.mk (show topAt ps j = topOf ps j by rw [topAt, if_neg h0, if_neg h1])
  go_enter Try.func20, Try.ntmps20
  go_wp2_with fail
  go_ret
  exact ⟨reti HE.out.symm, rfl⟩
end Go.Proofs.Ytahjlbbliihgpaa.G
