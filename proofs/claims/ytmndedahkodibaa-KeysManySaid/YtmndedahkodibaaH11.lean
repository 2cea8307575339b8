/- The law KeysMany walked: it returns true. -/
import Derived.Test.YtmndedahkodibaaH9
import Derived.Test.YtmndedahkodibaaH10
namespace Go.Proofs.Ytmndedahkodibaa.G
open Go.RowKit Go.Proofs.YtmndedahkodibaaW.PrintWords Go.Proofs.YtmndedahkodibaaW.PrintLast Go.Proofs.YtmndedahkodibaaW.PrintMore
set_option linter.unusedVariables false
set_option linter.unusedSimpArgs false

def readB (s : ByteArray) : Nat := s.data.toList.foldl (fun a c => a * 10 + (c.toNat - 48)) 0
def chkB (n : Nat) : Bool := match tendrilref02_Decimal.f 10 (n : Int) with
  | some s => decide (s.size ≤ 10) && (readB s == n)
  | none => false
theorem chk_all : (List.range 700).all chkB = true := by kernel_rfl
theorem dec_of (n : Nat) (h : n < 700) : ∃ s, tendrilref02_Decimal.f 10 (n : Int) = some s ∧ s.size ≤ 10 ∧ readB s = n := by
  have hc := List.all_eq_true.1 chk_all n (List.mem_range.2 h)
  unfold chkB at hc
  cases he : tendrilref02_Decimal.f 10 (n : Int) with
  | none => rw [he] at hc; cases hc
  | some s =>
    rw [he] at hc
    simp only [Bool.and_eq_true, decide_eq_true_eq, beq_iff_eq] at hc
    exact ⟨s, rfl, hc.1, hc.2⟩
def decB (n : Nat) : ByteArray := (tendrilref02_Decimal.f 10 (n : Int)).getD ⟨#[]⟩
theorem dec_f (n : Nat) (h : n < 700) : tendrilref02_Decimal.f 10 (n : Int) = some (decB n) ∧ (decB n).size ≤ 10 ∧ readB (decB n) = n := by
  obtain ⟨s, h1, h2, h3⟩ := dec_of n h
  unfold decB
  rw [h1]
  exact ⟨rfl, h2, h3⟩
/-- The label of the number i. -/
def kk (i : Nat) : S28 := ⟨⟨#[116]⟩, decB (i / 3), ((i % 3 : Nat) : Int)⟩
theorem kk_inj {i j : Nat} (hi : i < 2100) (hj : j < 2100) (h : kk i = kk j) : i = j := by
  have h1 : decB (i / 3) = decB (j / 3) := congrArg S28.f1 h
  have h2 : ((i % 3 : Nat) : Int) = ((j % 3 : Nat) : Int) := congrArg S28.f2 h
  have a := (dec_f (i / 3) (by omega)).2.2
  have b := (dec_f (j / 3) (by omega)).2.2
  rw [h1, b] at a
  omega
theorem kk_fit (i : Nat) (hi : i < 2100) : Fit (kk i) := ⟨by show (1 : Nat) ≤ _; decide, by have := (dec_f (i / 3) (by omega)).2.1; show (decB (i / 3)).size ≤ _; omega⟩
noncomputable def putM : Nat → S28 → Option Int
  | 0 => fun _ => none
  | i + 1 => upd (putM i) (kk i) (some i)
noncomputable def dropM (n step : Nat) : Nat → S28 → Option Int
  | 0 => putM n
  | q + 1 => upd (dropM n step q) (kk (q * step)) none
theorem putM_no (i j : Nat) (h : i ≤ j) (hj : j < 2100) : putM i (kk j) = none := by
  induction i with
  | zero => rfl
  | succ i ih =>
    rw [putM, upd_other _ _ (fun e => by have := kk_inj hj (by omega) e; omega)]
    exact ih (by omega)
theorem putM_of (i j : Nat) (h : j < i) (hi : i ≤ 2100) : putM i (kk j) = some (j : Int) := by
  induction i with
  | zero => omega
  | succ i ih =>
    rw [putM]
    by_cases e : j = i
    · subst e; rw [upd_same]
    · rw [upd_other _ _ (fun h2 => e (kk_inj (by omega) (by omega) h2))]
      exact ih (by omega) (by omega)
theorem dropM_of (n step q j : Nat) (hq : (q - 1) * step < 2100) (hj : j < n) (hn : n ≤ 2100) : dropM n step q (kk j) = if ∃ r, r < q ∧ j = r * step then none else some (j : Int) := by
  classical
  induction q with
  | zero =>
    rw [dropM, putM_of n j hj hn, if_neg]
    rintro ⟨r, h, _⟩
    omega
  | succ q ih =>
    have hq1 : q * step < 2100 := by simpa using hq
    have hq2 : (q - 1) * step < 2100 := Nat.lt_of_le_of_lt (Nat.mul_le_mul_right step (Nat.sub_le q 1)) hq1
    rw [dropM]
    by_cases e : j = q * step
    · rw [← e, upd_same, if_pos ⟨q, by omega, e⟩]
    · rw [upd_other _ _ (fun h2 => e (kk_inj (by omega) hq1 h2)), ih hq2]
      by_cases h : ∃ r, r < q ∧ j = r * step
      · rw [if_pos h, if_pos (by obtain ⟨r, a, b⟩ := h; exact ⟨r, by omega, b⟩)]
      · rw [if_neg h, if_neg]
        rintro ⟨r, a, b⟩
        by_cases e2 : r = q
        · exact e (e2 ▸ b)
        · exact h ⟨r, by omega, b⟩
end Go.Proofs.Ytmndedahkodibaa.G
