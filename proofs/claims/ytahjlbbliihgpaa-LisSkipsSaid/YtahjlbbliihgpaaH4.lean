import Derived.Test.YtahjlbbliihgpaaH3
namespace Go.Proofs.Ytahjlbbliihgpaa.G
open Go.RowKit Go.Proofs.YtahjlbbliihgpaaW.PrintWords Go.Proofs.YtahjlbbliihgpaaW.PrintLast Go.Proofs.YtahjlbbliihgpaaW.PrintMore
set_option linter.unusedVariables false
set_option linter.unusedSimpArgs false

/-- What lay ahead: a place of the pile ahead, or -1. -/
def AInv (ps : List (List Int)) (ah : List Int) (i : Nat) : Prop :=
  ∀ (k : Nat) (x : Int), x ∈ ps.getD k [] → 0 ≤ x ∧ x < i ∧ (k = 0 → rd ah x = -1) ∧ ∀ k', k = k' + 1 → rd ah x ∈ ps.getD k' [] ∧ rd ah x < x

theorem rd_set {xs : List Int} {i : Nat} {x : Int} {j : Int} (hj : 0 ≤ j) : rd (xs.set i x) j = if j = i then (if i < xs.length then x else 0) else rd xs j := by
  unfold rd
  simp only [List.getD_eq_getElem?_getD, List.getElem?_set]
  by_cases h : j = (i : Int)
  · subst h
    simp
    split
    · rfl
    · rfl
  · rw [if_neg (by omega), if_neg h]

theorem getD_stepped (ps : List (List Int)) (k : Nat) (hk : k ≤ ps.length) (x : Int) (j : Nat) :
    (((if (k : Int) = ps.length then ps ++ [[]] else ps).set k ((if (k : Int) = ps.length then ps ++ [[]] else ps).getD k [] ++ [x])).getD j []) = if j = k then ps.getD k [] ++ [x] else ps.getD j [] := by
  have e : ∀ j, (if (k : Int) = ps.length then ps ++ [[]] else ps).getD j [] = ps.getD j [] := by
    intro j
    split
    · simp only [List.getD_eq_getElem?_getD]
      by_cases h : j < ps.length
      · rw [List.getElem?_append_left h]
      · rw [List.getElem?_append_right (by omega), List.getElem?_eq_none (show ps.length ≤ j by omega)]
        by_cases h2 : j - ps.length = 0
        · rw [h2]; rfl
        · rw [List.getElem?_eq_none (by simp; omega)]
    · rfl
  have hl : k < (if (k : Int) = ps.length then ps ++ [[]] else ps).length := by split <;> (try simp only [List.length_append, List.length_cons, List.length_nil]) <;> omega
  rw [e k]
  simp only [List.getD_eq_getElem?_getD, List.getElem?_set]
  by_cases h : j = k
  · subst h; simp [hl]
  · rw [if_neg (by omega), if_neg h]
    have := e j
    simp only [List.getD_eq_getElem?_getD] at this
    exact this

theorem rd_last_mem (q : List Int) (h : 0 < q.length) : rd q (q.length - 1) ∈ q := by
  unfold rd
  rw [List.getD_eq_getElem?_getD, List.getElem?_eq_getElem (by omega)]
  exact List.getElem_mem _

theorem topAt_mem {l : List Int} {i : Nat} {ps : List (List Int)} {ah : List Int} (h : PInv l i ps ah) (k : Nat) (hk : k < ps.length) : topAt ps k ∈ ps.getD k [] ∧ 0 ≤ topAt ps k ∧ topAt ps k < i := by
  have hm : ps.getD k [] ∈ ps := by rw [List.getD_eq_getElem?_getD, List.getElem?_eq_getElem hk]; exact List.getElem_mem _
  obtain ⟨a, b, c⟩ := h.pile _ hm
  have e : topAt ps k = rd (ps.getD k []) ((ps.getD k []).length - 1) := by
    unfold topAt topOf rd_L1
    rw [if_neg (by omega), if_neg (by omega)]
    rfl
  have ht : topAt ps k ∈ ps.getD k [] := by
    rw [e]; exact rd_last_mem _ a
  exact ⟨ht, c _ ht⟩

theorem AInv.step {l : List Int} {i : Nat} {st : List (List Int) × List Int} (hp : PInv l i st.1 st.2) (h : AInv st.1 st.2 i) (hi : i < l.length) : AInv (playStep l st i).1 (playStep l st i).2 (i + 1) := by
  unfold playStep
  split
  · intro k x hx
    obtain ⟨a, b, c, d⟩ := h k x hx
    exact ⟨a, by omega, c, d⟩
  · have hk := findL_range l st.1 (rd l i) st.1.length 0 st.1.length (by omega)
    generalize findL st.1.length l st.1 (rd l i) 0 st.1.length = kk at hk
    obtain ⟨k, rfl⟩ := Int.eq_ofNat_of_zero_le hk.1
    intro j x hx
    simp only [Int.toNat_natCast] at hx ⊢
    have hkl : k ≤ st.1.length := by omega
    rw [getD_stepped _ _ hkl] at hx
    have hsub : ∀ j' y, y ∈ st.1.getD j' [] → y ∈ (((if (k : Int) = st.1.length then st.1 ++ [[]] else st.1).set k ((if (k : Int) = st.1.length then st.1 ++ [[]] else st.1).getD k [] ++ [(i : Int)])).getD j' []) := by
      intro j' y hy
      rw [getD_stepped _ _ hkl]
      split
      · rename_i e; rw [← e]; exact List.mem_append_left _ hy
      · exact hy
    have old : ∀ j' y, y ∈ st.1.getD j' [] → 0 ≤ y ∧ y < ((i + 1 : Nat) : Int) ∧ (j' = 0 → rd (st.2.set i (topAt st.1 (k - 1))) y = -1) ∧ ∀ k', j' = k' + 1 → rd (st.2.set i (topAt st.1 (k - 1))) y ∈ (((if (k : Int) = st.1.length then st.1 ++ [[]] else st.1).set k ((if (k : Int) = st.1.length then st.1 ++ [[]] else st.1).getD k [] ++ [(i : Int)])).getD k' []) ∧ rd (st.2.set i (topAt st.1 (k - 1))) y < y := by
      intro j' y hy
      obtain ⟨a, b, c, d⟩ := h j' y hy
      have hne : rd (st.2.set i (topAt st.1 (k - 1))) y = rd st.2 y := by rw [rd_set a, if_neg (by omega)]
      rw [hne]
      exact ⟨a, by omega, c, fun k' e => ⟨hsub _ _ (d k' e).1, (d k' e).2⟩⟩
    by_cases hjk : j = k
    · subst hjk
      rw [if_pos rfl] at hx
      rcases List.mem_append.1 hx with hx | hx
      · exact old j x hx
      · obtain rfl : x = i := by simpa using hx
        have he : rd (st.2.set i (topAt st.1 ((j : Int) - 1))) i = topAt st.1 (j - 1) := by
          rw [rd_set (by omega), if_pos rfl, if_pos (by rw [hp.ahl]; exact hi)]
        rw [he]
        refine ⟨by omega, by omega, fun h0 => ?_, fun k' e => ?_⟩
        · subst h0; rfl
        · subst e
          have e2 : ((k' + 1 : Nat) : Int) - 1 = (k' : Int) := by omega
          rw [e2]
          obtain ⟨a, b, c⟩ := topAt_mem hp k' (by omega)
          exact ⟨hsub _ _ a, by omega⟩
    · rw [if_neg hjk] at hx
      exact old j x hx

theorem playN_ainv (l : List Int) : ∀ i, i ≤ l.length → AInv (playN l i).1 (playN l i).2 i
  | 0, _ => fun k x hx => by simp [playN] at hx
  | i + 1, h => AInv.step (playN_inv l i (by omega)) (playN_ainv l i (by omega)) (by omega)

/-- The chain that ends at i. -/
def chainOf (ah : List Int) : Nat → Int → List Int
  | 0, _ => []
  | n + 1, i => chainOf ah n (rd ah i) ++ [i]
theorem chainOf_length (ah : List Int) : ∀ n i, (chainOf ah n i).length = n
  | 0, _ => rfl
  | n + 1, i => by simp [chainOf, chainOf_length ah n]

def pilesOf (l : List Int) : List (List Int) := (playN l l.length).1
def longestOf (l : List Int) : List Int := chainOf (playN l l.length).2 (pilesOf l).length (topAt (pilesOf l) ((pilesOf l).length - 1))
/-- Ends: pile by pile. -/
def endsIn (k : Int) : List Int → List Int → List Int
  | out, [] => out
  | out, x :: xs => endsIn k (out.set x.toNat (k + 1)) xs
def endsFrom : Nat → List Int → List (List Int) → List Int
  | _, out, [] => out
  | k, out, p :: ps => endsFrom (k + 1) (endsIn k out p) ps
def endsOf (l : List Int) : List Int := endsFrom 0 (List.replicate l.length 0) (pilesOf l)

def lis_Length.f (l0 : List Int) : Option Int := if l0.length ≤ 1000000 then some (pilesOf l0).length else none
def lis_Piles.f (l0 : List Int) : Option (List (List Int)) := if l0.length ≤ 1000000 then some (pilesOf l0) else none
def lis_Longest.f (l0 : List Int) : Option (List Int) := if l0.length ≤ 1000000 then some (longestOf l0) else none
def lis_Ends.f (l0 : List Int) : Option (List Int) := if l0.length ≤ 1000000 then some (endsOf l0) else none

set_option maxHeartbeats 2000000 in
theorem lis_Length.calls (A0 : Option Addr) (c0 : Nat) (l0 : List Int) (r : Int) (w : World) (hr0 : Kd.C (Kd.int .i64) w A0 l0.length l0) (hc0 : l0.length ≤ c0) (h : lis_Length.f l0 = some r) :
    Calls Try.prog 9 #[.slice A0 l0.length c0] w fun e w' => e = .returned (.int .i64 r) ∧ Below w.heap.size w w' := by
  obtain ⟨hl, rfl⟩ : l0.length ≤ 1000000 ∧ r = (pilesOf l0).length := by
    unfold lis_Length.f at h; split at h
    · exact ⟨by assumption, (Option.some.inj h).symm⟩
    · cases h
  have HP := Aside0.mk (play_calls A0 c0 l0 w hr0 hc0 hl)
  clear hr0 h
  have hu32 := Try.underlying32
  go_enter Try.func9, Try.ntmps9
  go_wp2_with ((go_at_call 19; refine HP.out.mono ?_; rintro e w' ⟨g, rfl, hG⟩; obtain ⟨PV, AV, hg, _, hS, hA, hB⟩ := hG; obtain ⟨Ap, cp, rfl⟩ := Kd.S_slice hS; have hc0 := (blk_cell hg 0).trans rfl; have HB := Aside0.mk hB; clear hg hS hA hB))
  go_ret
  exact ⟨rfl, HB.out⟩

set_option maxHeartbeats 2000000 in
theorem lis_Piles.calls (A0 : Option Addr) (c0 : Nat) (l0 : List Int) (r : List (List Int)) (w : World) (hr0 : Kd.C (Kd.int .i64) w A0 l0.length l0) (hc0 : l0.length ≤ c0) (h : lis_Piles.f l0 = some r) :
    Calls Try.prog 16 #[.slice A0 l0.length c0] w fun e w' => ∃ v0_ : Value, e = .returned (v0_) ∧ Kd.S (Kd.slice 3 (Kd.int .i64)) 22 w' w.heap.size (fun _ => True) v0_ r ∧ Below w.heap.size w w' := by
  obtain ⟨hl, rfl⟩ : l0.length ≤ 1000000 ∧ r = pilesOf l0 := by
    unfold lis_Piles.f at h; split at h
    · exact ⟨by assumption, (Option.some.inj h).symm⟩
    · cases h
  have HP := Aside0.mk (play_calls A0 c0 l0 w hr0 hc0 hl)
  clear hr0 h
  have hu32 := Try.underlying32
  go_enter Try.func16, Try.ntmps16
  go_wp2_with ((go_at_call 19; refine HP.out.mono ?_; rintro e w' ⟨g, rfl, hG⟩; obtain ⟨PV, AV, hg, _, hS, hA, hB⟩ := hG; obtain ⟨Ap, cp, rfl⟩ := Kd.S_slice hS; have hc0 := (blk_cell hg 0).trans rfl; have HB := Aside0.mk hB; have HS := Aside0.mk hS; clear hg hS hA hB))
  go_ret
  exact ⟨_, rfl, Kd.S_mono HS.out (fun _ _ => trivial), HB.out⟩
end Go.Proofs.Ytahjlbbliihgpaa.G
