/- For any list of at most 300 members the piles are as specified: each place lies on one pile, places rise and members do not, no pile is empty, and there are as many piles as Length and Longest tell; and the fixed example holds. -/
import Derived.Test.YtahjlbbliihgpaaGx5
import Derived.Test.YtahjlbbliihgpaaH8
import Derived.Test.YtahjlbbliihgpaaPureLisAny
namespace Go.Proofs.Ytahjlbbliihgpaa.Pure
open Go.RowKit Go.Proofs.Ytahjlbbliihgpaa.G Go.Proofs.YtahjlbbliihgpaaW.PrintWords Go.Proofs.YtahjlbbliihgpaaW.PrintLast

/-- Is member j not negative? -/
def nn (l : List Int) (j : Nat) : Bool := decide (0 ≤ rd l j)
/-- How many members are not negative, from place i on. -/
def cnt (l : List Int) : Int := ((List.range l.length).countP (nn l) : Nat)

theorem has_l0 (xs : List Int) (x : Int) (hx : x ∉ xs) (hn : xs.length ≤ 1000000) (d : Nat) : ∀ (k : Nat) (i : Int), 0 ≤ i → (xs.length : Int) - i = d → d < k → tendrilplain_Has.l0 k xs x xs.length i = some false := by
  induction d with
  | zero =>
    intro k i h0 hd hk
    obtain ⟨k, rfl⟩ : ∃ m, k = m + 1 := ⟨k - 1, by omega⟩
    rw [tendrilplain_Has.l0, if_neg (by omega)]
  | succ d ih =>
    intro k i h0 hd hk
    obtain ⟨k, rfl⟩ : ∃ m, k = m + 1 := ⟨k - 1, by omega⟩
    have hne : rd xs i ≠ x := fun h => hx (by
      rw [← h]; unfold rd
      rw [List.getD_eq_getElem?_getD, List.getElem?_eq_getElem (by omega)]
      exact List.getElem_mem _)
    rw [tendrilplain_Has.l0, if_pos (by omega), if_pos h0, if_pos (by omega), if_neg hne, w1 h0 (by omega)]
    exact ih k (i + 1) (by omega) (by omega) (by omega)
theorem has_not (xs : List Int) (x : Int) (hx : x ∉ xs) (hn : xs.length ≤ 1000000) (k : Nat) (hk : xs.length < k) : tendrilplain_Has.f k xs x = some false :=
  has_l0 xs x hx hn xs.length k 0 (by omega) (by omega) hk

theorem count_l0 (l : List Int) (hn : l.length ≤ 1000000) (d : Nat) : ∀ (k : Nat) (i : Nat) (n : Int), (l.length : Int) - i = d → d < k → n = ((List.range i).countP (nn l) : Nat) → i ≤ l.length →
    tendrillaw06_count.l0 k l n l.length i = some (cnt l) := by
  induction d with
  | zero =>
    intro k i n hd hk he hi
    obtain ⟨k, rfl⟩ : ∃ m, k = m + 1 := ⟨k - 1, by omega⟩
    obtain rfl : i = l.length := by omega
    rw [tendrillaw06_count.l0, if_neg (by omega), he]
    rfl
  | succ d ih =>
    intro k i n hd hk he hi
    obtain ⟨k, rfl⟩ : ∃ m, k = m + 1 := ⟨k - 1, by omega⟩
    have hle : (List.range i).countP (nn l) ≤ i := by
      have := List.countP_le_length (p := nn l) (l := List.range i)
      simpa using this
    rw [tendrillaw06_count.l0, if_pos (by omega), if_pos (by omega), if_pos (by omega), w1 (i := (i : Int)) (by omega) (by omega)]
    by_cases c : rd l i ≥ 0
    · rw [if_pos c, w1 (i := n) (by omega) (by omega), show (i : Int) + 1 = ((i + 1 : Nat) : Int) by omega]
      refine ih k (i + 1) _ (by omega) (by omega) ?_ (by omega)
      rw [List.range_succ, List.countP_append, he]
      simp [nn, c]
    · rw [if_neg c, show (i : Int) + 1 = ((i + 1 : Nat) : Int) by omega]
      refine ih k (i + 1) _ (by omega) (by omega) ?_ (by omega)
      rw [List.range_succ, List.countP_append, he]
      simp [nn, c]
theorem count_f (l : List Int) (hn : l.length ≤ 1000000) (k : Nat) (hk : l.length < k) : tendrillaw06_count.f k l = some (cnt l) :=
  count_l0 l hn l.length k 0 0 (by omega) hk (by simp) (by omega)

/-- Together the piles have as many places as are not skipped. -/
theorem total_step {l : List Int} {i : Nat} {st : List (List Int) × List Int} : ((playStep l st i).1.map List.length).sum = (st.1.map List.length).sum + if 0 ≤ rd l i then 1 else 0 := by
  unfold playStep
  by_cases hneg : rd l i < 0
  · rw [if_pos hneg, if_neg (by omega)]; rfl
  · rw [if_neg hneg, if_pos (by omega)]
    have hk := findL_range l st.1 (rd l i) st.1.length 0 st.1.length (by omega)
    generalize findL st.1.length l st.1 (rd l i) 0 st.1.length = kk at hk
    obtain ⟨k, rfl⟩ := Int.eq_ofNat_of_zero_le hk.1
    simp only [Int.toNat_natCast]
    have hsum : ∀ (ps : List (List Int)) (k : Nat), k < ps.length → ((ps.set k (ps.getD k [] ++ [(i : Int)])).map List.length).sum = (ps.map List.length).sum + 1 := by
      intro ps
      induction ps with
      | nil => intro k hk; simp at hk
      | cons p ps ih =>
        intro k hk
        cases k with
        | zero => simp; omega
        | succ k =>
          have := ih k (by simpa using hk)
          simp only [List.set_cons_succ, List.map_cons, List.sum_cons, List.getD_cons_succ]
          omega
    by_cases hc : (k : Int) = st.1.length
    · rw [if_pos hc, hsum _ _ (by simp; omega)]
      simp
    · rw [if_neg hc, hsum _ _ (by omega)]
theorem total_n (l : List Int) : ∀ i, ((playN l i).1.map List.length).sum = (List.range i).countP (nn l)
  | 0 => rfl
  | i + 1 => by
    rw [show playN l (i + 1) = playStep l (playN l i) i from rfl, total_step, total_n l i, List.range_succ, List.countP_append]
    simp only [List.countP_cons, List.countP_nil, nn, decide_eq_true_eq]
    omega
theorem total (l : List Int) : (((pilesOf l).map List.length).sum : Nat) = cnt l := by
  unfold cnt pilesOf
  rw [total_n]

/-- The places of the piles ahead. -/
def flat (P : List (List Int)) (q : Nat) : List Int := (P.take q).flatten
theorem flat_succ {P : List (List Int)} {q : Nat} (h : q < P.length) : flat P (q + 1) = flat P q ++ P.getD q [] := by
  unfold flat
  rw [List.take_succ_eq_append_getElem h, List.flatten_append]
  simp [List.getD_eq_getElem?_getD, List.getElem?_eq_getElem h]
theorem flat_mem {P : List (List Int)} {q : Nat} {x : Int} (h : x ∈ flat P q) : ∃ j, j < q ∧ x ∈ P.getD j [] := by
  unfold flat at h
  obtain ⟨p, hp, hx⟩ := List.mem_flatten.1 h
  obtain ⟨j, hj, rfl⟩ := List.getElem_of_mem hp
  rw [List.length_take] at hj
  refine ⟨j, by omega, ?_⟩
  rw [List.getElem_take] at hx
  rw [List.getD_eq_getElem?_getD, List.getElem?_eq_getElem (by omega)]
  exact hx
theorem flat_len_le (l : List Int) : ∀ q, q ≤ (pilesOf l).length → (flat (pilesOf l) q).length ≤ l.length := by
  intro q hq
  have h1 : (flat (pilesOf l) q).length ≤ ((pilesOf l).map List.length).sum := by
    unfold flat
    rw [List.length_flatten]
    have e : (pilesOf l).map List.length = ((pilesOf l).take q).map List.length ++ ((pilesOf l).drop q).map List.length := by rw [← List.map_append, List.take_append_drop]
    rw [e, List.sum_append]
    omega
  have h2 := total l
  have h3 : cnt l ≤ l.length := by
    unfold cnt
    have := List.countP_le_length (p := nn l) (l := List.range l.length)
    rw [List.length_range] at this
    omega
  omega
theorem flat_all (l : List Int) : ((flat (pilesOf l) (pilesOf l).length).length : Int) = cnt l := by
  rw [← total l]
  unfold flat
  rw [List.take_of_length_le (Nat.le_refl _), List.length_flatten]

theorem piles_l1 (l : List Int) (hn : l.length ≤ 300) (q : Nat) (hq : q < (pilesOf l).length) (d : Nat) : ∀ (k : Nat) (j : Nat), (((pilesOf l).getD q []).length : Int) - j = d → 2 * d + l.length + 50 < k →
    ∃ m, 2 * d + m + 1 = k ∧ tendrillaw06_LisPiles.l1 k l (pilesOf l) (endsOf l) ((flat (pilesOf l) q ++ ((pilesOf l).getD q []).take j).length : Nat) (flat (pilesOf l) q ++ ((pilesOf l).getD q []).take j) q (pilesOf l).length q ((pilesOf l).getD q []).length j =
      tendrillaw06_LisPiles.l0 m l (pilesOf l) (endsOf l) ((flat (pilesOf l) (q + 1)).length : Nat) (flat (pilesOf l) (q + 1)) (pilesOf l).length ((q + 1 : Nat) : Int) := by
  have hel := ends_len l
  have hps := (pat l).inv.psl
  have hfl := flat_len_le l (q + 1) (by omega)
  have hfs := flat_succ hq
  obtain ⟨p, hp⟩ : ∃ p, (pilesOf l).getD q [] = p := ⟨_, rfl⟩
  have hL1 : rd_L1 (pilesOf l) (q : Int) = p := by unfold rd_L1; rw [Int.toNat_natCast]; exact hp
  have hne := (pat l).nonempty hq
  have hdown := (pat l).down q
  rw [hp] at hfs hne hdown ⊢
  have hfl2 : (flat (pilesOf l) q).length + p.length ≤ l.length := by rw [hfs, List.length_append] at hfl; exact hfl
  induction d with
  | zero =>
    intro k j hd hk
    obtain ⟨k, rfl⟩ : ∃ m, k = m + 1 := ⟨k - 1, by omega⟩
    refine ⟨k, by omega, ?_⟩
    rw [tendrillaw06_LisPiles.l1, if_neg (by omega), if_pos (by omega), if_pos (by omega), hL1, if_neg (by omega), w1 (by omega) (by omega), List.take_of_length_le (by omega), ← hfs]
    rfl
  | succ d ih =>
    intro k j hd hk
    obtain ⟨k, rfl⟩ : ∃ m, k = m + 2 := ⟨k - 2, by omega⟩
    have hjl : j < p.length := by omega
    obtain ⟨x, hx⟩ : ∃ x, rd p j = x := ⟨_, rfl⟩
    have hxj : p[j] = x := by rw [← hx]; unfold rd; rw [List.getD_eq_getElem?_getD, Int.toNat_natCast, List.getElem?_eq_getElem hjl]; rfl
    have hxm : x ∈ (pilesOf l).getD q [] := by rw [hp, ← hxj]; exact List.getElem_mem _
    have hxr := (pat l).range hxm
    have hx0 := (pat l).pos q x hxm
    have hnot : x ∉ flat (pilesOf l) q ++ p.take j := by
      intro h
      rcases List.mem_append.1 h with h | h
      · obtain ⟨i, hi, hm⟩ := flat_mem h
        have := (pat l).one i q x hm hxm
        omega
      · obtain ⟨i, hi, e⟩ := List.getElem_of_mem h
        rw [List.length_take] at hi
        rw [List.getElem_take] at e
        have := (List.pairwise_iff_getElem.1 hdown i j (by omega) hjl (by omega)).1
        omega
    have hml : (flat (pilesOf l) q ++ p.take j).length ≤ l.length := by rw [List.length_append, List.length_take]; omega
    have htk : flat (pilesOf l) q ++ p.take j ++ [x] = flat (pilesOf l) q ++ p.take (j + 1) := by
      rw [List.take_succ_eq_append_getElem hjl, hxj, List.append_assoc]
    have hlen1 : ((flat (pilesOf l) q ++ p.take j).length : Int) + 1 = ((flat (pilesOf l) q ++ p.take (j + 1)).length : Nat) := by
      have := congrArg List.length htk
      rw [List.length_append] at this
      simp only [List.length_cons, List.length_nil] at this
      omega
    obtain ⟨m, hm1, hm2⟩ := ih k (j + 1) (by omega) (by omega)
    refine ⟨m, by omega, ?_⟩
    rw [tendrillaw06_LisPiles.l1, if_pos (by omega), if_pos (by omega), if_pos (by omega), if_pos (by omega), hL1, if_pos (by omega), hx, if_neg (by omega), if_neg (by omega), if_pos hxr.1, if_pos hxr.2, if_neg (by omega),
      has_not _ _ hnot (by omega) (k + 1) (by omega)]
    simp only [Option.bind_some]
    rw [if_neg (by simp), if_pos (by omega), if_pos (by omega), ends_mem hxm, w1 (by omega) (by omega), tendrillaw06_LisPiles.j2, if_neg (by simp)]
    have hend : tendrillaw06_LisPiles.l1 k l (pilesOf l) (endsOf l) (wrap64 (((flat (pilesOf l) q ++ p.take j).length : Int) + 1)) (flat (pilesOf l) q ++ p.take j ++ [x]) q (pilesOf l).length q p.length (wrap64 ((j : Int) + 1)) =
        tendrillaw06_LisPiles.l0 m l (pilesOf l) (endsOf l) ((flat (pilesOf l) (q + 1)).length : Nat) (flat (pilesOf l) (q + 1)) (pilesOf l).length ((q + 1 : Nat) : Int) := by
      rw [w1 (i := (j : Int)) (by omega) (by omega), w1 (by omega) (by omega), htk, hlen1]
      exact hm2
    by_cases c : (j : Int) > 0
    · have e1 : (j : Int) - 1 = ((j - 1 : Nat) : Int) := by omega
      obtain ⟨y, hy⟩ : ∃ y, rd p ((j - 1 : Nat) : Int) = y := ⟨_, rfl⟩
      have hyj : p[j - 1] = y := by rw [← hy]; unfold rd; rw [List.getD_eq_getElem?_getD, Int.toNat_natCast, List.getElem?_eq_getElem (by omega)]; rfl
      have hym : y ∈ (pilesOf l).getD q [] := by rw [hp, ← hyj]; exact List.getElem_mem _
      have hyr := (pat l).range hym
      have hpw := List.pairwise_iff_getElem.1 hdown (j - 1) j (by omega) hjl (by omega)
      rw [hyj, hxj] at hpw
      rw [if_pos c, if_pos (by omega), if_pos (by omega), w0 c (by omega), if_pos (by omega), if_pos (by rw [hL1]; omega), hL1, e1, hy, if_neg (by omega), if_pos hyr.1, if_pos hyr.2, if_pos hxr.1, if_pos hxr.2, if_neg (by omega), if_pos (by omega)]
      exact hend
    · rw [if_neg c, if_pos (by omega)]
      exact hend

theorem piles_l0 (l : List Int) (hn : l.length ≤ 300) (d : Nat) : ∀ (k : Nat) (q : Nat), ((pilesOf l).length : Int) - q = d → d * (2 * l.length + 3) + l.length + 60 < k →
    tendrillaw06_LisPiles.l0 k l (pilesOf l) (endsOf l) ((flat (pilesOf l) q).length : Nat) (flat (pilesOf l) q) (pilesOf l).length q = some true := by
  have hll := longest_len l
  induction d with
  | zero =>
    intro k q hd hk
    obtain ⟨k, rfl⟩ : ∃ m, k = m + 1 := ⟨k - 1, by omega⟩
    obtain rfl : q = (pilesOf l).length := by omega
    have hl : l.length ≤ 1000000 := by omega
    have e1 : lis_Longest.f l = some (longestOf l) := by unfold lis_Longest.f; rw [if_pos hl]
    have e3 : lis_Length.f l = some ((pilesOf l).length : Int) := by unfold lis_Length.f; rw [if_pos hl]
    have hs : tendrillaw06_same.f k = some true := at_rounds tendrillaw06_same.mono (by omega) same_true
    rw [tendrillaw06_LisPiles.l0, if_neg (by omega), count_f l hl k (by omega)]
    simp only [Option.bind_some]
    rw [if_pos (flat_all l), e1]
    simp only [Option.bind_some]
    rw [if_pos (by omega), e3]
    simp only [Option.bind_some]
    rw [if_pos trivial, hs]
    rfl
  | succ d ih =>
    intro k q hd hk
    have hmul : (d + 1) * (2 * l.length + 3) = d * (2 * l.length + 3) + 2 * l.length + 3 := by rw [Nat.succ_mul]; omega
    obtain ⟨k, rfl⟩ : ∃ m, k = m + 1 := ⟨k - 1, by omega⟩
    have hq : q < (pilesOf l).length := by omega
    have hfl := flat_len_le l (q + 1) (by omega)
    rw [flat_succ hq, List.length_append] at hfl
    have hL1 : rd_L1 (pilesOf l) (q : Int) = (pilesOf l).getD q [] := by unfold rd_L1; rw [Int.toNat_natCast]
    rw [tendrillaw06_LisPiles.l0, if_pos (by omega), if_pos (by omega), if_pos (by omega), hL1]
    obtain ⟨m, h1, h2⟩ := piles_l1 l hn q hq ((pilesOf l).getD q []).length k 0 (by omega) (by omega)
    rw [List.take_zero, List.append_nil] at h2
    rw [show (0 : Int) = ((0 : Nat) : Int) from rfl, h2]
    exact ih m (q + 1) (by omega) (by omega)

theorem LisPiles : tendrillaw06_LisPiles.Pure := by
  intro l h1 h2 h3
  have hps := (pat l).inv.psl
  obtain ⟨K, hK⟩ : ∃ K, K = l.length * (2 * l.length + 3) + l.length + 70 := ⟨_, rfl⟩
  refine ⟨K, ?_⟩
  unfold tendrillaw06_LisPiles.f
  by_cases c1 : (l.length : Int) > 300
  · rw [if_pos c1, at_rounds tendrillaw06_same.mono (show 20 ≤ K by omega) same_true]; rfl
  rw [if_neg c1]
  have hl : l.length ≤ 1000000 := by omega
  have e1 : lis_Piles.f l = some (pilesOf l) := by unfold lis_Piles.f; rw [if_pos hl]
  have e2 : lis_Ends.f l = some (endsOf l) := by unfold lis_Ends.f; rw [if_pos hl]
  rw [e1]; simp only [Option.bind_some]
  rw [e2]; simp only [Option.bind_some]
  have := Nat.mul_le_mul_right (2 * l.length + 3) hps
  exact piles_l0 l (by omega) (pilesOf l).length K 0 (by omega) (by omega)
end Go.Proofs.Ytahjlbbliihgpaa.Pure
