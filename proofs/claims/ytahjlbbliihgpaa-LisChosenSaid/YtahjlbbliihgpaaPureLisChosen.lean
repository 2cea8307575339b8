/- For any list of at most 120 members Ends, Length and Longest are the document's answers (the reference's), Longest is an increasing choice, and has Length members; and the fixed example holds. -/
import Derived.Test.YtahjlbbliihgpaaGx4
import Derived.Test.YtahjlbbliihgpaaH8
import Derived.Test.YtahjlbbliihgpaaPureLisAny
namespace Go.Proofs.Ytahjlbbliihgpaa.Pure
open Go.RowKit Go.Proofs.Ytahjlbbliihgpaa.G Go.Proofs.YtahjlbbliihgpaaW.PrintWords Go.Proofs.YtahjlbbliihgpaaW.PrintLast

theorem ints_l0 (a : List Int) (hn : a.length ≤ 1000000) (d : Nat) : ∀ (k : Nat) (i : Int), 0 ≤ i → (a.length : Int) - i = d → d < k → tendrilplain_Ints.l0 k a a a.length i = some true := by
  induction d with
  | zero =>
    intro k i h0 hd hk
    obtain ⟨k, rfl⟩ : ∃ m, k = m + 1 := ⟨k - 1, by omega⟩
    rw [tendrilplain_Ints.l0, if_neg (by omega)]
  | succ d ih =>
    intro k i h0 hd hk
    obtain ⟨k, rfl⟩ : ∃ m, k = m + 1 := ⟨k - 1, by omega⟩
    rw [tendrilplain_Ints.l0, if_pos (by omega), if_pos h0, if_pos (by omega), if_pos (by omega), if_pos rfl, w1 h0 (by omega)]
    exact ih k (i + 1) (by omega) (by omega) (by omega)
theorem ints_same (a : List Int) (hn : a.length ≤ 1000000) (k : Nat) (hk : a.length < k) : tendrilplain_Ints.f k a a = some true := by
  unfold tendrilplain_Ints.f
  rw [if_pos rfl]
  exact ints_l0 a hn a.length k 0 (by omega) (by omega) hk

theorem take_succ' (xs : List Int) (i : Nat) (h : i < xs.length) : xs.take (i + 1) = xs.take i ++ [rd xs i] := by
  rw [List.take_succ_eq_append_getElem h]
  unfold rd
  rw [List.getD_eq_getElem?_getD, Int.toNat_natCast, List.getElem?_eq_getElem h]
  rfl
theorem rd_take (xs : List Int) (i : Nat) (j : Int) (h0 : 0 ≤ j) (h : j < i) : rd (xs.take i) j = rd xs j := by
  unfold rd
  rw [List.getD_eq_getElem?_getD, List.getD_eq_getElem?_getD, List.getElem?_take, if_pos (by omega)]

/-- The inner round of the reference's Ends: what comes behind it, if the number that it has gathered is right. -/
theorem refEnds_l1 (l : List Int) (hn : l.length ≤ 1000000) (i : Nat) (hi : i < l.length) (d : Nat) : ∀ (k : Nat) (j n : Int), 0 ≤ j → (i : Int) - j = d → d < k →
    (rd l i < 0 → n = 0) → (0 ≤ rd l i → 1 ≤ n ∧ n ≤ rd (endsOf l) i ∧ ∀ y : Int, 0 ≤ y → y < j → 0 ≤ rd l y → rd l y < rd l i → rd (endsOf l) y + 1 ≤ n) →
    ∃ m, d + m + 1 = k ∧ tendrilref06_Ends.l1 k l ((endsOf l).take i) i n l.length i i j = tendrilref06_Ends.l0 m l ((endsOf l).take (i + 1)) l.length (i + 1) := by
  have hel := ends_len l
  induction d with
  | zero =>
    intro k j n h0 hd hk hneg hpos
    obtain ⟨k, rfl⟩ : ∃ m, k = m + 1 := ⟨k - 1, by omega⟩
    refine ⟨k, by omega, ?_⟩
    have hnn : n = rd (endsOf l) i := by
      by_cases hl : rd l i < 0
      · rw [hneg hl, ends_neg (by omega) hl]
      · obtain ⟨h1, h2, h3⟩ := hpos (by omega)
        obtain ⟨p, hp⟩ := (pat l).all i (by omega) (by omega) (by omega)
        have he := ends_mem hp
        cases p with
        | zero => omega
        | succ p =>
          obtain ⟨b1, b2, b3, _⟩ := (pat l).back p i hp
          have hr := (pat l).range b1
          have := h3 _ hr.1 (by omega) ((pat l).pos _ _ b1) b3
          rw [ends_mem b1] at this
          omega
    rw [tendrilref06_Ends.l1, if_neg (by omega), if_pos (by rw [List.length_take]; omega), w1 (by omega) (by omega), hnn, take_succ' _ _ (by omega)]
  | succ d ih =>
    intro k j n h0 hd hk hneg hpos
    obtain ⟨k, rfl⟩ : ∃ m, k = m + 1 := ⟨k - 1, by omega⟩
    have go : ∀ n2, (rd l i < 0 → n2 = 0) → (0 ≤ rd l i → 1 ≤ n2 ∧ n2 ≤ rd (endsOf l) i ∧ ∀ y : Int, 0 ≤ y → y < j + 1 → 0 ≤ rd l y → rd l y < rd l i → rd (endsOf l) y + 1 ≤ n2) →
        ∃ m, d + 1 + m + 1 = k + 1 ∧ tendrilref06_Ends.l1 k l ((endsOf l).take i) i n2 l.length i i (j + 1) = tendrilref06_Ends.l0 m l ((endsOf l).take (i + 1)) l.length (i + 1) := fun n2 a b => by
      obtain ⟨m, h1, h2⟩ := ih k (j + 1) n2 (by omega) (by omega) (by omega) a b
      exact ⟨m, by omega, h2⟩
    have keep : (¬ (0 ≤ rd l j ∧ rd l j < rd l i) ∨ rd (endsOf l) j + 1 ≤ n) → ∃ m, d + 1 + m + 1 = k + 1 ∧ tendrilref06_Ends.l1 k l ((endsOf l).take i) i n l.length i i (j + 1) = tendrilref06_Ends.l0 m l ((endsOf l).take (i + 1)) l.length (i + 1) := fun hk2 =>
      go n hneg (fun hp => by
        obtain ⟨h1, h2, h3⟩ := hpos hp
        refine ⟨h1, h2, fun y y0 y1 y2 y3 => ?_⟩
        by_cases hyj : y = j
        · subst hyj
          rcases hk2 with h | h
          · exact absurd ⟨y2, y3⟩ h
          · exact h
        · exact h3 y y0 (by omega) y2 y3)
    rw [tendrilref06_Ends.l1, if_pos (by omega), if_pos (by omega), if_pos (by omega), w1 h0 (by omega)]
    by_cases c1 : rd l i ≥ 0
    · rw [if_pos c1, if_pos h0, if_pos (by omega)]
      by_cases c2 : rd l j ≥ 0
      · rw [if_pos c2]
        by_cases c3 : rd l j < rd l i
        · have hE : rd ((endsOf l).take i) j = rd (endsOf l) j := rd_take _ _ _ h0 (by omega)
          obtain ⟨p, hp⟩ := (pat l).all j h0 (by omega) c2
          obtain ⟨q, hq⟩ := (pat l).all i (by omega) (by omega) c1
          have h1 := ends_mem hp
          have h2 := ends_mem hq
          have hpq := (pat l).cross p q j i hp hq (by omega) c3
          have hql := mem_lt hq
          have hps := (pat l).inv.psl
          rw [if_pos c3, if_pos (by rw [List.length_take]; omega), hE, w1 (by omega) (by omega)]
          by_cases c4 : rd (endsOf l) j + 1 > n
          · rw [if_pos c4]
            refine go _ (fun h => by omega) (fun _ => ⟨by omega, by omega, fun y y0 y1 y2 y3 => ?_⟩)
            by_cases hyj : y = j
            · subst hyj; omega
            · have := (hpos c1).2.2 y y0 (by omega) y2 y3; omega
          · rw [if_neg c4]
            exact keep (.inr (by omega))
        · rw [if_neg c3]
          exact keep (.inl (by omega))
      · rw [if_neg c2]
        exact keep (.inl (by omega))
    · rw [if_neg c1]
      exact go n hneg (fun h => by omega)

theorem refEnds_l0 (l : List Int) (hn : l.length ≤ 1000000) (d : Nat) : ∀ (k : Nat) (i : Nat), (l.length : Int) - i = d → d * (l.length + 3) < k → i ≤ l.length →
    tendrilref06_Ends.l0 k l ((endsOf l).take i) l.length i = some (endsOf l) := by
  have hel := ends_len l
  induction d with
  | zero =>
    intro k i hd hk hi
    obtain ⟨k, rfl⟩ : ∃ m, k = m + 1 := ⟨k - 1, by omega⟩
    rw [tendrilref06_Ends.l0, if_neg (by omega), List.take_of_length_le (by omega)]
  | succ d ih =>
    intro k i hd hk hi
    have hmul : (d + 1) * (l.length + 3) = d * (l.length + 3) + l.length + 3 := by rw [Nat.succ_mul]; omega
    obtain ⟨k, rfl⟩ : ∃ m, k = m + 2 := ⟨k - 2, by omega⟩
    have go : ∀ n, (rd l i < 0 → n = 0) → (0 ≤ rd l i → n = 1) → tendrilref06_Ends.j1 (k + 1) l ((endsOf l).take i) i n l.length i = some (endsOf l) := fun n h1 h2 => by
      rw [tendrilref06_Ends.j1]
      obtain ⟨m, hm, he⟩ := refEnds_l1 l hn i (by omega) i k 0 n (by omega) (by omega) (by omega) h1 (fun hp => ⟨by rw [h2 hp]; omega, by
        obtain ⟨p, hp⟩ := (pat l).all i (by omega) (by omega) hp
        rw [h2 (by assumption), ends_mem hp]; omega, fun y y0 y1 => by omega⟩)
      rw [he, show (i : Int) + 1 = ((i + 1 : Nat) : Int) by omega]
      exact ih m (i + 1) (by omega) (by omega) (by omega)
    rw [tendrilref06_Ends.l0, if_pos (by omega), if_pos (by omega), if_pos (by omega)]
    by_cases c : rd l i ≥ 0
    · rw [if_pos c]; exact go 1 (fun h => by omega) (fun _ => rfl)
    · rw [if_neg c]; exact go 0 (fun _ => rfl) (fun h => absurd h c)
def K1 (l : List Int) : Nat := l.length * (l.length + 3) + 1
theorem refEnds (l : List Int) (hn : l.length ≤ 1000000) (k : Nat) (hk : K1 l ≤ k) : tendrilref06_Ends.f k l = some (endsOf l) :=
  refEnds_l0 l hn l.length k 0 (by omega) (by unfold K1 at hk; omega) (by omega)

theorem refLength_l0 (l : List Int) (hn : l.length ≤ 1000000) (d : Nat) : ∀ (k : Nat) (i n : Int), 0 ≤ i → (l.length : Int) - i = d → d < k → 0 ≤ n → n ≤ (pilesOf l).length →
    (∀ p : Nat, (pilesOf l).length = p + 1 → n = p + 1 ∨ ∃ x, x ∈ (pilesOf l).getD p [] ∧ i ≤ x) → tendrilref06_Length.l0 k n (endsOf l) l.length i = some ((pilesOf l).length : Int) := by
  have hel := ends_len l
  induction d with
  | zero =>
    intro k i n h0 hd hk hn0 hn1 hp
    obtain ⟨k, rfl⟩ : ∃ m, k = m + 1 := ⟨k - 1, by omega⟩
    rw [tendrilref06_Length.l0, if_neg (by omega)]
    congr 1
    rcases Nat.eq_zero_or_pos (pilesOf l).length with h | h
    · omega
    · rcases hp ((pilesOf l).length - 1) (by omega) with h1 | ⟨x, hx, h1⟩
      · omega
      · have := (pat l).range hx; omega
  | succ d ih =>
    intro k i n h0 hd hk hn0 hn1 hp
    obtain ⟨k, rfl⟩ : ∃ m, k = m + 1 := ⟨k - 1, by omega⟩
    rw [tendrilref06_Length.l0, if_pos (by omega), if_pos h0, if_pos (by omega), w1 h0 (by omega)]
    have hle : rd (endsOf l) i ≤ (pilesOf l).length ∧ ∀ q : Nat, i ∈ (pilesOf l).getD q [] → rd (endsOf l) i = q + 1 := by
      by_cases hneg : rd l i < 0
      · rw [ends_neg h0 hneg]
        exact ⟨by omega, fun q hq => by have := (pat l).pos q i hq; omega⟩
      · obtain ⟨q, hq⟩ := (pat l).all i h0 (by omega) (by omega)
        have := mem_lt hq
        exact ⟨by rw [ends_mem hq]; omega, fun q2 hq2 => ends_mem hq2⟩
    have hmx : mx n (rd (endsOf l) i) = if n < rd (endsOf l) i then rd (endsOf l) i else n := rfl
    refine ih k (i + 1) _ (by omega) (by omega) (by omega) ?_ ?_ ?_
    · rw [hmx]; split <;> omega
    · rw [hmx]; split <;> omega
    · intro p hpl
      rcases hp p hpl with h1 | ⟨x, hx, h1⟩
      · left; rw [hmx]; split <;> omega
      · by_cases hxi : x = i
        · subst hxi
          left
          have := hle.2 p hx
          rw [hmx]; split <;> omega
        · exact .inr ⟨x, hx, by omega⟩
theorem refLength (l : List Int) (hn : l.length ≤ 1000000) (k : Nat) (hk : K1 l ≤ k) (hk2 : l.length < k) : tendrilref06_Length.f k l = some ((pilesOf l).length : Int) := by
  unfold tendrilref06_Length.f
  rw [refEnds l hn k hk]
  simp only [Option.bind_some]
  rw [ends_len]
  refine refLength_l0 l hn l.length k 0 0 (by omega) (by omega) hk2 (by omega) (by omega) (fun p hp => .inr ?_)
  have := (pat l).nonempty (show p < (pilesOf l).length by omega)
  refine ⟨rd ((pilesOf l).getD p []) (((pilesOf l).getD p []).length - 1), rd_last_mem _ this, ?_⟩
  have := (pat l).range (rd_last_mem _ this)
  omega

/-- The reference's scan for the last place of pile q below the limit z. -/
theorem refLongest_l1 (l out : List Int) (hn : l.length ≤ 1000000) (q : Nat) (z : Int) (hz : z ≤ l.length) (c : Int) (hc : c ∈ (pilesOf l).getD q []) (hcz : c < z) (hlast : ∀ y, y ∈ (pilesOf l).getD q [] → y < z → y ≤ c)
    (hout : out.length ≤ 1000000) (d : Nat) : ∀ (k : Nat) (j a : Int), 0 ≤ j → z - j = d → d < k → (a < 0 ∧ (∀ y, y ∈ (pilesOf l).getD q [] → j ≤ y) ∨ a ∈ (pilesOf l).getD q [] ∧ a < j ∧ ∀ y, y ∈ (pilesOf l).getD q [] → y < j → y ≤ a) →
    ∃ m, d + m + 1 = k ∧ tendrilref06_Longest.l1 k l (endsOf l) out ((q : Int) + 1) a z j = tendrilref06_Longest.l0 m l (endsOf l) (c :: out) c q := by
  have hel := ends_len l
  have hcr := (pat l).range hc
  have hql := mem_lt hc
  have hps := (pat l).inv.psl
  induction d with
  | zero =>
    intro k j a h0 hd hk ha
    obtain ⟨k, rfl⟩ : ∃ m, k = m + 1 := ⟨k - 1, by omega⟩
    have hac : a = c := by
      rcases ha with ⟨_, h2⟩ | ⟨h1, h2, h3⟩
      · have := h2 c hc; omega
      · have := h3 c hc (by omega); have := hlast a h1 (by omega); omega
    subst hac
    refine ⟨k, by omega, ?_⟩
    rw [tendrilref06_Longest.l1, if_neg (by omega), if_neg (by omega)]
    simp only [Option.bind_some]
    rw [if_pos (by simp only [List.length_cons, List.length_nil]; omega), w0 (by omega) (by omega), show (q : Int) + 1 - 1 = (q : Int) by omega]
    rfl
  | succ d ih =>
    intro k j a h0 hd hk ha
    obtain ⟨k, rfl⟩ : ∃ m, k = m + 1 := ⟨k - 1, by omega⟩
    have go : ∀ a2, (a2 < 0 ∧ (∀ y, y ∈ (pilesOf l).getD q [] → j + 1 ≤ y) ∨ a2 ∈ (pilesOf l).getD q [] ∧ a2 < j + 1 ∧ ∀ y, y ∈ (pilesOf l).getD q [] → y < j + 1 → y ≤ a2) →
        ∃ m, d + 1 + m + 1 = k + 1 ∧ tendrilref06_Longest.l1 k l (endsOf l) out ((q : Int) + 1) a2 z (j + 1) = tendrilref06_Longest.l0 m l (endsOf l) (c :: out) c q := fun a2 h => by
      obtain ⟨m, h1, h2⟩ := ih k (j + 1) a2 (by omega) (by omega) (by omega) h
      exact ⟨m, by omega, h2⟩
    rw [tendrilref06_Longest.l1, if_pos (by omega), if_pos h0, if_pos (by omega), w1 h0 (by omega)]
    by_cases c1 : rd (endsOf l) j = (q : Int) + 1
    · rw [if_pos c1]
      have hj : j ∈ (pilesOf l).getD q [] := by
        by_cases hneg : rd l j < 0
        · rw [ends_neg h0 hneg] at c1; omega
        · obtain ⟨p, hp⟩ := (pat l).all j h0 (by omega) (by omega)
          have := ends_mem hp
          have hpq : p = q := by omega
          rwa [hpq] at hp
      by_cases c2 : a < 0
      · rw [if_pos c2]
        exact go j (.inr ⟨hj, by omega, fun y _ hy => by omega⟩)
      · rw [if_neg c2]
        obtain ⟨h1, h2, h3⟩ : a ∈ (pilesOf l).getD q [] ∧ a < j ∧ ∀ y, y ∈ (pilesOf l).getD q [] → y < j → y ≤ a := by
          rcases ha with h | h
          · omega
          · exact h
        have har := (pat l).range h1
        have hdown : rd l j ≤ rd l a := by
          have hD := (pat l).down q
          obtain ⟨s, hs, e1⟩ := List.getElem_of_mem h1
          obtain ⟨t, ht, e2⟩ := List.getElem_of_mem hj
          have hst : s < t := by
            rcases Nat.lt_trichotomy s t with h | h | h
            · exact h
            · subst h; omega
            · have := (List.pairwise_iff_getElem.1 hD t s ht hs h).1; omega
          have := (List.pairwise_iff_getElem.1 hD s t hs ht hst).2
          rwa [e1, e2] at this
        rw [if_pos (by omega), if_pos (by omega), if_pos (by omega), if_pos hdown]
        exact go j (.inr ⟨hj, by omega, fun y _ hy => by omega⟩)
    · rw [if_neg c1]
      have hj : j ∉ (pilesOf l).getD q [] := fun h => c1 (ends_mem h)
      refine go a ?_
      rcases ha with ⟨h1, h2⟩ | ⟨h1, h2, h3⟩
      · exact .inl ⟨h1, fun y hy => by
          have := h2 y hy
          have : y ≠ j := fun e => hj (e ▸ hy)
          omega⟩
      · exact .inr ⟨h1, by omega, fun y hy hyj => by
          have : y ≠ j := fun e => hj (e ▸ hy)
          exact h3 y hy (by omega)⟩

theorem refLongest_l0 (l : List Int) (hn : l.length ≤ 1000000) : ∀ (q k : Nat) (z : Int), q ≤ (pilesOf l).length → q * (l.length + 3) < k → (q = (pilesOf l).length → z = l.length) → (q < (pilesOf l).length → z = rd (longestOf l) q) →
    tendrilref06_Longest.l0 k l (endsOf l) ((longestOf l).drop q) z q = some (longestOf l) := by
  have hll := longest_len l
  have hps := (pat l).inv.psl
  intro q
  induction q with
  | zero =>
    intro k z hq hk _ _
    obtain ⟨k, rfl⟩ : ∃ m, k = m + 1 := ⟨k - 1, by omega⟩
    rw [tendrilref06_Longest.l0, if_neg (by omega), List.drop_zero]
  | succ q ih =>
    intro k z hq hk hz1 hz2
    have hmul : (q + 1) * (l.length + 3) = q * (l.length + 3) + l.length + 3 := by rw [Nat.succ_mul]; omega
    obtain ⟨k, rfl⟩ : ∃ m, k = m + 1 := ⟨k - 1, by omega⟩
    obtain ⟨a1, a2, a3⟩ := longest_at l q (by omega)
    have hr := (pat l).range a1
    -- the limit, and that this is the last one below it
    have hlim : rd (longestOf l) q < z ∧ z ≤ l.length ∧ ∀ y, y ∈ (pilesOf l).getD q [] → y < z → y ≤ rd (longestOf l) q := by
      by_cases he : q + 1 = (pilesOf l).length
      · rw [hz1 he]
        exact ⟨hr.2, by omega, fun y hy _ => by rw [a2 he]; exact ((pat l).top hy).1⟩
      · obtain ⟨b1, _, _⟩ := longest_at l (q + 1) (by omega)
        obtain ⟨c1, c2, c3, c4⟩ := (pat l).back q _ b1
        have e := a3 (by omega)
        rw [show (q : Int) + 1 = ((q + 1 : Nat) : Int) by omega] at e
        have hz := hz2 (by omega)
        rw [hz, e]
        have := (pat l).range b1
        exact ⟨c2, by omega, c4⟩
    rw [tendrilref06_Longest.l0, if_pos (by omega), show ((q + 1 : Nat) : Int) = (q : Int) + 1 by omega]
    obtain ⟨d, hd⟩ := Int.eq_ofNat_of_zero_le (show 0 ≤ z by omega)
    obtain ⟨m, hm, he⟩ := refLongest_l1 l ((longestOf l).drop (q + 1)) hn q z hlim.2.1 (rd (longestOf l) q) a1 hlim.1 hlim.2.2 (by rw [List.length_drop]; omega) d k 0 (-1) (by omega) (by omega) (by omega)
      (.inl ⟨by omega, fun y hy => ((pat l).range hy).1⟩)
    rw [he]
    have hd2 : rd (longestOf l) q :: (longestOf l).drop (q + 1) = (longestOf l).drop q := by
      rw [List.drop_eq_getElem_cons (show q < (longestOf l).length by omega)]
      unfold rd
      rw [List.getD_eq_getElem?_getD, Int.toNat_natCast, List.getElem?_eq_getElem (by omega)]
      rfl
    rw [hd2]
    exact ih m _ (by omega) (by omega) (fun h => by omega) (fun _ => rfl)
theorem refLongest (l : List Int) (hn : l.length ≤ 1000000) (k : Nat) (hk : K1 l ≤ k) (hk2 : l.length < k) : tendrilref06_Longest.f k l = some (longestOf l) := by
  unfold tendrilref06_Longest.f
  rw [refEnds l hn k hk, refLength l hn k hk hk2]
  simp only [Option.bind_some]
  have h := refLongest_l0 l hn (pilesOf l).length k l.length (Nat.le_refl _) (by
    have := (pat l).inv.psl
    have := Nat.mul_le_mul_right (l.length + 3) this
    unfold K1 at hk; omega) (fun _ => rfl) (fun h => by omega)
  rw [List.drop_of_length_le (by rw [longest_len]; exact Nat.le_refl _)] at h
  exact h

theorem longest_choice (l : List Int) : Choice l (longestOf l) := by
  intro j h0 hj
  obtain ⟨n, rfl⟩ := Int.eq_ofNat_of_zero_le h0
  rw [longest_len] at hj
  obtain ⟨a1, a2, a3⟩ := longest_at l n (by omega)
  have hr := (pat l).range a1
  refine ⟨hr.1, by omega, (pat l).pos _ _ a1, fun hp => ?_⟩
  obtain ⟨n, rfl⟩ : ∃ m, n = m + 1 := ⟨n - 1, by omega⟩
  obtain ⟨b1, b2, b3⟩ := longest_at l n (by omega)
  have e := b3 (by omega)
  rw [show (n : Int) + 1 = ((n + 1 : Nat) : Int) by omega] at e
  obtain ⟨c1, c2, c3, c4⟩ := (pat l).back n _ a1
  rw [show ((n + 1 : Nat) : Int) - 1 = (n : Int) by omega, e]
  exact ⟨c2, c3⟩

theorem LisChosen : tendrillaw06_LisChosen.Pure := by
  intro l h1 h2 h3
  obtain ⟨K, hK⟩ : ∃ K, K = K1 l + 2 * l.length + 50 := ⟨_, rfl⟩
  refine ⟨K, ?_⟩
  have hs : tendrillaw06_same.f K = some true := at_rounds tendrillaw06_same.mono (by omega) same_true
  unfold tendrillaw06_LisChosen.f
  by_cases c1 : (l.length : Int) > 120
  · rw [if_pos c1, hs]; rfl
  rw [if_neg c1]
  have hl : l.length ≤ 1000000 := by omega
  have e1 : lis_Longest.f l = some (longestOf l) := by unfold lis_Longest.f; rw [if_pos hl]
  have e2 : lis_Ends.f l = some (endsOf l) := by unfold lis_Ends.f; rw [if_pos hl]
  have e3 : lis_Length.f l = some ((pilesOf l).length : Int) := by unfold lis_Length.f; rw [if_pos hl]
  have hll := longest_len l
  have hps := (pat l).inv.psl
  have hr : tendrilref06_Rising.f K l (longestOf l) = some true := by
    obtain ⟨b, hb, hi⟩ := rising_f l (longestOf l) (by omega)
    rw [hi.2 (longest_choice l)] at hb
    exact at_rounds (tendrilref06_Rising.mono _ _) (by omega) hb
  rw [e1]; simp only [Option.bind_some]
  rw [e2]; simp only [Option.bind_some]
  rw [refEnds l hl K (by omega)]; simp only [Option.bind_some]
  rw [ints_same _ (by rw [ends_len]; omega) K (by rw [ends_len]; omega)]; simp only [Option.bind_some, if_true]
  rw [e3]; simp only [Option.bind_some]
  rw [refLength l hl K (by omega) (by omega)]; simp only [Option.bind_some, if_true]
  rw [refLongest l hl K (by omega) (by omega)]; simp only [Option.bind_some]
  rw [ints_same _ (by omega) K (by omega)]; simp only [Option.bind_some, if_true]
  rw [hr]; simp only [Option.bind_some, if_true]
  rw [if_pos (by omega), hs]
  rfl
end Go.Proofs.Ytahjlbbliihgpaa.Pure
