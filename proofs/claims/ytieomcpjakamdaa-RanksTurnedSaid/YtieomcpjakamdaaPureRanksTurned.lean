/- How many pairs of numbers stand the other way round, as many as among the ranks, and none just where the numbers do not fall: for all lists. -/
import Derived.Test.YtieomcpjakamdaaGx3
import Derived.Test.YtieomcpjakamdaaPb
namespace Go.Proofs.Ytieomcpjakamdaa.Pure
open Go.RowKit Go.Proofs.Ytieomcpjakamdaa.G Go.Proofs.YtieomcpjakamdaaW.PrintWords Go.Proofs.YtieomcpjakamdaaW.PrintLast Go.Proofs.Ytieomcpjakamdaa.Inv
set_option linter.unusedVariables false

theorem invs_snoc (l : List Int) (x : Int) : invs (l ++ [x]) = invs l + more l x := by
  rw [invs_app]
  have h1 : cross l [x] = more l x := by unfold cross; simp
  have h2 : invs [x] = 0 := rfl
  omega
theorem more_snoc (l : List Int) (y x : Int) : more (l ++ [y]) x = more l x + if x < y then 1 else 0 := by
  rw [more_app]
  congr 1
  unfold more
  by_cases h : x < y
  · rw [if_pos h, List.filter_cons, if_pos (by simpa using h)]; rfl
  · rw [if_neg h, List.filter_cons, if_neg (by simpa using h)]; rfl
theorem more_le (l : List Int) (x : Int) : more l x ≤ l.length := List.length_filter_le _ _
theorem invs_small (l : List Int) (hl : l.length ≤ 300) : invs l ≤ 90000 := by
  have h1 := invs_le l
  have h2 := Nat.mul_le_mul hl hl
  omega
theorem ref_turned_l1 (l : List Int) (hl : l.length ≤ 300) (i : Nat) (hi : i < l.length) (r : Int) (next : Ev (fun k => tendrilref05_Turned.l0 k l (invs (l.take (i + 1)) : Nat) l.length (wrap64 ((i : Int) + 1))) r) (d : Nat) : ∀ j : Nat, j ≤ i → i - j = d →
    Ev (fun k => tendrilref05_Turned.l1 k l (invs (l.take i) + more (l.take j) (rd l i) : Nat) i l.length i i j) r := by
  induction d with
  | zero =>
    intro j h1 hd
    have ej : j = i := by omega
    subst ej
    have e : l.take (j + 1) = l.take j ++ [rd l j] := by
      have := take_rd (l := l) (i := (j : Int)) (by omega) (by omega)
      rw [show ((j : Int) + 1).toNat = j + 1 by omega, Int.toNat_natCast] at this
      exact this
    rw [e, invs_snoc] at next
    exact next.step (fun k => by rw [tendrilref05_Turned.l1, if_neg (by omega)])
  | succ d ih =>
    intro j h1 hd
    have key := ih (j + 1) (by omega) (by omega)
    have e : l.take (j + 1) = l.take j ++ [rd l j] := by
      have := take_rd (l := l) (i := (j : Int)) (by omega) (by omega)
      rw [show ((j : Int) + 1).toNat = j + 1 by omega, Int.toNat_natCast] at this
      exact this
    rw [e, more_snoc] at key
    have q0 : (j : Int) < (i : Int) := by omega
    have q1 : (j : Int) < (l.length : Int) := by omega
    have q2 : (0 : Int) ≤ (j : Int) := by omega
    have q3 : (0 : Int) ≤ (i : Int) := by omega
    have q4 : (i : Int) < (l.length : Int) := by omega
    have b1 := invs_small (l.take i) (by rw [List.length_take]; omega)
    have b2 := more_le (l.take j) (rd l i)
    rw [List.length_take] at b2
    have wj : wrap64 ((j : Int) + 1) = ((j + 1 : Nat) : Int) := by rw [w1 (by omega) (by omega)]; rfl
    have wr : wrap64 (((invs (l.take i) + more (l.take j) (rd l i) : Nat) : Int) + 1) = ((invs (l.take i) + (more (l.take j) (rd l i) + 1) : Nat) : Int) := by rw [w1 (by omega) (by omega)]; rfl
    by_cases c : rd l j > rd l i
    · rw [if_pos c] at key
      exact key.step (fun k => by rw [tendrilref05_Turned.l1, if_pos q0, if_pos q2, if_pos q1, if_pos q3, if_pos q4, if_pos c, wj, wr])
    · rw [if_neg c] at key
      exact key.step (fun k => by rw [tendrilref05_Turned.l1, if_pos q0, if_pos q2, if_pos q1, if_pos q3, if_pos q4, if_neg c, wj]; rfl)
theorem ref_turned_l0 (l : List Int) (hl : l.length ≤ 300) (d : Nat) : ∀ i : Nat, i ≤ l.length → l.length - i = d → Ev (fun k => tendrilref05_Turned.l0 k l (invs (l.take i) : Nat) l.length i) (invs l : Nat) := by
  induction d with
  | zero =>
    intro i h1 hd
    rw [List.take_of_length_le (by omega)]
    exact (Ev.pure _).step (fun k => by rw [tendrilref05_Turned.l0, if_neg (by omega)])
  | succ d ih =>
    intro i h1 hd
    have hi : i < l.length := by omega
    have key := ih (i + 1) (by omega) (by omega)
    have h2 := ref_turned_l1 l hl i hi _ (key.eq (fun k => by rw [w1 (by omega) (by omega)]; rfl)) i 0 (by omega) (by omega)
    exact h2.step (fun k => by rw [tendrilref05_Turned.l0, if_pos (by omega)]; rfl)
theorem ref_turned_ev (l : List Int) (hl : l.length ≤ 300) : Ev (fun k => tendrilref05_Turned.f k l) (invs l : Nat) :=
  (ref_turned_l0 l hl l.length 0 (by omega) (by omega)).eq (fun k => by rw [tendrilref05_Turned.f]; rfl)

/-- Does a list fall somewhere? -/
def falls (l : List Int) (n : Nat) : Bool := (List.range n).any (fun i => decide (0 < i) && decide (rd l (i : Int) < rd l ((i - 1 : Nat) : Int)))
theorem falls_succ (l : List Int) (n : Nat) : falls l (n + 1) = (falls l n || (decide (0 < n) && decide (rd l (n : Int) < rd l ((n - 1 : Nat) : Int)))) := by
  unfold falls
  rw [List.range_succ, List.any_append]
  simp
theorem no_falls (l : List Int) (n : Nat) (hn : n ≤ l.length) (h : falls l n = false) : (l.take n).Pairwise (fun a b => a ≤ b) := by
  induction n with
  | zero => exact List.Pairwise.nil
  | succ n ih =>
    rw [falls_succ, Bool.or_eq_false_iff] at h
    have h1 := ih (by omega) h.1
    have e : l.take (n + 1) = l.take n ++ [rd l n] := by
      have := take_rd (l := l) (i := (n : Int)) (by omega) (by omega)
      rw [show ((n : Int) + 1).toNat = n + 1 by omega, Int.toNat_natCast] at this
      exact this
    rw [e]
    refine List.pairwise_append.2 ⟨h1, List.pairwise_singleton _ _, fun a ha b hb => ?_⟩
    rw [List.mem_singleton.1 hb]
    cases n with
    | zero => simp at ha
    | succ m =>
      have h2 : rd l (m : Int) ≤ rd l ((m + 1 : Nat) : Int) := by
        have := h.2
        simp at this
        simpa using this
      have e2 : l.take (m + 1) = l.take m ++ [rd l m] := by
        have := take_rd (l := l) (i := (m : Int)) (by omega) (by omega)
        rw [show ((m : Int) + 1).toNat = m + 1 by omega, Int.toNat_natCast] at this
        exact this
      rw [e2] at h1 ha
      rcases List.mem_append.1 ha with ha | ha
      · have := (List.pairwise_append.1 h1).2.2 a ha (rd l m) (by simp)
        omega
      · rw [List.mem_singleton.1 ha]; exact h2
theorem invs_up (l : List Int) (h : l.Pairwise (fun a b => a ≤ b)) : invs l = 0 := by
  induction l with
  | nil => rfl
  | cons x l ih =>
    have h' := List.pairwise_cons.1 h
    rw [invs, ih h'.2]
    unfold less
    rw [List.filter_eq_nil_iff.2 (fun a ha => by have := h'.1 a ha; simp; omega)]
    rfl
theorem invs_zero (l : List Int) (h : invs l = 0) : l.Pairwise (fun a b => a ≤ b) := by
  induction l with
  | nil => exact List.Pairwise.nil
  | cons x l ih =>
    rw [invs] at h
    refine List.pairwise_cons.2 ⟨fun a ha => ?_, ih (by omega)⟩
    have h1 : less l x = 0 := by omega
    unfold less at h1
    have h2 := List.filter_eq_nil_iff.1 (List.length_eq_zero_iff.1 h1) a ha
    simp at h2
    omega
theorem falls_pos (l : List Int) (n : Nat) (hn : n ≤ l.length) (h : l.Pairwise (fun a b => a ≤ b)) : falls l n = false := by
  induction n with
  | zero => rfl
  | succ n ih =>
    rw [falls_succ, ih (by omega), Bool.false_or]
    cases n with
    | zero => rfl
    | succ m =>
      have h1 := get_rd (l := l) (i := (m : Int)) (by omega) (by omega)
      have h2 := get_rd (l := l) (i := ((m + 1 : Nat) : Int)) (by omega) (by omega)
      rw [Int.toNat_natCast] at h1 h2
      obtain ⟨k1, e1⟩ := List.getElem?_eq_some_iff.1 h1
      obtain ⟨k2, e2⟩ := List.getElem?_eq_some_iff.1 h2
      have h3 := List.pairwise_iff_getElem.1 h m (m + 1) k1 k2 (by omega)
      rw [e1, e2] at h3
      have h4 : ¬ (rd l ((m + 1 : Nat) : Int) < rd l (m : Int)) := by omega
      simp only [Nat.add_sub_cancel, decide_eq_false h4, Bool.and_false]
theorem falls_iff (l : List Int) : decide ((invs l : Int) > 0) = falls l l.length := by
  cases h : falls l l.length with
  | false =>
    have h1 := no_falls l l.length (Nat.le_refl _) h
    rw [List.take_of_length_le (Nat.le_refl _)] at h1
    rw [invs_up l h1]
    rfl
  | true =>
    refine decide_eq_true ?_
    by_cases h0 : invs l = 0
    · rw [falls_pos l l.length (Nat.le_refl _) (invs_zero l h0)] at h
      cases h
    · omega

theorem invs_map {α : Type} (f g : α → Int) : ∀ I : List α, I.Pairwise (fun i j => (f j < f i ↔ g j < g i)) → invs (I.map f) = invs (I.map g)
  | [], _ => rfl
  | i :: I, h => by
    have h' := List.pairwise_cons.1 h
    rw [List.map_cons, List.map_cons, invs, invs, invs_map f g I h'.2]
    congr 1
    unfold less
    rw [List.filter_map, List.filter_map, List.length_map, List.length_map]
    congr 1
    apply List.filter_congr
    intro j hj
    show decide (f j < f i) = decide (g j < g i)
    rw [decide_eq_decide]
    exact h'.1 j hj
theorem list_map (l : List Int) : (iota l.length).map (rd l) = l := by
  apply List.ext_getElem?
  intro k
  by_cases hk : k < l.length
  · rw [List.getElem?_map, iota_get _ _ hk, Option.map_some]
    have := get_rd (l := l) (i := (k : Int)) (by omega) (by omega)
    rw [Int.toNat_natCast] at this
    exact this.symm
  · rw [List.getElem?_eq_none (by rw [List.length_map, iota_len]; omega), List.getElem?_eq_none (by omega)]
theorem rk_lt (l : List Int) (i j : Int) (hi : 0 ≤ i ∧ i < l.length) (hj : 0 ≤ j ∧ j < l.length) : (rk l l.length j : Int) < rk l l.length i ↔ Rl l j i = true := by
  have key : ∀ a b : Int, (0 ≤ a ∧ a < l.length) → (0 ≤ b ∧ b < l.length) → Rl l a b = true → rk l l.length a < rk l l.length b := by
    intro a b ha hb hR
    obtain ⟨p, hp, ep⟩ := List.getElem_of_mem (((sortedIx_isP l).mem a).2 (by rw [sortedIx_len]; exact ha))
    obtain ⟨q, hq, eq⟩ := List.getElem_of_mem (((sortedIx_isP l).mem b).2 (by rw [sortedIx_len]; exact hb))
    have r1 := rk_at l p a (by rw [List.getElem?_eq_getElem hp, ep])
    have r2 := rk_at l q b (by rw [List.getElem?_eq_getElem hq, eq])
    rw [r1, r2]
    have hs := List.pairwise_iff_getElem.1 (sortedIx_strict l)
    rcases Nat.lt_trichotomy p q with h | h | h
    · exact h
    · subst h
      rw [← ep, ← eq, Rl_irr] at hR
      cases hR
    · have := hs q p hq hp h
      rw [ep, eq] at this
      rw [Rl_as l _ _ this] at hR
      cases hR
  constructor
  · intro h
    cases hR : Rl l j i with
    | true => rfl
    | false =>
      exfalso
      by_cases e : i = j
      · subst e; omega
      · have hR2 : Rl l i j = true := by
          unfold Rl at *
          simp at *
          omega
        have := key i j hi hj hR2
        omega
  · intro h
    have := key j i hj hi h
    omega
theorem invs_rks (l : List Int) : invs (rks l) = invs l := by
  conv => rhs; rw [← list_map l]
  unfold rks
  refine invs_map _ _ _ ?_
  refine List.Pairwise.imp_of_mem (fun {a b} ha hb (hab : a < b) => ?_) (iota_lt l.length)
  rw [rk_lt l a b ((iota_mem _ _).1 ha) ((iota_mem _ _).1 hb)]
  unfold Rl
  simp
  omega

theorem turned_loop (l : List Int) (hl : l.length ≤ 300) (d : Nat) : ∀ i : Nat, i ≤ l.length → l.length - i = d → Ev (fun k => tendrillaw05_RanksTurned.l0 k l (invs l : Nat) (falls l i) l.length i) true := by
  induction d with
  | zero =>
    intro i h1 hd
    have ei : i = l.length := by omega
    subst ei
    obtain ⟨k1, b1⟩ := ref_turned_ev l hl
    obtain ⟨k2, b2⟩ := ranks_ev l (by omega)
    obtain ⟨k3, b3⟩ := same_ev
    have b4 : ranks_Turned.f (rks l) = some ((invs l : Nat) : Int) := by
      unfold ranks_Turned.f
      rw [if_pos (by rw [rks_len]; omega), invs_rks]
    refine ⟨k1 + k2 + k3 + 1, fun K hK => ?_⟩
    obtain ⟨k, rfl⟩ : ∃ k, K = k + 1 := ⟨K - 1, by omega⟩
    dsimp only at b1 b2 b3 ⊢
    rw [tendrillaw05_RanksTurned.l0, if_neg (by omega), b1 k (by omega), Option.bind_some, if_pos rfl, if_pos (by rw [falls_iff]; simp), b2 k (by omega), Option.bind_some, b4, Option.bind_some, if_pos rfl, b3 k (by omega), Option.bind_some]
  | succ d ih =>
    intro i h1 hd
    have key := ih (i + 1) (by omega) (by omega)
    rw [falls_succ] at key
    have wi : wrap64 ((i : Int) + 1) = ((i + 1 : Nat) : Int) := by rw [w1 (by omega) (by omega)]; rfl
    cases hf : falls l i with
    | true =>
      rw [hf, Bool.true_or] at key
      exact key.step (fun k => by rw [tendrillaw05_RanksTurned.l0, if_pos (by omega), if_pos rfl, wi])
    | false =>
      rw [hf, Bool.false_or] at key
      by_cases c : (i : Int) > 0
      · have wm' : wrap64 ((i : Int) - 1) = ((i - 1 : Nat) : Int) := by rw [wm (by omega) (by omega)]; omega
        rw [decide_eq_true (by omega : 0 < i), Bool.true_and] at key
        exact key.step (fun k => by rw [tendrillaw05_RanksTurned.l0, if_pos (by omega), if_neg (by decide), if_pos c, if_pos (by omega), if_pos (by omega), wm', if_pos (by omega), if_pos (by omega), wi])
      · rw [decide_eq_false (by omega : ¬ 0 < i), Bool.false_and] at key
        exact key.step (fun k => by rw [tendrillaw05_RanksTurned.l0, if_pos (by omega), if_neg (by decide), if_neg c, wi])
theorem RanksTurned : ∀ (l : List Int), (l.length * 8 ≤ 140737488351232 ∧ ∀ y ∈ l, (Lit.int .i64 y).wf = true) → ∃ k, tendrillaw05_RanksTurned.f k l = some true := by
  intro l _
  by_cases h0 : (l.length : Int) > 300
  · obtain ⟨k, hk⟩ := same_ev.ex
    exact ⟨k, by rw [tendrillaw05_RanksTurned.f, if_pos h0, hk, Option.bind_some]⟩
  · obtain ⟨k, hk⟩ := (turned_loop l (by omega) l.length 0 (by omega) (by omega)).ex
    refine ⟨k, ?_⟩
    rw [tendrillaw05_RanksTurned.f, if_neg h0]
    unfold ranks_Turned.f
    rw [if_pos (by omega), Option.bind_some]
    exact hk

end Go.Proofs.Ytieomcpjakamdaa.Pure
