/- The ranks of numbers: the document's, and the order by which the stable sort lays them. -/
import Derived.Test.YtieomcpjakamdaaPa
namespace Go.Proofs.Ytieomcpjakamdaa.Pure
open Go.RowKit Go.Proofs.Ytieomcpjakamdaa.G Go.Proofs.YtieomcpjakamdaaW.PrintWords Go.Proofs.YtieomcpjakamdaaW.PrintLast Go.Proofs.Ytieomcpjakamdaa.Srt
set_option linter.unusedVariables false

def Rl (l : List Int) (a b : Int) : Bool := decide (rd l a < rd l b) || (decide (rd l a = rd l b) && decide (a < b))
def rk (l : List Int) (n : Nat) (i : Int) : Nat := ((iota n).filter (fun k => Rl l k i)).length
def rks (l : List Int) : List Int := (iota l.length).map (fun i => (rk l l.length i : Int))
theorem rk_succ (l : List Int) (n : Nat) (i : Int) : rk l (n + 1) i = rk l n i + if Rl l n i = true then 1 else 0 := by
  unfold rk
  rw [iota_succ, List.filter_append, List.length_append, List.filter_cons]
  by_cases h : Rl l n i = true
  · rw [if_pos h, if_pos h]; rfl
  · rw [if_neg h, if_neg h]; rfl
theorem rk_le (l : List Int) (n : Nat) (i : Int) : rk l n i ≤ n := by
  have := List.length_filter_le (fun k => Rl l k i) (iota n)
  rw [iota_len] at this
  exact this
theorem iota_get (n k : Nat) (h : k < n) : (iota n)[k]? = some (k : Int) := by
  unfold iota
  rw [List.getElem?_map, List.getElem?_range h]
  rfl
theorem rks_len (l : List Int) : (rks l).length = l.length := by unfold rks; rw [List.length_map, iota_len]
theorem rks_get (l : List Int) (k : Nat) (h : k < l.length) : (rks l)[k]? = some (rk l l.length k : Int) := by
  unfold rks
  rw [List.getElem?_map, iota_get _ _ h]
  rfl

theorem ref_ranks_l1 (l : List Int) (hl : l.length ≤ 1000000000000) (i : Nat) (hi : i < l.length) (out : List Int) (r : List Int) (ho : out.length = i) (next : Ev (fun k => tendrilref05_Ranks.l0 k l (out ++ [(rk l l.length i : Int)]) l.length (wrap64 ((i : Int) + 1))) r) (d : Nat) : ∀ j : Nat, j ≤ l.length → l.length - j = d →
    Ev (fun k => tendrilref05_Ranks.l1 k l out i (rk l j i : Nat) l.length i l.length j) r := by
  induction d with
  | zero =>
    intro j h1 hd
    have ej : j = l.length := by omega
    subst ej
    exact next.step (fun k => by rw [tendrilref05_Ranks.l1, if_neg (by omega), if_pos (by omega)])
  | succ d ih =>
    intro j h1 hd
    have key := ih (j + 1) (by omega) (by omega)
    have hb := rk_le l j i
    rw [rk_succ] at key
    have q1 : (j : Int) < (l.length : Int) := by omega
    have q2 : (0 : Int) ≤ (j : Int) := by omega
    have q3 : (0 : Int) ≤ (i : Int) := by omega
    have q4 : (i : Int) < (l.length : Int) := by omega
    have wj : wrap64 ((j : Int) + 1) = ((j + 1 : Nat) : Int) := by rw [w1 (by omega) (by omega)]; rfl
    have wr : wrap64 ((rk l j i : Int) + 1) = ((rk l j i + 1 : Nat) : Int) := by rw [w1 (by omega) (by omega)]; rfl
    by_cases c1 : rd l j < rd l i
    · have hR : Rl l j i = true := by unfold Rl; simp [c1]
      rw [if_pos hR] at key
      exact key.step (fun k => by rw [tendrilref05_Ranks.l1, if_pos q1, if_pos q2, if_pos q1, if_pos q3, if_pos q4, if_pos c1, wj, wr])
    · by_cases c2 : rd l j = rd l i
      · by_cases c3 : (j : Int) < (i : Int)
        · have hR : Rl l j i = true := by unfold Rl; simp [c2]; omega
          rw [if_pos hR] at key
          exact key.step (fun k => by rw [tendrilref05_Ranks.l1, if_pos q1, if_pos q2, if_pos q1, if_pos q3, if_pos q4, if_neg c1, if_pos c2, if_pos c3, wj, wr])
        · have hR : ¬ Rl l j i = true := by unfold Rl; simp [c2]; omega
          rw [if_neg hR] at key
          exact key.step (fun k => by rw [tendrilref05_Ranks.l1, if_pos q1, if_pos q2, if_pos q1, if_pos q3, if_pos q4, if_neg c1, if_pos c2, if_neg c3, wj]; rfl)
      · have hR : ¬ Rl l j i = true := by unfold Rl; simp [c1, c2]
        rw [if_neg hR] at key
        exact key.step (fun k => by rw [tendrilref05_Ranks.l1, if_pos q1, if_pos q2, if_pos q1, if_pos q3, if_pos q4, if_neg c1, if_neg c2, wj]; rfl)
theorem ref_ranks_l0 (l : List Int) (hl : l.length ≤ 1000000000000) (d : Nat) : ∀ i : Nat, i ≤ l.length → l.length - i = d →
    Ev (fun k => tendrilref05_Ranks.l0 k l ((rks l).take i) l.length i) (rks l) := by
  induction d with
  | zero =>
    intro i h1 hd
    rw [List.take_of_length_le (by rw [rks_len]; omega)]
    exact (Ev.pure _).step (fun k => by rw [tendrilref05_Ranks.l0, if_neg (by omega)])
  | succ d ih =>
    intro i h1 hd
    have hi : i < l.length := by omega
    have key := ih (i + 1) (by omega) (by omega)
    rw [List.take_add_one, rks_get l i hi] at key
    have h2 := ref_ranks_l1 l hl i hi ((rks l).take i) (rks l) (by rw [List.length_take, rks_len]; omega) (key.eq (fun k => by rw [w1 (by omega) (by omega)]; rfl)) l.length 0 (by omega) (by omega)
    exact h2.step (fun k => by rw [tendrilref05_Ranks.l0, if_pos (by omega)]; rfl)
theorem ref_ranks_ev (l : List Int) (hl : l.length ≤ 1000000000000) : Ev (fun k => tendrilref05_Ranks.f k l) (rks l) :=
  (ref_ranks_l0 l hl l.length 0 (by omega) (by omega)).eq (fun k => by rw [tendrilref05_Ranks.f]; rfl)

/-- The order that the sort lays. -/
theorem byL_eq (l : List Int) (a b : Int) : byL l a b = decide (rd l a < rd l b) := by unfold byL lt; exact cmpI_lt _ _
theorem sortedIx_ok (l : List Int) : Srt (byL l) (sortedIx l) ∧ Stb (byL l) (iota l.length) (sortedIx l) := isort_ok (swo_by l) (iota l.length) _ rfl
theorem pair_class {α : Type} {e : α → α → Bool} (he : ∀ x, e x x = true) {Q : α → α → Prop} : ∀ s : List α, (∀ z, (s.filter (e z)).Pairwise Q) → s.Pairwise (fun a b => e a b = true → Q a b)
  | [], _ => List.Pairwise.nil
  | x :: s, h => by
    refine List.pairwise_cons.2 ⟨fun b hb hab => ?_, pair_class he s (fun z => ?_)⟩
    · have h1 := h x
      rw [List.filter_cons, if_pos (he x)] at h1
      exact (List.pairwise_cons.1 h1).1 b (List.mem_filter.2 ⟨hb, hab⟩)
    · have h1 := h z
      rw [List.filter_cons] at h1
      split at h1
      · exact (List.pairwise_cons.1 h1).2
      · exact h1
theorem iota_lt (n : Nat) : (iota n).Pairwise (fun a b => a < b) := by
  unfold iota
  rw [List.pairwise_map]
  exact List.Pairwise.imp (fun {a b : Nat} (h : a < b) => by show (a : Int) < (b : Int); omega) List.pairwise_lt_range
theorem sortedIx_strict (l : List Int) : (sortedIx l).Pairwise (fun a b => Rl l a b = true) := by
  obtain ⟨h1, h2⟩ := sortedIx_ok l
  have h3 := pair_class (e := eqv (byL l)) (fun x => eqv_self (swo_by l) x) (Q := fun a b : Int => a < b) (sortedIx l) (fun z => by
    rw [h2.fl z]
    exact List.Pairwise.sublist List.filter_sublist (iota_lt _))
  refine List.Pairwise.imp₂ (fun a b (ha : byL l b a = false) hb => ?_) h1 h3
  rw [byL_eq] at ha
  have ha' := of_decide_eq_false ha
  unfold Rl
  by_cases c : rd l a < rd l b
  · simp [c]
  · have e : rd l a = rd l b := by omega
    have := hb (by unfold eqv; rw [byL_eq, byL_eq]; simp; omega)
    simp [e]
    omega
theorem sortedIx_len (l : List Int) : (sortedIx l).length = l.length := by rw [(sortedIx_ok l).2.len, iota_len]
theorem sortedIx_perm (l : List Int) : (sortedIx l).Perm (iota l.length) :=
  perm_cover (iota l.length) (sortedIx l) (iota_nodup _) (fun x hx => ((sortedIx_ok l).2.mem (swo_by l) x).2 hx) (by rw [sortedIx_len, iota_len]; exact Nat.le_refl _)
theorem sortedIx_isP (l : List Int) : IsP (sortedIx l) := by
  unfold IsP
  rw [sortedIx_len]
  exact sortedIx_perm l
theorem count_at {s : List Int} {R : Int → Int → Bool} (hp : s.Pairwise (fun a b => R a b = true)) (has : ∀ a b, R a b = true → R b a = false) (hirr : ∀ a, R a a = false) (k : Nat) (x : Int) (hx : s[k]? = some x) : (s.filter (fun y => R y x)).length = k := by
  have hk := (List.getElem?_eq_some_iff.1 hx).1
  have e : s = s.take k ++ x :: s.drop (k + 1) := by
    obtain ⟨hk, e⟩ := List.getElem?_eq_some_iff.1 hx
    conv => lhs; rw [← List.take_append_drop k s]
    rw [List.drop_eq_getElem_cons hk, e]
  rw [e] at hp ⊢
  have h1 := List.pairwise_append.1 hp
  have h2 := List.pairwise_cons.1 h1.2.1
  rw [List.filter_append, List.filter_cons, if_neg (by rw [hirr]; decide), List.length_append, List.filter_eq_self.2 (fun a ha => h1.2.2 a ha x (by simp)), List.filter_eq_nil_iff.2 (fun a ha => by rw [has _ _ (h2.1 a ha)]; decide)]
  rw [List.length_take]
  simp
  omega
theorem Rl_as (l : List Int) (a b : Int) (h : Rl l a b = true) : Rl l b a = false := by
  unfold Rl at *
  simp at *
  omega
theorem Rl_irr (l : List Int) (a : Int) : Rl l a a = false := by unfold Rl; simp
theorem rk_at (l : List Int) (k : Nat) (x : Int) (hx : (sortedIx l)[k]? = some x) : rk l l.length x = k := by
  have h := count_at (sortedIx_strict l) (Rl_as l) (Rl_irr l) k x hx
  have e : rk l l.length x = ((sortedIx l).filter (fun y => Rl l y x)).length := ((sortedIx_perm l).symm.filter _).length_eq
  rw [e, h]
theorem tu_sorted (l : List Int) : Tu (sortedIx l) (rks l) := by
  refine ⟨by rw [rks_len, sortedIx_len], fun k x hx => ?_⟩
  have hm := ((sortedIx_isP l).mem x).1 (List.mem_of_getElem? hx)
  rw [sortedIx_len] at hm
  rw [rks_get l x.toNat (by omega), show ((x.toNat : Nat) : Int) = x by omega, rk_at l k x hx]
theorem rks_isP (l : List Int) : IsP (rks l) := by
  have h1 : ((sortedIx l).map (fun i => (rk l l.length i : Int))).Perm (rks l) := (sortedIx_perm l).map _
  have h2 : (sortedIx l).map (fun i => (rk l l.length i : Int)) = iota l.length := by
    apply List.ext_getElem?
    intro j
    by_cases hj : j < l.length
    · obtain ⟨x, hx⟩ : ∃ x, (sortedIx l)[j]? = some x := ⟨_, List.getElem?_eq_getElem (by rw [sortedIx_len]; exact hj)⟩
      rw [List.getElem?_map, hx, iota_get _ _ hj, Option.map_some, rk_at l j x hx]
    · rw [List.getElem?_eq_none (by rw [List.length_map, sortedIx_len]; omega), List.getElem?_eq_none (by rw [iota_len]; omega)]
  unfold IsP
  rw [rks_len, ← h2]
  exact h1.symm
theorem tu_rks (l : List Int) : Tu (rks l) (sortedIx l) := by
  refine ⟨by rw [rks_len, sortedIx_len], fun k x hx => ?_⟩
  have hk := (List.getElem?_eq_some_iff.1 hx).1
  rw [rks_len] at hk
  obtain ⟨j, hj, e⟩ := (sortedIx_isP l).at k (by rw [sortedIx_len]; exact hk)
  have h1 := rk_at l j (k : Int) e
  rw [rks_get l k hk] at hx
  injection hx with hx
  rw [← hx, h1, Int.toNat_natCast]
  exact e

theorem sorted_ev (l : List Int) (hl : l.length ≤ 1000000000000) : ranks_Sorted.f l = some (sortedIx l) := by
  unfold ranks_Sorted.f
  rw [if_pos (by omega)]
theorem ranks_ev (l : List Int) (hl : l.length ≤ 10000000000) : Ev (fun k => ranks_Ranks.f k l) (rks l) := by
  obtain ⟨t, ht, he⟩ := turn_ev (sortedIx l) (by rw [sortedIx_len]; exact hl) (sortedIx_isP l)
  have e := Tu.uniq (sortedIx_isP l) ht (tu_sorted l)
  subst e
  exact he.via0 (Ev.pure _) (fun k hk => by rw [ranks_Ranks.f, sorted_ev l (by omega), Option.bind_some, hk, Option.bind_some])
theorem same_ev : Ev (fun k => tendrillaw05_same.f k) true := Ev.of (fun k => tendrillaw05_same.mono k) (k := 12) (by kernel_rfl)
end Go.Proofs.Ytieomcpjakamdaa.Pure
