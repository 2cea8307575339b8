/- Orders of numbers: Is, Turn, and what they answer. -/
import Derived.Test.YtieomcpjakamdaaPaE
import Derived.Test.YtieomcpjakamdaaGx1
import Derived.Test.YtieomcpjakamdaaGx2
namespace Go.Proofs.Ytieomcpjakamdaa.Pure
open Go.RowKit Go.Proofs.Ytieomcpjakamdaa.G Go.Proofs.YtieomcpjakamdaaW.PrintWords Go.Proofs.YtieomcpjakamdaaW.PrintLast
set_option linter.unusedVariables false

theorem rd_some {l : List Int} {i : Nat} {x : Int} (h : l[i]? = some x) : rd l (i : Int) = x := by
  unfold rd
  rw [Int.toNat_natCast, List.getD_eq_getElem?_getD, h]
  rfl
theorem get_rd {l : List Int} {i : Int} (h0 : 0 ≤ i) (h1 : i < l.length) : l[i.toNat]? = some (rd l i) := by
  have hk : i.toNat < l.length := by omega
  unfold rd
  rw [List.getD_eq_getElem?_getD, List.getElem?_eq_getElem hk]
  rfl
theorem rd_mem {l : List Int} {i : Int} (h0 : 0 ≤ i) (h1 : i < l.length) : rd l i ∈ l := List.mem_of_getElem? (get_rd h0 h1)
theorem take_rd {l : List Int} {i : Int} (h0 : 0 ≤ i) (h1 : i < l.length) : l.take (i + 1).toNat = l.take i.toNat ++ [rd l i] := by
  rw [show (i + 1).toNat = i.toNat + 1 by omega, List.take_add_one, get_rd h0 h1]
  rfl

/-- What covers a list without repeats, and is no longer, is that list in another order. -/
theorem perm_cover {α : Type} [DecidableEq α] : ∀ (l p : List α), l.Nodup → (∀ x ∈ l, x ∈ p) → p.length ≤ l.length → p.Perm l
  | [], p, _, _, hl => by
    obtain rfl := List.length_eq_zero_iff.1 (Nat.le_zero.1 hl)
    exact List.Perm.refl _
  | x :: l, p, hn, hs, hl => by
    obtain ⟨a, b, rfl⟩ := List.append_of_mem (hs x (by simp))
    have hn' := List.nodup_cons.1 hn
    have h1 := perm_cover l (a ++ b) hn'.2 (fun y hy => by
      have h2 := hs y (by simp [hy])
      rcases List.mem_append.1 h2 with h3 | h3
      · simp [h3]
      · rcases List.mem_cons.1 h3 with rfl | h3
        · exact absurd hy hn'.1
        · simp [h3]) (by simp at hl ⊢; omega)
    exact List.perm_middle.trans (h1.cons x)
theorem iota_nodup (n : Nat) : (iota n).Nodup := by
  unfold iota
  rw [List.nodup_iff_pairwise_ne, List.pairwise_map]
  exact List.Pairwise.imp (fun {a b : Nat} (h : a < b) (e : (a : Int) = (b : Int)) => by omega) List.pairwise_lt_range
def IsP (p : List Int) : Prop := p.Perm (iota p.length)
theorem IsP.nodup {p : List Int} (h : IsP p) : p.Nodup := h.nodup_iff.2 (iota_nodup _)
theorem IsP.mem {p : List Int} (h : IsP p) (x : Int) : x ∈ p ↔ 0 ≤ x ∧ x < p.length := by rw [h.mem_iff, iota_mem]
theorem isP_of {p : List Int} (h : p.Nodup) (hr : ∀ x ∈ p, 0 ≤ x ∧ x < p.length) : IsP p :=
  (perm_cover p (iota p.length) h (fun x hx => (iota_mem _ _).2 (hr x hx)) (by rw [iota_len]; exact Nat.le_refl _)).symm
theorem IsP.at {p : List Int} (h : IsP p) (i : Nat) (hi : i < p.length) : ∃ k, k < p.length ∧ p[k]? = some (i : Int) := by
  have := (h.mem (i : Int)).2 (by omega)
  obtain ⟨k, hk, e⟩ := List.getElem_of_mem this
  exact ⟨k, hk, by rw [List.getElem?_eq_getElem hk, e]⟩
theorem IsP.inj {p : List Int} (h : IsP p) {i j : Nat} {x : Int} (hi : p[i]? = some x) (hj : p[j]? = some x) : i = j := by
  have h1 := (List.getElem?_eq_some_iff.1 hi)
  obtain ⟨h1, e1⟩ := h1
  exact (List.getElem?_inj h1 h.nodup).1 (hi.trans hj.symm)

/-- What the program's Is has met. -/
def Met (met : List Bool) (q : List Int) : Prop := ∀ j : Nat, j < met.length → rdOf false met (j : Int) = decide ((j : Int) ∈ q)
theorem rdOf_set (met : List Bool) (i j : Nat) (h : i < met.length) : rdOf false (met.set i true) (j : Int) = if i = j then true else rdOf false met (j : Int) := by
  unfold rdOf
  rw [Int.toNat_natCast, List.getD_eq_getElem?_getD, List.getD_eq_getElem?_getD, List.getElem?_set]
  by_cases e : i = j
  · subst e
    rw [if_pos rfl, if_pos h, if_pos rfl]
    rfl
  · rw [if_neg e, if_neg e]
theorem is_loop (p : List Int) (hp : p.length ≤ 1000000000000000000) (d : Nat) : ∀ (i : Int) (met : List Bool), 0 ≤ i → i ≤ p.length → (p.length : Int) - i = d → met.length = p.length → Met met (p.take i.toNat) → (p.take i.toNat).Nodup → (∀ x ∈ p.take i.toNat, 0 ≤ x ∧ x < p.length) →
    (IsP p → Ev (fun k => ranks_Is.l0 k p met p p.length i) true) ∧ (¬ IsP p → Ev (fun k => ranks_Is.l0 k p met p p.length i) false) := by
  induction d with
  | zero =>
    intro i met h0 h1 hd hm hM hn hr
    rw [List.take_of_length_le (by omega)] at hn hr
    refine ⟨fun _ => (Ev.pure _).step (fun k => by rw [ranks_Is.l0, if_neg (by omega)]), fun h => absurd (isP_of hn hr) h⟩
  | succ d ih =>
    intro i met h0 h1 hd hm hM hn hr
    have hi : i < (p.length : Int) := by omega
    obtain ⟨x, hx⟩ : ∃ x, rd p i = x := ⟨_, rfl⟩
    have hxm : x ∈ p := hx ▸ rd_mem h0 hi
    by_cases c1 : x < 0
    · refine ⟨fun h => absurd ((h.mem x).1 hxm).1 (by omega), fun _ => (Ev.pure _).step (fun k => by rw [ranks_Is.l0, if_pos hi, if_pos h0, if_pos hi, hx, if_pos c1])⟩
    by_cases c2 : x ≥ (p.length : Int)
    · refine ⟨fun h => absurd ((h.mem x).1 hxm).2 (by omega), fun _ => (Ev.pure _).step (fun k => by rw [ranks_Is.l0, if_pos hi, if_pos h0, if_pos hi, hx, if_neg c1, if_pos c2])⟩
    obtain ⟨j, rfl⟩ : ∃ j : Nat, x = (j : Int) := ⟨x.toNat, by omega⟩
    have hjm : j < met.length := by omega
    have hMj := hM j hjm
    have htk := take_rd h0 hi
    rw [hx] at htk
    by_cases c3 : rdOf false met (j : Int) = true
    · have hin : (j : Int) ∈ p.take i.toNat := by rw [c3] at hMj; exact of_decide_eq_true hMj.symm
      refine ⟨fun h => ?_, fun _ => (Ev.pure _).step (fun k => by rw [ranks_Is.l0, if_pos hi, if_pos h0, if_pos hi, hx, if_neg c1, if_neg c2, if_pos (by omega), if_pos (by omega), if_pos c3])⟩
      have h2 : (p.take (i + 1).toNat).Nodup := List.Nodup.sublist (List.take_sublist _ _) h.nodup
      rw [htk, List.nodup_append] at h2
      exact absurd rfl (h2.2.2 (j : Int) hin (j : Int) (by simp))
    · have hni : (j : Int) ∉ p.take i.toNat := by
        intro h
        rw [decide_eq_true h] at hMj
        exact c3 hMj
      have key := ih (i + 1) (met.set j true) (by omega) (by omega) (by omega) (by rw [List.length_set]; exact hm) (by
        intro q hq
        rw [List.length_set] at hq
        rw [rdOf_set met j q hjm, htk]
        by_cases e : j = q
        · subst e
          rw [if_pos rfl]
          exact (decide_eq_true (by simp)).symm
        · rw [if_neg e, hM q hq]
          congr 1
          rw [List.mem_append, List.mem_singleton]
          refine propext ⟨.inl, fun h => ?_⟩
          rcases h with h | h
          · exact h
          · exact absurd (by omega) e) (by
        rw [htk, List.nodup_append]
        exact ⟨hn, by simp, fun a ha b hb => by rw [List.mem_singleton.1 hb]; intro e; exact hni (e ▸ ha)⟩) (by
        intro y hy
        rw [htk] at hy
        rcases List.mem_append.1 hy with hy | hy
        · exact hr y hy
        · rw [List.mem_singleton.1 hy]; omega)
      have st : ∀ k, ranks_Is.l0 (k + 1) p met p p.length i = ranks_Is.l0 k p (met.set j true) p p.length (i + 1) := fun k => by
        rw [ranks_Is.l0, if_pos hi, if_pos h0, if_pos hi, hx, if_neg c1, if_neg c2, if_pos (by omega), if_pos (by omega), if_neg c3, w1 (by omega) (by omega), Int.toNat_natCast]
      exact ⟨fun h => (key.1 h).step st, fun h => (key.2 h).step st⟩
theorem is_ev (p : List Int) (hp : p.length ≤ 100000000000) : (IsP p → Ev (fun k => ranks_Is.f k p) true) ∧ (¬ IsP p → Ev (fun k => ranks_Is.f k p) false) := by
  have key := is_loop p (by omega) p.length 0 (List.replicate p.length false) (by omega) (by omega) (by omega) (by simp) (by
    intro j hj
    rw [List.length_replicate] at hj
    unfold rdOf
    rw [Int.toNat_natCast, List.getD_eq_getElem?_getD, List.getElem?_replicate, if_pos hj]
    rfl) (by simp) (by simp)
  have st : ∀ k, ranks_Is.f k p = ranks_Is.l0 k p (List.replicate p.length false) p p.length 0 := fun k => by
    rw [ranks_Is.f, if_pos (by omega), if_pos (by omega), Int.toNat_natCast]
  exact ⟨fun h => (key.1 h).eq st, fun h => (key.2 h).eq st⟩

/-- The document's Is: each number stands once. -/
def cnt (l : List Int) (x : Int) : Nat := (l.filter (fun y => decide (y = x))).length
theorem cnt_snoc (l : List Int) (y x : Int) : cnt (l ++ [y]) x = cnt l x + if y = x then 1 else 0 := by
  unfold cnt
  rw [List.filter_append, List.length_append, List.filter_cons]
  by_cases h : y = x
  · simp [h]
  · simp [h]
theorem ref_is_l1 (p : List Int) (hp : p.length ≤ 1000000000000) (i : Int) (r : Bool) (next : Ev (fun k => if (cnt p i : Int) = 1 then tendrilref05_Is.l0 k p p.length (wrap64 (i + 1)) else some false) r) (d : Nat) : ∀ j : Int, 0 ≤ j → j ≤ p.length → (p.length : Int) - j = d →
    Ev (fun k => tendrilref05_Is.l1 k p i (cnt (p.take j.toNat) i : Nat) p.length i p.length j) r := by
  induction d with
  | zero =>
    intro j h0 h1 hd
    rw [List.take_of_length_le (by omega)]
    exact next.step (fun k => by rw [tendrilref05_Is.l1, if_neg (by omega)])
  | succ d ih =>
    intro j h0 h1 hd
    have hj : j < (p.length : Int) := by omega
    have hb : (cnt (p.take j.toNat) i : Int) ≤ p.length := by
      have h2 := List.length_filter_le (fun y => decide (y = i)) (p.take j.toNat)
      rw [List.length_take] at h2
      unfold cnt
      omega
    have key := ih (j + 1) (by omega) (by omega) (by omega)
    rw [take_rd h0 hj, cnt_snoc] at key
    by_cases c : rd p j = i
    · rw [if_pos c] at key
      exact key.step (fun k => by rw [tendrilref05_Is.l1, if_pos hj, if_pos h0, if_pos hj, if_pos c, w1 (by omega) (by omega), w1 (by omega) (by omega)]; rfl)
    · rw [if_neg c] at key
      exact key.step (fun k => by rw [tendrilref05_Is.l1, if_pos hj, if_pos h0, if_pos hj, if_neg c, w1 (by omega) (by omega)]; rfl)
theorem isP_cnt {p : List Int} (h : IsP p) (i : Int) (h0 : 0 ≤ i) (h1 : i < p.length) : cnt p i = 1 := by
  have e : cnt p i = cnt (iota p.length) i := (h.filter _).length_eq
  rw [e]
  have : ∀ n : Nat, cnt (iota n) i = if i < n then 1 else 0 := by
    intro n
    induction n with
    | zero => rw [if_neg (by omega)]; rfl
    | succ n ih =>
      rw [iota_succ, cnt_snoc, ih]
      by_cases e1 : (n : Int) = i
      · rw [if_pos e1, if_neg (by omega), if_pos (by omega)]
      · by_cases e2 : i < (n : Int)
        · rw [if_pos e2, if_neg e1, if_pos (by omega)]
        · rw [if_neg e2, if_neg e1, if_neg (by omega)]
  rw [this, if_pos h1]
theorem cnt_isP {p : List Int} (h : ∀ i : Int, 0 ≤ i → i < p.length → cnt p i = 1) : IsP p := by
  refine perm_cover (iota p.length) p (iota_nodup _) (fun x hx => ?_) (by rw [iota_len]; exact Nat.le_refl _)
  obtain ⟨h0, h1⟩ := (iota_mem _ _).1 hx
  have := h x h0 h1
  unfold cnt at this
  obtain ⟨y, hy⟩ := List.exists_mem_of_length_pos (by omega : 0 < (p.filter (fun y => decide (y = x))).length)
  rw [List.mem_filter] at hy
  rw [← of_decide_eq_true hy.2]
  exact hy.1
theorem ref_is_l0 (p : List Int) (hp : p.length ≤ 1000000000000) (d : Nat) : ∀ i : Int, 0 ≤ i → i ≤ p.length → (p.length : Int) - i = d → (∀ j : Int, 0 ≤ j → j < i → cnt p j = 1) →
    (IsP p → Ev (fun k => tendrilref05_Is.l0 k p p.length i) true) ∧ (¬ IsP p → Ev (fun k => tendrilref05_Is.l0 k p p.length i) false) := by
  induction d with
  | zero =>
    intro i h0 h1 hd hc
    refine ⟨fun _ => (Ev.pure _).step (fun k => by rw [tendrilref05_Is.l0, if_neg (by omega)]), fun h => absurd (cnt_isP (fun j a b => hc j a (by omega))) h⟩
  | succ d ih =>
    intro i h0 h1 hd hc
    have hi : i < (p.length : Int) := by omega
    have st : ∀ k, tendrilref05_Is.l0 (k + 1) p p.length i = tendrilref05_Is.l1 k p i (cnt (p.take (0 : Int).toNat) i : Nat) p.length i p.length 0 := fun k => by rw [tendrilref05_Is.l0, if_pos hi]; rfl
    by_cases c : cnt p i = 1
    · have key := ih (i + 1) (by omega) (by omega) (by omega) (fun j a b => by
        by_cases e : j = i
        · rw [e]; exact c
        · exact hc j a (by omega))
      have nx : ∀ r, Ev (fun k => tendrilref05_Is.l0 k p p.length (i + 1)) r → Ev (fun k => if (cnt p i : Int) = 1 then tendrilref05_Is.l0 k p p.length (wrap64 (i + 1)) else some false) r := fun r h => h.eq (fun k => by rw [if_pos (by omega), w1 (by omega) (by omega)])
      exact ⟨fun h => (ref_is_l1 p hp i true (nx _ (key.1 h)) p.length 0 (by omega) (by omega) (by omega)).step st, fun h => (ref_is_l1 p hp i false (nx _ (key.2 h)) p.length 0 (by omega) (by omega) (by omega)).step st⟩
    · refine ⟨fun h => absurd (isP_cnt h i h0 hi) c, fun _ => (ref_is_l1 p hp i false ?_ p.length 0 (by omega) (by omega) (by omega)).step st⟩
      exact (Ev.pure false).eq (fun k => by rw [if_neg (by omega)])
theorem ref_is_ev (p : List Int) (hp : p.length ≤ 100000000000) : (IsP p → Ev (fun k => tendrilref05_Is.f k p) true) ∧ (¬ IsP p → Ev (fun k => tendrilref05_Is.f k p) false) :=
  ref_is_l0 p (by omega) p.length 0 (by omega) (by omega) (by omega) (fun j a b => by omega)

/-- An order, turned. -/
structure Tu (p t : List Int) : Prop where
  len : t.length = p.length
  pt : ∀ (k : Nat) (x : Int), p[k]? = some x → t[x.toNat]? = some (k : Int)
theorem Tu.uniq {p t u : List Int} (hp : IsP p) (h : Tu p t) (g : Tu p u) : t = u := by
  apply List.ext_getElem?
  intro i
  by_cases hi : i < p.length
  · obtain ⟨k, hk, e⟩ := hp.at i hi
    have h1 := h.pt k _ e
    have h2 := g.pt k _ e
    rw [Int.toNat_natCast] at h1 h2
    rw [h1, h2]
  · rw [List.getElem?_eq_none (by rw [h.len]; omega), List.getElem?_eq_none (by rw [g.len]; omega)]

theorem turn_loop (p : List Int) (hp : IsP p) (hl : p.length ≤ 1000000000000) (d : Nat) : ∀ (i : Int) (out : List Int), 0 ≤ i → i ≤ p.length → (p.length : Int) - i = d → out.length = p.length → (∀ (k : Nat) (x : Int), (k : Int) < i → p[k]? = some x → out[x.toNat]? = some (k : Int)) →
    ∃ t, Tu p t ∧ Ev (fun k => ranks_Turn.l0 k out p p.length i) t := by
  induction d with
  | zero =>
    intro i out h0 h1 hd ho ha
    exact ⟨out, ⟨ho, fun k x hx => ha k x (by have := (List.getElem?_eq_some_iff.1 hx).1; omega) hx⟩, (Ev.pure _).step (fun k => by rw [ranks_Turn.l0, if_neg (by omega)])⟩
  | succ d ih =>
    intro i out h0 h1 hd ho ha
    have hi : i < (p.length : Int) := by omega
    obtain ⟨x, hx⟩ : ∃ x, rd p i = x := ⟨_, rfl⟩
    have hxm := (hp.mem x).1 (hx ▸ rd_mem h0 hi)
    have hg := get_rd h0 hi
    rw [hx] at hg
    obtain ⟨t, ht, he⟩ := ih (i + 1) (out.set x.toNat i) (by omega) (by omega) (by omega) (by rw [List.length_set]; exact ho) (fun k y hk hy => by
      rw [List.getElem?_set]
      by_cases e : x.toNat = y.toNat
      · have hym := (hp.mem y).1 (List.mem_of_getElem? hy)
        have exy : x = y := by omega
        subst exy
        have := hp.inj hg hy
        rw [if_pos rfl, if_pos (by omega)]
        congr 1
        omega
      · rw [if_neg e]
        refine ha k y ?_ hy
        by_cases e2 : (k : Int) = i
        · have : k = i.toNat := by omega
          subst this
          rw [hg] at hy
          injection hy with hy
          exact absurd (by rw [hy]) e
        · omega)
    exact ⟨t, ht, he.step (fun k => by rw [ranks_Turn.l0, if_pos hi, if_pos h0, if_pos hi, hx, if_pos (by omega), if_pos (by omega), w1 (by omega) (by omega)])⟩
theorem turn_ev (p : List Int) (hl : p.length ≤ 10000000000) (hp : IsP p) : ∃ t, Tu p t ∧ Ev (fun k => ranks_Turn.f k p) t := by
  obtain ⟨t, ht, he⟩ := turn_loop p hp (by omega) p.length 0 (List.replicate p.length 0) (by omega) (by omega) (by omega) (by simp) (fun k x hk => by omega)
  refine ⟨t, ht, ((is_ev p (by omega)).1 hp).via0 he (fun k hk => ?_)⟩
  rw [ranks_Turn.f, hk, Option.bind_some, if_pos rfl, if_pos (by omega), if_pos (by omega), Int.toNat_natCast]
theorem turn_no (p : List Int) (hl : p.length ≤ 10000000000) (hp : ¬ IsP p) : Ev (fun k => ranks_Turn.f k p) [] :=
  ((is_ev p (by omega)).2 hp).via0 (Ev.pure _) (fun k hk => by rw [ranks_Turn.f, hk, Option.bind_some, if_neg (by decide)])

theorem ref_turn_l1 (p : List Int) (hp : IsP p) (hl : p.length ≤ 1000000000000) (i : Nat) (hi : i < p.length) (out : List Int) (ho : out.length = i) (k0 : Nat) (hk0 : p[k0]? = some (i : Int)) (r : List Int) (next : Ev (fun k => tendrilref05_Turn.l0 k p (out ++ [(k0 : Int)]) p.length (wrap64 ((i : Int) + 1))) r) (d : Nat) : ∀ j : Int, 0 ≤ j → j ≤ p.length → (p.length : Int) - j = d →
    Ev (fun k => tendrilref05_Turn.l1 k p (if (k0 : Int) < j then out ++ [(k0 : Int)] else out) i p.length i p.length j) r := by
  induction d with
  | zero =>
    intro j h0 h1 hd
    have hk := (List.getElem?_eq_some_iff.1 hk0).1
    rw [if_pos (by omega)]
    exact next.step (fun k => by rw [tendrilref05_Turn.l1, if_neg (by omega)])
  | succ d ih =>
    intro j h0 h1 hd
    have hj : j < (p.length : Int) := by omega
    have key := ih (j + 1) (by omega) (by omega) (by omega)
    have hg := get_rd h0 hj
    by_cases c : rd p j = (i : Int)
    · rw [c] at hg
      have e := hp.inj hg hk0
      have ej : j = (k0 : Int) := by omega
      rw [if_pos (by omega)] at key
      rw [if_neg (by omega)]
      refine key.step (fun k => ?_)
      rw [tendrilref05_Turn.l1, if_pos hj, if_pos h0, if_pos hj, if_pos c, if_pos (by omega), w1 (by omega) (by omega), ← ej]
    · have hne : j ≠ (k0 : Int) := by
        intro e
        rw [e] at c
        exact c (rd_some hk0)
      have e2 : (if (k0 : Int) < j + 1 then out ++ [(k0 : Int)] else out) = (if (k0 : Int) < j then out ++ [(k0 : Int)] else out) := by
        by_cases h3 : (k0 : Int) < j
        · rw [if_pos h3, if_pos (by omega)]
        · rw [if_neg h3, if_neg (by omega)]
      rw [e2] at key
      exact key.step (fun k => by rw [tendrilref05_Turn.l1, if_pos hj, if_pos h0, if_pos hj, if_neg c, w1 (by omega) (by omega)])
theorem ref_turn_l0 (p : List Int) (hp : IsP p) (hl : p.length ≤ 1000000000000) (d : Nat) : ∀ (i : Nat) (out : List Int), i ≤ p.length → p.length - i = d → out.length = i → (∀ (k : Nat) (x : Int), x < i → p[k]? = some x → out[x.toNat]? = some (k : Int)) →
    ∃ t, Tu p t ∧ Ev (fun k => tendrilref05_Turn.l0 k p out p.length i) t := by
  induction d with
  | zero =>
    intro i out h1 hd ho ha
    exact ⟨out, ⟨by omega, fun k x hx => ha k x (by have := (hp.mem x).1 (List.mem_of_getElem? hx); omega) hx⟩, (Ev.pure _).step (fun k => by rw [tendrilref05_Turn.l0, if_neg (by omega)])⟩
  | succ d ih =>
    intro i out h1 hd ho ha
    have hi : i < p.length := by omega
    obtain ⟨k0, hk0, e0⟩ := hp.at i hi
    obtain ⟨t, ht, he⟩ := ih (i + 1) (out ++ [(k0 : Int)]) (by omega) (by omega) (by simp [ho]) (fun k x hx hk => by
      have hxm := (hp.mem x).1 (List.mem_of_getElem? hk)
      by_cases e : x = (i : Int)
      · subst e
        have := hp.inj hk e0
        subst this
        rw [Int.toNat_natCast, List.getElem?_append_right (by omega), ho, Nat.sub_self]
        rfl
      · rw [List.getElem?_append_left (by omega)]
        exact ha k x (by omega) hk)
    refine ⟨t, ht, ?_⟩
    have key := ref_turn_l1 p hp hl i hi out ho k0 e0 t (he.eq (fun k => by rw [w1 (by omega) (by omega)]; rfl)) p.length 0 (by omega) (by omega) (by omega)
    rw [if_neg (by omega)] at key
    exact key.step (fun k => by rw [tendrilref05_Turn.l0, if_pos (by omega)])
theorem ref_turn_ev (p : List Int) (hl : p.length ≤ 10000000000) (hp : IsP p) : ∃ t, Tu p t ∧ Ev (fun k => tendrilref05_Turn.f k p) t := by
  obtain ⟨t, ht, he⟩ := ref_turn_l0 p hp (by omega) p.length 0 [] (by omega) (by omega) rfl (fun k x hx hk => by have := (hp.mem x).1 (List.mem_of_getElem? hk); omega)
  exact ⟨t, ht, ((ref_is_ev p (by omega)).1 hp).via0 he (fun k hk => by rw [tendrilref05_Turn.f, hk, Option.bind_some, if_pos rfl]; rfl)⟩
theorem ref_turn_no (p : List Int) (hl : p.length ≤ 10000000000) (hp : ¬ IsP p) : Ev (fun k => tendrilref05_Turn.f k p) [] :=
  ((ref_is_ev p (by omega)).2 hp).via0 (Ev.pure _) (fun k hk => by rw [tendrilref05_Turn.f, hk, Option.bind_some, if_neg (by decide)])
/-- Two lists of numbers that are the same. -/
theorem ints_ev (l : List Int) (hl : l.length ≤ 1000000000000) : Ev (fun k => tendrilplain_Ints.f k l l) true := by
  have key : ∀ (d : Nat) (i : Int), 0 ≤ i → i ≤ l.length → (l.length : Int) - i = d → Ev (fun k => tendrilplain_Ints.l0 k l l l.length i) true := by
    intro d
    induction d with
    | zero => intro i h0 h1 hd; exact (Ev.pure _).step (fun k => by rw [tendrilplain_Ints.l0, if_neg (by omega)])
    | succ d ih =>
      intro i h0 h1 hd
      exact (ih (i + 1) (by omega) (by omega) (by omega)).step (fun k => by rw [tendrilplain_Ints.l0, if_pos (by omega), if_pos h0, if_pos (by omega), if_pos (by omega), if_pos rfl, w1 (by omega) (by omega)])
  exact (key l.length 0 (by omega) (by omega) (by omega)).eq (fun k => by rw [tendrilplain_Ints.f, if_pos rfl])
end Go.Proofs.Ytieomcpjakamdaa.Pure
