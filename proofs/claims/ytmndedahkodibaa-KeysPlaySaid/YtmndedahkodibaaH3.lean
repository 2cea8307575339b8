/- The table of labels as a map: what holds of its places, and what placing, putting, dropping and clearing leave of it. -/
import Derived.Test.YtmndedahkodibaaH2
namespace Go.Proofs.Ytmndedahkodibaa.G
open Go.RowKit Go.Proofs.YtmndedahkodibaaW.PrintWords
set_option linter.unusedVariables false
set_option linter.unusedSimpArgs false

theorem bytes_eq {a b : ByteArray} (h : a.toList = b.toList) : a = b := by
  rw [ByteArray.toList_eq, ByteArray.toList_eq] at h
  cases a; cases b
  congr 1
  exact Array.toList_inj.1 h
theorem key_iff (x k : S28) : (x.f0.toList = k.f0.toList ∧ x.f1.toList = k.f1.toList ∧ x.f2 = k.f2) ↔ x = k := by
  constructor
  · rintro ⟨a, b, c⟩
    cases x; cases k
    simp only at a b c
    rw [bytes_eq a, bytes_eq b, c]
  · rintro rfl
    exact ⟨rfl, rfl, rfl⟩
theorem at60_set (S : List S60) (j : Nat) (x : S60) (i : Nat) (hj : j < S.length) : at60 (S.set j x) i = if i = j then x else at60 S i := by
  unfold at60
  rw [List.getD_eq_getElem?_getD, List.getD_eq_getElem?_getD, List.getElem?_set]
  by_cases h : j = i
  · subst h
    simp [hj]
  · rw [if_neg h, if_neg (fun q => h q.symm)]
theorem at60_rep (n i : Nat) : at60 (List.replicate n z60) i = z60 := by
  unfold at60
  rw [List.getD_eq_getElem?_getD, List.getElem?_replicate]
  split <;> rfl

open Classical in
/-- A map with one label's number changed. -/
noncomputable def upd (D : S28 → Option Int) (k : S28) (o : Option Int) : S28 → Option Int := fun k' => if k' = k then o else D k'
theorem upd_same (D : S28 → Option Int) (k : S28) (o : Option Int) : upd D k o k = o := by unfold upd; rw [if_pos rfl]
theorem upd_other (D : S28 → Option Int) {k k' : S28} (o : Option Int) (h : k' ≠ k) : upd D k o k' = D k' := by unfold upd; rw [if_neg h]

/-- The sizes that a label's texts may have. -/
def Fit (k : S28) : Prop := k.f0.size ≤ 140737488351232 ∧ k.f1.size ≤ 140737488351232
/-- Places that hold a map. -/
structure OK (S : List S60) (live used : Nat) (D : S28 → Option Int) : Prop where
  pw : ∃ e, S.length = 2 ^ e ∧ e ≤ 40
  hl : live = S.countP (fun x => x.f0 == 1)
  hu : used = S.countP (fun x => !(x.f0 == 0))
  pr : ∀ j, j < S.length → (at60 S j).f0 = 1 → ∃ t, j = (hashN (at60 S j).f1 + t) % S.length ∧ ∀ u, u < t → ¬ (at60 S ((hashN (at60 S j).f1 + u) % S.length)).f0 = 0
  un : ∀ i j, i < S.length → j < S.length → (at60 S i).f0 = 1 → (at60 S j).f0 = 1 → (at60 S i).f1 = (at60 S j).f1 → i = j
  dd : ∀ k v, D k = some v ↔ ∃ j, j < S.length ∧ (at60 S j).f0 = 1 ∧ (at60 S j).f1 = k ∧ (at60 S j).f2 = v
  sz : ∀ j, j < S.length → (at60 S j).f0 = 1 → Fit (at60 S j).f1

theorem two_pos (e : Nat) : 0 < 2 ^ e := Nat.two_pow_pos e
theorem OK.len {S : List S60} {live used : Nat} {D : S28 → Option Int} (h : OK S live used D) : 0 < S.length ∧ S.length ≤ 1099511627776 := by
  obtain ⟨e, h1, h2⟩ := h.pw
  rw [h1]
  exact ⟨two_pos e, Nat.pow_le_pow_right (by omega) h2⟩
theorem OK.live_le {S : List S60} {live used : Nat} {D : S28 → Option Int} (h : OK S live used D) : live ≤ used ∧ used ≤ S.length := by
  rw [h.hl, h.hu]
  refine ⟨List.countP_mono_left ?_, List.countP_le_length⟩
  intro x _ hx
  simp only [beq_iff_eq] at hx
  simp [hx]

theorem at60_mem {S : List S60} {x : S60} (h : x ∈ S) : ∃ j, j < S.length ∧ at60 S j = x := by
  obtain ⟨j, hj, e⟩ := List.getElem_of_mem h
  exact ⟨j, hj, by rw [at60_eq S j hj, e]⟩
theorem mem_at60 {S : List S60} {j : Nat} (h : j < S.length) : at60 S j ∈ S := by
  rw [at60_eq S j h]
  exact List.getElem_mem h

theorem least (p : Nat → Prop) : ∀ n, p n → ∃ t, t ≤ n ∧ p t ∧ ∀ u, u < t → ¬ p u := by
  classical
  intro n
  induction n using Nat.strongRecOn with
  | ind n ih =>
    intro hn
    by_cases h : ∃ m, m < n ∧ p m
    · obtain ⟨m, hm, pm⟩ := h
      obtain ⟨t, a, b, c⟩ := ih m hm pm
      exact ⟨t, by omega, b, c⟩
    · exact ⟨n, Nat.le_refl n, hn, fun u hu pu => h ⟨u, hu, pu⟩⟩

theorem OK.place {S : List S60} {live used : Nat} {D : S28 → Option Int} (ok : OK S live used D) (hf : used < S.length) (k : S28) :
    ∃ f r, plc S k f (hashN k % S.length) (-1) = some r ∧
      ((∃ j, j < S.length ∧ r = ((j : Int), true) ∧ (at60 S j).f0 = 1 ∧ (at60 S j).f1 = k) ∨
       (∃ j, j < S.length ∧ r = ((j : Int), false) ∧ (at60 S j).f0 ≠ 1 ∧ (∀ i, i < S.length → (at60 S i).f0 = 1 → (at60 S i).f1 ≠ k) ∧ ∃ t, j = (hashN k + t) % S.length ∧ ∀ u, u < t → ¬ (at60 S ((hashN k + u) % S.length)).f0 = 0)) := by
  obtain ⟨h0, hh⟩ : ∃ h0, hashN k = h0 := ⟨_, rfl⟩
  rw [hh]
  obtain ⟨hL, _⟩ := ok.len
  have hq : ∃ q, q < S.length ∧ (at60 S q).f0 = 0 := by
    apply Classical.byContradiction
    intro h
    have : S.countP (fun x => !(x.f0 == 0)) = S.length := by
      rw [List.countP_eq_length]
      intro x hx
      obtain ⟨j, hj, rfl⟩ := at60_mem hx
      have : ¬ (at60 S j).f0 = 0 := fun q => h ⟨j, hj, q⟩
      simp [this]
    have := ok.hu
    omega
  obtain ⟨q, hq1, hq2⟩ := hq
  have hT : ∃ n, (at60 S ((h0 + n) % S.length)).f0 = 0 := by
    refine ⟨q + S.length - h0 % S.length, ?_⟩
    have h1 := Nat.mod_lt (h0) hL
    have h2 := Nat.mod_add_div (h0) S.length
    have e : h0 + (q + S.length - h0 % S.length) = q + S.length * (h0 / S.length + 1) := by
      rw [Nat.mul_add]; omega
    rw [e, Nat.add_mul_mod_self_left, Nat.mod_eq_of_lt hq1]
    exact hq2
  obtain ⟨n, hn⟩ := hT
  obtain ⟨T, _, hT1, hT2⟩ := least (fun n => (at60 S ((h0 + n) % S.length)).f0 = 0) n hn
  have main : ∀ d t, t + d = T → ∀ sp : Int, (∀ u, u < t → ¬ ((at60 S ((h0 + u) % S.length)).f0 = 1 ∧ (at60 S ((h0 + u) % S.length)).f1 = k)) → (sp = -1 ∨ ∃ s, s < t ∧ sp = (((h0 + s) % S.length : Nat) : Int) ∧ (at60 S ((h0 + s) % S.length)).f0 = 2) →
      ∃ r, plc S k (d + 1) ((h0 + t) % S.length) sp = some r ∧
      ((∃ j, j < S.length ∧ r = ((j : Int), true) ∧ (at60 S j).f0 = 1 ∧ (at60 S j).f1 = k) ∨
       (∃ j, j < S.length ∧ r = ((j : Int), false) ∧ (at60 S j).f0 ≠ 1 ∧ (∀ i, i < S.length → (at60 S i).f0 = 1 → (at60 S i).f1 ≠ k) ∧ ∃ t, j = (h0 + t) % S.length ∧ ∀ u, u < t → ¬ (at60 S ((h0 + u) % S.length)).f0 = 0)) := by
    intro d
    induction d with
    | zero =>
      intro t ht sp hu hs
      have ht : t = T := ht
      subst ht
      refine ⟨_, by rw [plc, if_pos hT1], Or.inr ?_⟩
      have none : ∀ i, i < S.length → (at60 S i).f0 = 1 → (at60 S i).f1 ≠ k := by
        intro i hi h1 h2
        obtain ⟨t', e, hn⟩ := ok.pr i hi h1
        rw [h2, hh] at e hn
        rcases Nat.lt_trichotomy t' t with h | h | h
        · exact hu t' h ⟨e ▸ h1, e ▸ h2⟩
        · rw [h] at e; rw [e] at h1; rw [hT1] at h1; exact absurd h1 (by decide)
        · exact hn t h hT1
      rcases hs with rfl | ⟨s, hs1, rfl, hs2⟩
      · refine ⟨(h0 + t) % S.length, Nat.mod_lt _ hL, by rw [if_neg (by omega)], by rw [hT1]; decide, none, t, rfl, hT2⟩
      · refine ⟨(h0 + s) % S.length, Nat.mod_lt _ hL, by rw [if_pos (by omega)], by rw [hs2]; decide, none, s, rfl, fun u hu => hT2 u (by omega)⟩
    | succ d ih =>
      intro t ht sp hu hs
      have hnf := hT2 t (by omega)
      rw [plc, if_neg hnf]
      by_cases hk : (at60 S ((h0 + t) % S.length)).f0 = 1 ∧ (at60 S ((h0 + t) % S.length)).f1 = k
      · rw [if_pos ⟨hk.1, (key_iff _ _).2 hk.2⟩]
        exact ⟨_, rfl, Or.inl ⟨_, Nat.mod_lt _ hL, rfl, hk.1, hk.2⟩⟩
      · rw [if_neg (fun q => hk ⟨q.1, (key_iff _ _).1 q.2⟩), Nat.mod_add_mod, Nat.add_assoc]
        refine ih (t + 1) (by omega) _ ?_ ?_
        · intro u h
          by_cases hut : u = t
          · rw [hut]; exact hk
          · exact hu u (by omega)
        · by_cases h2 : (at60 S ((h0 + t) % S.length)).f0 = 2 ∧ sp < 0
          · rw [if_pos h2]
            exact Or.inr ⟨t, by omega, rfl, h2.1⟩
          · rw [if_neg h2]
            rcases hs with h | ⟨s, a, b, c⟩
            · exact Or.inl h
            · exact Or.inr ⟨s, by omega, b, c⟩
  obtain ⟨r, h1, h2⟩ := main T 0 (by omega) (-1) (fun u h => absurd h (by omega)) (Or.inl rfl)
  rw [Nat.add_zero] at h1
  exact ⟨T + 1, r, h1, h2⟩

theorem OK.none_of {S : List S60} {live used : Nat} {D : S28 → Option Int} (ok : OK S live used D) {k : S28} (h : ∀ i, i < S.length → (at60 S i).f0 = 1 → (at60 S i).f1 ≠ k) : D k = none := by
  cases hd : D k with
  | none => rfl
  | some v =>
    obtain ⟨j, hj, a, b, _⟩ := (ok.dd k v).1 hd
    exact absurd b (h j hj a)
theorem OK.some_of {S : List S60} {live used : Nat} {D : S28 → Option Int} (ok : OK S live used D) {k : S28} {j : Nat} (hj : j < S.length) (h1 : (at60 S j).f0 = 1) (h2 : (at60 S j).f1 = k) : D k = some (at60 S j).f2 :=
  (ok.dd k _).2 ⟨j, hj, h1, h2, rfl⟩

theorem OK.put {S : List S60} {live used : Nat} {D : S28 → Option Int} (ok : OK S live used D) {k : S28} {j : Nat} (v : Int) (hj : j < S.length) (h1 : (at60 S j).f0 ≠ 1)
    (hn : ∀ i, i < S.length → (at60 S i).f0 = 1 → (at60 S i).f1 ≠ k) (ht : ∃ t, j = (hashN k + t) % S.length ∧ ∀ u, u < t → ¬ (at60 S ((hashN k + u) % S.length)).f0 = 0) (hk : Fit k) :
    OK (S.set j ⟨1, k, v⟩) (live + 1) (if (at60 S j).f0 = 0 then used + 1 else used) (upd D k (some v)) := by
  have hz : ∀ u, ¬ (at60 S u).f0 = 0 → ¬ (at60 (S.set j ⟨1, k, v⟩) u).f0 = 0 := by
    intro u hu
    rw [at60_set S j _ u hj]
    split
    · show ¬ (1 : Int) = 0
      decide
    · exact hu
  constructor
  · rw [List.length_set]; exact ok.pw
  · rw [List.countP_set hj, ok.hl, ← at60_eq S j hj, if_neg (by simpa using h1), if_pos (by rfl)]
    omega
  · rw [List.countP_set hj, ok.hu, ← at60_eq S j hj]
    have : 0 < S.length := by omega
    by_cases h0 : (at60 S j).f0 = 0
    · rw [if_pos h0, if_neg (by simp [h0]), if_pos (by rfl)]
      omega
    · rw [if_neg h0, if_pos (by simp [h0]), if_pos (by rfl)]
      have : 0 < S.countP (fun x => !(x.f0 == 0)) := List.countP_pos_iff.2 ⟨at60 S j, mem_at60 hj, by simp [h0]⟩
      omega
  · rw [List.length_set]
    intro i hi hs
    by_cases hij : i = j
    · subst hij
      rw [at60_set S i _ i hj, if_pos rfl]
      obtain ⟨t, e, hu⟩ := ht
      exact ⟨t, e, fun u h => hz _ (hu u h)⟩
    · rw [at60_set S j _ i hj, if_neg hij] at hs ⊢
      obtain ⟨t, e, hu⟩ := ok.pr i hi hs
      exact ⟨t, e, fun u h => hz _ (hu u h)⟩
  · rw [List.length_set]
    intro a b ha hb sa sb he
    rw [at60_set S j _ a hj] at sa he
    rw [at60_set S j _ b hj] at sb he
    by_cases haj : a = j
    · by_cases hbj : b = j
      · omega
      · rw [if_pos haj, if_neg hbj] at he
        rw [if_neg hbj] at sb
        exact absurd he.symm (hn b hb sb)
    · rw [if_neg haj] at sa
      by_cases hbj : b = j
      · rw [if_neg haj, if_pos hbj] at he
        exact absurd he (hn a ha sa)
      · rw [if_neg haj, if_neg hbj] at he
        rw [if_neg hbj] at sb
        exact ok.un a b ha hb sa sb he
  · intro k' v'
    rw [List.length_set]
    by_cases hkk : k' = k
    · subst hkk
      rw [upd_same]
      constructor
      · intro h
        refine ⟨j, hj, ?_⟩
        rw [at60_set S j _ j hj, if_pos rfl]
        exact ⟨rfl, rfl, Option.some.inj h⟩
      · rintro ⟨i, hi, a, b, c⟩
        rw [at60_set S j _ i hj] at a b c
        by_cases hij : i = j
        · rw [if_pos hij] at c
          exact congrArg some c
        · rw [if_neg hij] at a b
          exact absurd b (hn i hi a)
    · rw [upd_other _ _ hkk, ok.dd]
      constructor
      · rintro ⟨i, hi, a, b, c⟩
        refine ⟨i, hi, ?_⟩
        rw [at60_set S j _ i hj, if_neg (fun q => h1 (by rw [← q]; exact a))]
        exact ⟨a, b, c⟩
      · rintro ⟨i, hi, a, b, c⟩
        rw [at60_set S j _ i hj] at a b c
        by_cases hij : i = j
        · rw [if_pos hij] at b
          exact absurd b.symm hkk
        · rw [if_neg hij] at a b c
          exact ⟨i, hi, a, b, c⟩
  · rw [List.length_set]
    intro i hi hs
    rw [at60_set S j _ i hj] at hs ⊢
    by_cases hij : i = j
    · rw [if_pos hij]; exact hk
    · rw [if_neg hij] at hs ⊢; exact ok.sz i hi hs

theorem OK.drop {S : List S60} {live used : Nat} {D : S28 → Option Int} (ok : OK S live used D) {k : S28} {j : Nat} (hj : j < S.length) (h1 : (at60 S j).f0 = 1) (h2 : (at60 S j).f1 = k) :
    OK (S.set j ⟨2, z28, 0⟩) (live - 1) used (upd D k none) := by
  have hz : ∀ u, ¬ (at60 S u).f0 = 0 → ¬ (at60 (S.set j ⟨2, z28, 0⟩) u).f0 = 0 := by
    intro u hu
    rw [at60_set S j _ u hj]
    split
    · show ¬ (2 : Int) = 0
      decide
    · exact hu
  have old : ∀ i, (at60 (S.set j ⟨2, z28, 0⟩) i).f0 = 1 → i ≠ j ∧ at60 (S.set j ⟨2, z28, 0⟩) i = at60 S i := by
    intro i h
    by_cases hij : i = j
    · rw [hij, at60_set S j _ j hj, if_pos rfl] at h
      exact absurd h (by decide)
    · rw [at60_set S j _ i hj, if_neg hij]
      exact ⟨hij, rfl⟩
  constructor
  · rw [List.length_set]; exact ok.pw
  · rw [List.countP_set hj, ok.hl, ← at60_eq S j hj, if_pos (by simp [h1]), if_neg (by decide)]
    rfl
  · rw [List.countP_set hj, ok.hu, ← at60_eq S j hj, if_pos (by simp [h1]), if_pos (by rfl)]
    have : 0 < S.countP (fun x => !(x.f0 == 0)) := List.countP_pos_iff.2 ⟨at60 S j, mem_at60 hj, by simp [h1]⟩
    omega
  · rw [List.length_set]
    intro i hi hs
    obtain ⟨hij, e⟩ := old i hs
    rw [e] at hs ⊢
    obtain ⟨t, e, hu⟩ := ok.pr i hi hs
    exact ⟨t, e, fun u h => hz _ (hu u h)⟩
  · rw [List.length_set]
    intro a b ha hb sa sb he
    obtain ⟨_, ea⟩ := old a sa
    obtain ⟨_, eb⟩ := old b sb
    rw [ea] at sa he
    rw [eb] at sb he
    exact ok.un a b ha hb sa sb he
  · intro k' v'
    rw [List.length_set]
    by_cases hkk : k' = k
    · subst hkk
      rw [upd_same]
      constructor
      · intro h; cases h
      · rintro ⟨i, hi, a, b, c⟩
        obtain ⟨hij, e⟩ := old i a
        rw [e] at a b
        exact absurd (ok.un i j hi hj a h1 (b.trans h2.symm)) hij
    · rw [upd_other _ _ hkk, ok.dd]
      constructor
      · rintro ⟨i, hi, a, b, c⟩
        refine ⟨i, hi, ?_⟩
        rw [at60_set S j _ i hj, if_neg (fun q => hkk (by rw [← b, ← h2, q]))]
        exact ⟨a, b, c⟩
      · rintro ⟨i, hi, a, b, c⟩
        obtain ⟨hij, e⟩ := old i a
        rw [e] at a b c
        exact ⟨i, hi, a, b, c⟩
  · rw [List.length_set]
    intro i hi hs
    obtain ⟨_, e⟩ := old i hs
    rw [e] at hs ⊢
    exact ok.sz i hi hs

theorem OK.fresh (n : Nat) (hp : ∃ e, n = 2 ^ e ∧ e ≤ 40) : OK (List.replicate n z60) 0 0 (fun _ => none) := by
  have h0 : ∀ j, ¬ (at60 (List.replicate n z60) j).f0 = 1 := by
    intro j
    rw [at60_rep]
    decide
  constructor
  · rw [List.length_replicate]; exact hp
  · rw [List.countP_replicate, if_neg (by decide)]
  · rw [List.countP_replicate, if_neg (by decide)]
  · intro j _ h; exact absurd h (h0 j)
  · intro i j _ _ h; exact absurd h (h0 i)
  · intro k v
    constructor
    · intro h; cases h
    · rintro ⟨j, _, a, _⟩; exact absurd a (h0 j)
  · intro j _ h; exact absurd h (h0 j)
theorem OK.zero {S : List S60} {used : Nat} {D : S28 → Option Int} (ok : OK S 0 used D) : D = fun _ => none := by
  funext k
  refine ok.none_of ?_
  intro i hi h
  have hp : 0 < S.countP (fun x : S60 => x.f0 == 1) := List.countP_pos_iff.2 ⟨at60 S i, mem_at60 hi, by simp [h]⟩
  have := ok.hl
  omega
theorem OK.clear {S : List S60} {used : Nat} {D : S28 → Option Int} (ok : OK S 0 used D) : OK (List.replicate S.length z60) 0 0 D := by
  rw [ok.zero]
  exact OK.fresh _ ok.pw

/-- The map of the first places. -/
noncomputable def part (S : List S60) (D : S28 → Option Int) (i : Nat) : S28 → Option Int := by
  classical
  exact fun k => if ∃ j, j < i ∧ (at60 S j).f0 = 1 ∧ (at60 S j).f1 = k then D k else none
theorem part_zero (S : List S60) (D : S28 → Option Int) : part S D 0 = fun _ => none := by
  funext k
  unfold part
  rw [if_neg]
  rintro ⟨j, h, _⟩
  omega
theorem part_all {S : List S60} {live used : Nat} {D : S28 → Option Int} (ok : OK S live used D) : part S D S.length = D := by
  funext k
  unfold part
  split
  · rfl
  · rename_i h
    exact (ok.none_of (fun i hi a b => h ⟨i, hi, a, b⟩)).symm
theorem part_skip (S : List S60) (D : S28 → Option Int) (i : Nat) (h : ¬ (at60 S i).f0 = 1) : part S D (i + 1) = part S D i := by
  funext k
  unfold part
  by_cases h1 : ∃ j, j < i ∧ (at60 S j).f0 = 1 ∧ (at60 S j).f1 = k
  · rw [if_pos h1, if_pos (by obtain ⟨j, a, b⟩ := h1; exact ⟨j, by omega, b⟩)]
  · rw [if_neg h1, if_neg]
    rintro ⟨j, a, b⟩
    by_cases hji : j = i
    · exact h (hji ▸ b.1)
    · exact h1 ⟨j, by omega, b⟩
theorem part_step {S : List S60} {live used : Nat} {D : S28 → Option Int} (ok : OK S live used D) (i : Nat) (hi : i < S.length) (h : (at60 S i).f0 = 1) :
    part S D i (at60 S i).f1 = none ∧ part S D (i + 1) = upd (part S D i) (at60 S i).f1 (some (at60 S i).f2) := by
  have no : ¬ ∃ j, j < i ∧ (at60 S j).f0 = 1 ∧ (at60 S j).f1 = (at60 S i).f1 := by
    rintro ⟨j, a, b, c⟩
    have := ok.un j i (by omega) hi b h c
    omega
  refine ⟨by unfold part; rw [if_neg no], ?_⟩
  funext k
  by_cases hk : k = (at60 S i).f1
  · subst hk
    rw [upd_same]
    unfold part
    rw [if_pos ⟨i, by omega, h, rfl⟩]
    exact ok.some_of hi h rfl
  · rw [upd_other _ _ hk]
    unfold part
    by_cases h1 : ∃ j, j < i ∧ (at60 S j).f0 = 1 ∧ (at60 S j).f1 = k
    · rw [if_pos h1, if_pos (by obtain ⟨j, a, b⟩ := h1; exact ⟨j, by omega, b⟩)]
    · rw [if_neg h1, if_neg]
      rintro ⟨j, a, b⟩
      by_cases hji : j = i
      · exact hk (by rw [← b.2, hji])
      · exact h1 ⟨j, by omega, b⟩
/-- How many of the first places are taken. -/
def cnt (S : List S60) (i : Nat) : Nat := (S.take i).countP (fun x => x.f0 == 1)
theorem cnt_zero (S : List S60) : cnt S 0 = 0 := rfl
theorem cnt_all (S : List S60) : cnt S S.length = S.countP (fun x => x.f0 == 1) := by unfold cnt; rw [List.take_length]
theorem cnt_step (S : List S60) (i : Nat) (hi : i < S.length) : cnt S (i + 1) = cnt S i + if (at60 S i).f0 = 1 then 1 else 0 := by
  unfold cnt
  rw [List.take_add_one, List.getElem?_eq_getElem hi, List.countP_append, ← at60_eq S i hi]
  congr 1
  by_cases h : (at60 S i).f0 = 1
  · rw [if_pos h]; simp [h]
  · rw [if_neg h]; simp [h]
theorem cnt_le (S : List S60) (i : Nat) : cnt S i ≤ S.countP (fun x => x.f0 == 1) := by
  unfold cnt
  conv => rhs; rw [← List.take_append_drop i S, List.countP_append]
  omega
end Go.Proofs.Ytmndedahkodibaa.G
