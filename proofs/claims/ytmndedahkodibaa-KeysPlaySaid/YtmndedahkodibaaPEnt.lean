/- The document's entries, rising (tendrilref07.Find, Put, Drop): they are a map from labels to numbers. -/
import Derived.Test.YtmndedahkodibaaPLess
namespace Go.Proofs.Ytmndedahkodibaa.Pure
open Go.RowKit Go.Proofs.Ytmndedahkodibaa.G Go.Proofs.YtmndedahkodibaaW.PrintWords Go.Proofs.YtmndedahkodibaaW.PrintLast
set_option linter.unusedVariables false
set_option linter.unusedSimpArgs false

theorem less_ev (a b : S28) (h0 : a.f0.size ≤ 140737488351232) (h1 : a.f1.size ≤ 140737488351232) : Ev (fun k => tendrilref07_Less.f k a.f0 a.f1 a.f2 b.f0 b.f1 b.f2) (lt a b) := by
  obtain ⟨k, h⟩ := less_ref a b h0 h1
  exact Ev.of (fun k => tendrilref07_Less.mono _ _ _ _ _ _ k) h
/-- Entries that rise, and the map that they are. -/
structure Rep (r : List S39) (D : S28 → Option Int) : Prop where
  srt : r.Pairwise (fun a b => Lt a.f0 b.f0)
  dd : ∀ k v, D k = some v ↔ ∃ e ∈ r, e.f0 = k ∧ e.f1 = v
  fit : ∀ e ∈ r, Fit e.f0
theorem Rep.nil : Rep [] (fun _ => none) := ⟨List.Pairwise.nil, fun k v => by simp, fun e h => by simp at h⟩
theorem Rep.no {r : List S39} {D : S28 → Option Int} (h : Rep r D) {k : S28} (hd : D k = none) : ∀ e ∈ r, e.f0 ≠ k := by
  intro e he hk
  have := (h.dd k e.f1).2 ⟨e, he, hk, rfl⟩
  rw [hd] at this
  cases this
theorem rd_mem (r : List S39) (i : Nat) (h : i < r.length) : rd_T39 r (i : Int) = r[i] := by
  unfold rd_T39
  simp [h]
theorem find_l0 (r : List S39) (k : S28) (hr : r.length ≤ 1000000000) (d : Nat) : ∀ i : Nat, i + d = r.length → (∀ j, j < i → (rd_T39 r (j : Int)).f0 ≠ k) →
    ∃ t, Ev (fun f => tendrilref07_Find.l0 f r (r.length : Int) (i : Int) k.f0 k.f1 k.f2) t ∧ ((t = -1 ∧ ∀ e ∈ r, e.f0 ≠ k) ∨ ∃ j : Nat, t = (j : Int) ∧ j < r.length ∧ (rd_T39 r (j : Int)).f0 = k) := by
  induction d with
  | zero =>
    intro i hi hj
    refine ⟨-1, (Ev.pure (-1)).step (fun f => by rw [tendrilref07_Find.l0, if_neg (by omega)]), .inl ⟨rfl, ?_⟩⟩
    intro e he
    obtain ⟨j, hjl, rfl⟩ := List.getElem_of_mem he
    have := hj j (by omega)
    rw [rd_mem r j hjl] at this
    exact this
  | succ d ih =>
    intro i hi hj
    by_cases c : (rd_T39 r (i : Int)).f0 = k
    · refine ⟨i, (Ev.pure (i : Int)).step (fun f => ?_), .inr ⟨i, rfl, by omega, c⟩⟩
      rw [tendrilref07_Find.l0, if_pos (by omega), if_pos (by omega), if_pos (by omega), if_pos]
      rw [c]
      simp
    · obtain ⟨t, ht, h⟩ := ih (i + 1) (by omega) (fun j hj' => by
        by_cases e : j = i
        · subst e; exact c
        · exact hj j (by omega))
      refine ⟨t, ht.step (fun f => ?_), h⟩
      rw [tendrilref07_Find.l0, if_pos (by omega), if_pos (by omega), if_pos (by omega), if_neg, w1 (by omega) (by omega)]
      · rfl
      · intro q
        apply c
        rw [← key_iff]
        simpa using q
/-- Find on entries that are a map. -/
theorem find_ref {r : List S39} {D : S28 → Option Int} (h : Rep r D) (hr : r.length ≤ 1000000000) (k : S28) :
    ∃ t, (∃ f, tendrilref07_Find.f f r k.f0 k.f1 k.f2 = some t) ∧ ((t = -1 ∧ D k = none) ∨ ∃ (j : Nat) (v : Int), t = (j : Int) ∧ j < r.length ∧ (rd_T39 r (j : Int)).f0 = k ∧ (rd_T39 r (j : Int)).f1 = v ∧ D k = some v) := by
  obtain ⟨t, ht, hc⟩ := find_l0 r k hr r.length 0 (by omega) (fun j hj => by omega)
  refine ⟨t, (ht.eq (f := fun f => tendrilref07_Find.f f r k.f0 k.f1 k.f2) (fun f => rfl)).ex, ?_⟩
  rcases hc with ⟨h1, h2⟩ | ⟨j, h1, h2, h3⟩
  · refine .inl ⟨h1, ?_⟩
    cases hd : D k with
    | none => rfl
    | some v =>
      obtain ⟨e, he, hk, _⟩ := (h.dd k v).1 hd
      exact absurd hk (h2 e he)
  · refine .inr ⟨j, _, h1, h2, h3, rfl, ?_⟩
    refine (h.dd k _).2 ⟨r[j], List.getElem_mem h2, ?_, ?_⟩
    · rw [← rd_mem r j h2]; exact h3
    · rw [← rd_mem r j h2]
/-- An entry more. -/
theorem Rep.put {r : List S39} {D : S28 → Option Int} (h : Rep r D) {k : S28} (v : Int) (hk : Fit k) (hd : D k = none) (i : Nat) (hi : i ≤ r.length)
    (h1 : ∀ j, j < i → Lt (rd_T39 r (j : Int)).f0 k) (h2 : i < r.length → ¬ Lt (rd_T39 r (i : Int)).f0 k) : Rep (r.take i ++ [⟨k, v⟩] ++ r.drop i) (upd D k (some v)) := by
  have hn := h.no hd
  have a1 : ∀ e ∈ r.take i, Lt e.f0 k := by
    intro e he
    obtain ⟨j, hj, rfl⟩ := List.getElem_of_mem he
    have hj' : j < i ∧ j < r.length := by simpa [Nat.lt_min] using hj
    have := h1 j hj'.1
    rw [rd_mem r j hj'.2] at this
    simpa using this
  have a2 : ∀ e ∈ r.drop i, Lt k e.f0 := by
    intro e he
    obtain ⟨j, hj, rfl⟩ := List.getElem_of_mem he
    have hj' : i + j < r.length := by simp at hj; omega
    have hi' : i < r.length := by omega
    have q := h2 hi'
    rw [rd_mem r i hi'] at q
    have q1 : Lt k r[i].f0 := by
      rcases Lt_tri r[i].f0 k with c | c | c
      · exact absurd c q
      · exact absurd c (hn _ (List.getElem_mem hi'))
      · exact c
    rw [List.getElem_drop]
    by_cases e0 : j = 0
    · subst e0; simpa using q1
    · exact Lt_trans q1 (List.pairwise_iff_getElem.1 h.srt i (i + j) hi' hj' (by omega))
  have srt0 : (r.take i ++ r.drop i).Pairwise (fun a b => Lt a.f0 b.f0) := by rw [List.take_append_drop]; exact h.srt
  rw [List.pairwise_append] at srt0
  refine ⟨?_, ?_, ?_⟩
  · rw [List.append_assoc, List.pairwise_append]
    refine ⟨srt0.1, ?_, ?_⟩
    · rw [List.singleton_append, List.pairwise_cons]
      exact ⟨fun e he => a2 e he, srt0.2.1⟩
    · intro a ha b hb
      rw [List.singleton_append, List.mem_cons] at hb
      rcases hb with rfl | hb
      · exact a1 a ha
      · exact srt0.2.2 a ha b hb
  · intro k' v'
    have hm : ∀ e, e ∈ r.take i ++ [⟨k, v⟩] ++ r.drop i ↔ e ∈ r ∨ e = ⟨k, v⟩ := by
      intro e
      have : e ∈ r ↔ e ∈ r.take i ++ r.drop i := by rw [List.take_append_drop]
      rw [this]
      simp only [List.mem_append, List.mem_singleton]
      constructor
      · rintro ((a | a) | a)
        · exact .inl (.inl a)
        · exact .inr a
        · exact .inl (.inr a)
      · rintro ((a | a) | a)
        · exact .inl (.inl a)
        · exact .inr a
        · exact .inl (.inr a)
    by_cases c : k' = k
    · subst c
      rw [upd_same]
      constructor
      · intro e
        injection e with e
        exact ⟨⟨k', v⟩, (hm _).2 (.inr rfl), rfl, e⟩
      · rintro ⟨e, he, h3, h4⟩
        rcases (hm e).1 he with q | q
        · exact absurd h3 (hn e q)
        · subst q; exact congrArg some h4
    · rw [upd_other _ _ c, h.dd]
      constructor
      · rintro ⟨e, he, h3⟩; exact ⟨e, (hm _).2 (.inl he), h3⟩
      · rintro ⟨e, he, h3, h4⟩
        rcases (hm e).1 he with q | q
        · exact ⟨e, q, h3, h4⟩
        · subst q; exact absurd h3.symm c
  · intro e he
    rw [List.append_assoc, List.mem_append, List.singleton_append, List.mem_cons] at he
    rcases he with a | rfl | a
    · exact h.fit e (List.mem_of_mem_take a)
    · exact hk
    · exact h.fit e (List.mem_of_mem_drop a)
theorem put_l0 (r : List S39) (D : S28 → Option Int) (h : Rep r D) (hr : r.length ≤ 1000000000) (k : S28) (v : Int) (d : Nat) : ∀ i : Nat, i + d = r.length → (∀ j, j < i → Lt (rd_T39 r (j : Int)).f0 k) →
    ∃ p : Nat, Ev (fun f => tendrilref07_Put.l0 f r (i : Int) k.f0 k.f1 k.f2 v) (r.take p ++ [⟨k, v⟩] ++ r.drop p) ∧ p ≤ r.length ∧ (∀ j, j < p → Lt (rd_T39 r (j : Int)).f0 k) ∧ (p < r.length → ¬ Lt (rd_T39 r (p : Int)).f0 k) := by
  have two (i : Nat) : (r.take i).length ≤ r.length ∧ (r.drop i).length ≤ r.length := by simp; omega
  induction d with
  | zero =>
    intro i hi hj
    refine ⟨i, (Ev.pure _).step (fun f => ?_), by omega, hj, fun q => by omega⟩
    have t := two i
    rw [tendrilref07_Put.l0, if_neg (by omega), if_pos (by omega), if_pos (by omega)]
    simp only [Option.bind_some, List.nil_append, List.length_nil, Int.toNat_natCast]
    rw [if_pos (by omega), if_pos (by omega)]
    rw [if_pos (by simp only [List.length_append, List.length_singleton]; omega)]
  | succ d ih =>
    intro i hi hj
    have hil : i < r.length := by omega
    have hf := h.fit r[i] (List.getElem_mem hil)
    have hrd := rd_mem r i hil
    have le := less_ev (rd_T39 r (i : Int)).f0 k (hrd ▸ hf.1) (hrd ▸ hf.2)
    by_cases c : Lt (rd_T39 r (i : Int)).f0 k
    · obtain ⟨p, hp, h1, h2, h3⟩ := ih (i + 1) (by omega) (fun j hj' => by
        by_cases e : j = i
        · subst e; exact c
        · exact hj j (by omega))
      refine ⟨p, le.via hp (fun f hl => ?_), h1, h2, h3⟩
      rw [tendrilref07_Put.l0, if_pos (by omega), if_pos (by omega), hl]
      have : lt (rd_T39 r (i : Int)).f0 k = true := by unfold lt; simp [c]
      simp only [Option.bind_some]
      rw [if_pos this, w1 (by omega) (by omega)]
      rfl
    · have t := two i
      refine ⟨i, le.via (Ev.pure _) (fun f hl => ?_), by omega, hj, fun _ => c⟩
      have : ¬ lt (rd_T39 r (i : Int)).f0 k = true := by unfold lt; simp [c]
      rw [tendrilref07_Put.l0, if_pos (by omega), if_pos (by omega), hl]
      simp only [Option.bind_some]
      rw [if_neg this, if_pos (by omega)]
      simp only [Option.bind_some, List.nil_append, List.length_nil, Int.toNat_natCast]
      rw [if_pos (by omega), if_pos (by omega)]
      rw [if_pos (by simp only [List.length_append, List.length_singleton]; omega)]
/-- Put on entries that are a map, of a label that they have not. -/
theorem put_ref {r : List S39} {D : S28 → Option Int} (h : Rep r D) (hr : r.length ≤ 1000000000) (k : S28) (v : Int) (hk : Fit k) (hd : D k = none) :
    ∃ r', (∃ f, tendrilref07_Put.f f r k.f0 k.f1 k.f2 v = some r') ∧ Rep r' (upd D k (some v)) ∧ r'.length = r.length + 1 := by
  obtain ⟨p, hp, h1, h2, h3⟩ := put_l0 r D h hr k v r.length 0 (by omega) (fun j hj => by omega)
  refine ⟨_, (hp.eq (f := fun f => tendrilref07_Put.f f r k.f0 k.f1 k.f2 v) (fun f => rfl)).ex, h.put v hk hd p h1 h2 h3, ?_⟩
  simp
  omega
/-- An entry less. -/
theorem drop_ref {r : List S39} {D : S28 → Option Int} (h : Rep r D) (hr : r.length ≤ 1000000000) (k : S28) (i : Nat) (hi : i < r.length) (hk : (rd_T39 r (i : Int)).f0 = k) :
    ∃ r', tendrilref07_Drop.f r (i : Int) = some r' ∧ Rep r' (upd D k none) ∧ r'.length + 1 = r.length := by
  refine ⟨r.take i ++ r.drop (i + 1), ?_, ?_, ?_⟩
  · have e1 : wrap64 ((i : Int) + 1) = ((i + 1 : Nat) : Int) := by rw [w1 (by omega) (by omega)]; rfl
    unfold tendrilref07_Drop.f
    rw [e1, if_pos (by omega), if_pos (by omega)]
    have t1 : (r.take i).length ≤ r.length := by simp; omega
    have t2 : (r.drop (i + 1)).length ≤ r.length := by simp
    simp only [Option.bind_some, List.nil_append, List.length_nil, Int.toNat_natCast]
    rw [if_pos (by omega), if_pos (by omega), if_pos (by omega)]
    rw [if_pos (by omega)]
  · rw [rd_mem r i hi] at hk
    have hsp : r = r.take i ++ r[i] :: r.drop (i + 1) := by rw [List.getElem_cons_drop, List.take_append_drop]
    have s0 := h.srt
    rw [hsp, List.pairwise_append, List.pairwise_cons] at s0
    have hmem : ∀ e, e ∈ r ↔ e ∈ r.take i ∨ e = r[i] ∨ e ∈ r.drop (i + 1) := by
      intro e
      have : e ∈ r ↔ e ∈ r.take i ++ r[i] :: r.drop (i + 1) := by rw [← hsp]
      rw [this, List.mem_append, List.mem_cons]
    have hne : ∀ e, e ∈ r.take i ++ r.drop (i + 1) → e.f0 ≠ k := by
      intro e he hk2
      rw [List.mem_append] at he
      rcases he with a | a
      · have := s0.2.2 e a r[i] (List.mem_cons_self ..)
        rw [hk, hk2] at this
        exact Lt_irrefl _ this
      · have := s0.2.1.1 e a
        rw [hk, hk2] at this
        exact Lt_irrefl _ this
    refine ⟨?_, ?_, ?_⟩
    · rw [List.pairwise_append]
      exact ⟨s0.1, s0.2.1.2, fun a ha b hb => s0.2.2 a ha b (List.mem_cons_of_mem _ hb)⟩
    · intro k' v'
      by_cases c : k' = k
      · subst c
        rw [upd_same]
        constructor
        · intro e; cases e
        · rintro ⟨e, he, h3, _⟩
          exact absurd h3 (hne e he)
      · rw [upd_other _ _ c, h.dd]
        constructor
        · rintro ⟨e, he, h3, h4⟩
          rcases (hmem e).1 he with a | a | a
          · exact ⟨e, List.mem_append.2 (.inl a), h3, h4⟩
          · subst a; exact absurd (h3.symm.trans hk) c
          · exact ⟨e, List.mem_append.2 (.inr a), h3, h4⟩
        · rintro ⟨e, he, h3, h4⟩
          rcases List.mem_append.1 he with a | a
          · exact ⟨e, (hmem e).2 (.inl a), h3, h4⟩
          · exact ⟨e, (hmem e).2 (.inr (.inr a)), h3, h4⟩
    · intro e he
      rcases List.mem_append.1 he with a | a
      · exact h.fit e ((hmem e).2 (.inl a))
      · exact h.fit e ((hmem e).2 (.inr (.inr a)))
  · simp
    omega
/-- Labels that rise, just those of a map, are the keys of its entries. -/
theorem keys_eq {r : List S39} {D : S28 → Option Int} (h : Rep r D) {L : List S28} (hn : L.Nodup) (hm : ∀ k, k ∈ L ↔ D k ≠ none) (hs : L.Pairwise (fun a b => ¬ Lt b a)) : L = r.map (fun e => e.f0) := by
  have srt : (r.map (fun e => e.f0)).Pairwise Lt := by rw [List.pairwise_map]; exact h.srt
  have mem : ∀ k, k ∈ L ↔ k ∈ r.map (fun e => e.f0) := by
    intro k
    rw [hm, List.mem_map]
    constructor
    · intro q
      obtain ⟨v, hv⟩ := Option.ne_none_iff_exists'.1 q
      obtain ⟨e, he, h1, _⟩ := (h.dd k v).1 hv
      exact ⟨e, he, h1⟩
    · rintro ⟨e, he, h1⟩
      rw [(h.dd k e.f1).2 ⟨e, he, h1, rfl⟩]
      exact fun q => by cases q
  have strict : L.Pairwise Lt := by
    rw [List.pairwise_iff_getElem] at hs ⊢
    intro i j hi hj hij
    rcases Lt_tri L[i] L[j] with c | c | c
    · exact c
    · exact absurd c (List.pairwise_iff_getElem.1 hn i j hi hj hij)
    · exact absurd c (hs i j hi hj hij)
  have nd2 : (r.map (fun e => e.f0)).Nodup := srt.imp (fun {a b} q e => by subst e; exact Lt_irrefl _ q)
  refine List.Perm.eq_of_pairwise (fun a b _ _ h1 h2 => absurd (Lt_trans h1 h2) (Lt_irrefl _)) strict srt ?_
  exact (List.perm_ext_iff_of_nodup hn nd2).2 mem
end Go.Proofs.Ytmndedahkodibaa.Pure
