/- The plain law of links: who is below whom says all links, whatever is placed and dropped. -/
import Derived.Test.YtgamhkhninogeaaH8
namespace Go.Proofs.Ytgamhkhninogeaa.Pure
open Go.RowKit Go.Proofs.Ytgamhkhninogeaa.G Go.Proofs.YtgamhkhninogeaaW.PrintWords Go.Proofs.YtgamhkhninogeaaW.PrintLast
set_option linter.unusedVariables false
set_option linter.unusedSimpArgs false

/-- From m, the links number c lead over these items to t. -/
def ChT (F : FF) (c : Nat) : Int → List Int → Int → Prop
  | m, [], t => m = t
  | m, a :: l, t => m = a ∧ 0 ≤ a ∧ ChT F c (F a c) l t
/-- These are kids of x behind a; the last one is z. -/
def SibT (F : FF) (x : Int) : Int → List Int → Int → Prop
  | a, [], z => a = z
  | a, b :: l, z => F b 1 = x ∧ F b 4 = a ∧ SibT F x b l z
theorem ChT.app {F : FF} {c : Nat} : ∀ {A B : List Int} {m t : Int}, ChT F c m (A ++ B) t ↔ ∃ u, ChT F c m A u ∧ ChT F c u B t
  | [], B, m, t => ⟨fun h => ⟨m, rfl, h⟩, fun ⟨u, h, h2⟩ => by have : m = u := h; subst this; exact h2⟩
  | a :: A, B, m, t => by
    have ih := @ChT.app F c A B (F a c) t
    constructor
    · rintro ⟨h1, h2, h3⟩
      obtain ⟨u, q1, q2⟩ := ih.1 h3
      exact ⟨u, ⟨h1, h2, q1⟩, q2⟩
    · rintro ⟨u, ⟨h1, h2, h3⟩, h4⟩
      exact ⟨h1, h2, ih.2 ⟨u, h3, h4⟩⟩
theorem SibT.app {F : FF} {x : Int} : ∀ {A B : List Int} {a z : Int}, SibT F x a (A ++ B) z ↔ ∃ u, SibT F x a A u ∧ SibT F x u B z
  | [], B, a, z => ⟨fun h => ⟨a, rfl, h⟩, fun ⟨u, h, h2⟩ => by have : a = u := h; subst this; exact h2⟩
  | b :: A, B, a, z => by
    have ih := @SibT.app F x A B b z
    constructor
    · rintro ⟨h1, h2, h3⟩
      obtain ⟨u, q1, q2⟩ := ih.1 h3
      exact ⟨u, ⟨h1, h2, q1⟩, q2⟩
    · rintro ⟨u, ⟨h1, h2, h3⟩, h4⟩
      exact ⟨h1, h2, ih.2 ⟨u, h3, h4⟩⟩
theorem ChT.congr {F F' : FF} {c : Nat} : ∀ {l : List Int} {m t : Int}, (∀ a ∈ l, F' a c = F a c) → ChT F c m l t → ChT F' c m l t
  | [], _, _, _, h => h
  | a :: l, m, t, hc, ⟨h1, h2, h3⟩ => ⟨h1, h2, by rw [hc a (List.mem_cons_self ..)]; exact ChT.congr (fun b hb => hc b (List.mem_cons_of_mem _ hb)) h3⟩
theorem SibT.congr {F F' : FF} {x : Int} : ∀ {l : List Int} {a z : Int}, (∀ b ∈ l, F' b 1 = F b 1 ∧ F' b 4 = F b 4) → SibT F x a l z → SibT F' x a l z
  | [], _, _, _, h => h
  | b :: l, a, z, hc, ⟨h1, h2, h3⟩ => ⟨by rw [(hc b (List.mem_cons_self ..)).1]; exact h1, by rw [(hc b (List.mem_cons_self ..)).2]; exact h2, SibT.congr (fun b hb => hc b (List.mem_cons_of_mem _ hb)) h3⟩
theorem ChT.head {F : FF} {c : Nat} {l : List Int} {m : Int} (h : ChT F c m l (-1)) : (l = [] ∧ m = -1) ∨ ∃ l', l = m :: l' := by
  cases l with
  | nil => exact .inl ⟨rfl, h⟩
  | cons a l => obtain ⟨rfl, _⟩ := h; exact .inr ⟨l, rfl⟩
/-- The last of a list, or -1. -/
def lastD : Int → List Int → Int
  | a, [] => a
  | _, b :: l => lastD b l
theorem SibT.last {F : FF} {x : Int} : ∀ {l : List Int} {a z : Int}, SibT F x a l z → z = lastD a l
  | [], _, _, h => h.symm
  | b :: l, a, z, ⟨_, _, h⟩ => SibT.last (l := l) (a := b) h
theorem lastD_snoc : ∀ (l : List Int) (a q : Int), lastD a (l ++ [q]) = q
  | [], _, _ => rfl
  | b :: l, _, q => lastD_snoc l b q
theorem snoc_or_nil (l : List Int) : l = [] ∨ ∃ l' q, l = l' ++ [q] := by
  rcases List.eq_nil_or_concat l with h | ⟨l', q, h⟩
  · exact .inl h
  · exact .inr ⟨l', q, by rw [h, List.concat_eq_append]⟩

/-- Who is below whom. -/
structure St (n : Nat) (U : Int → Int) (K : Int → List Int) : Prop where
  up : ∀ i : Int, 0 ≤ i → i < n → -1 ≤ U i ∧ U i < n
  kid : ∀ i c : Int, 0 ≤ i → i < n → (c ∈ K i ↔ 0 ≤ c ∧ c < n ∧ U c = i)
  nd : ∀ i : Int, 0 ≤ i → i < n → (K i).Nodup
  rk : ∃ ρ : Int → Nat, ∀ i : Int, 0 ≤ i → i < n → 0 ≤ U i → ρ (U i) < ρ i
/-- The links are those that follow. -/
structure Lk (n : Nat) (U : Int → Int) (K : Int → List Int) (F : FF) : Prop where
  st : St n U K
  lk : ∀ i : Int, 0 ≤ i → i < n → F i 1 = U i ∧ ChT F 5 (F i 2) (K i) (-1) ∧ SibT F i (-1) (K i) (F i 3)
  fr : ∀ i : Int, 0 ≤ i → i < n → U i < 0 → F i 4 = -1 ∧ F i 5 = -1

/-- The way up. -/
def Way (U : Int → Int) : Int → List Int → Prop
  | x, [] => x < 0
  | x, a :: l => x = a ∧ 0 ≤ a ∧ Way U (U a) l
theorem Way.uniq {U : Int → Int} : ∀ {l l' : List Int} {x : Int}, Way U x l → Way U x l' → l = l'
  | [], [], _, _, _ => rfl
  | [], b :: l', x, h, ⟨h1, h2, _⟩ => by have : x < 0 := h; omega
  | a :: l, [], x, ⟨h1, h2, _⟩, h => by have : x < 0 := h; omega
  | a :: l, b :: l', x, ⟨h1, _, h3⟩, ⟨q1, _, q3⟩ => by
    subst h1; subst q1
    rw [Way.uniq h3 q3]
theorem St.way {n : Nat} {U : Int → Int} {K : Int → List Int} (h : St n U K) (ρ : Int → Nat) (hρ : ∀ i : Int, 0 ≤ i → i < n → 0 ≤ U i → ρ (U i) < ρ i) : ∀ (m : Nat) (i : Int), 0 ≤ i → i < n → ρ i ≤ m → ∃ l, Way U i (i :: l) ∧ (∀ a ∈ i :: l, 0 ≤ a ∧ a < n) ∧ (∀ a ∈ l, ρ a < ρ i) ∧ (i :: l).Nodup
  | m, i, h0, h1, hm => by
    by_cases hu : U i < 0
    · refine ⟨[], ⟨rfl, h0, hu⟩, ?_, ?_, by simp⟩
      · intro a ha; rw [List.mem_singleton] at ha; subst ha; exact ⟨h0, h1⟩
      · intro a ha; simp at ha
    · have q := hρ i h0 h1 (by omega)
      cases m with
      | zero => omega
      | succ m =>
        obtain ⟨l, w, hb, hr, hn⟩ := St.way h ρ hρ m (U i) (by omega) (h.up i h0 h1).2 (by omega)
        have hr2 : ∀ a ∈ U i :: l, ρ a < ρ i := by
          intro a ha
          rcases List.mem_cons.1 ha with rfl | ha
          · exact q
          · have := hr a ha; omega
        refine ⟨U i :: l, ⟨rfl, h0, w⟩, ?_, hr2, ?_⟩
        · intro a ha
          rcases List.mem_cons.1 ha with rfl | ha
          · exact ⟨h0, h1⟩
          · exact hb a ha
        · rw [List.nodup_cons]
          refine ⟨fun hm => ?_, hn⟩
          have := hr2 i hm
          omega
theorem nodup_le : ∀ (n : Nat) (l : List Int), l.Nodup → (∀ a ∈ l, 0 ≤ a ∧ a < n) → l.length ≤ n
  | 0, l, _, h => by
    cases l with
    | nil => simp
    | cons a l => have := h a (List.mem_cons_self ..); omega
  | n + 1, l, hn, h => by
    have h2 : (l.erase (n : Int)).length ≤ n := by
      refine nodup_le n _ (hn.erase _) (fun a ha => ?_)
      have q := (List.Nodup.mem_erase_iff hn).1 ha
      have := h a q.2
      have := q.1
      omega
    by_cases hm : (n : Int) ∈ l
    · rw [List.length_erase_of_mem hm] at h2
      omega
    · rw [List.erase_of_not_mem hm] at h2
      omega
/-- The way up from each item: it has an end, and is no longer than there are items. -/
theorem St.way1 {n : Nat} {U : Int → Int} {K : Int → List Int} (h : St n U K) (i : Int) (h0 : 0 ≤ i) (h1 : i < n) : ∃ l, Way U i (i :: l) ∧ (∀ a ∈ i :: l, 0 ≤ a ∧ a < n) ∧ l.length < n := by
  obtain ⟨ρ, hρ⟩ := h.rk
  obtain ⟨l, w, hb, _, hn⟩ := h.way ρ hρ (ρ i) i h0 h1 (Nat.le_refl _)
  have := nodup_le n _ hn hb
  exact ⟨l, w, hb, by simp at this; omega⟩

open Classical in
/-- Placed: still who is below whom. -/
theorem St.place {n : Nat} {U : Int → Int} {K : Int → List Int} (h : St n U K) (x y : Int) (hx0 : 0 ≤ x) (hx : x < n) (hy0 : 0 ≤ y) (hy : y < n) (hf : U y < 0) (l : List Int) (hw : Way U x l) (hyl : y ∉ l) (A B : List Int) (hK : K x = A ++ B) :
    St n (fun i => if i = y then x else U i) (fun i => if i = x then A ++ y :: B else K i) := by
  have hyk : ∀ i : Int, 0 ≤ i → i < n → y ∉ K i := by
    intro i i0 i1 hm
    have := ((h.kid i y i0 i1).1 hm).2.2
    omega
  refine ⟨fun i i0 i1 => ?_, fun i c i0 i1 => ?_, fun i i0 i1 => ?_, ?_⟩
  · by_cases c : i = y
    · rw [if_pos c]; omega
    · rw [if_neg c]; exact h.up i i0 i1
  · have hk := h.kid i c i0 i1
    by_cases cx : i = x
    · subst cx
      rw [if_pos rfl]
      have e : c ∈ A ++ y :: B ↔ c = y ∨ c ∈ K i := by
        rw [hK]
        simp only [List.mem_append, List.mem_cons]
        constructor
        · rintro (a | a | a)
          · exact .inr (.inl a)
          · exact .inl a
          · exact .inr (.inr a)
        · rintro (a | a | a)
          · exact .inr (.inl a)
          · exact .inl a
          · exact .inr (.inr a)
      rw [e, hk]
      by_cases cy : c = y
      · subst cy; simp [hy0, hy]
      · simp [cy]
    · rw [if_neg cx, hk]
      by_cases cy : c = y
      · subst cy
        rw [if_pos rfl]
        constructor
        · rintro ⟨_, _, q⟩; omega
        · rintro ⟨_, _, q⟩; exact absurd q.symm cx
      · rw [if_neg cy]
  · by_cases cx : i = x
    · subst cx
      rw [if_pos rfl]
      have hn := h.nd i i0 i1
      have hm := hyk i i0 i1
      rw [hK] at hn hm
      have hp : (A ++ y :: B).Perm (y :: (A ++ B)) := List.perm_middle
      exact hp.nodup_iff.2 (List.nodup_cons.2 ⟨hm, hn⟩)
    · rw [if_neg cx]; exact h.nd i i0 i1
  · obtain ⟨ρ, hρ⟩ := h.rk
    have hP (j : Int) (l' : List Int) (hw' : Way U j (j :: l')) (hne : j ≠ y) : (∃ l, Way U j l ∧ y ∈ l) ↔ (∃ l, Way U (U j) l ∧ y ∈ l) := by
      constructor
      · rintro ⟨l2, w2, m2⟩
        rw [Way.uniq w2 hw'] at m2
        rcases List.mem_cons.1 m2 with e | e
        · exact absurd e.symm hne
        · exact ⟨l', hw'.2.2, e⟩
      · rintro ⟨l2, w2, m2⟩
        rw [Way.uniq w2 hw'.2.2] at m2
        exact ⟨_, hw', List.mem_cons_of_mem _ m2⟩
    refine ⟨fun j => ρ j + (if (∃ l, Way U j l ∧ y ∈ l) then ρ x + 1 else 0), fun i i0 i1 hu => ?_⟩
    by_cases c : i = y
    · subst c
      simp only [if_pos]
      have hx2 : ¬ ∃ l, Way U x l ∧ i ∈ l := by
        rintro ⟨l2, w2, m2⟩
        rw [Way.uniq w2 hw] at m2
        exact hyl m2
      have hy2 : ∃ l, Way U i l ∧ i ∈ l := ⟨[i], ⟨rfl, i0, hf⟩, by simp⟩
      rw [if_neg hx2, if_pos hy2]
      omega
    · simp only [if_neg c] at hu ⊢
      have q := hρ i i0 i1 hu
      obtain ⟨l', w', _, _⟩ := h.way1 i i0 i1
      have e := hP i l' w' c
      by_cases p : ∃ l, Way U i l ∧ y ∈ l
      · rw [if_pos p, if_pos (e.1 p)]; omega
      · rw [if_neg p, if_neg (fun q => p (e.2 q))]; omega
/-- Dropped: still who is below whom. -/
theorem St.drop {n : Nat} {U : Int → Int} {K : Int → List Int} (h : St n U K) (x u : Int) (hx0 : 0 ≤ x) (hx : x < n) (hu : U x = u) (hu0 : 0 ≤ u) (A B : List Int) (hK : K u = A ++ x :: B) :
    St n (fun i => if i = x then -1 else U i) (fun i => if i = u then A ++ B else K i) := by
  have hun : u < n := hu ▸ (h.up x hx0 hx).2
  have hnd := h.nd u hu0 hun
  rw [hK] at hnd
  have hp : (A ++ x :: B).Perm (x :: (A ++ B)) := List.perm_middle
  have hnd2 := List.nodup_cons.1 (hp.nodup_iff.1 hnd)
  refine ⟨fun i i0 i1 => ?_, fun i c i0 i1 => ?_, fun i i0 i1 => ?_, ?_⟩
  · by_cases c : i = x
    · rw [if_pos c]; omega
    · rw [if_neg c]; exact h.up i i0 i1
  · have hk := h.kid i c i0 i1
    by_cases cu : i = u
    · subst cu
      rw [if_pos rfl]
      by_cases cx : c = x
      · subst cx
        rw [if_pos rfl]
        constructor
        · intro m; exact absurd m hnd2.1
        · rintro ⟨_, _, q⟩; omega
      · rw [if_neg cx, ← hk, hK, hp.mem_iff, List.mem_cons]
        simp [cx]
    · rw [if_neg cu, hk]
      by_cases cx : c = x
      · subst cx
        rw [if_pos rfl, hu]
        constructor
        · rintro ⟨_, _, q⟩; exact absurd q.symm cu
        · rintro ⟨_, _, q⟩; omega
      · rw [if_neg cx]
  · by_cases cu : i = u
    · subst cu; rw [if_pos rfl]; exact hnd2.2
    · rw [if_neg cu]; exact h.nd i i0 i1
  · obtain ⟨ρ, hρ⟩ := h.rk
    refine ⟨ρ, fun i i0 i1 q => ?_⟩
    by_cases c : i = x
    · rw [if_pos c] at q; omega
    · simp only [if_neg c] at q ⊢; exact hρ i i0 i1 q
end Go.Proofs.Ytgamhkhninogeaa.Pure
