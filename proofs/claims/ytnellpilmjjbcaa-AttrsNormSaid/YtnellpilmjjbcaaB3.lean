/- What the claim LawAttrsNorm rests on, part 3 of 5: the kit's words, the printed walks, the walks by hand, the plain laws. -/
import Derived.Test.YtnellpilmjjbcaaB2
namespace Go.Proofs.Ytnellpilmjjbcaa.Pure
open Go.RowKit Go.Proofs.Ytnellpilmjjbcaa.G Go.Proofs.YtnellpilmjjbcaaW.PrintWords Go.Proofs.YtnellpilmjjbcaaW.PrintLast Go.Proofs.Ytnellpilmjjbcaa.Srt
set_option linter.unusedVariables false
/-- The last one of its name. -/
def Last (l : List S45) (x : S45) : Prop := ∃ A B, l = A ++ x :: B ∧ ∀ y ∈ B, ¬ isN x.f0 y = true
theorem last_snoc (l : List S45) (z x : S45) : Last (l ++ [z]) x ↔ x = z ∨ (Last l x ∧ ¬ isN x.f0 z = true) := by
  constructor
  · rintro ⟨A, B, e, hB⟩
    rcases List.eq_nil_or_concat B with rfl | ⟨B', b, rfl⟩
    · obtain ⟨_, e2⟩ := List.append_inj' e rfl
      injection e2 with e2
      exact .inl e2.symm
    · right
      rw [List.concat_eq_append] at e hB
      have e' : l ++ [z] = (A ++ x :: B') ++ [b] := by rw [e]; simp
      obtain ⟨e1, e2⟩ := List.append_inj' e' rfl
      injection e2 with e2
      subst e2
      exact ⟨⟨A, B', e1, fun y hy => hB y (by simp [hy])⟩, hB z (by simp)⟩
  · rintro (rfl | ⟨⟨A, B, rfl, hB⟩, hz⟩)
    · exact ⟨l, [], rfl, fun y hy => by cases hy⟩
    · refine ⟨A, B ++ [z], by simp, fun y hy => ?_⟩
      rcases List.mem_append.1 hy with hy | hy
      · exact hB y hy
      · rw [List.mem_singleton.1 hy]; exact hz
theorem last_nil (x : S45) : ¬ Last [] x := by
  rintro ⟨A, B, e, _⟩; simp at e
/-- By what a name leaves of a list. -/
theorem last_filter : ∀ (n : Nat) (l : List S45) (x : S45), l.length = n → (Last l x ↔ (l.filter (isN x.f0)).getLast? = some x)
  | 0, l, x, h => by
    obtain rfl := List.length_eq_zero_iff.1 h
    simp [last_nil]
  | n + 1, l, x, h => by
    rcases List.eq_nil_or_concat l with rfl | ⟨l', z, rfl⟩
    · simp at h
    · rw [List.concat_eq_append] at h ⊢
      have ih := last_filter n l' x (by simpa using h)
      rw [last_snoc, List.filter_append, List.filter_cons]
      by_cases c : isN x.f0 z = true
      · rw [if_pos c, List.filter_nil, List.getLast?_append]
        simp only [List.getLast?_singleton, Option.some_or, Option.some.injEq]
        constructor
        · rintro (e | ⟨_, e⟩)
          · exact e.symm
          · exact absurd c e
        · intro e; exact .inl e.symm
      · rw [if_neg c, List.filter_nil, List.append_nil, ← ih]
        constructor
        · rintro (e | ⟨e, _⟩)
          · exact absurd (by rw [e]; exact (isN_iff _ _).2 rfl) c
          · exact e
        · intro e; exact .inr ⟨e, c⟩
/-- Strictly rising by name. -/
def Up (l : List S45) : Prop := l.Pairwise (fun a b => lessB a.f0 b.f0 = true)
theorem up_uniq : ∀ (X Y : List S45), Up X → Up Y → (∀ x, x ∈ X ↔ x ∈ Y) → X = Y
  | [], [], _, _, _ => rfl
  | [], y :: Y, _, _, h => by have := (h y).2 (by simp); cases this
  | x :: X, [], _, _, h => by have := (h x).1 (by simp); cases this
  | x :: X, y :: Y, hx, hy, h => by
    unfold Up at hx hy
    rw [List.pairwise_cons] at hx hy
    have e : x = y := by
      rcases List.mem_cons.1 ((h x).1 (by simp)) with h1 | h1
      · exact h1
      · rcases List.mem_cons.1 ((h y).2 (by simp)) with h2 | h2
        · exact h2.symm
        · exact absurd (less_trans (hy.1 x h1) (hx.1 y h2)) (less_irrefl _)
    subst e
    rw [up_uniq X Y hx.2 hy.2 (fun z => ?_)]
    constructor
    · intro hz
      rcases List.mem_cons.1 ((h z).1 (by simp [hz])) with rfl | h1
      · exact absurd (hx.1 z hz) (less_irrefl _)
      · exact h1
    · intro hz
      rcases List.mem_cons.1 ((h z).2 (by simp [hz])) with rfl | h1
      · exact absurd (hy.1 z hz) (less_irrefl _)
      · exact h1
theorem isN_congr {a b : ByteArray} {x y : S45} (h : isN x.f0 y = true) : x.f0 = y.f0 := (bytes_eq ((isN_iff _ _).1 h)).symm
theorem up_last {l : List S45} (h : Up l) (x : S45) : Last l x ↔ x ∈ l := by
  constructor; (rintro ⟨A, B, rfl, _⟩; simp); (intro hx; obtain ⟨A, B, rfl⟩ := List.append_of_mem hx; refine ⟨A, B, rfl, fun y hy hn => ?_⟩; have h2 := (List.pairwise_append.1 h).2.1; have := (List.pairwise_cons.1 h2).1 y hy; rw [isN_congr (a := x.f0) (b := x.f0) hn] at this; exact less_irrefl _ this)
/-- One by one. -/
def putN (l : List S45) (x : S45) : List S45 := if h : ∃ y ∈ l, isN x.f0 y = true then l.map (fun y => if isN x.f0 y = true then ⟨y.f0, x.f1⟩ else y) else ins x.f0 x.f1 l
theorem map_split {n v : ByteArray} {A B : List S45} {x : S45} (hA : ∀ y ∈ A, ¬ isN n y = true) (hB : ∀ y ∈ B, ¬ isN n y = true) (hx : isN n x = true) :
    (A ++ x :: B).map (fun y => if isN n y = true then (⟨y.f0, v⟩ : S45) else y) = A ++ ⟨x.f0, v⟩ :: B := by
  rw [List.map_append, List.map_cons, if_pos hx]
  congr 1
  · conv => rhs; rw [← List.map_id A]
    exact List.map_congr_left (fun y hy => by rw [if_neg (hA y hy)]; rfl)
  · congr 1
    conv => rhs; rw [← List.map_id B]
    exact List.map_congr_left (fun y hy => by rw [if_neg (hB y hy)]; rfl)
theorem up_split {A B : List S45} {x : S45} {n : ByteArray} (h : Up (A ++ x :: B)) (hx : isN n x = true) : (∀ y ∈ A, ¬ isN n y = true) ∧ (∀ y ∈ B, ¬ isN n y = true) := by
  obtain ⟨_, h2, h3⟩ := List.pairwise_append.1 h; have e := (isN_iff _ _).1 hx; constructor; (intro y hy hn; have := h3 y hy x (by simp); rw [bytes_eq (((isN_iff _ _).1 hn).trans e.symm)] at this; exact less_irrefl _ this); (intro y hy hn; have := (List.pairwise_cons.1 h2).1 y hy; rw [bytes_eq (((isN_iff _ _).1 hn).trans e.symm)] at this; exact less_irrefl _ this)
theorem ins_up {l : List S45} {n v : ByteArray} (h : Up l) (hn : ∀ y ∈ l, ¬ isN n y = true) : Up (ins n v l) ∧ ∀ x, x ∈ ins n v l ↔ x = ⟨n, v⟩ ∨ x ∈ l := by
  have hs := gt_split n l 0; have hpe := pl_eq n l; rw [hpe] at hs; simp only [Int.sub_zero, Int.toNat_natCast] at hs
  have hlt : ∀ x ∈ l.take (pl n l), lessB x.f0 n = true := fun x hx => by
    have h1 := hs.1 x hx
    rcases less_total n x.f0 with q | q | q
    (exact absurd q h1); (exact absurd ((isN_iff _ _).2 q.symm) (hn x (List.mem_of_mem_take hx))); (exact q)
  have hgt : ∀ x ∈ l.drop (pl n l), lessB n x.f0 = true := fun x hx => by
    cases hd : l.drop (pl n l) with
    | nil => rw [hd] at hx; cases hx
    | cons y ys =>
      have h1 := hs.2 y ys hd; have hp : Up (l.drop (pl n l)) := h.sublist (List.drop_sublist _ _); unfold Up at hp; rw [hd] at hx hp
      rcases List.mem_cons.1 hx with rfl | hx
      (exact h1); (exact less_trans h1 ((List.pairwise_cons.1 hp).1 x hx))
  refine ⟨?_, fun x => ?_⟩
  · unfold ins Up
    rw [List.append_assoc]
    refine List.pairwise_append.2 ⟨h.sublist (List.take_sublist _ _), List.pairwise_cons.2 ⟨fun y hy => hgt y hy, h.sublist (List.drop_sublist _ _)⟩, ?_⟩
    intro a ha b hb
    rcases List.mem_append.1 hb with hb | hb
    · rw [List.mem_singleton.1 hb]; exact hlt a ha
    · exact less_trans (hlt a ha) (hgt b hb)
  · unfold ins
    have e : x ∈ l ↔ x ∈ l.take (pl n l) ∨ x ∈ l.drop (pl n l) := by
      conv => lhs; rw [← List.take_append_drop (pl n l) l]
      exact List.mem_append
    rw [List.append_assoc, List.mem_append, e]
    simp only [List.singleton_append, List.mem_cons]
    constructor
    · rintro (h | h | h)
      · exact .inr (.inl h)
      · exact .inl h
      · exact .inr (.inr h)
    · rintro (h | h | h)
      · exact .inr (.inl h)
      · exact .inl h
      · exact .inr (.inr h)
theorem putN_ok {l : List S45} (h : Up l) (x : S45) : Up (putN l x) ∧ (∀ y, y ∈ putN l x ↔ y = x ∨ (y ∈ l ∧ ¬ isN y.f0 x = true)) ∧ (putN l x).length ≤ l.length + 1 := by
  unfold putN
  by_cases c : ∃ y ∈ l, isN x.f0 y = true
  · rw [dif_pos c]
    obtain ⟨y, hy, hn⟩ := c
    obtain ⟨A, B, rfl⟩ := List.append_of_mem hy
    obtain ⟨hA, hB⟩ := up_split h hn
    rw [map_split hA hB hn]
    have ey : y.f0 = x.f0 := bytes_eq ((isN_iff _ _).1 hn)
    have ex : (⟨y.f0, x.f1⟩ : S45) = x := by rw [ey]
    rw [ex]
    refine ⟨?_, fun z => ?_, by simp⟩
    · obtain ⟨h1, h2, h3⟩ := List.pairwise_append.1 h
      rw [List.pairwise_cons] at h2
      refine List.pairwise_append.2 ⟨h1, List.pairwise_cons.2 ⟨fun b hb => by rw [← ey]; exact h2.1 b hb, h2.2⟩, fun a ha b hb => ?_⟩
      rcases List.mem_cons.1 hb with rfl | hb
      · rw [← ey]; exact h3 a ha y (by simp)
      · exact h3 a ha b (by simp [hb])
    · have hzz : ∀ z : S45, z.f0 = x.f0 → isN z.f0 x = true := fun z e => (isN_iff _ _).2 (by rw [e])
      constructor
      · intro hz
        rcases List.mem_append.1 hz with hz | hz
        · exact .inr ⟨by simp [hz], fun e => hA z hz ((isN_iff _ _).2 ((isN_iff _ _).1 e).symm)⟩
        · rcases List.mem_cons.1 hz with rfl | hz
          · exact .inl rfl
          · exact .inr ⟨by simp [hz], fun e => hB z hz ((isN_iff _ _).2 ((isN_iff _ _).1 e).symm)⟩
      · rintro (rfl | ⟨hz, hne⟩)
        · simp
        · rcases List.mem_append.1 hz with hz | hz
          · simp [hz]
          · rcases List.mem_cons.1 hz with rfl | hz
            · exact absurd (hzz z ey) hne
            · simp [hz]
  · rw [dif_neg c]
    have hn : ∀ y ∈ l, ¬ isN x.f0 y = true := fun y hy e => c ⟨y, hy, e⟩
    obtain ⟨h1, h2⟩ := ins_up (v := x.f1) h hn
    refine ⟨h1, fun y => ?_, by rw [ins_len]; exact Nat.le_refl _⟩
    rw [h2 y]
    constructor
    · rintro (e | e)
      · exact .inl (by rw [e])
      · exact .inr ⟨e, fun q => hn y e ((isN_iff _ _).2 ((isN_iff _ _).1 q).symm)⟩
    · rintro (e | e)
      · exact .inl (by rw [e])
      · exact .inr e.1
theorem with_putN {l : List S45} (h : Up l) (hl : l.length ≤ 1000000) (hs : ∀ y ∈ l, Sm45 y) (x : S45) : Ev (fun k => r09_With.f k l x.f0 x.f1) (putN l x) := by
  unfold putN
  by_cases c : ∃ y ∈ l, isN x.f0 y = true
  (rw [dif_pos c]; obtain ⟨y, hy, hn⟩ := c; obtain ⟨A, B, rfl⟩ := List.append_of_mem hy; obtain ⟨hA, hB⟩ := up_split h hn; rw [map_split hA hB hn]; exact refWith_found A y B x.f0 x.f1 (by omega) hs hA hn); (rw [dif_neg c]; exact refWith_none l x.f0 x.f1 (by omega) hs (fun y hy e => c ⟨y, hy, e⟩))
def normR (l : List S45) : List S45 := l.foldl putN []
theorem normR_snoc (l : List S45) (x : S45) : normR (l ++ [x]) = putN (normR l) x := by unfold normR; rw [List.foldl_append]; rfl
theorem normR_ok : ∀ (n : Nat) (l : List S45), l.length = n → Up (normR l) ∧ (∀ x, x ∈ normR l ↔ Last l x) ∧ (normR l).length ≤ n
  | 0, l, h => by
    obtain rfl := List.length_eq_zero_iff.1 h
    exact ⟨List.Pairwise.nil, fun x => by simp [normR, last_nil], Nat.le_refl _⟩
  | n + 1, l, h => by
    rcases List.eq_nil_or_concat l with rfl | ⟨l', z, rfl⟩
    · simp at h
    · rw [List.concat_eq_append] at h ⊢
      obtain ⟨h1, h2, h3⟩ := normR_ok n l' (by simpa using h)
      obtain ⟨g1, g2, g3⟩ := putN_ok h1 z
      rw [normR_snoc]
      refine ⟨g1, fun x => ?_, by omega⟩
      rw [g2 x, last_snoc, h2 x]
theorem refNorm_ev (l : List S45) (hl : l.length ≤ 1000000) (hs : ∀ y ∈ l, Sm45 y) : Ev (fun k => r09_Norm.f k l) (normR l) := by
  have loop : ∀ (d i : Nat), i + d = l.length → Ev (fun k => r09_Norm.l0 k l (normR (l.take i)) l.length i) (normR l) := by
    intro d
    induction d with
    | zero =>
      intro i hi; rw [List.take_of_length_le (by omega)]; exact (Ev.pure _).step (fun k => by rw [r09_Norm.l0, if_neg (by omega)])
    | succ d ih =>
      intro i hi; have h1 := ih (i + 1) (by omega); have htk : l.take (i + 1) = l.take i ++ [rd_T45 l (i : Int)] := take_nat l i (by omega); rw [htk, normR_snoc] at h1; obtain ⟨g1, g2, g3⟩ := normR_ok _ (l.take i) rfl
      have hw := with_putN g1 (by rw [List.length_take] at g3; omega) (fun y hy => by
        obtain ⟨A, B, e, _⟩ := (g2 y).1 hy
        exact hs y (List.mem_of_mem_take (i := i) (by rw [e]; simp))) (rd_T45 l (i : Int))
      exact hw.via h1 (fun k hk => by rw [r09_Norm.l0, if_pos (by omega), if_pos (by omega), if_pos (by omega), hk, Option.bind_some, w1 (by omega) (by omega)]; rfl)
  have := loop l.length 0 (by omega); exact this
/-- By sorting. -/
theorem ltA (x y : S45) : lt cmA x y = lessB x.f0 y.f0 := lt_cmA x y
theorem eqvA (z y : S45) : eqv (lt cmA) z y = isN z.f0 y := by
  unfold eqv; rw [ltA, ltA, Bool.eq_iff_iff, isN_iff]; simp only [Bool.and_eq_true, Bool.not_eq_true']; constructor
  · rintro ⟨h1, h2⟩
    rcases less_total z.f0 y.f0 with q | q | q
    · rw [h1] at q; cases q
    · exact q.symm
    · rw [h2] at q; cases q
  · intro e
    rw [bytes_eq e]; have := less_irrefl z.f0; simp [this]
theorem dedT_mem (M : List S45) (x : S45) : ∀ i, i ≤ M.length → (x ∈ dedT M i ↔ ∃ j : Nat, j < i ∧ rd_T45 M (j : Int) = x ∧ keepAt M j = true)
  | 0, _ => by simp [dedT]
  | i + 1, hi => by
    have ih := dedT_mem M x i (by omega)
    unfold dedT
    by_cases c : keepAt M i = true
    · rw [if_pos c, List.mem_append, ih, List.mem_singleton]
      constructor
      · rintro (⟨j, a, b⟩ | e)
        · exact ⟨j, by omega, b⟩
        · exact ⟨i, by omega, e.symm, c⟩
      · rintro ⟨j, a, b, d⟩
        by_cases e : j = i
        · subst e; exact .inr b.symm
        · exact .inl ⟨j, by omega, b, d⟩
    · rw [if_neg c, ih]
      constructor
      · rintro ⟨j, a, b⟩
        exact ⟨j, by omega, b⟩
      · rintro ⟨j, a, b, d⟩
        by_cases e : j = i
        · subst e; exact absurd d c
        · exact ⟨j, by omega, b, d⟩
theorem srt_le {M : List S45} (h : Srt (lt cmA) M) (i j : Nat) (hij : i ≤ j) (hj : j < M.length) : ¬ lessB (rd_T45 M (j : Int)).f0 (rd_T45 M (i : Int)).f0 = true := by
  rcases Nat.eq_or_lt_of_le hij with rfl | hlt
  (exact less_irrefl _); (have := List.pairwise_iff_getElem.1 h i j (by omega) hj hlt; rw [ltA] at this; rw [rd43_get M i (by omega), rd43_get M j hj, this]; decide)
theorem keep_less {M : List S45} (h : Srt (lt cmA) M) (i j : Nat) (hk : keepAt M i = true) (hij : i < j) (hj : j < M.length) : lessB (rd_T45 M (i : Int)).f0 (rd_T45 M (j : Int)).f0 = true := by
  unfold keepAt at hk; rw [show (i + 1 == M.length) = false from by simp; omega, Bool.false_or] at hk
  have hne : (rd_T45 M ((i + 1 : Nat) : Int)).f0.toList ≠ (rd_T45 M (i : Int)).f0.toList := by simpa using hk
  have h1 := srt_le h i (i + 1) (by omega) (by omega); have h2 := srt_le h (i + 1) j (by omega) hj
  have h3 : lessB (rd_T45 M (i : Int)).f0 (rd_T45 M ((i + 1 : Nat) : Int)).f0 = true := by
    rcases less_total (rd_T45 M (i : Int)).f0 (rd_T45 M ((i + 1 : Nat) : Int)).f0 with q | q | q
    (exact q); (exact absurd q.symm hne); (exact absurd q h1)
  rcases less_total (rd_T45 M ((i + 1 : Nat) : Int)).f0 (rd_T45 M (j : Int)).f0 with q | q | q
  (exact less_trans h3 q); (rw [← bytes_eq q]; exact h3); (exact absurd q h2)
theorem dedT_up {M : List S45} (h : Srt (lt cmA) M) : ∀ i, i ≤ M.length → Up (dedT M i)
  | 0, _ => List.Pairwise.nil
  | i + 1, hi => by
    have ih := dedT_up h i (by omega)
    unfold dedT
    by_cases c : keepAt M i = true
    · rw [if_pos c]
      refine List.pairwise_append.2 ⟨ih, List.pairwise_singleton _ _, fun a ha b hb => ?_⟩
      rw [List.mem_singleton.1 hb]
      obtain ⟨j, h1, h2, h3⟩ := (dedT_mem M a i (by omega)).1 ha
      rw [← h2]
      exact keep_less h j i h3 h1 (by omega)
    · rw [if_neg c]; exact ih
theorem drop45 (M : List S45) (i : Nat) (h : i < M.length) : M.drop i = rd_T45 M (i : Int) :: M.drop (i + 1) := by
  rw [List.drop_eq_getElem_cons h, rd43_get M i h]
theorem keep_last {M : List S45} (h : Srt (lt cmA) M) (x : S45) : (∃ j : Nat, j < M.length ∧ rd_T45 M (j : Int) = x ∧ keepAt M j = true) ↔ Last M x := by
  constructor; (rintro ⟨j, hj, rfl, hk⟩; refine ⟨M.take j, M.drop (j + 1), by rw [← drop45 M j hj, List.take_append_drop], fun y hy hn => ?_⟩; obtain ⟨t, ht, e⟩ := List.getElem_of_mem hy; rw [List.length_drop] at ht; rw [List.getElem_drop] at e; have := keep_less h j (j + 1 + t) hk (by omega) (by omega); rw [rd43_get M (j + 1 + t) (by omega), e, isN_congr (a := ⟨#[]⟩) (b := ⟨#[]⟩) hn] at this; exact less_irrefl _ this)
  · rintro ⟨A, B, rfl, hB⟩
    refine ⟨A.length, by simp, rd_at A x B, ?_⟩
    unfold keepAt
    rw [rd_at A x B]
    cases B with
    | nil => simp
    | cons b B =>
      have e : rd_T45 (A ++ x :: b :: B) ((A.length + 1 : Nat) : Int) = b := by
        have := rd_at (A ++ [x]) b B; rw [List.length_append, List.length_singleton, show A ++ [x] ++ b :: B = A ++ x :: b :: B from by simp] at this; exact this
      rw [e]; have := hB b (by simp); rw [isN_iff] at this; simp [this]
theorem normP_ok (l : List S45) : Up (normP l) ∧ ∀ x, x ∈ normP l ↔ Last l x := by
  obtain ⟨h1, h2⟩ := isort_ok swoA l _ rfl; unfold normP; refine ⟨dedT_up h1 _ (Nat.le_refl _), fun x => ?_⟩; rw [dedT_mem _ x _ (Nat.le_refl _), keep_last h1, last_filter _ _ x rfl, last_filter _ l x rfl]; have e : isN x.f0 = eqv (lt cmA) x := funext (fun y => (eqvA x y).symm); rw [e, h2.fl x]
theorem norm_eq (l : List S45) : normR l = normP l := by
  obtain ⟨a, b, _⟩ := normR_ok _ l rfl; obtain ⟨c, d⟩ := normP_ok l; exact up_uniq _ _ a c (fun x => (b x).trans (d x).symm)
theorem norm_up {l : List S45} (h : Up l) : normP l = l := by
  obtain ⟨c, d⟩ := normP_ok l; exact up_uniq _ _ c h (fun x => (d x).trans (up_last h x))
theorem valid_up {l : List S45} (h : Valid l) : Up l := by
  have := h.2.2; rw [List.pairwise_map] at this; exact this
theorem normP_len (l : List S45) : (normP l).length ≤ l.length := by
  rw [← norm_eq]; exact (normR_ok _ l rfl).2.2
/-- Both comparisons. -/
theorem ne_iff (x y : S45) : (!(x.f0.toList == y.f0.toList) || !(x.f1.toList == y.f1.toList)) = true ↔ x ≠ y := by
  rw [Bool.or_eq_true]; simp only [Bool.not_eq_true', beq_eq_false_iff_ne, ne_eq]; constructor
  · rintro (h | h) rfl
    · exact h rfl
    · exact h rfl
  · intro h
    by_cases c : x.f0.toList = y.f0.toList
    · by_cases d : x.f1.toList = y.f1.toList
      · exact absurd (by cases x; cases y; simp only [S45.mk.injEq]; exact ⟨bytes_eq c, bytes_eq d⟩) h
      · exact .inr d
    · exact .inl c
theorem attrsEq_ev (a b : List S45) (hl : a.length ≤ 1000000) : ∃ t, Ev (fun k => pl_Attrs.f k a b) t ∧ Ev (fun k => attrs_Same.f k a b) t ∧ (a = b → t = true) := by
  by_cases c : a.length = b.length
  · have loop : ∀ (d i : Nat), i + d = a.length → ∃ t, Ev (fun k => pl_Attrs.l0 k a b a.length i) t ∧ Ev (fun k => api_Attr_37.l0 k a b a.length i) t ∧ (a = b → t = true) := by
      intro d
      induction d with
      | zero => intro i hi; exact ⟨true, (Ev.pure _).step (fun k => by rw [pl_Attrs.l0, if_neg (by omega)]), (Ev.pure _).step (fun k => by rw [api_Attr_37.l0, if_neg (by omega)]), fun _ => rfl⟩
      | succ d ih =>
        intro i hi
        by_cases e : rd_T45 a (i : Int) = rd_T45 b (i : Int)
        · obtain ⟨t, h1, h2, h3⟩ := ih (i + 1) (by omega)
          have hne : ¬ ((!((rd_T45 a (i : Int)).f0.toList == (rd_T45 b (i : Int)).f0.toList) || !((rd_T45 a (i : Int)).f1.toList == (rd_T45 b (i : Int)).f1.toList)) = true) := fun h => (ne_iff _ _).1 h e
          exact ⟨t, h1.step (fun k => by rw [pl_Attrs.l0, if_pos (by omega), if_pos (by omega), if_pos (by omega), if_pos (by omega), if_neg hne, w1 (by omega) (by omega)]; rfl), h2.step (fun k => by rw [api_Attr_37.l0, if_pos (by omega), if_pos (by omega), if_pos (by omega), if_pos (by omega), if_neg hne, w1 (by omega) (by omega)]; rfl), h3⟩
        · have hne := (ne_iff _ _).2 e
          exact ⟨false, (Ev.pure _).step (fun k => by rw [pl_Attrs.l0, if_pos (by omega), if_pos (by omega), if_pos (by omega), if_pos (by omega), if_pos hne]), (Ev.pure _).step (fun k => by rw [api_Attr_37.l0, if_pos (by omega), if_pos (by omega), if_pos (by omega), if_pos (by omega), if_pos hne]), fun h => absurd (by rw [h]) e⟩
    obtain ⟨t, h1, h2, h3⟩ := loop a.length 0 (by omega)
    refine ⟨t, h1.eq (fun k => by rw [pl_Attrs.f, if_pos (by omega)]; rfl), ?_, h3⟩
    have h4 : Ev (fun k => api_Attr_37.f k a b) t := h2.eq (fun k => by rw [api_Attr_37.f, if_pos (by omega)]; rfl)
    exact Ev.bind h4 (Ev.pure t)
  · refine ⟨false, (Ev.pure _).eq (fun k => by rw [pl_Attrs.f, if_neg (by omega)]), ?_, fun h => absurd (by rw [h]) c⟩
    have h4 : Ev (fun k => api_Attr_37.f k a b) false := (Ev.pure _).eq (fun k => by rw [api_Attr_37.f, if_neg (by omega)]); exact Ev.bind h4 (Ev.pure false)
end Go.Proofs.Ytnellpilmjjbcaa.Pure
namespace Go.Proofs.Ytnellpilmjjbcaa.Pure
open Go.RowKit Go.Proofs.Ytnellpilmjjbcaa.G Go.Proofs.YtnellpilmjjbcaaW.PrintWords Go.Proofs.YtnellpilmjjbcaaW.PrintLast
set_option linter.unusedVariables false
theorem rd42_mem (l : List S45) (i : Int) (h0 : 0 ≤ i) (h : i < l.length) : rd_T45 l i ∈ l := by
  unfold rd_T45; rw [List.getD_eq_getElem?_getD, List.getElem?_eq_getElem (by omega)]; exact List.getElem_mem _
theorem attrs_l0 (l : List S45) (hl : l.length ≤ 140737488351232) (hs : ∀ y ∈ l, Sm45 y) (d : Nat) : ∀ i : Int, 0 ≤ i → (l.length : Int) - i = d →
    ∃ r, Ev (fun k => attrs_Check.l0 k l l l.length i) r ∧ Ev (fun k => r09_Check.l0 k l l.length i) r := by
  induction d with
  | zero =>
    intro i h0 hd; exact ⟨(0, 0), (Ev.pure _).step (fun k => by rw [attrs_Check.l0, if_neg (by omega)]), (Ev.pure _).step (fun k => by rw [r09_Check.l0, if_neg (by omega)])⟩
  | succ d ih =>
    intro i h0 hd; obtain ⟨r, hp, hq⟩ := ih (i + 1) (by omega) (by omega)
    have hi : i < (l.length : Int) := by omega
    have hw : wrap64 (i + 1) = i + 1 := w1 (by omega) (by omega); have hv : wrap64 (i - 1) = i - 1 := wm (by omega) (by omega)
    by_cases c64 : i = 64
    (exact ⟨(i, 12), (Ev.pure _).step (fun k => by rw [attrs_Check.l0, if_pos hi, if_pos h0, if_pos hi, if_pos c64, if_neg (by decide)]), (Ev.pure _).step (fun k => by rw [r09_Check.l0, if_pos hi, if_pos c64])⟩); obtain ⟨b, nb, nb', _⟩ := named (rd_T45 l i).f0 true; have nb : Ev (fun k => chars_Name.f k (rd_T45 l i).f0) b := (nb.bind (g := fun _ t => some t) (Ev.pure b)).eq (fun k => rfl)
    cases b with
    | false =>
      exact ⟨(i, 8), nb.via (Ev.pure _) (fun k hk => by rw [attrs_Check.l0, if_pos hi, if_pos h0, if_pos hi, if_neg c64, hk]; rfl),
        nb'.via (Ev.pure _) (fun k hk => by rw [r09_Check.l0, if_pos hi, if_neg c64, if_pos h0, if_pos hi, hk]; rfl)⟩
    | true =>
    by_cases cf : ((rd_T45 l i).f1.size : Int) ≤ 65536
    case neg =>
      refine ⟨(i, 3), nb.via (Ev.pure _) (fun k hk => ?_), nb'.via (Ev.pure _) (fun k hk => ?_)⟩; (rw [attrs_Check.l0, if_pos hi, if_pos h0, if_pos hi, if_neg c64, hk]; simp [chars_Fits.f, cf]); (rw [r09_Check.l0, if_pos hi, if_neg c64, if_pos h0, if_pos hi, hk]; simp [show ((rd_T45 l i).f1.size : Int) > 65536 by omega])
    by_cases ci : i > 0
    case neg =>
      have p0 : Ev (fun k => attrs_Check.j2 k l i 0 l l.length i false) r := hp.step (fun k => by rw [attrs_Check.j2, if_neg (by decide), if_pos rfl, hw]); have p1 : Ev (fun k => attrs_Check.j1 k l i 0 l l.length i false (rd_T45 l i).f0 (rd_T45 l i).f1) r := p0.step (fun k => by rw [attrs_Check.j1, if_neg (by decide), if_neg ci]); have q1 : Ev (fun k => r09_Check.j1 k l i l.length i false) r := hq.step (fun k => by rw [r09_Check.j1, if_neg (by decide), if_neg ci, hw]); refine ⟨r, nb.via p1 (fun k hk => ?_), nb'.via q1 (fun k hk => ?_)⟩; (rw [attrs_Check.l0, if_pos hi, if_pos h0, if_pos hi, if_neg c64, hk]; simp [chars_Fits.f, cf, show ¬ 0 < i by omega]); (rw [r09_Check.l0, if_pos hi, if_neg c64, if_pos h0, if_pos hi, hk]; simp [show ¬ ((rd_T45 l i).f1.size : Int) > 65536 by omega, show ¬ 0 < i by omega])
    have hvi : 0 ≤ wrap64 (i - 1) ∧ wrap64 (i - 1) < (l.length : Int) := by rw [hv]; omega
    obtain ⟨e, he⟩ : ∃ e, ((rd_T45 l (wrap64 (i - 1))).f0.toList == (rd_T45 l i).f0.toList) = e := ⟨_, rfl⟩
    have fin (r : Int × Int) (p1 : Ev (fun k => attrs_Check.j1 k l i 0 l l.length i e (rd_T45 l i).f0 (rd_T45 l i).f1) r) (q1 : Ev (fun k => r09_Check.j1 k l i l.length i e) r) :
        ∃ r, Ev (fun k => attrs_Check.l0 k l l l.length i) r ∧ Ev (fun k => r09_Check.l0 k l l.length i) r := by
      refine ⟨r, nb.via p1 (fun k hk => ?_), nb'.via q1 (fun k hk => ?_)⟩
      · rw [attrs_Check.l0, if_pos hi, if_pos h0, if_pos hi, if_neg c64, hk]; rw [← he]; simp [chars_Fits.f, cf, show 0 < i by omega, hvi]
      · rw [r09_Check.l0, if_pos hi, if_neg c64, if_pos h0, if_pos hi, hk]; rw [← he]; simp [show ¬ ((rd_T45 l i).f1.size : Int) > 65536 by omega, show 0 < i by omega, hvi]
    cases e with
    | true => exact fin (i, 10) ((Ev.pure _).step (fun k => by rw [attrs_Check.j1, if_pos rfl, if_neg (by decide)])) ((Ev.pure _).step (fun k => by rw [r09_Check.j1, if_pos rfl]))
    | false =>
      obtain ⟨t, ht, hti⟩ := compare (rd_T45 l (wrap64 (i - 1))).f0 (rd_T45 l i).f0 (hs _ (rd42_mem l _ hvi.1 hvi.2)).h0; obtain ⟨b, hb⟩ : ∃ b, Op.bytesLess (rd_T45 l i).f0.toList (rd_T45 l (wrap64 (i - 1))).f0.toList = b := ⟨_, rfl⟩; rw [hb] at hti
      cases b with
      | true =>
        have ht0 : t > 0 := hti.2 rfl; refine fin (i, 9) (((Ev.pure (i, (9 : Int))).step (f := fun k => attrs_Check.j2 k l i 0 l l.length i true) (fun k => by rw [attrs_Check.j2, if_pos rfl, if_neg (by decide)])).step (fun k => by rw [attrs_Check.j1, if_neg (by decide), if_pos ci, if_pos hvi.1, if_pos hvi.2, hb])) ?_; refine (ht.bind (g := fun k t => if t > 0 then some (i, 9) else r09_Check.l0 k l l.length (wrap64 (i + 1))) (Ev.all fun k => by rw [if_pos ht0])).step (fun k => ?_); rw [r09_Check.j1, if_neg (by decide), if_pos ci, if_pos hvi.1, if_pos hvi.2, if_pos h0, if_pos hi]
      | false =>
        have ht0 : ¬ t > 0 := fun h => by have := hti.1 h; cases this
        refine fin r ((hp.step (f := fun k => attrs_Check.j2 k l i 0 l l.length i false) (fun k => by rw [attrs_Check.j2, if_neg (by decide), if_pos rfl, hw])).step (fun k => by rw [attrs_Check.j1, if_neg (by decide), if_pos ci, if_pos hvi.1, if_pos hvi.2, hb])) ?_; refine (ht.bind (g := fun k t => if t > 0 then some (i, 9) else r09_Check.l0 k l l.length (wrap64 (i + 1))) (hq.eq fun k => by rw [if_neg ht0, hw])).step (fun k => ?_); rw [r09_Check.j1, if_neg (by decide), if_pos ci, if_pos hvi.1, if_pos hvi.2, if_pos h0, if_pos hi]
/-- The attributes' test: both come to the same. -/
theorem attrs (l : List S45) (hl : l.length ≤ 140737488351232) (hs : ∀ y ∈ l, Sm45 y) : ∃ r, Ev (fun k => attrs_Check.f k l) r ∧ Ev (fun k => r09_Check.f k l) r := by
  obtain ⟨r, h1, h2⟩ := attrs_l0 l hl hs l.length 0 (by omega) (by omega); exact ⟨r, h1.eq fun k => rfl, h2.eq fun k => rfl⟩
theorem AttrsNorm : ∀ (x0 : List (S45)) (x1 : List (S45)), (x0.length * 32 ≤ 140737488351232 ∧ ∀ y ∈ x0, Sm45 y) → (x1.length * 32 ≤ 140737488351232 ∧ ∀ y ∈ x1, Sm45 y) → ∃ k, lw_AttrsNorm.f k x0 x1 = some true := by
  rintro l m ⟨h1, hs⟩ ⟨h2, hs2⟩; refine Ev.ex (r := true) ?_; have hsame : Ev (fun k => (lw_same.f k).bind fun t => (some t)) true := Ev.bind same_ev (Ev.pure true); have hj : Ev (fun k => lw_AttrsNorm.j0 k l m true) true := hsame.step (fun k => by rw [lw_AttrsNorm.j0, if_pos rfl]); obtain ⟨p, hp, hpi⟩ := heavy_ev l (by omega); obtain ⟨q, hq, hqi⟩ := heavy_ev m (by omega); unfold lw_AttrsNorm.f; refine Ev.bind hp ?_
  cases p with
  | true => simp only [↓reduceIte]; exact hj
  | false =>
    simp only [Bool.false_eq_true, ↓reduceIte]; refine Ev.bind hq ?_
    cases q with
    | true => exact hj
    | false =>
      have ll := hpi rfl; have lm := hqi rfl; have hn : attrs_Norm.f l = some (normP l) := if_pos (by omega); have hr := refNorm_ev l (by omega) hs; rw [norm_eq] at hr; have hnl := normP_len l; obtain ⟨t1, a1, b1, c1⟩ := attrsEq_ev (normP l) (normP l) (by omega); obtain rfl := c1 rfl; obtain ⟨t2, a2, b2, c2⟩ := attrsEq_ev l m (by omega); obtain ⟨t3, a3, b3, c3⟩ := attrsEq_ev (normP l) l (by omega); obtain ⟨r, r1, r2⟩ := attrs l (by omega) hs; obtain ⟨r', r3, r4⟩ := check_ev l (by omega); obtain rfl := Ev.uniq r1 r3
      have hj1 : Ev (fun k => lw_AttrsNorm.j1 k l (normP l) false) true := by
        have key : Ev (fun k => (r09_Check.f k l).bind fun bt202 => (if bt202.2 = 0 then ((attrs_Same.f k (normP l) l).bind fun t204 => (if t204 = true then ((lw_same.f k).bind fun t205 => (some t205)) else (some false))) else ((lw_same.f k).bind fun t206 => (some t206)))) true := by
          refine Ev.bind r2 ?_
          by_cases c : r.2 = 0
          (simp only [c, ↓reduceIte]; obtain rfl := c3 (norm_up (valid_up (r4.1 c))); refine Ev.bind b3 ?_; simp only [↓reduceIte]; exact hsame); (simp only [c, ↓reduceIte]; exact hsame)
        exact key.step (fun k => by rw [lw_AttrsNorm.j1, if_neg (by decide)])
      have key : Ev (fun k => (attrs_Norm.f l).bind fun t192 => ((r09_Norm.f k l).bind fun t195 => ((pl_Attrs.f k t192 t195).bind fun t198 => (if t198 = true then ((attrs_Same.f k l m).bind fun t199 => ((pl_Attrs.f k l m).bind fun t200 => (if (t199 != t200) = true then (lw_AttrsNorm.j1 k l t192 true) else ((attrs_Same.f k t192 t192).bind fun t201 => (lw_AttrsNorm.j1 k l t192 (!t201)))))) else (lw_AttrsNorm.j1 k l t192 true))))) true := by
        rw [hn]; simp only [Option.bind_some]; refine Ev.bind hr (Ev.bind a1 ?_); simp only [↓reduceIte]; refine Ev.bind b2 (Ev.bind a2 ?_); simp only [bne_self_eq_false, Bool.false_eq_true, ↓reduceIte]; exact Ev.bind b1 hj1
      exact key.step (fun k => by rw [lw_AttrsNorm.j0, if_neg (by decide)])
end Go.Proofs.Ytnellpilmjjbcaa.Pure
