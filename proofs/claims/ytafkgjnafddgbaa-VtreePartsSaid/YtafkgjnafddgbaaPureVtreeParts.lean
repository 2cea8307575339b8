/- A node over right trees is right if it is so alone, and no two of its kids have one key; its size and depth. -/
import Derived.Test.YtafkgjnafddgbaaGx10
import Derived.Test.YtafkgjnafddgbaaOpk
import Derived.Test.YtafkgjnafddgbaaPd
namespace Go.Proofs.Ytafkgjnafddgbaa.Pure
open Go.RowKit Go.Proofs.Ytafkgjnafddgbaa.G Go.Proofs.YtafkgjnafddgbaaW.PrintWords Go.Proofs.YtafkgjnafddgbaaW.PrintLast
set_option linter.unusedVariables false

theorem same_ev : Ev (fun k => tendrillaw11_same.f k) true := by
  obtain ⟨k, hk⟩ := same
  exact Ev.of (fun k => tendrillaw11_same.mono k) hk

/-- What Size and Depth tell of a tree. -/
theorem size_T (x : S25) (h : Sm25 x) (hn : szT x ≤ 4096) : ∃ b : Bool, (b = true ↔ goodT x ∧ htT x ≤ 64) ∧ Ev (fun k => vtree_Size.f k x.f0 x.f1 x.f2 x.f3 x.f4) (if b = true then szT x else 0) ∧ Ev (fun k => vtree_Depth.f k x.f0 x.f1 x.f2 x.f3 x.f4) (if b = true then htT x else 0) := by
  obtain ⟨r, e, t, u, v⟩ := vis_T x h 1 0 0 [] (by omega) (by omega)
  have hp := pos_of x h
  have hc : Ev (fun k => vtree_check.f k x.f0 x.f1 x.f2 x.f3 x.f4) r.2 := e.via0 (Ev.pure _) (fun k hk => by rw [vtree_check.f]; rw [show (⟨x.f0, x.f1, x.f2, x.f3, x.f4⟩ : S25) = x by cases x; rfl, hk]; rfl)
  refine ⟨r.1, ?_, ?_, ?_⟩
  · rw [t]
    constructor
    · intro h; exact ⟨h.1, by omega⟩
    · intro h; exact ⟨h.1, by omega, by simp⟩
  · refine hc.via0 (Ev.pure _) (fun k hk => ?_)
    rw [vtree_Size.f, hk]
    cases hr : r.1 with
    | true => rw [u hr]; simp
    | false => simp [v hr]
  · refine hc.via0 (Ev.pure _) (fun k hk => ?_)
    rw [vtree_Depth.f, hk]
    cases hr : r.1 with
    | true =>
      rw [u hr]
      simp
      omega
    | false => simp [v hr]

theorem goodL_snoc (xs : List S25) (y : S25) : goodL (xs ++ [y]) ↔ goodL xs ∧ goodT y := by
  induction xs with
  | nil => simp [goodL]
  | cons x xs ih => rw [List.cons_append, goodL, goodL, ih]; exact ⟨fun h => ⟨⟨h.1, h.2.1⟩, h.2.2⟩, fun h => ⟨h.1.1, h.1.2, h.2⟩⟩
theorem szL_append (xs ys : List S25) : szL (xs ++ ys) = szL xs + szL ys := by
  induction xs with
  | nil => simp [szL]
  | cons z zs ih => rw [List.cons_append, szL, szL, ih]; omega
theorem szL_snoc (xs : List S25) (y : S25) : szL (xs ++ [y]) = szL xs + szT y := by
  induction xs with
  | nil => simp [szL]
  | cons x xs ih => rw [List.cons_append, szL, szL, ih]; omega
theorem htL_snoc (xs : List S25) (y : S25) (h : 0 ≤ htT y) : htL (xs ++ [y]) = max (htL xs) (htT y) := by
  induction xs with
  | nil => simp [htL]; omega
  | cons x xs ih => rw [List.cons_append, htL, htL, ih]; omega
theorem DK_snoc (xs : List S25) (y : S25) : ∀ met, DK met (xs ++ [y]) ↔ DK met xs ∧ y.f1.data.toList ∉ met ∧ (y.f1.data.toList = [] ∨ ∀ x ∈ xs, x.f1.data.toList ≠ y.f1.data.toList) := by
  induction xs with
  | nil => intro met; simp [DK]
  | cons x xs ih =>
    intro met
    rw [List.cons_append, DK, DK, ih]
    have hn : y.f1.data.toList ∉ next met x ↔ y.f1.data.toList ∉ met ∧ (y.f1.data.toList = [] ∨ x.f1.data.toList ≠ y.f1.data.toList) := by
      unfold next
      split
      · next h =>
        constructor
        · intro h1
          refine ⟨h1, ?_⟩
          by_cases c : y.f1.data.toList = []
          · exact .inl c
          · exact .inr (fun e => c (e ▸ h))
        · intro h1; exact h1.1
      · next h =>
        rw [List.mem_cons, not_or]
        constructor
        · intro h1; exact ⟨h1.2, .inr (fun e => h1.1 e.symm)⟩
        · intro h1
          refine ⟨fun e => ?_, h1.1⟩
          rcases h1.2 with h2 | h2
          · exact h (e ▸ h2)
          · exact h2 e.symm
    rw [hn]
    simp only [List.mem_cons, forall_eq_or_imp]
    constructor
    · rintro ⟨h1, h2, ⟨h3, h4⟩, h5⟩
      refine ⟨⟨h1, h2⟩, h3, ?_⟩
      rcases h5 with h5 | h5
      · exact .inl h5
      · rcases h4 with h4 | h4
        · exact .inl h4
        · exact .inr ⟨h4, h5⟩
    · rintro ⟨⟨h1, h2⟩, h3, h4⟩
      rcases h4 with h4 | h4
      · exact ⟨h1, h2, ⟨h3, .inl h4⟩, .inl h4⟩
      · exact ⟨h1, h2, ⟨h3, .inr h4.1⟩, .inr h4.2⟩

/-- The keys' round: y's key against those of the kids ahead of it. -/
theorem parts_l1 (x : S25) (hx : x.f4.length * 96 ≤ 140737488351232) (y : S25) (i s dp : Int) (hi : i ≤ x.f4.length) (d : Nat) : ∀ (j : Int) (a : Bool), 0 ≤ j → i - j = d →
    ∃ b : Bool, (b = true ↔ a = true ∧ (y.f1.data.toList = [] ∨ ∀ j' : Int, j ≤ j' → j' < i → (rd_T25 x.f4 j').f1.data.toList ≠ y.f1.data.toList)) ∧
      ∀ r, Ev (fun k => tendrillaw11_VtreeParts.l0 k b s dp x.f4.length (i + 1) x.f0 x.f1 x.f2 x.f3 x.f4) r → Ev (fun k => tendrillaw11_VtreeParts.l1 k a s dp x.f4.length i i j x.f0 x.f1 x.f2 x.f3 x.f4 y.f0 y.f1 y.f2 y.f3 y.f4) r := by
  induction d with
  | zero =>
    intro j a h0 hd
    refine ⟨a, ?_, fun r hr => hr.step (fun k => by rw [tendrillaw11_VtreeParts.l1, if_neg (by omega), w1 (by omega) (by omega)])⟩
    constructor
    · intro h; exact ⟨h, .inr (fun j' h1 h2 => by omega)⟩
    · intro h; exact h.1
  | succ d ih =>
    intro j a h0 hd
    have hw : wrap64 (j + 1) = j + 1 := w1 (by omega) (by omega)
    cases a with
    | false =>
      obtain ⟨b, hb, hr⟩ := ih (j + 1) false (by omega) (by omega)
      refine ⟨b, ?_, fun r h => (hr r h).step (fun k => by rw [tendrillaw11_VtreeParts.l1, if_pos (by omega), if_neg (by decide), hw])⟩
      rw [hb]
      simp
    | true =>
      by_cases c : y.f1.data.toList = []
      · obtain ⟨b, hb, hr⟩ := ih (j + 1) true (by omega) (by omega)
        refine ⟨b, ?_, fun r h => (hr r h).step (fun k => by rw [tendrillaw11_VtreeParts.l1, if_pos (by omega), if_pos rfl, if_pos (by rw [Lib.toList_data]; exact c), hw])⟩
        rw [hb]
        simp [c]
      · obtain ⟨a, ha⟩ : ∃ a, ((rd_T25 x.f4 j).f1.toList != y.f1.toList) = a := ⟨_, rfl⟩
        obtain ⟨b, hb, hr⟩ := ih (j + 1) a (by omega) (by omega)
        refine ⟨b, ?_, fun r h => (hr r h).step (fun k => by rw [tendrillaw11_VtreeParts.l1, if_pos (by omega), if_pos rfl, if_neg (by rw [Lib.toList_data]; exact c), if_pos h0, if_pos (by omega), hw, ha])⟩
        rw [hb, ← ha]
        simp only [Lib.toList_data, bne_iff_ne, true_and, c, false_or]
        constructor
        · intro h j' h1 h2
          by_cases e : j' = j
          · subst e; exact h.1
          · exact h.2 j' (by omega) h2
        · intro h
          exact ⟨h j (by omega) (by omega), fun j' h1 h2 => h j' (by omega) h2⟩

theorem rd25_take (l : List S25) (i : Int) (h0 : 0 ≤ i) (P : S25 → Prop) (hi : i ≤ l.length) : (∀ x ∈ l.take i.toNat, P x) ↔ ∀ j : Int, 0 ≤ j → j < i → P (rd_T25 l j) := by
  constructor
  · intro h j h1 h2
    apply h
    unfold rd_T25
    rw [List.getD_eq_getElem?_getD, List.getElem?_eq_getElem (by omega)]
    exact List.mem_take_iff_getElem.2 ⟨j.toNat, by omega, rfl⟩
  · intro h x hx
    obtain ⟨n, hn, rfl⟩ := List.mem_take_iff_getElem.1 hx
    have := h n (by omega) (by omega)
    unfold rd_T25 at this
    rw [List.getD_eq_getElem?_getD, Int.toNat_natCast, List.getElem?_eq_getElem (by omega)] at this
    exact this

theorem parts_l0 (x : S25) (h : Sm25 x) (hn : szT x ≤ 4096) (d : Nat) : ∀ (i s dp : Int) (a : Bool), 0 ≤ i → (x.f4.length : Int) - i = d →
    (a = true ↔ wr x = 0 ∧ goodL (x.f4.take i.toNat) ∧ htL (x.f4.take i.toNat) ≤ 64 ∧ DK [] (x.f4.take i.toNat)) → (a = true → s = 1 + szL (x.f4.take i.toNat) ∧ dp = htL (x.f4.take i.toNat)) →
    Ev (fun k => tendrillaw11_VtreeParts.l0 k a s dp x.f4.length i x.f0 x.f1 x.f2 x.f3 x.f4) true := by
  obtain ⟨_, _, _, _, _, hl4, hs4⟩ := sm_h h
  have hsz := szT_eq x
  induction d with
  | zero =>
    intro i s dp a h0 hd ha hs
    have ht : x.f4.take i.toNat = x.f4 := List.take_of_length_le (by omega)
    rw [ht] at ha hs
    obtain ⟨b, hb, e1, e2⟩ := size_T x h hn
    rw [goodT_eq, htT_eq] at hb
    have pl := posL x.f4 hs4
    have j3t (hbf : b = false) : Ev (fun k => tendrillaw11_VtreeParts.j3 k s dp true x.f0 x.f1 x.f2 x.f3 x.f4) true := by
      rw [hbf] at e1
      refine e1.via same_ev (fun k hk => ?_)
      rw [tendrillaw11_VtreeParts.j3, if_pos rfl, hk]
      simp
    cases a with
    | false =>
      refine (j3t ?_).step (fun k => by rw [tendrillaw11_VtreeParts.l0, if_neg (by omega), if_neg (by decide)])
      cases b with
      | false => rfl
      | true =>
        exfalso
        have := hb.1 rfl
        have := ha.2 ⟨this.1.1, this.1.2.2, by omega, this.1.2.1⟩
        cases this
    | true =>
      have hA := ha.1 rfl
      obtain ⟨rfl, rfl⟩ := hs rfl
      by_cases c : htL x.f4 > 63
      · refine (j3t ?_).step (fun k => by rw [tendrillaw11_VtreeParts.l0, if_neg (by omega), if_pos rfl, decide_eq_true c])
        cases b with
        | false => rfl
        | true =>
          exfalso
          have := (hb.1 rfl).2
          omega
      · have hbt : b = true := hb.2 ⟨⟨hA.1, hA.2.2.2, hA.2.1⟩, by omega⟩
        rw [hbt] at e1 e2
        refine (?_ : Ev (fun k => tendrillaw11_VtreeParts.j3 k (1 + szL x.f4) (htL x.f4) false x.f0 x.f1 x.f2 x.f3 x.f4) true).step (fun k => by rw [tendrillaw11_VtreeParts.l0, if_neg (by omega), if_pos rfl, decide_eq_false c])
        refine e1.via (e2.via0 same_ev (F := fun k => (vtree_Depth.f k x.f0 x.f1 x.f2 x.f3 x.f4).bind fun t212 => (if t212 = (wrap64 (htL x.f4 + 1)) then ((tendrillaw11_same.f k).bind fun t213 => (some t213)) else (some false))) (fun k hk => ?_)) (fun k hk => ?_)
        · rw [hk, if_pos rfl, Option.bind_some, if_pos (by rw [htT_eq, w1 (by omega) (by omega)]; omega)]
          simp
        · rw [tendrillaw11_VtreeParts.j3, if_neg (by decide), hk, if_pos rfl, Option.bind_some, if_pos hsz]
  | succ d ih =>
    intro i s dp a h0 hd ha hs
    have hi : i < (x.f4.length : Int) := by omega
    have hm := rd25_mem x.f4 i h0 hi
    obtain ⟨y, hy⟩ : ∃ y, rd_T25 x.f4 i = y := ⟨_, rfl⟩
    rw [hy] at hm
    have hsy := hs4 y hm
    have htk : x.f4.take (i + 1).toNat = x.f4.take i.toNat ++ [y] := by
      rw [show (i + 1).toNat = i.toNat + 1 by omega, List.take_succ_eq_append_getElem (by omega), ← hy]
      unfold rd_T25
      rw [List.getD_eq_getElem?_getD, List.getElem?_eq_getElem (by omega)]
      rfl
    have hszy : szT y ≤ 4096 := by
      have e : szL x.f4 = szL (x.f4.take i.toNat) + szL (x.f4.drop i.toNat) := by
        rw [← szL_append, List.take_append_drop]
      rw [rd25_drop x.f4 i h0 hi, szL, hy] at e
      have p1 := posL (x.f4.take i.toNat) (fun z hz => hs4 z (List.mem_of_mem_take hz))
      have p2 := posL (x.f4.drop (i + 1).toNat) (fun z hz => hs4 z (List.mem_of_mem_drop hz))
      omega
    obtain ⟨b, hb, e1, e2⟩ := size_T y hsy hszy
    have py := pos_of y hsy
    have ptk := posL (x.f4.take i.toNat) (fun z hz => hs4 z (List.mem_of_mem_take hz))
    obtain ⟨t, ht⟩ : ∃ t, (if b = true then szT y else 0) = t := ⟨_, rfl⟩
    obtain ⟨g, hg⟩ : ∃ g, (if b = true then htT y else 0) = g := ⟨_, rfl⟩
    rw [ht] at e1
    rw [hg] at e2
    obtain ⟨a1, ha1⟩ : ∃ a1 : Bool, (a && decide (t > 0)) = a1 := ⟨_, rfl⟩
    have hbt : decide (t > 0) = b := by
      rw [← ht]
      cases b <;> simp
      omega
    obtain ⟨b2, hb2, hr2⟩ := parts_l1 x hl4 y i (wrap64 (s + t)) (mx dp g) (by omega) i.toNat 0 a1 (by omega) (by omega)
    have hrec := ih (i + 1) (wrap64 (s + t)) (mx dp g) b2 (by omega) (by omega) ?_ ?_
    · have hl1 := hr2 true hrec
      have hj1 : Ev (fun k => tendrillaw11_VtreeParts.j1 k a1 s dp i t x.f4.length i x.f0 x.f1 x.f2 x.f3 x.f4 y.f0 y.f1 y.f2 y.f3 y.f4) true :=
        e2.via hl1 (fun k hk => by rw [tendrillaw11_VtreeParts.j1, hk]; rfl)
      refine e1.via hj1 (fun k hk => ?_)
      rw [tendrillaw11_VtreeParts.l0, if_pos hi, if_pos h0, if_pos hi, hy, hk, Option.bind_some, ← ha1]
      cases a <;> simp
    · rw [hb2, htk, goodL_snoc, htL_snoc _ _ (by omega), DK_snoc, ← ha1, Bool.and_eq_true, hbt, hb, ha, rd25_take x.f4 i h0 _ (by omega)]
      constructor
      · rintro ⟨⟨⟨h1, h2, h3, h4⟩, h5, h6⟩, h7⟩
        exact ⟨h1, ⟨h2, h5⟩, by omega, h4, by simp, h7⟩
      · rintro ⟨h1, ⟨h2, h5⟩, h3, h4, _, h7⟩
        exact ⟨⟨⟨h1, h2, by omega, h4⟩, h5, by omega⟩, h7⟩
    · intro hb2t
      have h1 := (hb2.1 hb2t).1
      rw [← ha1, Bool.and_eq_true, hbt] at h1
      obtain ⟨rfl, rfl⟩ := hs h1.1
      rw [h1.2] at ht hg
      simp only [if_true] at ht hg
      subst ht hg
      have e : szL (x.f4.take (i + 1).toNat) ≤ szL x.f4 := by
        have e := szL_append (x.f4.take (i + 1).toNat) (x.f4.drop (i + 1).toNat)
        rw [List.take_append_drop] at e
        have p2 := posL (x.f4.drop (i + 1).toNat) (fun z hz => hs4 z (List.mem_of_mem_drop hz))
        omega
      rw [htk, szL_snoc] at e ⊢
      rw [htL_snoc _ _ (by omega)]
      refine ⟨?_, ?_⟩
      · rw [ww (by omega) (by omega)]
        omega
      · unfold mx
        split <;> omega

theorem VtreeParts : ∀ (x0 : S25), Sm25 x0 → ∃ k, tendrillaw11_VtreeParts.f k x0.f0 x0.f1 x0.f2 x0.f3 x0.f4 = some true := by
  intro x h
  obtain ⟨b, hb, hn⟩ := few x h 800 (by omega) (by omega)
  apply Ev.ex (f := fun k => tendrillaw11_VtreeParts.f k x.f0 x.f1 x.f2 x.f3 x.f4)
  cases b with
  | false => exact hb.via0 same_ev (fun k hk => by rw [tendrillaw11_VtreeParts.f, hk]; simp)
  | true =>
    obtain ⟨_, w2⟩ := wr_ev h
    have hl := parts_l0 x h (by have := hn rfl; omega) x.f4.length 0 1 0 (wr x == 0) (by omega) (by omega) (by simp [goodL, htL, DK]) (by simp [szL, htL])
    refine hb.via0 (w2.via0 hl (F := fun k => (tendrilref11_Alone.f k x.f0 x.f1 x.f2 x.f3 x.f4).bind fun t203 => (tendrillaw11_VtreeParts.l0 k (t203 == 0) 1 0 (x.f4.length : Int) 0 x.f0 x.f1 x.f2 x.f3 x.f4)) (fun k hk => by rw [hk]; rfl)) (fun k hk => by rw [tendrillaw11_VtreeParts.f, hk]; simp)

end Go.Proofs.Ytafkgjnafddgbaa.Pure
