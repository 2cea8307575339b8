/- What the claim LawFlatLooks rests on, part 5 of 7: the kit's words, the printed walks, the walks by hand, the plain laws. -/
import Derived.Test.YtcebfldagnjddaaB4
namespace Go.Proofs.Ytcebfldagnjddaa.Pure
open Go.RowKit Go.Proofs.Ytcebfldagnjddaa.G Go.Proofs.YtcebfldagnjddaaW.PrintWords Go.Proofs.YtcebfldagnjddaaW.PrintLast
set_option linter.unusedVariables false
mutual
/-- The rows of a tree that stands behind so many rows, under a handle. -/
def rowsT : S25 → Int → Int → List S53
  | ⟨a, b, c, d, ks⟩, at_, up => ⟨0, up, a, b, c, d⟩ :: rowsL ks (at_ + 1) (at_ + 1)
def rowsL : List S25 → Int → Int → List S53
  | [], _, _ => []
  | y :: ys, at_, up => rowsT y at_ up ++ rowsL ys (at_ + szT y) up
end
mutual
/-- The items of a tree. -/
def itemsT : S25 → Int → Int → Int → List S63
  | ⟨a, b, c, d, ks⟩, dp, at_, up => ⟨⟨a, b, c, d, ks⟩, dp, up⟩ :: itemsL ks (dp + 1) (at_ + 1) at_
def itemsL : List S25 → Int → Int → Int → List S63
  | [], _, _, _ => []
  | y :: ys, dp, at_, up => itemsT y dp at_ up ++ itemsL ys dp (at_ + szT y) up
end
theorem rowsT_eq (x : S25) (at_ up : Int) : rowsT x at_ up = rowOf x up :: rowsL x.f4 (at_ + 1) (at_ + 1) := by cases x; rw [rowsT]; rfl
theorem itemsT_eq (x : S25) (dp at_ up : Int) : itemsT x dp at_ up = ⟨x, dp, up⟩ :: itemsL x.f4 (dp + 1) (at_ + 1) at_ := by cases x; rw [itemsT]
theorem rowsL_len (ks : List S25) (h : ∀ y ∈ ks, ∀ at_ up, ((rowsT y at_ up).length : Int) = szT y) : ∀ at_ up, ((rowsL ks at_ up).length : Int) = szL ks := by
  induction ks with
  | nil => intro at_ up; rfl
  | cons y ys ih =>
    intro at_ up; rw [rowsL, szL, List.length_append]; have h1 := h y (by simp) at_ up; have h2 := ih (fun z hz => h z (by simp [hz])) (at_ + szT y) up; omega
theorem rowsT_len (x : S25) (h : Sm25 x) : ∀ at_ up, ((rowsT x at_ up).length : Int) = szT x := by
  induction h with
  | @mk x h0 h1 h2 h3 h4 h5 ih =>
    intro at_ up; rw [rowsT_eq, szT_eq, List.length_cons]; have := rowsL_len x.f4 ih (at_ + 1) (at_ + 1); omega
theorem itemsL_len (ks : List S25) (h : ∀ y ∈ ks, ∀ dp at_ up, ((itemsT y dp at_ up).length : Int) = szT y) : ∀ dp at_ up, ((itemsL ks dp at_ up).length : Int) = szL ks := by
  induction ks with
  | nil => intro dp at_ up; rfl
  | cons y ys ih =>
    intro dp at_ up; rw [itemsL, szL, List.length_append]; have h1 := h y (by simp) dp at_ up; have h2 := ih (fun z hz => h z (by simp [hz])) dp (at_ + szT y) up; omega
theorem itemsT_len (x : S25) (h : Sm25 x) : ∀ dp at_ up, ((itemsT x dp at_ up).length : Int) = szT x := by
  induction h with
  | @mk x h0 h1 h2 h3 h4 h5 ih =>
    intro dp at_ up; rw [itemsT_eq, szT_eq, List.length_cons]; have := itemsL_len x.f4 ih (dp + 1) (at_ + 1) at_; omega
def ItT (x : S25) : Prop := ∀ (l : List S63) (dp up : Int), (l.length : Int) + szT x ≤ 4097 → dp + htT x ≤ 66 → Ev (fun k => blw1 k l x dp up) (l ++ itemsT x dp l.length up)
theorem its_L (ks : List S25) (hs : ∀ y ∈ ks, Sm25 y) (hp : ∀ y ∈ ks, ItT y) : ∀ (l : List S63) (dp up : Int), (l.length : Int) + szL ks ≤ 4097 → dp + htL ks ≤ 66 → Ev (fun k => blw k l ks dp up) (l ++ itemsL ks dp l.length up) := by
  induction ks with
  | nil => intro l dp up hl hd; exact (Ev.pure _).step (fun k => by rw [blw, itemsL, List.append_nil])
  | cons y ys ih =>
    intro l dp up hl hd; rw [szL] at hl; rw [htL] at hd; have p1 := pos_of y (hs y (by simp)); have p2 := posL ys (fun z hz => hs z (by simp [hz])); have e1 := hp y (by simp) l dp up (by omega) (by omega); have hlen := itemsT_len y (hs y (by simp)) dp l.length up
    have hcast : ((l ++ itemsT y dp l.length up).length : Int) = l.length + szT y := by rw [List.length_append]; omega
    have e2 := ih (fun z hz => hs z (by simp [hz])) (fun z hz => hp z (by simp [hz])) (l ++ itemsT y dp l.length up) dp up (by omega) (by omega); rw [hcast] at e2; rw [itemsL, ← List.append_assoc]; exact e1.via e2 (fun k hk => by rw [blw_cons, if_neg (by omega), hk]; rfl)
theorem its_T (x : S25) (h : Sm25 x) : ItT x := by
  induction h with
  | @mk x h0 h1 h2 h3 h4 h5 ih =>
    intro l dp up hl hd; rw [szT_eq] at hl; rw [htT_eq] at hd; have p2 := posL x.f4 h5
    by_cases c : dp > 64
    · have hk : x.f4 = [] := by
        cases hf : x.f4 with
        | nil => rfl
        | cons y ys =>
          rw [hf] at hd h5; have := pos_of y (h5 y (by simp)); rw [htL] at hd; omega
      refine (Ev.pure _).eq (fun k => ?_)
      rw [blw1, if_neg (by omega), if_pos c, itemsT_eq, hk, itemsL]
    have e := its_L x.f4 h5 ih (l ++ [⟨x, dp, up⟩]) (dp + 1) (l.length : Int) (by rw [List.length_append, List.length_singleton]; omega) (by omega); rw [List.length_append, List.length_singleton] at e; rw [itemsT_eq, ← List.singleton_append, ← List.append_assoc]; exact e.eq (fun k => by rw [blw1, if_neg (by omega), if_neg c])
/-- The handle that stands above one. -/
def upOf (l : List S53) (h : Int) : Int := (rd_T53 l (h - 1)).f1
/-- A handle is one, or stands above it. -/
inductive An (l : List S53) (u : Int) : Int → Prop
  | self : 0 < u → An l u u
  | up {x : Int} : 0 < x → An l u (upOf l x) → An l u x
/-- A row stands as_ a tree's does. -/
def GoodRow (l : List S53) (i : Int) : Prop := (i = 0 ∧ upOf l (i + 1) = 0) ∨ (0 < i ∧ An l (upOf l (i + 1)) i)
def GoodTo (l : List S53) (n : Int) : Prop := ∀ i, 0 ≤ i → i < n → GoodRow l i
theorem An.pos {l : List S53} {u x : Int} (h : An l u x) : 0 < u ∧ 0 < x := by
  induction h with
  | self h => exact ⟨h, h⟩
  | up hx _ ih => exact ⟨ih.1, hx⟩
theorem An.le_of {l : List S53} {u x n : Int} (hu : ∀ y, 0 < y → y ≤ n → upOf l y < y) (h : An l u x) (hx : x ≤ n) : u ≤ x := by
  induction h with
  | self h => exact Int.le_refl _
  | @up x h0 _ ih =>
    have := hu x h0 hx; have := ih (by omega); omega
theorem up_lt {l : List S53} {n : Int} (hg : GoodTo l n) (d : Nat) : ∀ x : Int, x.toNat = d → 0 < x → x ≤ n → 0 ≤ upOf l x ∧ upOf l x < x := by
  induction d using Nat.strongRecOn with
  | _ d ih =>
    intro x hd h0 hn; have h := hg (x - 1) (by omega) (by omega); unfold GoodRow at h; rw [show x - 1 + 1 = x by omega] at h
    rcases h with ⟨h1, h2⟩ | ⟨h1, h2⟩
    (omega); (have hp := h2.pos; have hl := h2.le_of (n := x - 1) (fun y hy hy2 => (ih y.toNat (by omega) y rfl hy (by omega)).2) (Int.le_refl _); omega)
theorem GoodTo.up {l : List S53} {n : Int} (hg : GoodTo l n) {x : Int} (h0 : 0 < x) (hn : x ≤ n) : 0 ≤ upOf l x ∧ upOf l x < x := up_lt hg x.toNat x rfl h0 hn
theorem GoodTo.le {l : List S53} {n u x : Int} (hg : GoodTo l n) (h : An l u x) (hx : x ≤ n) : u ≤ x := h.le_of (fun y h0 h1 => (hg.up h0 h1).2) hx
theorem GoodTo.mono {l : List S53} {n m : Int} (hg : GoodTo l n) (h : m ≤ n) : GoodTo l m := fun i h0 h1 => hg i h0 (by omega)
theorem GoodTo.succ {l : List S53} {n : Int} (hg : GoodTo l n) (h : GoodRow l n) : GoodTo l (n + 1) := fun i h0 h1 => by
  rcases Int.lt_or_eq_of_le (show i ≤ n by omega) with h2 | rfl
  · exact hg i h0 h2
  · exact h
theorem An.step {l : List S53} {u x : Int} (h : An l u x) (hne : u ≠ x) : An l u (upOf l x) := by
  cases h with
  | self h => exact absurd rfl hne
  | up _ h => exact h
theorem formed_l1 (l : List S53) (hl : (l.length : Int) ≤ 1000000000) (i : Int) (h0 : 0 ≤ i) (hi : i < l.length) (hg : GoodTo l i) (d : Nat) : ∀ x : Int, x.toNat = d → 0 ≤ x → x ≤ i →
    ((i = 0 ∧ upOf l (i + 1) = 0 ∨ 0 < i ∧ An l (upOf l (i + 1)) x) → ∀ r, Ev (fun k => flat_formed.l0 k l l l.length (i + 1)) r → Ev (fun k => flat_formed.l1 k l i x l l.length i (rd_T53 l i).f0 (rd_T53 l i).f1 (rd_T53 l i).f2 (rd_T53 l i).f3 (rd_T53 l i).f4 (rd_T53 l i).f5) r) ∧
    (¬ (i = 0 ∧ upOf l (i + 1) = 0 ∨ 0 < i ∧ An l (upOf l (i + 1)) x) → Ev (fun k => flat_formed.l1 k l i x l l.length i (rd_T53 l i).f0 (rd_T53 l i).f1 (rd_T53 l i).f2 (rd_T53 l i).f3 (rd_T53 l i).f4 (rd_T53 l i).f5) false) := by
  have hup : upOf l (i + 1) = (rd_T53 l i).f1 := by unfold upOf; rw [show i + 1 - 1 = i by omega]
  induction d using Nat.strongRecOn with
  | _ d ih =>
    intro x hd hx0 hxi; generalize hu : (rd_T53 l i).f1 = u at *; rw [hup] at *
    by_cases c0 : x = 0
    · subst c0
      by_cases c1 : (0 : Int) = u
      · subst c1
        by_cases c2 : i = 0
        · subst c2
          refine ⟨fun _ r hr => hr.step (fun k => ?_), fun h => absurd (.inl ⟨rfl, rfl⟩) h⟩
          rw [flat_formed.l1, if_pos rfl, if_pos rfl, if_neg (by decide), w1 (by omega) (by omega)]
        · refine ⟨fun h => ?_, fun _ => (Ev.pure false).step (fun k => ?_)⟩
          · rcases h with h | h
            · omega
            · have := h.2.pos; omega
          · rw [flat_formed.l1, if_pos rfl, if_pos rfl, if_pos (by rw [show (i == 0) = false by simpa using c2]; decide)]
      · refine ⟨fun h => ?_, fun _ => (Ev.pure false).step (fun k => by rw [flat_formed.l1, if_pos rfl, if_neg c1])⟩
        rcases h with h | h
        · omega
        · have := h.2.pos; omega
    · have c0b : (x == 0) = false := by simpa using c0
      have hib : (i == 0) = false := by simp; omega
      by_cases c1 : x = u
      · refine ⟨fun _ r hr => hr.step (fun k => ?_), fun h => absurd (.inr ⟨by omega, by rw [← c1]; exact An.self (by omega)⟩) h⟩
        rw [flat_formed.l1, if_neg c0, if_pos c1, if_neg (by rw [c0b, hib]; decide), w1 (by omega) (by omega)]
      · have hx := hg.up (x := x) (by omega) hxi
        obtain ⟨ih1, ih2⟩ := ih (upOf l x).toNat (by omega) (upOf l x) rfl hx.1 (by omega)
        have e : ∀ k, flat_formed.l1 (k + 1) l i x l l.length i (rd_T53 l i).f0 u (rd_T53 l i).f2 (rd_T53 l i).f3 (rd_T53 l i).f4 (rd_T53 l i).f5 = flat_formed.l1 k l i (upOf l x) l l.length i (rd_T53 l i).f0 u (rd_T53 l i).f2 (rd_T53 l i).f3 (rd_T53 l i).f4 (rd_T53 l i).f5 := by
          intro k; rw [flat_formed.l1, if_neg c0, if_neg c1, wm (by omega) (by omega), if_pos (by omega), if_pos (by omega)]; rfl
        have hiff : (i = 0 ∧ u = 0 ∨ 0 < i ∧ An l u x) ↔ (i = 0 ∧ u = 0 ∨ 0 < i ∧ An l u (upOf l x)) := by
          constructor
          · rintro (h | h)
            · exact .inl h
            · exact .inr ⟨h.1, h.2.step (fun e => c1 e.symm)⟩
          · rintro (h | h)
            · exact .inl h
            · exact .inr ⟨h.1, .up (by omega) h.2⟩
        rw [hiff]
        exact ⟨fun h r hr => (ih1 h r hr).step e, fun h => (ih2 h).step e⟩
theorem formed_l0 (l : List S53) (hl : (l.length : Int) ≤ 1000000000) (d : Nat) : ∀ i : Int, 0 ≤ i → (l.length : Int) - i = d → GoodTo l i → ∃ b, Ev (fun k => flat_formed.l0 k l l l.length i) b ∧ (b = true ↔ GoodTo l l.length) := by
  induction d with
  | zero =>
    intro i h0 hd hg
    obtain rfl : i = l.length := by omega
    exact ⟨true, (Ev.pure true).step (fun k => by rw [flat_formed.l0, if_neg (by omega)]), by simp [hg]⟩
  | succ d ih =>
    intro i h0 hd hg
    have hi : i < l.length := by omega
    obtain ⟨f1, f2⟩ := formed_l1 l hl i h0 hi hg i.toNat i rfl h0 (Int.le_refl _)
    have e : ∀ k, flat_formed.l0 (k + 1) l l l.length i = flat_formed.l1 k l i i l l.length i (rd_T53 l i).f0 (rd_T53 l i).f1 (rd_T53 l i).f2 (rd_T53 l i).f3 (rd_T53 l i).f4 (rd_T53 l i).f5 := fun k => by rw [flat_formed.l0, if_pos hi, if_pos h0, if_pos hi]
    by_cases c : GoodRow l i
    (obtain ⟨b, hb, hbi⟩ := ih (i + 1) (by omega) (by omega) (hg.succ c); exact ⟨b, (f1 c _ hb).step e, hbi⟩); (exact ⟨false, (f2 c).step e, by simp; exact fun h => c (h i h0 hi)⟩)
theorem formed_ev (l : List S53) (hl : (l.length : Int) ≤ 1000000000) : ∃ b, Ev (fun k => flat_formed.f k l) b ∧ (b = true ↔ GoodTo l l.length) := by
  obtain ⟨b, hb, hi⟩ := formed_l0 l hl l.length 0 (by omega) (by omega) (fun i h0 h1 => by omega); exact ⟨b, hb, hi⟩
theorem rd_drop {l r : List S53} {at_ : Int} {y : S53} (h0 : 0 ≤ at_) (h : l.drop at_.toNat = y :: r) : rd_T53 l at_ = y ∧ at_ < l.length ∧ l.drop (at_ + 1).toNat = r := by
  have hlt : at_.toNat < l.length := by
    rcases Nat.lt_or_ge at_.toNat l.length with h1 | h1
    (exact h1); (rw [List.drop_eq_nil_of_le h1] at h; cases h)
  rw [drp53 l at_ h0 (by omega)] at h; injection h with h1 h2; exact ⟨h1, by omega, h2⟩
theorem drop_app {l r s : List S53} {at_ n : Int} (h0 : 0 ≤ at_) (h : l.drop at_.toNat = r ++ s) (hn : (r.length : Int) = n) : l.drop (at_ + n).toNat = s := by
  rw [show (at_ + n).toNat = at_.toNat + r.length by omega, ← List.drop_drop, h, List.drop_left]
/-- How deep a handle lies: the root's is 1. -/
inductive Dp (l : List S53) : Int → Int → Prop
  | zero : Dp l 0 0
  | up {x d : Int} : 0 < x → Dp l (upOf l x) d → Dp l x (d + 1)
theorem Dp.nn {l : List S53} {x d : Int} (h : Dp l x d) : 0 ≤ x ∧ 0 ≤ d := by
  induction h with
  | zero => omega
  | up h _ ih => omega
theorem Dp.uniq {l : List S53} {x d : Int} (h : Dp l x d) : ∀ {e : Int}, Dp l x e → d = e := by
  induction h with
  | zero =>
    intro e he
    cases he with
    | zero => rfl
    | up h _ => omega
  | up h _ ih =>
    intro e he
    cases he with
    | zero => omega
    | up _ h2 => rw [ih h2]
theorem Dp.ex {l : List S53} {n : Int} (hg : GoodTo l n) (d : Nat) : ∀ x : Int, x.toNat = d → 0 ≤ x → x ≤ n → ∃ e, Dp l x e ∧ e ≤ x := by
  induction d using Nat.strongRecOn with
  | _ d ih =>
    intro x hd h0 hn
    by_cases c : x = 0
    (subst c; exact ⟨0, .zero, Int.le_refl _⟩); (have hu := hg.up (x := x) (by omega) hn; obtain ⟨e, he, hle⟩ := ih (upOf l x).toNat (by omega) (upOf l x) rfl hu.1 (by omega); exact ⟨e + 1, .up (by omega) he, by omega⟩)
theorem deep_l0 (l : List S53) (hl : (l.length : Int) ≤ 1000000000) (hg : GoodTo l l.length) (d : Nat) : ∀ (i : Int) (arr : List Int), 0 ≤ i → (l.length : Int) - i = d → (arr.length : Int) = l.length + 1 →
    (∀ j, 0 ≤ j → j ≤ i → Dp l j (rd arr j)) → (∀ j e, 0 ≤ j → j ≤ i → Dp l j e → e ≤ 64) →
    ∃ b, Ev (fun k => flat_deep.l0 k l arr l l.length i) b ∧ (b = true ↔ (∃ j e : Int, 0 ≤ j ∧ j ≤ l.length ∧ Dp l j e ∧ e > 64) ∨ (l.length : Int) > 4096) := by
  induction d with
  | zero =>
    intro i arr h0 hd ha hdp hsm
    obtain rfl : i = l.length := by omega
    refine ⟨decide ((l.length : Int) > 4096), (Ev.pure _).step (fun k => by rw [flat_deep.l0, if_neg (by omega)]), ?_⟩; rw [decide_eq_true_iff]; constructor; (exact .inr)
    · rintro (⟨j, e, a, b, c, d⟩ | h)
      · have := hsm j e a b c; omega
      · exact h
  | succ d ih =>
    intro i arr h0 hd ha hdp hsm
    have hi : i < l.length := by omega
    have hu := hg.up (x := i + 1) (by omega) (by omega)
    have hup : upOf l (i + 1) = (rd_T53 l i).f1 := by unfold upOf; rw [show i + 1 - 1 = i by omega]
    rw [hup] at hu; have hDu := hdp _ hu.1 (by omega); have hnn := hDu.nn; obtain ⟨e0, he0, hle0⟩ := Dp.ex hg (rd_T53 l i).f1.toNat _ rfl hu.1 (by omega); have hee := hDu.uniq he0; have hDi : Dp l (i + 1) (rd arr (rd_T53 l i).f1 + 1) := .up (by omega) (by rw [hup]; exact hDu); have hw : wrap64 (rd arr (rd_T53 l i).f1 + 1) = rd arr (rd_T53 l i).f1 + 1 := w1 (by omega) (by omega)
    have e : ∀ k, flat_deep.l0 (k + 1) l arr l l.length i = if rd arr (rd_T53 l i).f1 + 1 > 64 then some true else flat_deep.l0 k l (arr.set (i + 1).toNat (rd arr (rd_T53 l i).f1 + 1)) l l.length (i + 1) := by
      intro k
      have hrd : rd (arr.set (i + 1).toNat (rd arr (rd_T53 l i).f1 + 1)) (i + 1) = rd arr (rd_T53 l i).f1 + 1 := by
        unfold rd; rw [List.getD_eq_getElem?_getD, List.getElem?_set_self (by omega)]; rfl
      rw [flat_deep.l0, if_pos hi, if_pos h0, if_pos hi, if_pos hu.1, if_pos (by omega), w1 (by omega) (by omega), if_pos (by omega), if_pos (by omega), hw, Option.bind_some, hrd]
    by_cases c : rd arr (rd_T53 l i).f1 + 1 > 64
    · refine ⟨true, (Ev.pure true).step (fun k => by rw [e, if_pos c]), ?_⟩
      simp only [true_iff]; exact .inl ⟨i + 1, _, by omega, by omega, hDi, c⟩
    · obtain ⟨b, hb, hbi⟩ := ih (i + 1) (arr.set (i + 1).toNat (rd arr (rd_T53 l i).f1 + 1)) (by omega) (by omega) (by rw [List.length_set]; exact ha)
        (fun j j0 j1 => by
          rcases Int.lt_or_eq_of_le j1 with j2 | rfl
          · have : rd (arr.set (i + 1).toNat (rd arr (rd_T53 l i).f1 + 1)) j = rd arr j := by
              unfold rd
              rw [List.getD_eq_getElem?_getD, List.getElem?_set_ne (by omega), ← List.getD_eq_getElem?_getD]
            rw [this]
            exact hdp j j0 (by omega)
          · have : rd (arr.set (i + 1).toNat (rd arr (rd_T53 l i).f1 + 1)) (i + 1) = rd arr (rd_T53 l i).f1 + 1 := by
              unfold rd
              rw [List.getD_eq_getElem?_getD, List.getElem?_set_self (by omega)]
              rfl
            rw [this]
            exact hDi)
        (fun j e j0 j1 he => by
          rcases Int.lt_or_eq_of_le j1 with j2 | rfl
          · exact hsm j e j0 (by omega) he
          · have := hDi.uniq he; omega)
      exact ⟨b, hb.step (fun k => by rw [e, if_neg c]), hbi⟩
theorem deep_ev (l : List S53) (hl : (l.length : Int) ≤ 1000000000) (hg : GoodTo l l.length) : ∃ b, Ev (fun k => flat_deep.f k l) b ∧ (b = true ↔ (∃ j e : Int, 0 ≤ j ∧ j ≤ l.length ∧ Dp l j e ∧ e > 64) ∨ (l.length : Int) > 4096) := by
  have hz : ∀ j, 0 ≤ j → j ≤ (0 : Int) → j = 0 := fun j a b => by omega
  obtain ⟨b, hb, hbi⟩ := deep_l0 l hl hg l.length 0 (List.replicate (l.length + 1) 0) (by omega) (by omega) (by rw [List.length_replicate]; omega)
    (fun j a b => by
      rw [hz j a b]
      have : rd (List.replicate (l.length + 1) 0) 0 = 0 := by unfold rd; rfl
      rw [this]
      exact .zero)
    (fun j e a b he => by
      rw [hz j a b] at he; have := he.uniq .zero
      omega)
  refine ⟨b, hb.eq (fun k => ?_), hbi⟩; rw [flat_deep.f, w1 (by omega) (by omega), if_pos (by omega), if_pos (by omega)]; rw [show ((l.length : Int) + 1).toNat = l.length + 1 by omega]
def DI (x : S25) : Prop := ∀ (L : List S53) (at_ up : Int) (post : List S53) (dp u : Int), 0 ≤ at_ → L.drop at_.toNat = rowsT x at_ up ++ post → Dp L up (dp - 1) →
  ∀ (j : Nat) it, (itemsT x dp at_ u)[j]? = some it → Dp L (at_ + j + 1) it.f1 ∧ it.f1 ≤ dp + htT x - 1
theorem di_L (ks : List S25) (hs : ∀ y ∈ ks, Sm25 y) (hp : ∀ y ∈ ks, DI y) : ∀ (L : List S53) (at_ up : Int) (post : List S53) (dp u : Int), 0 ≤ at_ → L.drop at_.toNat = rowsL ks at_ up ++ post → Dp L up (dp - 1) →
    ∀ (j : Nat) it, (itemsL ks dp at_ u)[j]? = some it → Dp L (at_ + j + 1) it.f1 ∧ it.f1 ≤ dp + htL ks - 1 := by
  induction ks with
  | nil =>
    intro L at_ up post dp u h0 hd hu j it hj; rw [itemsL] at hj; simp at hj
  | cons y ys ih =>
    intro L at_ up post dp u h0 hd hu j it hj; rw [rowsL, List.append_assoc] at hd; have hs1 := itemsT_len y (hs y (by simp)) dp at_ u; have p1 := pos_of y (hs y (by simp)); rw [itemsL] at hj; rw [htL]
    by_cases c : j < (itemsT y dp at_ u).length
    (rw [List.getElem?_append_left c] at hj; have := hp y (by simp) L at_ up _ dp u h0 hd hu j it hj; exact ⟨this.1, by omega⟩); (rw [List.getElem?_append_right (by omega)] at hj; have hd2 := drop_app h0 hd (rowsT_len y (hs y (by simp)) at_ up); have := ih (fun z hz => hs z (by simp [hz])) (fun z hz => hp z (by simp [hz])) L (at_ + szT y) up post dp u (by omega) hd2 hu _ it hj; rw [show at_ + szT y + ((j - (itemsT y dp at_ u).length : Nat) : Int) + 1 = at_ + j + 1 by omega] at this; exact ⟨this.1, by omega⟩)
theorem di_T (x : S25) (h : Sm25 x) : DI x := by
  induction h with
  | @mk x h0 h1 h2 h3 h4 h5 ih =>
    intro L at_ up post dp u ha hd hu j it hj; have p2 := posL x.f4 h5; rw [rowsT_eq, List.cons_append] at hd; obtain ⟨r1, r2, r3⟩ := rd_drop ha hd
    have hup : upOf L (at_ + 1) = up := by
      unfold upOf; rw [show at_ + 1 - 1 = at_ by omega, r1]; rfl
    have hD : Dp L (at_ + 1) dp := by
      have := Dp.up (l := L) (x := at_ + 1) (d := dp - 1) (by omega) (by rw [hup]; exact hu); rwa [show dp - 1 + 1 = dp by omega] at this
    rw [itemsT_eq] at hj; rw [htT_eq]
    cases j with
    | zero =>
      rw [List.getElem?_cons_zero] at hj; obtain rfl := Option.some.inj hj; refine ⟨by simpa using hD, ?_⟩
      show dp ≤ _
      omega
    | succ j =>
      rw [List.getElem?_cons_succ] at hj; have := di_L x.f4 h5 ih L (at_ + 1) (at_ + 1) post (dp + 1) at_ (by omega) r3 (by rwa [show dp + 1 - 1 = dp by omega]) j it hj; rw [show at_ + 1 + (j : Int) + 1 = at_ + ((j + 1 : Nat) : Int) + 1 by omega] at this; exact ⟨this.1, by omega⟩
/-- A row but for its ID. -/
def z0 (y : S53) : S53 := ⟨0, y.f1, y.f2, y.f3, y.f4, y.f5⟩
theorem z0_drop (l : List S53) (i : Int) (h0 : 0 ≤ i) (h : i < l.length) : (l.map z0).drop i.toNat = z0 (rd_T53 l i) :: (l.map z0).drop (i + 1).toNat := by
  rw [← List.map_drop, drp53 l i h0 h, List.map_cons, List.map_drop]
/-- What is built at a place. -/
structure Built (l : List S53) (at_ : Int) (n : S25) (nx : Int) : Prop where
  ev : Ev (fun k => flat_build.f k l at_) (n.f0, n.f1, n.f2, n.f3, n.f4, nx)
  lt : at_ < nx
  le : nx ≤ l.length
  post : nx = l.length ∨ An l (upOf l (nx + 1)) (upOf l (at_ + 1))
  seg : (l.map z0).drop at_.toNat = rowsT n at_ (upOf l (at_ + 1)) ++ (l.map z0).drop nx.toNat
  sm : Sm25 n
  sz : szT n = nx - at_
theorem szL_len (ks : List S25) (hk : ∀ y ∈ ks, Sm25 y) : (ks.length : Int) ≤ szL ks := by
  induction ks with
  | nil => simp [szL]
  | cons y ys ih2 =>
    have a := pos_of y (hk y (by simp)); have b := ih2 (fun z hz => hk z (by simp [hz])); rw [szL, List.length_cons]; omega
theorem builds_loop (l : List S53) (hl : (l.length : Int) ≤ 1000000) (at_ : Int) (h0 : 0 ≤ at_) (hIH : ∀ c, at_ < c → c < l.length → ∃ n nx, Built l c n nx) (a b c : ByteArray) (d : List S69) (e : Nat) :
    ∀ (nx : Int) (done : List S25), at_ < nx → nx ≤ l.length → ((l.length : Int) - nx).toNat = e → (done.length : Int) ≤ nx → (nx = l.length ∨ An l (upOf l (nx + 1)) (at_ + 1)) →
    ∃ ms nx', Ev (fun k => flat_build.l0 k l at_ nx a b c d done) (a, b, c, d, done ++ ms, nx') ∧ nx ≤ nx' ∧ nx' ≤ l.length ∧ (nx' = l.length ∨ An l (upOf l (nx' + 1)) (upOf l (at_ + 1))) ∧ (l.map z0).drop nx.toNat = rowsL ms nx (at_ + 1) ++ (l.map z0).drop nx'.toNat ∧ (∀ y ∈ ms, Sm25 y) ∧ szL ms = nx' - nx := by
  induction e using Nat.strongRecOn with
  | _ e ih =>
    intro nx done h1 h2 he hdn hinv
    by_cases c1 : nx < l.length
    · have hup : upOf l (nx + 1) = (rd_T53 l nx).f1 := by unfold upOf; rw [show nx + 1 - 1 = nx by omega]
      have hA := hinv.resolve_left (by omega)
      by_cases c2 : upOf l (nx + 1) = at_ + 1
      · obtain ⟨n, nx2, hB⟩ := hIH nx h1 c1
        have := hB.lt
        have := hB.le
        obtain ⟨ms, nx', q1, q2, q3, q4, q5, q6, q7⟩ := ih ((l.length : Int) - nx2).toNat (by omega) nx2 (done ++ [n]) (by omega) hB.le rfl (by rw [List.length_append, List.length_singleton]; omega) (by have := hB.post; rwa [c2] at this)
        refine ⟨n :: ms, nx', ?_, by omega, q3, q4, ?_, ?_, by rw [szL, hB.sz, q7]; omega⟩
        · rw [show done ++ n :: ms = done ++ [n] ++ ms by simp]
          refine hB.ev.via q1 (fun k hk => ?_)
          rw [flat_build.l0, if_pos c1, if_pos (by omega), ← hup, c2, w1 (by omega) (by omega), if_pos rfl, hk, Option.bind_some, if_pos (by omega)]
          cases n
          rfl
        · rw [hB.seg, c2, q5, rowsL, hB.sz, show nx + (nx2 - nx) = nx2 by omega, List.append_assoc]
        · intro y hy
          rcases List.mem_cons.1 hy with rfl | hy
          · exact hB.sm
          · exact q6 y hy
      · refine ⟨[], nx, (Ev.pure _).step (fun k => ?_), Int.le_refl _, h2, .inr (hA.step c2), by rw [rowsL]; rfl, by simp, by rw [szL]; omega⟩
        rw [flat_build.l0, if_pos c1, if_pos (by omega), ← hup, w1 (by omega) (by omega), if_neg c2, List.append_nil]
    · exact ⟨[], nx, (Ev.pure _).step (fun k => by rw [flat_build.l0, if_neg c1, List.append_nil]), Int.le_refl _, h2, .inl (by omega), by rw [rowsL]; rfl, by simp, by rw [szL]; omega⟩
theorem builds (l : List S53) (hl : (l.length : Int) ≤ 1000000) (hs : ∀ y ∈ l, Sm53 y) (hg : GoodTo l l.length) (d : Nat) : ∀ at_ : Int, 0 ≤ at_ → at_ < l.length → ((l.length : Int) - at_).toNat = d → ∃ n nx, Built l at_ n nx := by
  induction d using Nat.strongRecOn with
  | _ d ih =>
    intro at_ h0 h1 hd; have hm := hs _ (rd53_mem l at_ h0 h1)
    obtain ⟨ms, nx', q1, q2, q3, q4, q5, q6, q7⟩ := builds_loop l hl at_ h0 (fun c hc1 hc2 => ih ((l.length : Int) - c).toNat (by omega) c (by omega) hc2 rfl) (rd_T53 l at_).f2 (rd_T53 l at_).f3 (rd_T53 l at_).f4 (rd_T53 l at_).f5
      ((l.length : Int) - (at_ + 1)).toNat (at_ + 1) [] (by omega) (by omega) rfl (by simp; omega) (by
        by_cases c : at_ + 1 = l.length
        · exact .inl c
        · rcases hg (at_ + 1) (by omega) (by omega) with h | h
          · omega
          · exact .inr h.2)
    have hlen := szL_len ms q6; refine ⟨⟨(rd_T53 l at_).f2, (rd_T53 l at_).f3, (rd_T53 l at_).f4, (rd_T53 l at_).f5, ms⟩, nx', ⟨?_, by omega, q3, q4, ?_, Sm25.mk hm.h2 hm.h3 hm.h4 hm.h5 (by show ms.length * 96 ≤ _; omega) q6, by rw [szT_eq]; show 1 + szL ms = _; omega⟩⟩
    · rw [List.nil_append] at q1
      refine Ev.step q1 (fun k => ?_)
      rw [flat_build.f, if_pos h0, if_pos h1, w1 (by omega) (by omega)]
      show (api_Attr.f (rd_T53 l at_).f5).bind _ = _
      rw [api_Attr.f, if_pos (by have := hm.h5.1; omega)]
      rfl
    · rw [z0_drop l at_ h0 h1, rowsT_eq, List.cons_append, ← q5]
      have hup : upOf l (at_ + 1) = (rd_T53 l at_).f1 := by unfold upOf; rw [show at_ + 1 - 1 = at_ by omega]
      rw [hup]
      rfl
/-- All rows are built. -/
theorem built_all (l : List S53) (hl : (l.length : Int) ≤ 1000000) (hs : ∀ y ∈ l, Sm53 y) (hg : GoodTo l l.length) (hp : 0 < l.length) : ∃ n, Ev (fun k => flat_build.f k l 0) (n.f0, n.f1, n.f2, n.f3, n.f4, l.length) ∧ l.map z0 = rowsT n 0 0 ∧ Sm25 n ∧ szT n = l.length := by
  obtain ⟨n, nx, hB⟩ := builds l hl hs hg _ 0 (Int.le_refl _) (by omega) rfl
  have hu : upOf l (0 + 1) = 0 := by
    rcases hg 0 (Int.le_refl _) (by omega) with h | h
    (exact h.2); (omega)
  have hn : nx = l.length := by
    rcases hB.post with h | h
    (exact h); (rw [hu] at h; have := h.pos; omega)
  subst hn; refine ⟨n, hB.ev, ?_, hB.sm, by rw [hB.sz]; omega⟩; have := hB.seg; rw [hu, List.drop_eq_nil_of_le (i := (l.length : Int).toNat) (by simp), List.append_nil] at this; exact this
theorem upOf_rd (l : List S53) (i : Int) : upOf l (i + 1) = (rd_T53 l i).f1 := by unfold upOf; rw [show i + 1 - 1 = i by omega]
theorem above_l0 (l : List S53) (hl : (l.length : Int) ≤ 1000000000) (n : Int) (hn : n ≤ l.length) (hg : GoodTo l n) (u : Int) (d : Nat) : ∀ x : Int, x.toNat = d → 0 ≤ x → x ≤ n → ∃ b, Ev (fun k => r13_Above.l0 k l u x) b ∧ (b = true ↔ An l u x) := by
  induction d using Nat.strongRecOn with
  | _ d ih =>
    intro x hd h0 hx
    by_cases c : x = 0
    · subst c
      refine ⟨false, (Ev.pure _).step (fun k => by rw [r13_Above.l0, if_neg (by omega)]), ?_⟩
      constructor
      · intro h; cases h
      · intro h; have := h.pos; omega
    · by_cases c1 : x = u
      · refine ⟨true, (Ev.pure _).step (fun k => by rw [r13_Above.l0, if_pos (by omega), if_pos c1]), ?_⟩
        simp only [true_iff]
        rw [c1]
        exact .self (by omega)
      · have hu := hg.up (x := x) (by omega) hx
        obtain ⟨b, hb, hi⟩ := ih (upOf l x).toNat (by omega) (upOf l x) rfl hu.1 (by omega)
        refine ⟨b, hb.step (fun k => ?_), ?_⟩
        · rw [r13_Above.l0, if_pos (by omega), if_neg c1, wm (by omega) (by omega), if_pos (by omega), if_pos (by omega)]
          rfl
        · rw [hi]
          exact ⟨fun h => .up (by omega) h, fun h => h.step (fun e => c1 e.symm)⟩
theorem above_ev (l : List S53) (hl : (l.length : Int) ≤ 1000000000) (n : Int) (hn : n ≤ l.length) (hg : GoodTo l n) (u x : Int) (h0 : 0 ≤ x) (hx : x ≤ n) : ∃ b, Ev (fun k => r13_Above.f k l x u) b ∧ (b = true ↔ An l u x) := above_l0 l hl n hn hg u x.toNat x rfl h0 hx
theorem Formed_l0 (l : List S53) (hl : (l.length : Int) ≤ 1000000000) (d : Nat) : ∀ i : Int, 0 ≤ i → (l.length : Int) - i = d → GoodTo l i → ∃ b, Ev (fun k => r13_Formed.l0 k l l.length i) b ∧ (b = true ↔ GoodTo l l.length) := by
  induction d with
  | zero =>
    intro i h0 hd hg
    obtain rfl : i = l.length := by omega
    exact ⟨true, (Ev.pure true).step (fun k => by rw [r13_Formed.l0, if_neg (by omega)]), by simp [hg]⟩
  | succ d ih =>
    intro i h0 hd hg
    have hi : i < l.length := by omega
    have hbad : ¬ GoodRow l i → (false = true ↔ GoodTo l l.length) := fun c => by simp; exact fun h => c (h i h0 hi)
    by_cases c0 : i = 0
    · subst c0
      by_cases c1 : (rd_T53 l 0).f1 = 0
      · obtain ⟨b, hb, hbi⟩ := ih (0 + 1) (by omega) (by omega) (hg.succ (.inl ⟨rfl, by rw [upOf_rd]; exact c1⟩))
        exact ⟨b, hb.step (fun k => by rw [r13_Formed.l0, if_pos hi, if_pos rfl, if_pos (by omega), if_pos hi, if_pos c1, if_neg (by omega), w1 (by omega) (by omega)]), hbi⟩
      · refine ⟨false, (Ev.pure false).step (fun k => by rw [r13_Formed.l0, if_pos hi, if_pos rfl, if_pos (by omega), if_pos hi, if_neg c1]), hbad ?_⟩
        rintro (⟨_, h⟩ | ⟨h, _⟩)
        · rw [upOf_rd] at h; exact c1 h
        · omega
    · by_cases c1 : (rd_T53 l i).f1 < 1
      · refine ⟨false, (Ev.pure false).step (fun k => by rw [r13_Formed.l0, if_pos hi, if_neg c0, if_pos (by omega), if_pos h0, if_pos hi, if_pos c1]), hbad ?_⟩
        rintro (⟨h, _⟩ | ⟨_, h⟩)
        · omega
        · have := h.pos; rw [upOf_rd] at this; omega
      · obtain ⟨a, ha, hai⟩ := above_ev l hl i (by omega) hg (rd_T53 l i).f1 i h0 (Int.le_refl _)
        cases a with
        | true =>
          obtain ⟨b, hb, hbi⟩ := ih (i + 1) (by omega) (by omega) (hg.succ (.inr ⟨by omega, by rw [upOf_rd]; exact hai.1 rfl⟩)); exact ⟨b, ha.via hb (fun k hk => by rw [r13_Formed.l0, if_pos hi, if_neg c0, if_pos (by omega), if_pos h0, if_pos hi, if_neg c1, hk, Option.bind_some, if_pos rfl, w1 (by omega) (by omega)]), hbi⟩
        | false =>
          refine ⟨false, ha.via (Ev.pure false) (fun k hk => by rw [r13_Formed.l0, if_pos hi, if_neg c0, if_pos (by omega), if_pos h0, if_pos hi, if_neg c1, hk, Option.bind_some, if_neg (by decide)]), hbad ?_⟩; rintro (⟨h, _⟩ | ⟨_, h⟩); (omega); (rw [upOf_rd] at h; have := hai.2 h; cases this)
theorem Formed_ev (l : List S53) (hl : (l.length : Int) ≤ 1000000000) : ∃ b, Ev (fun k => r13_Formed.f k l) b ∧ (b = true ↔ GoodTo l l.length) := by
  obtain ⟨b, hb, hi⟩ := Formed_l0 l hl l.length 0 (by omega) (by omega) (fun i h0 h1 => by omega); exact ⟨b, hb, hi⟩
theorem Dp.le {l : List S53} {x d : Int} (h : Dp l x d) {n : Int} (hg : GoodTo l n) (hx : x ≤ n) : d ≤ x := by
  obtain ⟨e, he, hle⟩ := Dp.ex hg x.toNat x rfl h.nn.1 hx; rw [h.uniq he]; exact hle
theorem depth_l0 (l : List S53) (hl : (l.length : Int) ≤ 1000000000) (n : Int) (hn : n ≤ l.length) (hg : GoodTo l n) (m : Nat) : ∀ (y e : Int), y.toNat = m → Dp l y e → y ≤ n → ∀ a : Int, 0 ≤ a → a ≤ 3000000000 - y → Ev (fun k => r13_Depth.l0 k l y a) (a + e) := by
  induction m using Nat.strongRecOn with
  | _ m ihm =>
    intro y e hm he hy a a0 a1
    cases he with
    | zero => exact (Ev.pure _).step (fun k => by rw [r13_Depth.l0, if_neg (by omega), Int.add_zero])
    | @up _ e h0 he =>
      have hu := hg.up h0 hy; have h := ihm (upOf l y).toNat (by omega) (upOf l y) e rfl he (by omega) (a + 1) (by omega) (by omega); rw [show a + (e + 1) = a + 1 + e by omega]; refine h.step (fun k => ?_); rw [r13_Depth.l0, if_pos (by omega), wm (by omega) (by omega), if_pos (by omega), if_pos (by omega), w1 (by omega) (by omega)]; rfl
theorem Depth_ev (l : List S53) (hl : (l.length : Int) ≤ 1000000000) (hg : GoodTo l l.length) {x d : Int} (h : Dp l x d) (hx : x ≤ l.length) : Ev (fun k => r13_Depth.f k l x) d := by
  have := depth_l0 l hl l.length (Int.le_refl _) hg _ x d rfl h hx 0 (by omega) (by omega); rw [Int.zero_add] at this; exact this
theorem cut_l0 (l : List S53) (hl : (l.length : Int) ≤ 4096) (hg : GoodTo l l.length) (d : Nat) : ∀ (i : Int) (arr : List Int), 0 ≤ i → (l.length : Int) - i = d → (arr.length : Int) = l.length + 1 →
    (∀ j, 0 ≤ j → j ≤ i → Dp l j (rd arr j)) → (∀ j e, 0 ≤ j → j ≤ i → Dp l j e → e ≤ 64) →
    ∃ m : Int, Ev (fun k => flat_cut.l0 k l arr l l.length i) (l.take m.toNat) ∧ i ≤ m ∧ m ≤ l.length ∧ (∀ j e, 0 ≤ j → j < m → Dp l j e → e ≤ 64) ∧ (∀ e, Dp l m e → e ≤ 65) ∧ ((∀ e, Dp l m e → e ≤ 64) → m = l.length) := by
  induction d with
  | zero =>
    intro i arr h0 hd ha hdp hsm
    obtain rfl : i = l.length := by omega
    refine ⟨l.length, (Ev.pure _).step (fun k => by rw [flat_cut.l0, if_neg (by omega)]; simp), Int.le_refl _, Int.le_refl _, fun j e a b c => hsm j e a (by omega) c, fun e h => ?_, fun _ => rfl⟩; have := hsm _ e (by omega) (Int.le_refl _) h; omega
  | succ d ih =>
    intro i arr h0 hd ha hdp hsm
    have hi : i < l.length := by omega
    have hu := hg.up (x := i + 1) (by omega) (by omega); have hup := upOf_rd l i; rw [hup] at hu; have hDu := hdp _ hu.1 (by omega); have hnn := hDu.nn; have hee := hDu.le hg (by omega); have h64 := hsm _ _ hu.1 (by omega) hDu; have hDi : Dp l (i + 1) (rd arr (rd_T53 l i).f1 + 1) := .up (by omega) (by rw [hup]; exact hDu); have hw : wrap64 (rd arr (rd_T53 l i).f1 + 1) = rd arr (rd_T53 l i).f1 + 1 := w1 (by omega) (by omega)
    have hrd : rd (arr.set (i + 1).toNat (rd arr (rd_T53 l i).f1 + 1)) (i + 1) = rd arr (rd_T53 l i).f1 + 1 := by
      unfold rd; rw [List.getD_eq_getElem?_getD, List.getElem?_set_self (by omega)]; rfl
    have e : ∀ k, flat_cut.l0 (k + 1) l arr l l.length i = if rd arr (rd_T53 l i).f1 + 1 > 64 then some (l.take (i + 1).toNat) else flat_cut.l0 k l (arr.set (i + 1).toNat (rd arr (rd_T53 l i).f1 + 1)) l l.length (i + 1) := by
      intro k; rw [flat_cut.l0, if_pos hi, if_pos h0, if_pos hi, if_pos hu.1, if_pos (by omega), w1 (by omega) (by omega), if_pos (by omega), if_pos (by omega), hw, Option.bind_some, hrd, if_pos (show i + 1 ≤ (l.length : Int) by omega), if_neg (show ¬ i = 4096 by omega)]
    by_cases c : rd arr (rd_T53 l i).f1 + 1 > 64
    · refine ⟨i + 1, (Ev.pure _).step (fun k => by rw [e, if_pos c]), by omega, by omega, fun j e a b hh => hsm j e a (by omega) hh, fun e he => ?_, fun h => ?_⟩
      · have := hDi.uniq he; omega
      · have := h _ hDi; omega
    · obtain ⟨m, hm, m1, m2, m3, m4, m5⟩ := ih (i + 1) (arr.set (i + 1).toNat (rd arr (rd_T53 l i).f1 + 1)) (by omega) (by omega) (by rw [List.length_set]; exact ha)
        (fun j j0 j1 => by
          rcases Int.lt_or_eq_of_le j1 with j2 | rfl
          · have : rd (arr.set (i + 1).toNat (rd arr (rd_T53 l i).f1 + 1)) j = rd arr j := by
              unfold rd
              rw [List.getD_eq_getElem?_getD, List.getElem?_set_ne (by omega), ← List.getD_eq_getElem?_getD]
            rw [this]
            exact hdp j j0 (by omega)
          · rw [hrd]
            exact hDi)
        (fun j e j0 j1 he => by
          rcases Int.lt_or_eq_of_le j1 with j2 | rfl
          · exact hsm j e j0 (by omega) he
          · have := hDi.uniq he; omega)
      exact ⟨m, hm.step (fun k => by rw [e, if_neg c]), by omega, m2, m3, m4, m5⟩
theorem cut_ev (l : List S53) (hl : (l.length : Int) ≤ 4096) (hg : GoodTo l l.length) (hp : 0 < l.length) : ∃ m : Int, Ev (fun k => flat_cut.f k l) (l.take m.toNat) ∧ 0 < m ∧ m ≤ l.length ∧ (∀ j e, 0 ≤ j → j < m → Dp l j e → e ≤ 64) ∧ (∀ e, Dp l m e → e ≤ 65) ∧ ((∀ e, Dp l m e → e ≤ 64) → m = l.length) := by
  have hz : ∀ j, 0 ≤ j → j ≤ (0 : Int) → j = 0 := fun j a b => by omega
  obtain ⟨m, hm, m1, m2, m3, m4, m5⟩ := cut_l0 l hl hg l.length 0 (List.replicate (l.length + 1) 0) (by omega) (by omega) (by rw [List.length_replicate]; omega)
    (fun j a b => by
      rw [hz j a b]
      have : rd (List.replicate (l.length + 1) 0) 0 = 0 := by unfold rd; rfl
      rw [this]
      exact .zero)
    (fun j e a b he => by
      rw [hz j a b] at he; have := he.uniq .zero
      omega)
  refine ⟨m, hm.eq (fun k => ?_), ?_, m2, m3, m4, m5⟩; (rw [flat_cut.f, w1 (by omega) (by omega), if_pos (by omega), if_pos (by omega)]; rw [show ((l.length : Int) + 1).toNat = l.length + 1 by omega])
  · rcases Int.lt_or_eq_of_le m1 with h | h
    · exact h
    · subst h
      have := m5 (fun e he => by have := he.uniq .zero; omega)
      omega
theorem ht_L (ks : List S25) (hp : ∀ y ∈ ks, ∀ dp at_ u, ∃ it ∈ itemsT y dp at_ u, it.f1 = dp + htT y - 1) (hs : ∀ y ∈ ks, Sm25 y) : ∀ dp at_ u, htL ks = 0 ∨ ∃ it ∈ itemsL ks dp at_ u, it.f1 = dp + htL ks - 1 := by
  induction ks with
  | nil => intro dp at_ u; exact .inl rfl
  | cons y ys ih =>
    intro dp at_ u; right; rw [itemsL, htL]; have p1 := pos_of y (hs y (by simp)); obtain ⟨a, ha, ha2⟩ := hp y (by simp) dp at_ u
    rcases ih (fun z hz => hp z (by simp [hz])) (fun z hz => hs z (by simp [hz])) dp (at_ + szT y) u with h | ⟨b, hb, hb2⟩
    · exact ⟨a, List.mem_append_left _ ha, by rw [h]; omega⟩
    · by_cases c : htL ys ≤ htT y
      · exact ⟨a, List.mem_append_left _ ha, by omega⟩
      · exact ⟨b, List.mem_append_right _ hb, by omega⟩
/-- The deepest item. -/
theorem ht_T (x : S25) (h : Sm25 x) : ∀ dp at_ u, ∃ it ∈ itemsT x dp at_ u, it.f1 = dp + htT x - 1 := by
  induction h with
  | @mk x h0 h1 h2 h3 h4 h5 ih =>
    intro dp at_ u; rw [itemsT_eq, htT_eq]
    rcases ht_L x.f4 ih h5 (dp + 1) (at_ + 1) at_ with h | ⟨a, ha, ha2⟩
    (exact ⟨_, List.mem_cons_self, by rw [h]; show dp = _; omega⟩); (exact ⟨a, List.mem_cons_of_mem _ ha, by omega⟩)
def rowJ (it : S63) : S53 := ⟨0, it.f2 + 1, it.f0.f0, it.f0.f1, it.f0.f2, it.f0.f3⟩
theorem rowJ_L (ks : List S25) (hp : ∀ y ∈ ks, ∀ dp at_ up, (itemsT y dp at_ up).map rowJ = rowsT y at_ (up + 1)) : ∀ dp at_ up, (itemsL ks dp at_ up).map rowJ = rowsL ks at_ (up + 1) := by
  induction ks with
  | nil => intro dp at_ up; rfl
  | cons y ys ih =>
    intro dp at_ up; rw [itemsL, rowsL, List.map_append, hp y (by simp), ih (fun z hz => hp z (by simp [hz]))]
theorem rowJ_T (x : S25) (h : Sm25 x) : ∀ dp at_ up, (itemsT x dp at_ up).map rowJ = rowsT x at_ (up + 1) := by
  induction h with
  | @mk x h0 h1 h2 h3 h4 h5 ih =>
    intro dp at_ up; rw [itemsT_eq, rowsT_eq, List.map_cons, rowJ_L x.f4 ih]; rfl
theorem Dp.tr {l R : List S53} {m : Int} (hg : GoodTo l m) (hu : ∀ x, 0 < x → x ≤ m → upOf R x = upOf l x) {x d : Int} (h : Dp l x d) (hx : x ≤ m) : Dp R x d := by
  induction h with
  | zero => exact .zero
  | @up x d h0 _ ih =>
    have := hg.up h0 hx; exact .up h0 (by rw [hu x h0 hx]; exact ih (by omega))
theorem rd_z0 (l : List S53) (m i : Int) (h0 : 0 ≤ i) (h1 : i < m) (h2 : m ≤ l.length) : rd_T53 ((l.take m.toNat).map z0) i = z0 (rd_T53 l i) := by
  unfold rd_T53; simp only [List.getD_eq_getElem?_getD, List.getElem?_map, List.getElem?_take]; rw [if_pos (by omega), List.getElem?_eq_getElem (by omega)]; rfl
/-- Rows, as_ far as_ they are built, and their tree. -/
structure Tied (l : List S53) (m : Int) (n : S25) : Prop where
  pos : 0 < m
  le : m ≤ l.length
  len : (l.length : Int) ≤ 4096
  good : GoodTo l l.length
  rows : (l.take m.toNat).map z0 = rowsT n 0 0
  sm : Sm25 n
  sz : szT n = m
  low : ∀ j e, 0 ≤ j → j ≤ m → Dp l j e → e ≤ 65
theorem Tied.item {l : List S53} {m : Int} {n : S25} (T : Tied l m n) {i : Nat} {it : S63} (hi : (itemsT n 1 0 (-1))[i]? = some it) : (i : Int) < m ∧ Dp l (i + 1) it.f1 ∧ z0 (rd_T53 l i) = rowJ it := by
  have hil := lt48 hi; have hlen := itemsT_len n T.sm 1 0 (-1); have hrl := rowsT_len n T.sm 0 0; have hsz := T.sz; have hle := T.le
  have him : (i : Int) < m := by omega
  have hR : ∀ j : Int, 0 ≤ j → j < m → rd_T53 (rowsT n 0 0) j = z0 (rd_T53 l j) := fun j h0 h1 => by rw [← T.rows]; exact rd_z0 l m j h0 h1 T.le
  have hup : ∀ x, 0 < x → x ≤ m → upOf (rowsT n 0 0) x = upOf l x := fun x h0 h1 => by
    unfold upOf; rw [hR (x - 1) (by omega) (by omega)]; rfl
  refine ⟨him, ?_, ?_⟩; (obtain ⟨e, he, _⟩ := Dp.ex T.good (i + 1) ((i : Int) + 1) (by omega) (by omega) (by omega); have h1 := he.tr (T.good.mono T.le) hup (by omega); have h2 := (di_T n T.sm (rowsT n 0 0) 0 0 [] 1 (-1) (by omega) (by simp) .zero i it hi).1; rw [Int.zero_add] at h2; rw [← h1.uniq h2]; exact he)
  · have h := rowJ_T n T.sm 1 0 (-1)
    have h2 : ((itemsT n 1 0 (-1)).map rowJ)[i]? = some (rowJ it) := by rw [List.getElem?_map, hi]; rfl
    rw [h] at h2
    rw [← hR i (by omega) him]
    unfold rd_T53
    rw [List.getD_eq_getElem?_getD, Int.toNat_natCast]
    rw [show (-1 : Int) + 1 = 0 by decide] at h2
    rw [h2]
    rfl
theorem Tied.ht {l : List S53} {m : Int} {n : S25} (T : Tied l m n) : htT n ≤ 65 := by
  obtain ⟨it, h1, h2⟩ := ht_T n T.sm 1 0 (-1); obtain ⟨i, hi, rfl⟩ := List.getElem_of_mem h1; obtain ⟨a, b, _⟩ := T.item (List.getElem?_eq_getElem hi); have := T.low _ _ (by omega) (by omega) b; omega
theorem alone_kids (k : Nat) (a b c : ByteArray) (d : List S69) (ks : List S25) : r11_Alone.f k a b c d [] = r11_Alone.f k a b c d ks := rfl
/-- A row's likes ahead of it. -/
def Tw (l : List S53) (i j : Int) : Prop := ∃ k, j ≤ k ∧ k < i ∧ (rd_T53 l k).f1 = (rd_T53 l i).f1 ∧ (rd_T53 l i).f3.toList ≠ [] ∧ (rd_T53 l k).f3.toList = (rd_T53 l i).f3.toList
theorem chk13_l1 (l : List S53) (hl : (l.length : Int) ≤ 4096) (i : Int) (h0 : 0 ≤ i) (hi : i < l.length) (d : Nat) : ∀ j : Int, (i - j) = d → 0 ≤ j →
    (Tw l i j → Ev (fun k => r13_Check.l1 k l i l.length i i j) 10) ∧ (¬ Tw l i j → ∀ r, Ev (fun k => r13_Check.l0 k l l.length (i + 1)) r → Ev (fun k => r13_Check.l1 k l i l.length i i j) r) := by
  induction d with
  | zero =>
    intro j hd hj; exact ⟨fun ⟨k, h1, h2, _⟩ => by omega, fun _ r hr => hr.step (fun k => by rw [r13_Check.l1, if_neg (by omega), w1 (by omega) (by omega)])⟩
  | succ d ih =>
    intro j hd hj; obtain ⟨ih1, ih2⟩ := ih (j + 1) (by omega) (by omega); have hw : wrap64 (j + 1) = j + 1 := w1 (by omega) (by omega)
    have a1 : j < i := by omega
    have a5 : j < (l.length : Int) := by omega
    by_cases c : (rd_T53 l j).f1 = (rd_T53 l i).f1 ∧ (rd_T53 l i).f3.toList ≠ [] ∧ (rd_T53 l j).f3.toList = (rd_T53 l i).f3.toList
    · refine ⟨fun _ => (Ev.pure _).step (fun k => ?_), fun h => absurd ⟨j, Int.le_refl _, a1, c⟩ h⟩
      rw [r13_Check.l1, if_pos a1, if_pos h0, if_pos hi, if_neg c.2.1, if_pos hj, if_pos a5, if_pos c.1, if_pos c.2.2]
    · have hstep (k : Nat) : r13_Check.l1 (k + 1) l i l.length i i j = r13_Check.l1 k l i l.length i i (j + 1) := by
        rw [r13_Check.l1, if_pos a1, if_pos h0, if_pos hi, hw]
        by_cases d3 : (rd_T53 l i).f3.toList = []
        · rw [if_pos d3]
        · rw [if_neg d3, if_pos hj, if_pos a5]
          by_cases d2 : (rd_T53 l j).f1 = (rd_T53 l i).f1
          · rw [if_pos d2, if_neg (fun d4 => c ⟨d2, d3, d4⟩)]
          · rw [if_neg d2]
      have hex : Tw l i j ↔ Tw l i (j + 1) := by
        constructor
        · rintro ⟨k, h1, h2, h3⟩
          rcases Int.lt_or_eq_of_le h1 with h1 | rfl
          · exact ⟨k, by omega, h2, h3⟩
          · exact absurd h3 c
        · rintro ⟨k, h1, h2, h3⟩
          exact ⟨k, by omega, h2, h3⟩
      rw [hex]
      exact ⟨fun h => (ih1 h).step hstep, fun h r hr => (ih2 h r hr).step hstep⟩
theorem Tied.twice {l : List S53} {m : Int} {n : S25} (T : Tied l m n) {i : Nat} {it : S63} (hi : (itemsT n 1 0 (-1))[i]? = some it) : Twice (itemsT n 1 0 (-1)) i ↔ Tw l i 0 := by
  obtain ⟨b1, b2, b3⟩ := T.item hi; have hle := T.le; have e1 : (rd_T53 l i).f1 = it.f2 + 1 := congrArg S53.f1 b3; have e3 : (rd_T53 l i).f3 = it.f0.f1 := congrArg S53.f3 b3; constructor
  · rintro ⟨it', jt, j, h1, h2, h3, h4, h5, h6, h7⟩
    rw [hi] at h2
    cases h2
    obtain ⟨c1, c2, c3⟩ := T.item h3
    have g1 : (rd_T53 l j).f1 = jt.f2 + 1 := congrArg S53.f1 c3
    have g3 : (rd_T53 l j).f3 = jt.f0.f1 := congrArg S53.f3 c3
    refine ⟨j, by omega, by omega, by omega, ?_, ?_⟩
    · rw [e3, Lib.toList_data]; exact h6
    · rw [e3, g3, Lib.toList_data, Lib.toList_data]; exact h7
  · rintro ⟨k, h1, h2, h3, h4, h5⟩
    have hk : k.toNat < (itemsT n 1 0 (-1)).length := by have := lt48 hi; omega
    obtain ⟨jt, hjt⟩ : ∃ jt, (itemsT n 1 0 (-1))[k.toNat]? = some jt := ⟨_, List.getElem?_eq_getElem hk⟩
    obtain ⟨c1, c2, c3⟩ := T.item hjt
    rw [show ((k.toNat : Nat) : Int) = k by omega] at c3
    have g1 : (rd_T53 l k).f1 = jt.f2 + 1 := congrArg S53.f1 c3
    have g3 : (rd_T53 l k).f3 = jt.f0.f1 := congrArg S53.f3 c3
    have hrow := T.good i (by omega) (by omega)
    have hpos : 1 ≤ (rd_T53 l i).f1 := by
      rcases hrow with h | h
      (omega); (have := h.2.pos; rw [upOf_rd] at this; omega)
    refine ⟨it, jt, k.toNat, by omega, hi, hjt, by omega, by omega, ?_, ?_⟩
    · rw [e3, Lib.toList_data] at h4; exact h4
    · rw [e3, g3, Lib.toList_data, Lib.toList_data] at h5; exact h5
theorem Tied.ok {l : List S53} {m : Int} {n : S25} (T : Tied l m n) (hs : ∀ it ∈ itemsT n 1 0 (-1), Sm25 it.f0) (i : Nat) (h : OKat (itemsT n 1 0 (-1)) i) {r : Int} (hr : Ev (fun k => r13_Check.l0 k l l.length ((i : Int) + 1)) r) : Ev (fun k => r13_Check.l0 k l l.length (i : Int)) r := by
  obtain ⟨it, h1, h2, h3, h4, h5⟩ := h; obtain ⟨b1, b2, b3⟩ := T.item h1; have hle := T.le; have hlen := T.len; obtain ⟨_, w2⟩ := wr_ev (hs it (List.mem_of_getElem? h1)); rw [h4] at w2; have hl := (chk13_l1 l hlen i (by omega) (by omega) i 0 (by omega) (by omega)).2 (fun h => h5 ((T.twice h1).2 h)) r hr; have hD := Depth_ev l (by omega) T.good b2 (by omega); have e2 : (rd_T53 l i).f2 = it.f0.f0 := congrArg S53.f2 b3; have e3 : (rd_T53 l i).f3 = it.f0.f1 := congrArg S53.f3 b3; have e4 : (rd_T53 l i).f4 = it.f0.f2 := congrArg S53.f4 b3; have e5 : (rd_T53 l i).f5 = it.f0.f3 := congrArg S53.f5 b3; have hA : Ev (fun k => r11_Alone.f k (rd_T53 l i).f2 (rd_T53 l i).f3 (rd_T53 l i).f4 (rd_T53 l i).f5 []) 0 := w2.eq (fun k => by rw [e2, e3, e4, e5, alone_kids k _ _ _ _ it.f0.f4])
  have key : Ev (fun k => (r13_Depth.f k l ((i : Int) + 1)).bind fun t367 => (if t367 > 64 then (some 11) else ((r11_Alone.f k ((rd_T53 l i).f2) ((rd_T53 l i).f3) ((rd_T53 l i).f4) ((rd_T53 l i).f5) ([] : List (S25))).bind fun t372 => (if t372 = 0 then (r13_Check.l1 k l i l.length i i 0) else (some t372))))) r := by
    refine Ev.bind hD ?_; exact (Ev.bind (g := fun k (t : Int) => if t = 0 then r13_Check.l1 k l i l.length i i 0 else some t) hA (hl.eq (fun k => by rw [if_pos rfl]))).eq (fun k => by rw [if_neg (by omega)])
  refine key.step (fun k => ?_); rw [r13_Check.l0, if_pos (by omega), if_neg (by omega), w1 (by omega) (by omega), if_pos (show (0 : Int) ≤ (i : Int) by omega), if_pos (show (i : Int) < (l.length : Int) by omega)]
theorem Tied.bad {l : List S53} {m : Int} {n : S25} (T : Tied l m n) (hs : ∀ it ∈ itemsT n 1 0 (-1), Sm25 it.f0) (i : Nat) (e : Int) (h : BadAt (itemsT n 1 0 (-1)) i e) : Ev (fun k => r13_Check.l0 k l l.length (i : Int)) e := by
  obtain ⟨it, h1, h2⟩ := h; obtain ⟨b1, b2, b3⟩ := T.item h1; have hle := T.le; have hlen := T.len; obtain ⟨_, w2⟩ := wr_ev (hs it (List.mem_of_getElem? h1)); have hD := Depth_ev l (by omega) T.good b2 (by omega); have e2 : (rd_T53 l i).f2 = it.f0.f0 := congrArg S53.f2 b3; have e3 : (rd_T53 l i).f3 = it.f0.f1 := congrArg S53.f3 b3; have e4 : (rd_T53 l i).f4 = it.f0.f2 := congrArg S53.f4 b3; have e5 : (rd_T53 l i).f5 = it.f0.f3 := congrArg S53.f5 b3; have hA : Ev (fun k => r11_Alone.f k (rd_T53 l i).f2 (rd_T53 l i).f3 (rd_T53 l i).f4 (rd_T53 l i).f5 []) (wr it.f0) := w2.eq (fun k => by rw [e2, e3, e4, e5, alone_kids k _ _ _ _ it.f0.f4])
  have fin (r : Int) (key : Ev (fun k => (r13_Depth.f k l ((i : Int) + 1)).bind fun t367 => (if t367 > 64 then (some 11) else ((r11_Alone.f k ((rd_T53 l i).f2) ((rd_T53 l i).f3) ((rd_T53 l i).f4) ((rd_T53 l i).f5) ([] : List (S25))).bind fun t372 => (if t372 = 0 then (r13_Check.l1 k l i l.length i i 0) else (some t372))))) r) : Ev (fun k => r13_Check.l0 k l l.length (i : Int)) r := by
    refine key.step (fun k => ?_); rw [r13_Check.l0, if_pos (by omega), if_neg (by omega), w1 (by omega) (by omega), if_pos (show (0 : Int) ≤ (i : Int) by omega), if_pos (show (i : Int) < (l.length : Int) by omega)]
  rcases h2 with ⟨a1, rfl⟩ | ⟨a1, a2, rfl⟩ | ⟨a1, a2, a3, rfl⟩ | ⟨a1, a2, a3, a4, rfl⟩
  (omega); (exact fin _ (Ev.bind hD ((Ev.pure _).eq (fun k => by rw [if_pos a2])))); (exact fin _ (Ev.bind hD ((Ev.bind (g := fun k (t : Int) => if t = 0 then r13_Check.l1 k l i l.length i i 0 else some t) hA ((Ev.pure _).eq (fun k => by rw [if_neg a3]))).eq (fun k => by rw [if_neg (by omega)])))); (rw [a3] at hA; have hl := (chk13_l1 l hlen i (by omega) (by omega) i 0 (by omega) (by omega)).1 ((T.twice h1).1 a4); exact fin _ (Ev.bind hD ((Ev.bind (g := fun k (t : Int) => if t = 0 then r13_Check.l1 k l i l.length i i 0 else some t) hA (hl.eq (fun k => by rw [if_pos rfl]))).eq (fun k => by rw [if_neg (by omega)]))))
theorem Tied.upto {l : List S53} {m : Int} {n : S25} (T : Tied l m n) (hs : ∀ it ∈ itemsT n 1 0 (-1), Sm25 it.f0) (p : Nat) (h : ∀ i, i < p → OKat (itemsT n 1 0 (-1)) i) (r : Int) (hr : Ev (fun k => r13_Check.l0 k l l.length (p : Int)) r) (d : Nat) : ∀ i : Nat, p - i = d → i ≤ p → Ev (fun k => r13_Check.l0 k l l.length (i : Int)) r := by
  induction d with
  | zero =>
    intro i hd hi
    obtain rfl : i = p := by omega
    exact hr
  | succ d ih =>
    intro i hd hi; exact T.ok hs i (h i (by omega)) (by have := ih (i + 1) (by omega) (by omega); rwa [show ((i + 1 : Nat) : Int) = (i : Int) + 1 by omega] at this)
/-- The check of the tree is the reference's check of the rows. -/
theorem Tied.check {l : List S53} {m : Int} {n : S25} (T : Tied l m n) (hd : m < l.length → ∃ e, Dp l m e ∧ 64 < e) : ∃ c : Int × Int, Ev (fun k => vtree_Check.f k n.f0 n.f1 n.f2 n.f3 n.f4) c ∧ Ev (fun k => r13_Check.f k l) c.2 ∧ (c.2 = 0 → m = l.length ∧ ∀ i, i < (itemsT n 1 0 (-1)).length → OKat (itemsT n 1 0 (-1)) i) := by
  have hxe : (⟨n.f0, n.f1, n.f2, n.f3, n.f4⟩ : S25) = n := by cases n; rfl
  have hle := T.le; have hlen := T.len; have hsz := T.sz; have hil := itemsT_len n T.sm 1 0 (-1); have hht := T.ht; have hit := its_T n T.sm [] 1 (-1) (by simp; omega) (by omega); simp only [List.nil_append, List.length_nil, Int.ofNat_zero] at hit; have hI : Ev (fun k => r11_Items.f k n.f0 n.f1 n.f2 n.f3 n.f4) (itemsT n 1 0 (-1)) := hit.eq (fun k => by rw [r11_Items.f, hxe]); obtain ⟨L, c, q1, q2, q3, q4, q5, q6⟩ := checks n T.sm; obtain rfl := Ev.uniq q1 hI; obtain ⟨b, hb, hbi⟩ := Formed_ev l (by omega); obtain rfl : b = true := hbi.2 T.good
  have top (r : Int) (h : Ev (fun k => r13_Check.l0 k l l.length 0) r) : Ev (fun k => r13_Check.f k l) r := by
    unfold r13_Check.f; exact Ev.bind hb (h.eq (fun k => by rw [if_pos rfl]))
  refine ⟨c, q4, ?_⟩
  rcases q6 with ⟨c0, c1, c2⟩ | ⟨c0, p, c1, c2, c3⟩
  · have hm : m = l.length := by
      rcases Int.lt_or_eq_of_le hle with h | h
      · exfalso
        obtain ⟨e, he, he2⟩ := hd h
        obtain ⟨it, a1, a2, a3, a4⟩ := c2 (m - 1).toNat (by have := T.pos; omega)
        obtain ⟨_, b2, _⟩ := T.item a1
        have hp := T.pos
        rw [show (((m - 1).toNat : Nat) : Int) + 1 = m by omega] at b2
        have := he.uniq b2
        omega
      · exact h
    refine ⟨?_, fun _ => ⟨hm, c2⟩⟩
    rw [c0]
    refine top 0 ?_
    have hend : Ev (fun k => r13_Check.l0 k l l.length (((itemsT n 1 0 (-1)).length : Nat) : Int)) 0 := (Ev.pure _).step (fun k => by rw [r13_Check.l0, if_neg (by omega)])
    have := T.upto q3 _ c2 0 hend _ 0 rfl (by omega)
    exact this
  · refine ⟨?_, fun h => absurd h c0⟩
    refine top _ ?_; have := T.upto q3 p c2 _ (T.bad q3 p c.2 c3) _ 0 rfl (by omega); exact this
/-- The handles of the rows right below one. -/
def kidsIdx : List S53 → Int → Int → List Int
  | [], _, _ => []
  | y :: ys, i, h => if y.f1 = h then (i + 1) :: kidsIdx ys (i + 1) h else kidsIdx ys (i + 1) h
theorem kidsIdx_len : ∀ (a : List S53) (i h : Int), (kidsIdx a i h).length ≤ a.length
  | [], _, _ => Nat.le_refl _
  | y :: ys, i, h => by
    have := kidsIdx_len ys (i + 1) h
    rw [kidsIdx]
    split
    · simp only [List.length_cons]; omega
    · simp only [List.length_cons]; omega
theorem Kids_l0 (l : List S53) (hl : (l.length : Int) ≤ 1000000000) (h : Int) (d : Nat) : ∀ (i : Int) (acc : List Int), 0 ≤ i → (l.length : Int) - i = d → (acc.length : Int) ≤ i → Ev (fun k => r13_Kids.l0 k l h acc l.length i) (acc ++ kidsIdx (l.drop i.toNat) i h) := by
  induction d with
  | zero =>
    intro i acc h0 hd ha; rw [List.drop_eq_nil_of_le (by omega), kidsIdx, List.append_nil]; exact (Ev.pure _).step (fun k => by rw [r13_Kids.l0, if_neg (by omega)])
  | succ d ih =>
    intro i acc h0 hd ha
    have hi : i < (l.length : Int) := by omega
    rw [drp53 l i h0 hi, kidsIdx]
    by_cases c : (rd_T53 l i).f1 = h
    (rw [if_pos c, show acc ++ (i + 1) :: kidsIdx (l.drop (i + 1).toNat) (i + 1) h = (acc ++ [i + 1]) ++ kidsIdx (l.drop (i + 1).toNat) (i + 1) h by simp]; exact (ih (i + 1) (acc ++ [i + 1]) (by omega) (by omega) (by rw [List.length_append, List.length_singleton]; omega)).step (fun k => by rw [r13_Kids.l0, if_pos hi, if_pos h0, if_pos hi, if_pos c, if_pos (by omega), w1 (by omega) (by omega)])); (rw [if_neg c]; exact (ih (i + 1) acc (by omega) (by omega) (by omega)).step (fun k => by rw [r13_Kids.l0, if_pos hi, if_pos h0, if_pos hi, if_neg c, w1 (by omega) (by omega)]))
theorem Kids_ev (l : List S53) (hl : (l.length : Int) ≤ 1000000000) (h : Int) : Ev (fun k => r13_Kids.f k l h) (kidsIdx l 0 h) := by
  have := Kids_l0 l hl h l.length 0 [] (by omega) (by omega) (by simp); exact this
theorem rows_any (l : List S53) (hl : (l.length : Int) ≤ 4096) (hs : ∀ y ∈ l, Sm53 y) (hp : 0 < l.length) : ∃ e : Int, Ev (fun k => r13_Check.f k l) e ∧ Ev (fun k => flat_Check.f k l) e ∧
    ((e ≠ 0 ∧ Ev (fun k => flat_Tree.f k l) ((⟨#[]⟩ : ByteArray), (⟨#[]⟩ : ByteArray), (⟨#[]⟩ : ByteArray), ([] : List (S69)), ([] : List (S25)), e)) ∨
     (e = 0 ∧ GoodTo l l.length ∧ ∃ n c, Sm25 n ∧ szT n = l.length ∧ l.map z0 = rowsT n 0 0 ∧ Ev (fun k => flat_Tree.f k l) (n.f0, n.f1, n.f2, n.f3, n.f4, 0) ∧ Ev (fun k => vtree_Check.f k n.f0 n.f1 n.f2 n.f3 n.f4) c ∧ c.2 = 0)) := by
  have chk (x : ByteArray × ByteArray × ByteArray × (List (S69)) × (List (S25)) × Int) (hT : Ev (fun k => flat_Tree.f k l) x) : Ev (fun k => flat_Check.f k l) x.2.2.2.2.2 := (Ev.bind hT (g := fun k bt => some bt.2.2.2.2.2) (Ev.pure _)).eq (fun k => by rw [flat_Check.f, if_neg (by omega)]); obtain ⟨b, hb, hbi⟩ := formed_ev l (by omega); obtain ⟨b', hb', hbi'⟩ := Formed_ev l (by omega)
  cases b with
  | false =>
    have hn : ¬ GoodTo l l.length := fun h => by have := hbi.2 h; cases this
    obtain rfl : b' = false := by cases b' with | false => rfl | true => exact absurd (hbi'.1 rfl) hn
    have hT : Ev (fun k => flat_Tree.f k l) ((⟨#[]⟩ : ByteArray), (⟨#[]⟩ : ByteArray), (⟨#[]⟩ : ByteArray), ([] : List (S69)), ([] : List (S25)), 2) := hb.via0 (Ev.pure _) (fun k hk => by rw [flat_Tree.f, if_neg (by omega), hk, Option.bind_some, if_neg (by decide)]); refine ⟨2, ?_, chk _ hT, .inl ⟨by decide, hT⟩⟩; exact hb'.via0 (Ev.pure _) (fun k hk => by rw [r13_Check.f, hk, Option.bind_some, if_neg (by decide)])
  | true =>
    have hg := hbi.1 rfl; obtain ⟨d, hd, hdi⟩ := deep_ev l (by omega) hg
    have main (m : Int) (m0 : 0 < m) (m1 : m ≤ l.length) (low : ∀ j e, 0 ≤ j → j ≤ m → Dp l j e → e ≤ 65) (hdp : m < l.length → ∃ e, Dp l m e ∧ 64 < e) (hJ : ∀ x, Ev (fun k => flat_Tree.j0 k (l.take m.toNat)) x → Ev (fun k => flat_Tree.f k l) x) : ∃ e : Int, Ev (fun k => r13_Check.f k l) e ∧ Ev (fun k => flat_Check.f k l) e ∧
        ((e ≠ 0 ∧ Ev (fun k => flat_Tree.f k l) ((⟨#[]⟩ : ByteArray), (⟨#[]⟩ : ByteArray), (⟨#[]⟩ : ByteArray), ([] : List (S69)), ([] : List (S25)), e)) ∨
         (e = 0 ∧ GoodTo l l.length ∧ ∃ n c, Sm25 n ∧ szT n = l.length ∧ l.map z0 = rowsT n 0 0 ∧ Ev (fun k => flat_Tree.f k l) (n.f0, n.f1, n.f2, n.f3, n.f4, 0) ∧ Ev (fun k => vtree_Check.f k n.f0 n.f1 n.f2 n.f3 n.f4) c ∧ c.2 = 0)) := by
      have htl : (l.take m.toNat).length = m.toNat := by rw [List.length_take]; omega
      have hup : ∀ x, 0 < x → x ≤ m → upOf (l.take m.toNat) x = upOf l x := fun x h0 h1 => by
        unfold upOf rd_T53; rw [List.getD_eq_getElem?_getD, List.getD_eq_getElem?_getD, List.getElem?_take, if_pos (by omega)]
      have han : ∀ u x, An l u x → x ≤ m → An (l.take m.toNat) u x := fun u x h => by
        induction h with
        | self h => exact fun _ => .self h
        | @up x h0 _ ih =>
          intro hx; have := hg.up h0 (by omega); exact .up h0 (by rw [hup x h0 hx]; exact ih (by omega))
      have hg' : GoodTo (l.take m.toNat) (l.take m.toNat).length := by
        rw [htl]; intro i h0 h1
        rcases hg i h0 (by omega) with h | h
        (exact .inl ⟨h.1, by rw [hup _ (by omega) (by omega)]; exact h.2⟩); (exact .inr ⟨h.1, by rw [hup _ (by omega) (by omega)]; exact han _ _ h.2 (by omega)⟩)
      obtain ⟨n, q1, q2, q3, q4⟩ := built_all (l.take m.toNat) (by omega) (fun y hy => hs y (List.mem_of_mem_take hy)) hg' (by omega)
      have T : Tied l m n := ⟨m0, m1, hl, hg, q2, q3, by omega, low⟩
      obtain ⟨c, c1, c2, c3⟩ := T.check hdp
      by_cases c0 : c.2 = 0
      · have hm := (c3 c0).1
        have htk : l.take m.toNat = l := List.take_of_length_le (by omega)
        have hT := hJ (n.f0, n.f1, n.f2, n.f3, n.f4, 0) (by
          have : Ev (fun k => (flat_build.f k (l.take m.toNat) 0).bind fun bt188 => ((vtree_Check.f k bt188.1 bt188.2.1 bt188.2.2.1 bt188.2.2.2.1 bt188.2.2.2.2.1).bind fun bt199 => (if bt199.2 = 0 then (some (bt188.1, bt188.2.1, bt188.2.2.1, bt188.2.2.2.1, bt188.2.2.2.2.1, (0 : Int))) else (some ((⟨#[]⟩ : ByteArray), (⟨#[]⟩ : ByteArray), (⟨#[]⟩ : ByteArray), ([] : List (S69)), ([] : List (S25)), bt199.2))))) (n.f0, n.f1, n.f2, n.f3, n.f4, 0) := Ev.bind q1 (Ev.bind c1 ((Ev.pure _).eq (fun k => by rw [if_pos c0])))
          exact this.step (fun k => rfl))
        exact ⟨c.2, c2, by rw [c0]; exact chk _ hT, .inr ⟨c0, hg, n, c, q3, by omega, by rw [htk] at q2; exact q2, hT, c1, c0⟩⟩
      · have hT := hJ ((⟨#[]⟩ : ByteArray), (⟨#[]⟩ : ByteArray), (⟨#[]⟩ : ByteArray), ([] : List (S69)), ([] : List (S25)), c.2) (by
          have : Ev (fun k => (flat_build.f k (l.take m.toNat) 0).bind fun bt188 => ((vtree_Check.f k bt188.1 bt188.2.1 bt188.2.2.1 bt188.2.2.2.1 bt188.2.2.2.2.1).bind fun bt199 => (if bt199.2 = 0 then (some (bt188.1, bt188.2.1, bt188.2.2.1, bt188.2.2.2.1, bt188.2.2.2.2.1, (0 : Int))) else (some ((⟨#[]⟩ : ByteArray), (⟨#[]⟩ : ByteArray), (⟨#[]⟩ : ByteArray), ([] : List (S69)), ([] : List (S25)), bt199.2))))) ((⟨#[]⟩ : ByteArray), (⟨#[]⟩ : ByteArray), (⟨#[]⟩ : ByteArray), ([] : List (S69)), ([] : List (S25)), c.2) := Ev.bind q1 (Ev.bind c1 ((Ev.pure _).eq (fun k => by rw [if_neg c0])))
          exact this.step (fun k => rfl))
        exact ⟨c.2, c2, chk _ hT, .inl ⟨c0, hT⟩⟩
    cases d with
    | true =>
      obtain ⟨m, w0, w1', w2, w3, w4, w5⟩ := cut_ev l hl hg hp; refine main m w1' w2 (fun j e a b h => ?_) (fun hm => ?_) (fun x hx => ?_)
      · rcases Int.lt_or_eq_of_le b with b | rfl
        · have := w3 j e a b h; omega
        · exact w4 e h
      (obtain ⟨e, he, _⟩ := Dp.ex hg m.toNat m rfl (by omega) w2; refine ⟨e, he, ?_⟩; apply Int.not_le.1; intro hle; have := w5 (fun e' he' => by rw [← he.uniq he']; exact hle); omega); (exact hb.via0 (hd.via0 (w0.via0 hx (F := fun k => (flat_cut.f k l).bind fun t185 => (flat_Tree.j0 k t185)) (fun k hk => by rw [hk, Option.bind_some])) (F := fun k => (flat_deep.f k l).bind fun t184 => (if t184 = true then ((flat_cut.f k l).bind fun t185 => (flat_Tree.j0 k t185)) else (flat_Tree.j0 k l))) (fun k hk => by rw [hk, Option.bind_some, if_pos rfl])) (fun k hk => by rw [flat_Tree.f, if_neg (by omega), hk, Option.bind_some, if_pos rfl]))
    | false =>
      have hno : ¬ ((∃ j e : Int, 0 ≤ j ∧ j ≤ l.length ∧ Dp l j e ∧ e > 64) ∨ (l.length : Int) > 4096) := fun h => by have := hdi.2 h; cases this
      refine main l.length (by omega) (Int.le_refl _) (fun j e a b h => ?_) (fun hm => by omega) (fun x hx => ?_); (apply Int.not_lt.1; intro h65; exact hno (.inl ⟨j, e, a, b, h, by omega⟩)); (rw [show l.take ((l.length : Int)).toNat = l from List.take_of_length_le (by omega)] at hx; exact hb.via0 (hd.via0 hx (F := fun k => (flat_deep.f k l).bind fun t184 => (if t184 = true then ((flat_cut.f k l).bind fun t185 => (flat_Tree.j0 k t185)) else (flat_Tree.j0 k l))) (fun k hk => by rw [hk, Option.bind_some, if_neg (by decide)])) (fun k hk => by rw [flat_Tree.f, if_neg (by omega), hk, Option.bind_some, if_pos rfl]))
theorem chk_any (l : List S53) (hl : (l.length : Int) ≤ 4096) (hs : ∀ y ∈ l, Sm53 y) : ∃ e : Int, Ev (fun k => r13_Check.f k l) e ∧ Ev (fun k => flat_Check.f k l) e ∧ (e = 0 → GoodTo l l.length) := by
  by_cases c0 : l.length = 0
  · have c0' : (l.length : Int) = 0 := by omega
    obtain ⟨b', hb', hbi'⟩ := Formed_ev l (by omega)
    have hg : GoodTo l l.length := fun i h0 h1 => by omega
    obtain rfl : b' = true := hbi'.2 hg
    refine ⟨0, ?_, (Ev.pure _).eq (fun k => by rw [flat_Check.f, if_pos c0']), fun _ => hg⟩
    unfold r13_Check.f
    refine Ev.bind hb' ?_
    have : Ev (fun k => r13_Check.l0 k l l.length 0) 0 := (Ev.pure _).step (fun k => by rw [r13_Check.l0, if_neg (by omega)])
    exact this.eq (fun k => by rw [if_pos rfl])
  · obtain ⟨e, h1, h2, h | h⟩ := rows_any l hl hs (by omega)
    · exact ⟨e, h1, h2, fun h3 => absurd h3 h.1⟩
    · exact ⟨e, h1, h2, fun _ => h.2.1⟩
theorem rdL_set (xs : List (List Int)) (i j : Int) (v : List Int) (h0 : 0 ≤ i) (h1 : i < xs.length) (hj : 0 ≤ j) : rd_L8 (xs.set i.toNat v) j = if j = i then v else rd_L8 xs j := by
  unfold rd_L8; simp only [List.getD_eq_getElem?_getD]
  by_cases c : j = i
  (subst c; rw [if_pos rfl, List.getElem?_set_self (by omega)]; rfl); (rw [if_neg c, List.getElem?_set_ne (by omega)])
theorem lists_l0 (l : List S53) (hl : (l.length : Int) ≤ 4096) (hg : GoodTo l l.length) (d : Nat) : ∀ (i : Int) (xs : List (List Int)), 0 ≤ i → (l.length : Int) - i = d → (xs.length : Int) = l.length + 1 → (∀ j : Int, 0 ≤ j → j ≤ l.length → ((rd_L8 xs j).length : Int) ≤ i) →
    ∃ out, Ev (fun k => flat_Lists.l0 k xs l l.length i) out ∧ (out.length : Int) = l.length + 1 ∧ ∀ j : Int, 0 ≤ j → j ≤ l.length → rd_L8 out j = rd_L8 xs j ++ kidsIdx (l.drop i.toNat) i j := by
  induction d with
  | zero =>
    intro i xs h0 hd hx hlen; refine ⟨xs, (Ev.pure _).step (fun k => by rw [flat_Lists.l0, if_neg (by omega)]), hx, fun j _ _ => ?_⟩; rw [List.drop_eq_nil_of_le (by omega), kidsIdx, List.append_nil]
  | succ d ih =>
    intro i xs h0 hd hx hlen
    have hi : i < l.length := by omega
    have hu := hg.up (x := i + 1) (by omega) (by omega); rw [upOf_rd] at hu; have hb := hlen _ hu.1 (by omega)
    obtain ⟨out, h1, h2, h3⟩ := ih (i + 1) (xs.set ((rd_T53 l i).f1).toNat ((rd_L8 xs (rd_T53 l i).f1) ++ [i + 1])) (by omega) (by omega) (by rw [List.length_set]; exact hx) (fun j j0 j1 => by
      rw [rdL_set xs _ j _ hu.1 (by omega) j0]; split; (rw [List.length_append, List.length_singleton]; omega)
      · have := hlen j j0 j1; omega)
    refine ⟨out, h1.step (fun k => ?_), h2, fun j j0 j1 => ?_⟩; (rw [flat_Lists.l0, if_pos hi, if_pos h0, if_pos hi, if_pos hu.1, if_pos (by omega), if_pos (by omega), w1 (by omega) (by omega)])
    · rw [h3 j j0 j1, rdL_set xs _ j _ hu.1 (by omega) j0, drp53 l i h0 hi, kidsIdx]
      by_cases c : (rd_T53 l i).f1 = j
      · rw [if_pos c, if_pos c.symm, c]; simp
      · rw [if_neg c, if_neg (fun e => c e.symm)]
theorem lists_ev (l : List S53) (hl : (l.length : Int) ≤ 4096) (hg : GoodTo l l.length) (hc : Ev (fun k => flat_Check.f k l) 0) : ∃ out, Ev (fun k => flat_Lists.f k l) out ∧ (out.length : Int) = l.length + 1 ∧ ∀ j : Int, 0 ≤ j → j ≤ l.length → rd_L8 out j = kidsIdx l 0 j := by
  have hrep : ∀ j : Int, rd_L8 (List.replicate (l.length + 1) []) j = [] := fun j => by
    unfold rd_L8; rw [List.getD_eq_getElem?_getD, List.getElem?_replicate]; split <;> rfl
  obtain ⟨out, h1, h2, h3⟩ := lists_l0 l hl hg l.length 0 (List.replicate (l.length + 1) []) (by omega) (by omega) (by rw [List.length_replicate]; omega) (fun j _ _ => by rw [hrep]; simp); refine ⟨out, ?_, h2, fun j j0 j1 => ?_⟩; (unfold flat_Lists.f; refine Ev.bind hc ?_; refine h1.eq (fun k => ?_); rw [if_pos rfl, w1 (by omega) (by omega), if_pos (by omega), if_pos (by omega), show ((l.length : Int) + 1).toNat = l.length + 1 by omega]); (rw [h3 j j0 j1, hrep]; simp)
theorem lists_bad (l : List S53) (e : Int) (he : e ≠ 0) (hc : Ev (fun k => flat_Check.f k l) e) : Ev (fun k => flat_Lists.f k l) [] := by
  unfold flat_Lists.f; exact Ev.bind hc ((Ev.pure _).eq (fun k => by rw [if_neg he]))
open Classical in
noncomputable def one (p : Prop) : Int := if p then 1 else 0
theorem one_t {p : Prop} (h : p) : one p = 1 := by unfold one; rw [if_pos h]
theorem one_f {p : Prop} (h : ¬ p) : one p = 0 := by unfold one; rw [if_neg h]
theorem one_b (p : Prop) : 0 ≤ one p ∧ one p ≤ 1 := by unfold one; split <;> omega
/-- How many of the numbers behind one are so. -/
noncomputable def ct (p : Int → Prop) : Int → Nat → Int
  | _, 0 => 0
  | lo, d + 1 => one (p (lo + 1)) + ct p (lo + 1) d
theorem ct_b (p : Int → Prop) : ∀ (d : Nat) (lo : Int), 0 ≤ ct p lo d ∧ ct p lo d ≤ d
  | 0, lo => by rw [ct]; omega
  | d + 1, lo => by
    have := ct_b p d (lo + 1)
    have := one_b (p (lo + 1))
    rw [ct]
    omega
theorem ct_eq {p q : Int → Prop} : ∀ (d : Nat) (lo : Int), (∀ x, lo < x → x ≤ lo + d → (p x ↔ q x)) → ct p lo d = ct q lo d
  | 0, lo, _ => rfl
  | d + 1, lo, h => by
    rw [ct, ct, ct_eq d (lo + 1) (fun x h1 h2 => h x (by omega) (by omega)), show one (p (lo + 1)) = one (q (lo + 1)) by rw [propext (h (lo + 1) (by omega) (by omega))]]
theorem ct_add {p q r : Int → Prop} : ∀ (d : Nat) (lo : Int), (∀ x, lo < x → x ≤ lo + d → one (r x) = one (p x) + one (q x)) → ct r lo d = ct p lo d + ct q lo d
  | 0, lo, _ => rfl
  | d + 1, lo, h => by
    rw [ct, ct, ct, ct_add d (lo + 1) (fun x h1 h2 => h x (by omega) (by omega)), h (lo + 1) (by omega) (by omega)]
    omega
theorem ct_none {p : Int → Prop} : ∀ (d : Nat) (lo : Int), (∀ x, lo < x → x ≤ lo + d → ¬ p x) → ct p lo d = 0
  | 0, lo, _ => rfl
  | d + 1, lo, h => by
    rw [ct, ct_none d (lo + 1) (fun x h1 h2 => h x (by omega) (by omega)), one_f (h (lo + 1) (by omega) (by omega))]
    omega
theorem ct_app {p : Int → Prop} : ∀ (a b : Nat) (lo : Int), ct p lo (a + b) = ct p lo a + ct p (lo + a) b
  | 0, b, lo => by rw [ct, Nat.zero_add]; simp
  | a + 1, b, lo => by
    rw [show a + 1 + b = (a + b) + 1 by omega, ct, ct, ct_app a b (lo + 1), show lo + 1 + (a : Int) = lo + ((a + 1 : Nat) : Int) by omega]
    omega
/-- The first handle from one upwards that isn't behind a place. -/
inductive Fst (l : List S53) (h : Int) : Int → Int → Prop
  | here {x : Int} : x ≤ h → Fst l h x x
  | up {x j : Int} : h < x → Fst l h (upOf l x) j → Fst l h x j
theorem Fst.uniq {l : List S53} {h x j : Int} (a : Fst l h x j) : ∀ {i : Int}, Fst l h x i → j = i := by
  induction a with
  | here hx =>
    intro i b
    cases b with
    | here _ => rfl
    | up h1 _ => omega
  | up hx _ ih =>
    intro i b
    cases b with
    | here h1 => omega
    | up _ b => exact ih b
theorem Fst.le {l : List S53} {h x j : Int} (a : Fst l h x j) : j ≤ h := by
  induction a with
  | here hx => exact hx
  | up _ _ ih => exact ih
/-- From one place to the one ahead of it. -/
theorem Fst.pred {l : List S53} {n h : Int} (hg : GoodTo l n) (h0 : 0 < h) (hn : h ≤ n) {x i : Int} (a : Fst l h x i) : Fst l (h - 1) x (if i = h then upOf l h else i) := by
  have hu := hg.up h0 hn
  induction a with
  | @here x hx =>
    by_cases c : x = h
    (subst c; rw [if_pos rfl]; exact .up (by omega) (.here (by omega))); (rw [if_neg c]; exact .here (by omega))
  | up hx _ ih => exact .up (by omega) ih
theorem Fst.ex {l : List S53} {n h : Int} (hg : GoodTo l n) (h0 : 0 ≤ h) (d : Nat) : ∀ x : Int, x.toNat = d → 0 ≤ x → x ≤ n → ∃ j, Fst l h x j ∧ 0 ≤ j := by
  induction d using Nat.strongRecOn with
  | _ d ih =>
    intro x hd x0 hx
    by_cases c : x ≤ h
    (exact ⟨x, .here c, x0⟩); (have hu := hg.up (x := x) (by omega) hx; obtain ⟨j, hj, hj0⟩ := ih (upOf l x).toNat (by omega) (upOf l x) rfl hu.1 (by omega); exact ⟨j, .up (by omega) hj, hj0⟩)
theorem Fst.an {l : List S53} {h : Int} (h0 : 0 < h) {x : Int} (a : Fst l h x h) : An l h x := by
  have key : ∀ {x j}, Fst l h x j → j = h → An l h x := by
    intro x j a
    induction a with
    | here _ => rintro rfl; exact .self h0
    | up hx _ ih => intro e; exact .up (by omega) (ih e)
  exact key a rfl
theorem An.fst {l : List S53} {h : Int} {x : Int} (hx : h ≤ x) {n : Int} (hg : GoodTo l n) (hn : x ≤ n) (a : An l h x) : Fst l h x h := by
  induction a with
  | self _ => exact .here (Int.le_refl _)
  | @up x h0 a ih =>
    have hu := hg.up h0 hn
    by_cases c : x = h
    (subst c; exact .here (Int.le_refl _)); (have hle := hg.le a (by omega); exact .up (by omega) (ih hle (by omega)))
theorem rd_set (xs : List Int) (i j v : Int) (h0 : 0 ≤ i) (h1 : i < xs.length) (hj : 0 ≤ j) : rd (xs.set i.toNat v) j = if j = i then v else rd xs j := by
  unfold rd; simp only [List.getD_eq_getElem?_getD]
  by_cases c : j = i
  (subst c; rw [if_pos rfl, List.getElem?_set_self (by omega)]; rfl); (rw [if_neg c, List.getElem?_set_ne (by omega)])
/-- How many rows stand for a handle. -/
noncomputable def span (l : List S53) (h : Int) : Int := ct (fun x => h = 0 ∨ An l h x) 0 l.length
theorem spans_l0 (l : List S53) (hl : (l.length : Int) ≤ 4096) (hg : GoodTo l l.length) (d : Nat) : ∀ (h : Int) (xs : List Int), h.toNat = d → 0 ≤ h → h ≤ l.length → (xs.length : Int) = l.length + 1 →
    (∀ j : Int, 0 ≤ j → j ≤ h → rd xs j = ct (fun x => Fst l h x j) h (l.length - h.toNat)) → (∀ j : Int, h < j → j ≤ l.length → rd xs j = span l j) →
    ∃ out, Ev (fun k => flat_Spans.l0 k l xs h) out ∧ (out.length : Int) = l.length + 1 ∧ ∀ j : Int, 0 ≤ j → j ≤ l.length → rd out j = span l j := by
  induction d with
  | zero =>
    intro h xs hd h0 hn hx hlo hhi
    obtain rfl : h = 0 := by omega
    refine ⟨xs, (Ev.pure _).step (fun k => by rw [flat_Spans.l0, if_pos rfl]), hx, fun j j0 j1 => ?_⟩
    by_cases c : j = 0
    · subst c
      rw [hlo 0 (by omega) (by omega), span]
      exact ct_eq _ _ (fun x x0 x1 => by
        obtain ⟨i, hi, hi0⟩ := Fst.ex hg (Int.le_refl 0) x.toNat x rfl (by omega) (by simp at x1; omega); have := hi.le
        obtain rfl : i = 0 := by omega
        exact ⟨fun _ => .inl rfl, fun _ => hi⟩)
    · exact hhi j (by omega) j1
  | succ d ih =>
    intro h xs hd h0 hn hx hlo hhi
    have hh : 0 < h := by omega
    have hu := hg.up hh hn; have hup : upOf l h = (rd_T53 l (h - 1)).f1 := rfl
    have hlen : l.length - (h - 1).toNat = (l.length - h.toNat) + 1 := by omega
    have e1 := hlo h h0 (Int.le_refl _); have b1 := ct_b (fun x => Fst l h x h) (l.length - h.toNat) h; have e2 := hlo (upOf l h) hu.1 (by omega); have b2 := ct_b (fun x => Fst l h x (upOf l h)) (l.length - h.toNat) h
    have hself : ct (fun x => Fst l h x h) (h - 1) (l.length - h.toNat + 1) = rd xs h + 1 := by
      rw [ct, show h - 1 + 1 = h by omega, one_t (Fst.here (Int.le_refl h)), e1]; omega
    have hspan : rd xs h + 1 = span l h := by
      have hs : span l h = ct (fun x => h = 0 ∨ An l h x) 0 ((h - 1).toNat + (l.length - h.toNat + 1)) := by unfold span; congr 1; omega
      rw [← hself, hs, ct_app (p := fun x => h = 0 ∨ An l h x) (h - 1).toNat, ct_none (p := fun x => h = 0 ∨ An l h x) (h - 1).toNat 0 (fun x x0 x1 hp => by
        rcases hp with hp | hp
        · omega
        · have := hg.le hp (by omega); omega), Int.zero_add, Int.zero_add, show (((h - 1).toNat : Nat) : Int) = h - 1 by omega]
      exact ct_eq _ _ (fun x x0 x1 => ⟨fun a => .inr (a.an hh), fun a => (a.resolve_left (by omega)).fst (by omega) hg (by omega)⟩)
    have hother : ∀ j : Int, 0 ≤ j → j < h → ct (fun x => Fst l (h - 1) x j) (h - 1) (l.length - h.toNat + 1) = ct (fun x => Fst l h x j) h (l.length - h.toNat) + (if j = upOf l h then rd xs h + 1 else 0) := by
      intro j j0 j1
      have hj : ct (fun x => Fst l h x j) (h - 1) (l.length - h.toNat + 1) = ct (fun x => Fst l h x j) h (l.length - h.toNat) := by
        rw [ct, show h - 1 + 1 = h by omega, one_f (fun a => by have := a.uniq (Fst.here (Int.le_refl h)); omega), Int.zero_add]
      have hx2 : ∀ x, h - 1 < x → x ≤ h - 1 + ((l.length - h.toNat + 1 : Nat) : Int) → ∃ i, Fst l h x i ∧ Fst l (h - 1) x (if i = h then upOf l h else i) := fun x x0 x1 => by
        obtain ⟨i, hi, _⟩ := Fst.ex hg h0 x.toNat x rfl (by omega) (by omega); exact ⟨i, hi, hi.pred hg hh hn⟩
      by_cases c : j = upOf l h
      · rw [if_pos c, ← hself, ← hj]
        refine ct_add _ _ (fun x x0 x1 => ?_)
        obtain ⟨i, a1, a2⟩ := hx2 x x0 x1
        by_cases ci : i = h
        · subst ci
          rw [if_pos rfl, ← c] at a2
          rw [one_t a2, one_t a1, one_f (fun a => by have := a.uniq a1; omega)]
          rfl
        · rw [if_neg ci] at a2
          rw [one_f (p := Fst l h x h) (fun a => ci (a1.uniq a))]
          by_cases cj : i = j
          · subst cj; rw [one_t a2, one_t a1]; rfl
          · rw [one_f (fun a => cj (a2.uniq a)), one_f (fun a => cj (a1.uniq a))]; rfl
      · rw [if_neg c, Int.add_zero, ← hj]
        refine ct_eq _ _ (fun x x0 x1 => ?_)
        obtain ⟨i, a1, a2⟩ := hx2 x x0 x1
        by_cases ci : i = h
        · subst ci
          rw [if_pos rfl] at a2
          exact ⟨fun a => absurd (a.uniq a2) c, fun a => by have := a.uniq a1; omega⟩
        · rw [if_neg ci] at a2
          exact ⟨fun a => by rw [a.uniq a2]; exact a1, fun a => by rw [a.uniq a1]; exact a2⟩
    have hy : ((xs.set h.toNat (rd xs h + 1)).length : Int) = l.length + 1 := by rw [List.length_set]; exact hx
    obtain ⟨out, h1, h2, h3⟩ := ih (h - 1) ((xs.set h.toNat (rd xs h + 1)).set (upOf l h).toNat (rd xs (upOf l h) + (rd xs h + 1))) (by omega) (by omega) (by omega) (by rw [List.length_set]; exact hy)
      (fun j j0 j1 => by
        rw [rd_set _ _ j _ hu.1 (by omega) j0, rd_set xs h j _ h0 (by omega) j0, hlen, hother j j0 (by omega)]
        by_cases c : j = upOf l h
        · rw [if_pos c, if_pos c, e2, c]
        · rw [if_neg c, if_neg c, if_neg (show ¬ j = h by omega), hlo j j0 (by omega)]; omega)
      (fun j j0 j1 => by
        rw [rd_set _ _ j _ hu.1 (by omega) (by omega), rd_set xs h j _ h0 (by omega) (by omega), if_neg (show ¬ j = upOf l h by omega)]
        by_cases c : j = h
        · rw [if_pos c, c]; exact hspan
        · rw [if_neg c]; exact hhi j (by omega) j1)
    refine ⟨out, h1.step (fun k => ?_), h2, h3⟩
    have r1 : rd (xs.set h.toNat (rd xs h + 1)) (upOf l h) = rd xs (upOf l h) := by rw [rd_set xs h _ _ h0 (by omega) hu.1, if_neg (by omega)]
    have r2 : rd (xs.set h.toNat (rd xs h + 1)) h = rd xs h + 1 := by rw [rd_set xs h _ _ h0 (by omega) h0, if_pos rfl]
    have wa : wrap64 (rd xs h + 1) = rd xs h + 1 := w1 (by omega) (by omega); have wb : wrap64 (h - 1) = h - 1 := wm (by omega) (by omega); rw [flat_Spans.l0, if_neg (by omega), if_pos h0, if_pos (by omega), wa, Option.bind_some, wb, if_pos (by omega), if_pos (by omega), ← hup, if_pos hu.1, if_pos (by omega), r1, r2, ww (i := rd xs (upOf l h) + (rd xs h + 1)) (by omega) (by omega)]
theorem spans_ev (l : List S53) (hl : (l.length : Int) ≤ 4096) (hg : GoodTo l l.length) (hc : Ev (fun k => flat_Check.f k l) 0) : ∃ out, Ev (fun k => flat_Spans.f k l) out ∧ (out.length : Int) = l.length + 1 ∧ ∀ j : Int, 0 ≤ j → j ≤ l.length → rd out j = span l j := by
  obtain ⟨out, h1, h2, h3⟩ := spans_l0 l hl hg l.length l.length (List.replicate (l.length + 1) 0) (by omega) (by omega) (by omega) (by rw [List.length_replicate]; omega)
    (fun j j0 j1 => by
      rw [show l.length - ((l.length : Int)).toNat = 0 by omega, ct]; unfold rd; rw [List.getD_eq_getElem?_getD, List.getElem?_replicate]
      split <;> rfl) (fun j j0 j1 => by omega)
  refine ⟨out, ?_, h2, h3⟩; unfold flat_Spans.f; refine Ev.bind hc ?_; refine h1.eq (fun k => ?_); rw [if_pos rfl, w1 (by omega) (by omega), if_pos (by omega), if_pos (by omega), show ((l.length : Int) + 1).toNat = l.length + 1 by omega]
theorem spans_bad (l : List S53) (e : Int) (he : e ≠ 0) (hc : Ev (fun k => flat_Check.f k l) e) : Ev (fun k => flat_Spans.f k l) [] := by
  unfold flat_Spans.f; exact Ev.bind hc ((Ev.pure _).eq (fun k => by rw [if_neg he]))
theorem Span_l0 (l : List S53) (hl : (l.length : Int) ≤ 4096) (hg : GoodTo l l.length) (h : Int) (d : Nat) : ∀ (i n : Int), 0 ≤ i → (l.length : Int) - i = d → 0 ≤ n → n ≤ i → Ev (fun k => r13_Span.l0 k l h n l.length i) (n + ct (fun x => h = 0 ∨ An l h x) i d) := by
  induction d with
  | zero => intro i n h0 hd _ _; exact (Ev.pure _).step (fun k => by rw [r13_Span.l0, if_neg (by omega), ct, Int.add_zero])
  | succ d ih =>
    intro i n h0 hd n0 n1
    have hi : i < (l.length : Int) := by omega
    rw [ct]
    by_cases c : h = 0
    · have := ih (i + 1) (n + 1) (by omega) (by omega) (by omega) (by omega)
      rw [one_t (.inl c), ← Int.add_assoc]; exact this.step (fun k => by rw [r13_Span.l0, if_pos hi, if_pos c, w1 (by omega) (by omega), w1 (by omega) (by omega)])
    · by_cases c1 : i + 1 = h
      · have := ih (i + 1) (n + 1) (by omega) (by omega) (by omega) (by omega)
        rw [one_t (.inr (by rw [c1]; exact .self (by omega))), ← Int.add_assoc]
        exact this.step (fun k => by rw [r13_Span.l0, if_pos hi, if_neg c, w1 (i := i) (by omega) (by omega), if_pos c1, w1 (by omega) (by omega)])
      · obtain ⟨b, hb, hbi⟩ := above_ev l (by omega) l.length (Int.le_refl _) hg h (i + 1) (by omega) (by omega)
        cases b with
        | true =>
          have := ih (i + 1) (n + 1) (by omega) (by omega) (by omega) (by omega); rw [one_t (.inr (hbi.1 rfl)), ← Int.add_assoc]; exact hb.via this (fun k hk => by rw [r13_Span.l0, if_pos hi, if_neg c, w1 (i := i) (by omega) (by omega), if_neg c1, hk, Option.bind_some, if_pos rfl, w1 (by omega) (by omega)])
        | false =>
          have := ih (i + 1) n (by omega) (by omega) (by omega) (by omega)
          have hno : ¬ (h = 0 ∨ An l h (i + 1)) := fun hp => by
            rcases hp with hp | hp
            (exact c hp); (have := hbi.2 hp; cases this)
          rw [one_f hno, Int.zero_add]; exact hb.via this (fun k hk => by rw [r13_Span.l0, if_pos hi, if_neg c, w1 (i := i) (by omega) (by omega), if_neg c1, hk, Option.bind_some, if_neg (by decide)])
theorem Span_ev (l : List S53) (hl : (l.length : Int) ≤ 4096) (hg : GoodTo l l.length) (h : Int) : Ev (fun k => r13_Span.f k l h) (span l h) := by
  have := Span_l0 l hl hg h l.length 0 0 (by omega) (by omega) (by omega) (by omega); rw [Int.zero_add] at this; exact this
theorem rev_l0 (n : Nat) : ∀ (A M B : List Int), M.length = n → (A.length : Int) + M.length + B.length ≤ 1000000 → Ev (fun k => slices_Reverse_int_int.l0 k (A ++ M ++ B) A.length (A.length + M.length - 1)) (A ++ M.reverse ++ B) := by
  induction n using Nat.strongRecOn with
  | _ n ih =>
    intro A M B hM hlen
    cases M with
    | nil => exact (Ev.pure _).step (fun k => by rw [slices_Reverse_int_int.l0, if_neg (by simp only [List.length_nil]; omega)]; rfl)
    | cons a N =>
      rcases List.eq_nil_or_concat N with rfl | ⟨N, b, rfl⟩
      · exact (Ev.pure _).step (fun k => by rw [slices_Reverse_int_int.l0, if_neg (by simp)]; rfl)
      · simp only [List.concat_eq_append] at *
        have hr := ih N.length (by simp at hM; omega) (A ++ [b]) N ([a] ++ B) rfl (by simp at hlen ⊢; omega)
        have e : (A ++ a :: (N ++ [b]) ++ B) = A ++ (a :: (N ++ (b :: B))) := by simp
        have ra : rd (A ++ a :: (N ++ [b]) ++ B) A.length = a := by
          rw [e]; unfold rd; rw [List.getD_eq_getElem?_getD, Int.toNat_natCast, List.getElem?_append_right (Nat.le_refl _), Nat.sub_self]; rfl
        have rb : rd (A ++ a :: (N ++ [b]) ++ B) (A.length + N.length + 1) = b := by
          rw [show A ++ a :: (N ++ [b]) ++ B = (A ++ a :: N) ++ (b :: B) by simp]; unfold rd; rw [List.getD_eq_getElem?_getD, List.getElem?_append_right (by simp; omega), show ((A.length : Int) + N.length + 1).toNat - (A ++ a :: N).length = 0 by simp; omega]; rfl
        have hset : ((A ++ a :: (N ++ [b]) ++ B).set A.length b).set (A.length + N.length + 1) a = (A ++ [b]) ++ N ++ ([a] ++ B) := by
          rw [e, List.set_append_right _ _ (Nat.le_refl _), Nat.sub_self, List.set_cons_zero, show A ++ (b :: (N ++ (b :: B))) = (A ++ (b :: N)) ++ (b :: B) by simp, List.set_append_right _ _ (by simp; omega), show A.length + N.length + 1 - (A ++ b :: N).length = 0 by simp; omega, List.set_cons_zero]; simp
        rw [show A ++ (a :: (N ++ [b])).reverse ++ B = (A ++ [b]) ++ N.reverse ++ ([a] ++ B) by simp]
        refine hr.step (fun k => ?_)
        have hl1 : ((a :: (N ++ [b])).length : Int) = N.length + 2 := by simp; omega
        have hl2 : ((A ++ a :: (N ++ [b]) ++ B).length : Int) = A.length + N.length + 2 + B.length := by simp; omega
        rw [hl1, show (A.length : Int) + (N.length + 2) - 1 = A.length + N.length + 1 by omega, slices_Reverse_int_int.l0, if_pos (by omega), if_pos (by omega), if_pos (by omega), if_pos (by omega), if_pos (by omega), ra, rb, w1 (by omega) (by omega), wm (by omega) (by omega), show ((A.length : Int)).toNat = A.length by omega, show ((A.length : Int) + N.length + 1).toNat = A.length + N.length + 1 by omega, hset]
        rw [show ((A ++ [b]).length : Int) = A.length + 1 by simp, show (A.length : Int) + 1 + N.length - 1 = A.length + N.length + 1 - 1 by omega]
theorem rev_ev (M : List Int) (h : (M.length : Int) ≤ 1000000) : Ev (fun k => slices_Reverse_int_int.f k M) M.reverse := by
  have := rev_l0 M.length [] M [] rfl (by simp; omega); simp only [List.nil_append, List.append_nil, List.length_nil, Int.ofNat_zero] at this; refine this.eq (fun k => ?_); rw [slices_Reverse_int_int.f, wm (by omega) (by omega)]
  congr 1
  omega
/-- The handles from one upwards. -/
inductive Ch (l : List S53) : Int → List Int → Prop
  | zero : Ch l 0 []
  | up {x : Int} {cs : List Int} : 0 < x → Ch l (upOf l x) cs → Ch l x (x :: cs)
theorem Ch.ex {l : List S53} {n : Int} (hg : GoodTo l n) (d : Nat) : ∀ x : Int, x.toNat = d → 0 ≤ x → x ≤ n → ∃ cs, Ch l x cs ∧ (cs.length : Int) ≤ x := by
  induction d using Nat.strongRecOn with
  | _ d ih =>
    intro x hd x0 hx
    by_cases c : x = 0
    (subst c; exact ⟨[], .zero, by simp⟩); (have hu := hg.up (x := x) (by omega) hx; obtain ⟨cs, h1, h2⟩ := ih (upOf l x).toNat (by omega) (upOf l x) rfl hu.1 (by omega); exact ⟨x :: cs, .up (by omega) h1, by simp only [List.length_cons]; omega⟩)
theorem path_l0 (l : List S53) (hl : (l.length : Int) ≤ 4096) (hg : GoodTo l l.length) {x : Int} {cs : List Int} (h : Ch l x cs) : x ≤ l.length → ∀ acc : List Int, (acc.length : Int) + cs.length ≤ 1000000 → Ev (fun k => flat_Path.l0 k l x acc) (acc ++ cs).reverse := by
  induction h with
  | zero =>
    intro _ acc ha; have := rev_ev acc (by omega); rw [List.append_nil]; exact this.via (Ev.pure _) (fun k hk => by rw [flat_Path.l0, if_pos rfl, hk]; rfl)
  | @up x cs h0 h ih =>
    intro hx acc ha; have hu := hg.up h0 hx; simp only [List.length_cons] at ha; have := ih (by omega) (acc ++ [x]) (by simp only [List.length_append, List.length_singleton]; omega); rw [show acc ++ x :: cs = acc ++ [x] ++ cs by simp]; refine this.step (fun k => ?_); rw [flat_Path.l0, if_neg (by omega), if_pos (by omega), wm (by omega) (by omega), if_pos (by omega), if_pos (by omega)]; rfl
theorem Path_l0 (l : List S53) (hl : (l.length : Int) ≤ 4096) (hg : GoodTo l l.length) {x : Int} {cs : List Int} (h : Ch l x cs) : x ≤ l.length → ∀ acc : List Int, (acc.length : Int) + cs.length ≤ 1000000 → Ev (fun k => r13_Path.l0 k l x acc) (cs.reverse ++ acc) := by
  induction h with
  | zero => intro _ acc ha; exact (Ev.pure _).step (fun k => by rw [r13_Path.l0, if_neg (by omega)]; rfl)
  | @up x cs h0 h ih =>
    intro hx acc ha; have hu := hg.up h0 hx; simp only [List.length_cons] at ha; have := ih (by omega) ([x] ++ acc) (by simp only [List.length_append, List.length_singleton]; omega); rw [List.reverse_cons, List.append_assoc]; refine this.step (fun k => ?_); rw [r13_Path.l0, if_pos (by omega), if_pos hx, Option.bind_some, if_pos (by simp only [List.length_singleton]; omega), wm (by omega) (by omega), if_pos (by omega), if_pos (by omega)]; rfl
/-- Both paths, of any handle. -/
theorem path_ev (l : List S53) (hl : (l.length : Int) ≤ 4096) (hg : GoodTo l l.length) (hc : Ev (fun k => flat_Check.f k l) 0) (h : Int) : ∃ p : List Int, Ev (fun k => flat_Path.f k l h) p ∧ Ev (fun k => r13_Path.f k l h) p ∧ (p.length : Int) ≤ 4096 := by
  have hj : Ev (fun k => flat_Path.j0 k l h true) [] := (Ev.pure _).step (fun k => by rw [flat_Path.j0, if_pos rfl])
  by_cases c1 : h < 1
  · have hp : Ev (fun k => r13_Path.l0 k l h []) [] := (Ev.pure _).step (fun k => by rw [r13_Path.l0, if_neg (by omega)])
    exact ⟨[], hj.eq (fun k => by rw [flat_Path.f, if_pos c1]), hp, by simp⟩
  by_cases c2 : h > (l.length : Int)
  (have hp : Ev (fun k => r13_Path.l0 k l h []) [] := (Ev.pure _).step (fun k => by rw [r13_Path.l0, if_pos (by omega), if_neg (by omega)]); exact ⟨[], hj.eq (fun k => by rw [flat_Path.f, if_neg c1, if_pos c2]), hp, by simp⟩); obtain ⟨cs, h1, h2⟩ := Ch.ex hg h.toNat h rfl (by omega) (by omega); have a := path_l0 l hl hg h1 (by omega) [] (by simp; omega); have b := Path_l0 l hl hg h1 (by omega) [] (by simp; omega); rw [List.nil_append] at a; rw [List.append_nil] at b; refine ⟨cs.reverse, ?_, b, by rw [List.length_reverse]; omega⟩; have hj2 : Ev (fun k => flat_Path.j0 k l h (((0 : Int) != 0))) cs.reverse := a.step (fun k => by rw [flat_Path.j0, if_neg (by decide)]); exact (Ev.bind hc (g := fun k t => flat_Path.j0 k l h (t != 0)) hj2).eq (fun k => by rw [flat_Path.f, if_neg c1, if_neg c2])
theorem path_bad (l : List S53) (e : Int) (he : e ≠ 0) (hc : Ev (fun k => flat_Check.f k l) e) (h : Int) : Ev (fun k => flat_Path.f k l h) [] := by
  have hj : Ev (fun k => flat_Path.j0 k l h true) [] := (Ev.pure _).step (fun k => by rw [flat_Path.j0, if_pos rfl])
  by_cases c1 : h < 1
  · exact hj.eq (fun k => by rw [flat_Path.f, if_pos c1])
  by_cases c2 : h > (l.length : Int)
  · exact hj.eq (fun k => by rw [flat_Path.f, if_neg c1, if_pos c2])
  have hj2 : Ev (fun k => flat_Path.j0 k l h (e != 0)) [] := by rw [show (e != 0) = true by simpa using he]; exact hj
  exact (Ev.bind hc (g := fun k t => flat_Path.j0 k l h (t != 0)) hj2).eq (fun k => by rw [flat_Path.f, if_neg c1, if_neg c2])
theorem ints_refl (a : List Int) (ha : (a.length : Int) ≤ 1000000) : Ev (fun k => pl_Ints.f k a a) true := by
  have key : ∀ (d : Nat) (i : Int), 0 ≤ i → (a.length : Int) - i = d → Ev (fun k => pl_Ints.l0 k a a a.length i) true := by
    intro d
    induction d with
    | zero => intro i h0 hd; exact (Ev.pure _).step (fun k => by rw [pl_Ints.l0, if_neg (by omega)])
    | succ d ih =>
      intro i h0 hd
      have hi : i < (a.length : Int) := by omega
      exact (ih (i + 1) (by omega) (by omega)).step (fun k => by rw [pl_Ints.l0, if_pos hi, if_pos h0, if_pos hi, if_pos hi, if_pos rfl, w1 (by omega) (by omega)])
  exact (key a.length 0 (by omega) (by omega)).eq (fun k => by rw [pl_Ints.f, if_pos rfl])
theorem looks_l0 (l : List S53) (h : Int) (ks : List (List Int)) (ss p : List Int) (hl : (l.length : Int) ≤ 4096) (hg : GoodTo l l.length) (hk : (ks.length : Int) = l.length + 1) (hss : (ss.length : Int) = l.length + 1) (hks : ∀ j : Int, 0 ≤ j → j ≤ l.length → rd_L8 ks j = kidsIdx l 0 j) (hsp : ∀ j : Int, 0 ≤ j → j ≤ l.length → rd ss j = span l j)
    (hp : Ev (fun k => r13_Path.f k l h) p) (hpl : (p.length : Int) ≤ 4096) (d : Nat) : ∀ i : Int, 0 ≤ i → (ks.length : Int) - i = d → Ev (fun k => lw_FlatLooks.l0 k l h ks ss p ks.length i) true := by
  have hsame : Ev (fun k => (lw_same.f k).bind fun t => (some t)) true := Ev.bind same_ev (Ev.pure true)
  induction d with
  | zero =>
    intro i h0 hd
    have : Ev (fun k => (r13_Path.f k l h).bind fun t403 => ((pl_Ints.f k p t403).bind fun t406 => (if t406 = true then ((lw_same.f k).bind fun t407 => (some t407)) else (some false)))) true := by
      refine Ev.bind hp (Ev.bind (ints_refl p (by omega)) ?_); simp only [↓reduceIte]; exact hsame
    exact this.step (fun k => by rw [lw_FlatLooks.l0, if_neg (by omega)])
  | succ d ih =>
    intro i h0 hd
    have hi : i < (ks.length : Int) := by omega
    have hK := Kids_ev l (by omega) i; have hS := Span_ev l hl hg i; have hkl := kidsIdx_len l 0 i
    have key : Ev (fun k => (r13_Kids.f k l i).bind fun t409 => ((pl_Ints.f k (rd_L8 ks i) t409).bind fun t412 => (if t412 = true then (if i < (ss.length : Int) then ((r13_Span.f k l i).bind fun t414 => (if (rd ss i) = t414 then (lw_FlatLooks.l0 k l h ks ss p ks.length (wrap64 (i + 1))) else (some false))) else (none)) else (some false)))) true := by
      refine Ev.bind hK ?_; rw [hks i h0 (by omega)]; refine Ev.bind (ints_refl _ (by omega)) ?_; simp only [↓reduceIte]
      have hi2 : i < (ss.length : Int) := by omega
      simp only [hi2, ↓reduceIte]; refine Ev.bind hS ?_; rw [hsp i h0 (by omega), w1 (by omega) (by omega)]; simp only [↓reduceIte]; exact ih (i + 1) (by omega) (by omega)
    exact key.step (fun k => by rw [lw_FlatLooks.l0, if_pos hi, if_pos h0, if_pos hi])
theorem FlatLooks : ∀ (x0 : List (S53)) (x1 : Int), (x0.length * 88 ≤ 140737488351232 ∧ ∀ y ∈ x0, Sm53 y) → (Lit.int .i64 x1).wf = true → ∃ k, lw_FlatLooks.f k x0 x1 = some true := by
  rintro l h ⟨hl, hs⟩ _; obtain ⟨b, hb, hbi⟩ := fewR2 l hl hs 400 (by omega) (by omega); refine Ev.ex (r := true) ?_; have hsame : Ev (fun k => (lw_same.f k).bind fun t => (some t)) true := Ev.bind same_ev (Ev.pure true)
  cases b with
  | false => exact hb.via0 hsame (fun k hk => by rw [lw_FlatLooks.f, hk, Option.bind_some, if_neg (by decide)])
  | true =>
    obtain ⟨hn, _⟩ := hbi rfl; obtain ⟨e, h1, h2, h3⟩ := chk_any l (by omega) hs; unfold lw_FlatLooks.f; refine Ev.bind hb ?_; simp only [↓reduceIte]
    by_cases c : e = 0
    · subst c
      have hg := h3 rfl; obtain ⟨ks, a1, a2, a3⟩ := lists_ev l (by omega) hg h2; obtain ⟨ss, b1, b2, b3⟩ := spans_ev l (by omega) hg h2; obtain ⟨p, c1, c2, c3⟩ := path_ev l (by omega) hg h2 h; refine Ev.bind a1 (Ev.bind b1 (Ev.bind c1 (Ev.bind h1 ?_))); have hw : wrap64 ((l.length : Int) + 1) = l.length + 1 := w1 (by omega) (by omega); rw [hw, a2, b2]; simp only [↓reduceIte, bne_self_eq_false]; have := looks_l0 l h ks ss p (by omega) hg a2 b2 a3 b3 c2 c3 ks.length 0 (by omega) (by omega); exact this.step (fun k => by rw [lw_FlatLooks.j0, if_neg (by decide)])
    · refine Ev.bind (lists_bad l e c h2) (Ev.bind (spans_bad l e c h2) (Ev.bind (path_bad l e c h2 h) (Ev.bind h1 ?_)))
      simp only [c, ↓reduceIte, List.length_nil]
      have hz : wrap64 (wrap64 (((0 : Nat) : Int) + ((0 : Nat) : Int)) + ((0 : Nat) : Int)) = 0 := by rw [ww (i := ((0 : Nat) : Int) + ((0 : Nat) : Int)) (by omega) (by omega), ww (by omega) (by omega)]; rfl
      exact hsame.eq (fun k => by rw [if_pos hz])
end Go.Proofs.Ytcebfldagnjddaa.Pure
