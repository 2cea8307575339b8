/- Where a function of the rounds comes to an answer, and stays at it (Ev). -/
import Derived.Test.YtcebfldagnjddaaOpk
import Derived.Test.YtcebfldagnjddaaGx
import Derived.Test.YtcebfldagnjddaaH0
import Derived.Test.YtcebfldagnjddaaH1a
import Derived.Test.YtcebfldagnjddaaH2a
import Derived.Test.YtcebfldagnjddaaH4
import Derived.Test.YtcebfldagnjddaaH6
namespace Go.Proofs.Ytcebfldagnjddaa.Pure
open Go.RowKit Go.Proofs.Ytcebfldagnjddaa.G Go.Proofs.YtcebfldagnjddaaW.PrintWords Go.Proofs.YtcebfldagnjddaaW.PrintLast
set_option linter.unusedVariables false
def Ev {α : Type} (f : Nat → Option α) (r : α) : Prop := ∃ k0, ∀ k, k0 ≤ k → f k = some r
theorem Ev.all {α : Type} {f : Nat → Option α} {r : α} (h : ∀ k, f k = some r) : Ev f r := ⟨0, fun k _ => h k⟩
theorem Ev.pure {α : Type} (r : α) : Ev (fun _ => some r) r := .all fun _ => rfl
theorem Ev.of {α : Type} {f : Nat → Option α} {r : α} (m : ∀ k, LeO (f k) (f (k + 1))) {k : Nat} (h : f k = some r) : Ev f r :=
  ⟨k, fun j hj => by
    obtain ⟨d, rfl⟩ : ∃ d, j = k + d := ⟨j - k, by omega⟩
    clear hj
    induction d with
    | zero => exact h
    | succ d ih => exact m _ _ ih⟩
theorem Ev.step {α : Type} {f g : Nat → Option α} {r : α} (hg : Ev g r) (h : ∀ k, f (k + 1) = g k) : Ev f r := by
  obtain ⟨k0, hk⟩ := hg
  exact ⟨k0 + 1, fun k hk' => by obtain ⟨m, rfl⟩ : ∃ m, k = m + 1 := ⟨k - 1, by omega⟩; rw [h]; exact hk m (by omega)⟩
theorem Ev.eq {α : Type} {f g : Nat → Option α} {r : α} (hg : Ev g r) (h : ∀ k, f k = g k) : Ev f r := by
  obtain ⟨k0, hk⟩ := hg
  exact ⟨k0, fun k hk' => by rw [h]; exact hk k hk'⟩
theorem Ev.bind {α β : Type} {f : Nat → Option α} {g : Nat → α → Option β} {a : α} {r : β} (hf : Ev f a) (hg : Ev (fun k => g k a) r) : Ev (fun k => (f k).bind (g k)) r := by
  obtain ⟨k0, h0⟩ := hf
  obtain ⟨k1, h1⟩ := hg
  exact ⟨max k0 k1, fun k hk => by show (f k).bind (g k) = some r; rw [h0 k (by omega)]; exact h1 k (by omega)⟩
theorem Ev.via {α β : Type} {f : Nat → Option α} {g F : Nat → Option β} {a : α} {r : β} (hf : Ev f a) (hg : Ev g r) (h : ∀ k, f k = some a → F (k + 1) = g k) : Ev F r := by
  obtain ⟨k0, h0⟩ := hf
  obtain ⟨k1, h1⟩ := hg
  exact ⟨max k0 k1 + 1, fun k hk => by obtain ⟨m, rfl⟩ : ∃ m, k = m + 1 := ⟨k - 1, by omega⟩; rw [h m (h0 m (by omega))]; exact h1 m (by omega)⟩
theorem Ev.via0 {α β : Type} {f : Nat → Option α} {g F : Nat → Option β} {a : α} {r : β} (hf : Ev f a) (hg : Ev g r) (h : ∀ k, f k = some a → F k = g k) : Ev F r := by
  obtain ⟨k0, h0⟩ := hf
  obtain ⟨k1, h1⟩ := hg
  exact ⟨max k0 k1, fun k hk => by rw [h k (h0 k (by omega))]; exact h1 k (by omega)⟩
theorem Ev.ex {α : Type} {f : Nat → Option α} {r : α} (h : Ev f r) : ∃ k, f k = some r := by
  obtain ⟨k0, hk⟩ := h
  exact ⟨k0, hk k0 (Nat.le_refl _)⟩
theorem Ev.uniq {α : Type} {f : Nat → Option α} {r s : α} (h : Ev f r) (h' : Ev f s) : r = s := by
  obtain ⟨k0, h0⟩ := h
  obtain ⟨k1, h1⟩ := h'
  have := (h0 (max k0 k1) (by omega)).symm.trans (h1 (max k0 k1) (by omega))
  injection this
theorem w1 {i : Int} (h0 : -1000000000000000000 ≤ i) (h : i ≤ 1000000000000000000) : wrap64 (i + 1) = i + 1 := by unfold wrap64; omega
theorem wm {i : Int} (h0 : -1000000000000000000 ≤ i) (h : i ≤ 1000000000000000000) : wrap64 (i - 1) = i - 1 := by unfold wrap64; omega
theorem ww {i : Int} (h0 : -9000000000000000000 ≤ i) (h : i ≤ 9000000000000000000) : wrap64 i = i := by unfold wrap64; omega
theorem rd42_mem (l : List S69) (i : Int) (h0 : 0 ≤ i) (h : i < l.length) : rd_T69 l i ∈ l := by
  unfold rd_T69
  rw [List.getD_eq_getElem?_getD, List.getElem?_eq_getElem (by omega)]
  exact List.getElem_mem _
end Go.Proofs.Ytcebfldagnjddaa.Pure
/- The names' test (the program's and the reference's), the attributes' test, the node alone: both say the same. -/
namespace Go.Proofs.Ytcebfldagnjddaa.Pure
open Go.RowKit Go.Proofs.Ytcebfldagnjddaa.G Go.Proofs.YtcebfldagnjddaaW.PrintWords Go.Proofs.YtcebfldagnjddaaW.PrintLast
set_option linter.unusedVariables false
theorem bt_range (s : ByteArray) (i : Int) : 0 ≤ bt s i ∧ bt s i < 256 := by
  unfold bt
  split
  · have := UInt8.toNat_lt (s[i.toNat]'(by assumption))
    constructor <;> omega
  · omega
/-- Is a byte one of a name's? -/
def inner (c : Int) (f : Bool) : Bool := (decide (97 ≤ c) && decide (c ≤ 122)) || (decide (48 ≤ c) && decide (c ≤ 57)) || (c == 45) || (f && ((c == 58) || (c == 46)))
def extra (f : Bool) : ByteArray := if f then ⟨#[45, 58, 46]⟩ else ⟨#[45]⟩
theorem inner_ref (c : Int) (f : Bool) : tendrilref02_inner.f c f = some (inner c f) := by
  unfold tendrilref02_inner.f inner
  by_cases h1 : 97 ≤ c <;> by_cases h2 : c ≤ 122 <;> by_cases h3 : 48 ≤ c <;> by_cases h4 : c ≤ 57 <;> by_cases h5 : c = 45 <;> by_cases h6 : c = 58 <;> by_cases h7 : c = 46 <;>
    first
      | (exfalso; omega)
      | (cases f <;> simp [h1, h2, h3, h4, h5, h6, h7, show (c == 45) = decide (c = 45) from rfl, show (c == 58) = decide (c = 58) from rfl, show (c == 46) = decide (c = 46) from rfl])
theorem index_extra (f : Bool) : ∀ n : Fin 256, (decide (Lib.indexByte (extra f).data.toList n.1.toUInt8 < 0)) = !((n.1 == 45) || (f && ((n.1 == 58) || (n.1 == 46)))) := by
  cases f <;> decide +kernel
theorem index_lt (c : Int) (h0 : 0 ≤ c) (h1 : c < 256) (f : Bool) : Lib.indexByte (extra f).data.toList c.toNat.toUInt8 < 0 ↔ ((c == 45) || (f && ((c == 58) || (c == 46)))) = false := by
  have := index_extra f ⟨c.toNat, by omega⟩
  simp only at this
  obtain ⟨n, rfl⟩ : ∃ n : Nat, c = n := ⟨c.toNat, by omega⟩
  simp only [Int.toNat_natCast] at this ⊢
  have hd : (Lib.indexByte (extra f).data.toList n.toUInt8 < 0) ↔ decide (Lib.indexByte (extra f).data.toList n.toUInt8 < 0) = true := by simp
  rw [hd, this]
  have h (m : Nat) : ((n : Int) == (m : Int)) = (n == m) := by
    by_cases e : n = m
    · subst e; rw [beq_self_eq_true, beq_self_eq_true]
    · have : ¬ (n : Int) = (m : Int) := by omega
      rw [beq_eq_false_iff_ne.2 this, beq_eq_false_iff_ne.2 e]
  rw [show ((45 : Int) = ((45 : Nat) : Int)) from rfl, show ((58 : Int) = ((58 : Nat) : Int)) from rfl, show ((46 : Int) = ((46 : Nat) : Int)) from rfl, h, h, h]
  cases f <;> simp
def NamedOK (s : ByteArray) (f : Bool) : Prop := 1 ≤ s.size ∧ s.size ≤ 32 ∧ 97 ≤ bt s 0 ∧ bt s 0 ≤ 122 ∧ ∀ i : Int, 0 ≤ i → i < s.size → inner (bt s i) f = true
theorem named_prog_l0 (s : ByteArray) (f : Bool) (hs : s.size ≤ 32) (d : Nat) : ∀ i : Int, 0 ≤ i → (s.size : Int) - i = d →
    ∃ b, Ev (fun k => chars_named.l0 k s (extra f) s.size i) b ∧ (b = true ↔ ∀ j : Int, i ≤ j → j < s.size → inner (bt s j) f = true) := by
  induction d with
  | zero =>
    intro i h0 hd
    exact ⟨true, (Ev.pure true).step (fun k => by rw [chars_named.l0, if_neg (by omega)]), by simp; intro j h1 h2; omega⟩
  | succ d ih =>
    intro i h0 hd
    obtain ⟨b, hb, hi⟩ := ih (i + 1) (by omega) (by omega)
    have hr := bt_range s i
    have hw : wrap64 (i + 1) = i + 1 := w1 (by omega) (by omega)
    by_cases hc : inner (bt s i) f = true
    · refine ⟨b, hb.step (fun k => ?_), ?_⟩
      · rw [chars_named.l0, if_pos (by omega), if_pos h0, if_pos (by omega), hw]
        have hidx := index_lt (bt s i) hr.1 hr.2 f
        simp only [chars_small.f, strings_IndexByte.f]
        simp only [inner, Bool.or_eq_true, Bool.and_eq_true, decide_eq_true_eq, beq_iff_eq] at hc
        simp only [Bool.or_eq_false_iff, beq_eq_false_iff_ne] at hidx
        by_cases c1 : bt s i ≥ 97
        · by_cases c2 : bt s i ≤ 122
          · simp [c1, c2]
          · have hn : ¬ Lib.indexByte (extra f).data.toList (bt s i).toNat.toUInt8 < 0 := by
              rw [hidx]
              cases f <;> simp at hc ⊢ <;> omega
            simp [c1, c2, show ¬ bt s i < 48 by omega, show bt s i > 57 by omega, hn]
        · by_cases c2 : bt s i < 48
          · have hn : ¬ Lib.indexByte (extra f).data.toList (bt s i).toNat.toUInt8 < 0 := by
              rw [hidx]
              cases f <;> simp at hc ⊢ <;> omega
            simp [c1, c2, hn]
          · by_cases c3 : bt s i > 57
            · have hn : ¬ Lib.indexByte (extra f).data.toList (bt s i).toNat.toUInt8 < 0 := by
                rw [hidx]
                cases f <;> simp at hc ⊢ <;> omega
              simp [c1, c2, c3, hn]
            · simp [c1, c2, c3]
      · rw [hi]
        constructor
        · intro h j h1 h2
          by_cases e : j = i
          · subst e; exact hc
          · exact h j (by omega) h2
        · intro h j h1 h2
          exact h j (by omega) h2
    · refine ⟨false, (Ev.pure false).step (fun k => ?_), by simp; exact ⟨i, by omega, by omega, by simpa using hc⟩⟩
      rw [chars_named.l0, if_pos (by omega), if_pos h0, if_pos (by omega)]
      have hidx := index_lt (bt s i) hr.1 hr.2 f
      simp only [chars_small.f, strings_IndexByte.f]
      simp only [inner, Bool.not_eq_true, Bool.or_eq_false_iff, Bool.and_eq_false_iff, decide_eq_false_iff_not, beq_eq_false_iff_ne] at hc
      simp only [Bool.or_eq_false_iff, Bool.and_eq_false_iff, beq_eq_false_iff_ne] at hidx
      have hn : Lib.indexByte (extra f).data.toList (bt s i).toNat.toUInt8 < 0 := by
        rw [hidx]
        exact ⟨hc.1.2, hc.2⟩
      by_cases c1 : bt s i ≥ 97
      · have c2 : ¬ bt s i ≤ 122 := by omega
        simp [c1, c2, show ¬ bt s i < 48 by omega, show bt s i > 57 by omega, hn]
      · by_cases c2 : bt s i < 48
        · simp [c1, c2, hn]
        · have c3 : bt s i > 57 := by omega
          simp [c1, c2, c3, hn]
theorem named_ref_l0 (s : ByteArray) (f : Bool) (hs : s.size ≤ 32) (d : Nat) : ∀ i : Int, 0 ≤ i → (s.size : Int) - i = d →
    ∃ b, Ev (fun k => tendrilref02_Named.l0 k s f i) b ∧ (b = true ↔ ∀ j : Int, i ≤ j → j < s.size → inner (bt s j) f = true) := by
  induction d with
  | zero =>
    intro i h0 hd
    exact ⟨true, (Ev.pure true).step (fun k => by rw [tendrilref02_Named.l0, if_neg (by omega)]), by simp; intro j h1 h2; omega⟩
  | succ d ih =>
    intro i h0 hd
    obtain ⟨b, hb, hi⟩ := ih (i + 1) (by omega) (by omega)
    have hw : wrap64 (i + 1) = i + 1 := w1 (by omega) (by omega)
    by_cases hc : inner (bt s i) f = true
    · refine ⟨b, hb.step (fun k => ?_), ?_⟩
      · rw [tendrilref02_Named.l0, if_pos (by omega), if_pos h0, hw, inner_ref, hc]
        simp
      · rw [hi]
        constructor
        · intro h j h1 h2
          by_cases e : j = i
          · subst e; exact hc
          · exact h j (by omega) h2
        · intro h j h1 h2
          exact h j (by omega) h2
    · refine ⟨false, (Ev.pure false).step (fun k => ?_), by simp; exact ⟨i, by omega, by omega, by simpa using hc⟩⟩
      rw [tendrilref02_Named.l0, if_pos (by omega), if_pos h0, inner_ref]
      simp [hc]
theorem toList_nil {s : ByteArray} : s.toList = [] ↔ s.size = 0 := by
  rw [Lib.toList_data]
  constructor
  · intro h
    have := congrArg List.length h
    simpa using this
  · intro h
    exact List.eq_nil_of_length_eq_zero (by simpa using h)
/-- The names' test: both come to the same. -/
theorem named (s : ByteArray) (f : Bool) : ∃ b, Ev (fun k => chars_named.f k s (extra f)) b ∧ Ev (fun k => tendrilref02_Named.f k s f) b ∧ (b = true ↔ NamedOK s f) := by
  by_cases h0 : s.size = 0
  · refine ⟨false, (Ev.pure false).step (fun k => ?_), (Ev.pure false).step (fun k => ?_), by simp [NamedOK, h0]⟩
    · rw [chars_named.f, if_pos (toList_nil.2 h0), chars_named.j0, if_pos rfl]
    · rw [tendrilref02_Named.f, if_pos (by omega), tendrilref02_Named.j0, if_pos rfl]
  by_cases h1 : s.size ≤ 32
  · by_cases h2 : 97 ≤ bt s 0 ∧ bt s 0 ≤ 122
    · have hin : inner (bt s 0) f = true := by simp [inner, h2.1, h2.2]
      obtain ⟨b, hb, hi⟩ := named_prog_l0 s f h1 s.size 0 (by omega) (by omega)
      obtain ⟨b', hb', hi'⟩ := named_ref_l0 s f h1 (s.size - 1) 1 (by omega) (by omega)
      have e : b = b' := by
        rw [Bool.eq_iff_iff, hi, hi']
        constructor
        · intro h j h3 h4
          exact h j (by omega) h4
        · intro h j h3 h4
          by_cases e : j = 0
          · subst e; exact hin
          · exact h j (by omega) h4
      subst e
      refine ⟨b, hb.step (fun k => ?_), hb'.step (fun k => ?_), ?_⟩
      · rw [chars_named.f, if_neg (fun h => h0 (toList_nil.1 h)), if_neg (by omega), if_pos (by omega), chars_small.f, if_pos h2.1]
        simp only [Option.bind_some, h2.2, decide_true, Bool.not_true]
        rw [chars_named.j0, if_neg (by decide)]
      · rw [tendrilref02_Named.f, if_neg (by omega), if_neg (by omega), if_pos (by omega), if_neg (by omega), tendrilref02_Named.j0, if_neg (by simp; omega)]
      · rw [hi]
        exact ⟨fun h => ⟨by omega, h1, h2.1, h2.2, fun i h3 h4 => h i h3 h4⟩, fun h i h3 h4 => h.2.2.2.2 i h3 h4⟩
    · refine ⟨false, (Ev.pure false).step (fun k => ?_), (Ev.pure false).step (fun k => ?_), by simp [NamedOK]; intro _ _ h3 h4; exact absurd ⟨h3, h4⟩ h2⟩
      · rw [chars_named.f, if_neg (fun h => h0 (toList_nil.1 h)), if_neg (by omega), if_pos (by omega), chars_small.f]
        by_cases c : bt s 0 ≥ 97
        · rw [if_pos c]
          have : ¬ bt s 0 ≤ 122 := fun h => h2 ⟨c, h⟩
          simp [this, chars_named.j0]
        · rw [if_neg c]
          simp [chars_named.j0]
      · rw [tendrilref02_Named.f, if_neg (by omega), if_neg (by omega), if_pos (by omega)]
        by_cases c : bt s 0 < 97
        · rw [if_pos c]
          simp [tendrilref02_Named.j0]
        · rw [if_neg c, tendrilref02_Named.j0, if_pos (by simp; omega)]
  · refine ⟨false, (Ev.pure false).step (fun k => ?_), (Ev.pure false).step (fun k => ?_), by simp [NamedOK]; intro _ h; exact absurd h h1⟩
    · rw [chars_named.f, if_neg (fun h => h0 (toList_nil.1 h)), if_pos (by omega), chars_named.j0, if_pos rfl]
    · rw [tendrilref02_Named.f, if_neg (by omega), if_pos (by omega), tendrilref02_Named.j0, if_pos rfl]
theorem drop_bt (s : ByteArray) (i : Int) (h0 : 0 ≤ i) (h : i < s.size) : ∃ b : UInt8, (b.toNat : Int) = bt s i ∧ s.toList.drop i.toNat = b :: s.toList.drop (i + 1).toNat := by
  have hl : s.toList.length = s.size := by rw [Lib.toList_data]; simp
  refine ⟨s.toList[i.toNat]'(by omega), ?_, ?_⟩
  · unfold bt
    rw [dif_pos (by omega)]
    congr 1
    simp only [Lib.toList_data]
    rfl
  · rw [List.drop_eq_getElem_cons (by omega), show (i + 1).toNat = i.toNat + 1 by omega]
theorem compare_l0 (x y : ByteArray) (hx : x.size ≤ 140737488351232) (d : Nat) : ∀ i : Int, 0 ≤ i → i ≤ x.size → i ≤ y.size → (x.size : Int) - i = d →
    ∃ t, Ev (fun k => tendrilref02_Compare.l0 k x y i) t ∧ (t > 0 ↔ Op.bytesLess (y.toList.drop i.toNat) (x.toList.drop i.toNat) = true) := by
  have hlx : x.toList.length = x.size := by rw [Lib.toList_data]; simp
  have hly : y.toList.length = y.size := by rw [Lib.toList_data]; simp
  induction d with
  | zero =>
    intro i h0 hix hiy hd
    have e : x.toList.drop i.toNat = [] := List.drop_eq_nil_of_le (by omega)
    by_cases c : (x.size : Int) < y.size
    · refine ⟨-1, ((Ev.pure (-1)).step (f := fun k => tendrilref02_Compare.j1 k x y i false) (fun k => by rw [tendrilref02_Compare.j1, if_neg (by decide), if_pos c])).step (fun k => by rw [tendrilref02_Compare.l0, if_neg (by omega)]), ?_⟩
      rw [e]
      cases y.toList.drop i.toNat <;> simp [Op.bytesLess]
    · refine ⟨0, ((Ev.pure 0).step (f := fun k => tendrilref02_Compare.j1 k x y i false) (fun k => by rw [tendrilref02_Compare.j1, if_neg (by decide), if_neg c, if_neg (by omega)])).step (fun k => by rw [tendrilref02_Compare.l0, if_neg (by omega)]), ?_⟩
      rw [e]
      cases y.toList.drop i.toNat <;> simp [Op.bytesLess]
  | succ d ih =>
    intro i h0 hix hiy hd
    obtain ⟨bx, ex, dx⟩ := drop_bt x i h0 (by omega)
    by_cases c : i < (y.size : Int)
    · obtain ⟨by', ey, dy⟩ := drop_bt y i h0 c
      have st (g : Nat → Option Int) (t : Int) (hg : Ev g t) (h : ∀ k, tendrilref02_Compare.j1 (k + 1) x y i true = g k) : Ev (fun k => tendrilref02_Compare.l0 k x y i) t :=
        (hg.step (f := fun k => tendrilref02_Compare.j1 k x y i true) h).step (fun k => by rw [tendrilref02_Compare.l0, if_pos (by omega), decide_eq_true c])
      rw [dx, dy]
      have lt {a b : UInt8} : a < b ↔ (a.toNat : Int) < b.toNat := by rw [UInt8.lt_iff_toNat_lt]; omega
      by_cases c1 : bt x i < bt y i
      · refine ⟨-1, st _ _ (Ev.pure (-1)) (fun k => by rw [tendrilref02_Compare.j1, if_pos rfl, if_pos h0, if_pos (by omega), if_pos c, if_pos c1]), ?_⟩
        have h1 : ¬ by' < bx := by rw [lt]; omega
        have h2 : ¬ by' = bx := by intro e; subst e; omega
        simp [Op.bytesLess, h1, h2]
      · by_cases c2 : bt x i > bt y i
        · refine ⟨1, st _ _ (Ev.pure 1) (fun k => by rw [tendrilref02_Compare.j1, if_pos rfl, if_pos h0, if_pos (by omega), if_pos c, if_neg c1, if_pos c2]), ?_⟩
          have h1 : by' < bx := by rw [lt]; omega
          simp [Op.bytesLess, h1]
        · obtain ⟨t, ht, hi⟩ := ih (i + 1) (by omega) (by omega) (by omega) (by omega)
          refine ⟨t, st _ _ ht (fun k => by rw [tendrilref02_Compare.j1, if_pos rfl, if_pos h0, if_pos (by omega), if_pos c, if_neg c1, if_neg c2, w1 (by omega) (by omega)]), ?_⟩
          rw [hi]
          have h2 : by' = bx := by apply UInt8.toNat_inj.1; omega
          subst h2
          have h1 : ¬ by' < by' := by rw [lt]; omega
          simp [Op.bytesLess, h1]
    · have e : y.toList.drop i.toNat = [] := List.drop_eq_nil_of_le (by omega)
      refine ⟨1, ((Ev.pure 1).step (f := fun k => tendrilref02_Compare.j1 k x y i false) (fun k => by rw [tendrilref02_Compare.j1, if_neg (by decide), if_neg (by omega), if_pos (by omega)])).step (fun k => by rw [tendrilref02_Compare.l0, if_pos (by omega), decide_eq_false c]), ?_⟩
      rw [dx, e]
      simp [Op.bytesLess]
theorem compare (x y : ByteArray) (hx : x.size ≤ 140737488351232) : ∃ t, Ev (fun k => tendrilref02_Compare.f k x y) t ∧ (t > 0 ↔ Op.bytesLess y.toList x.toList = true) := by
  obtain ⟨t, ht, hi⟩ := compare_l0 x y hx x.size 0 (by omega) (by omega) (by omega) (by omega)
  exact ⟨t, ht.eq (fun k => rfl), by simpa using hi⟩
theorem attrs_l0 (l : List S69) (hl : l.length ≤ 140737488351232) (hs : ∀ y ∈ l, Sm69 y) (d : Nat) : ∀ i : Int, 0 ≤ i → (l.length : Int) - i = d →
    ∃ r, Ev (fun k => attrs_Check.l0 k l l l.length i) r ∧ Ev (fun k => tendrilref09_Check.l0 k l l.length i) r := by
  induction d with
  | zero =>
    intro i h0 hd
    exact ⟨(0, 0), (Ev.pure _).step (fun k => by rw [attrs_Check.l0, if_neg (by omega)]), (Ev.pure _).step (fun k => by rw [tendrilref09_Check.l0, if_neg (by omega)])⟩
  | succ d ih =>
    intro i h0 hd
    obtain ⟨r, hp, hq⟩ := ih (i + 1) (by omega) (by omega)
    have hi : i < (l.length : Int) := by omega
    have hw : wrap64 (i + 1) = i + 1 := w1 (by omega) (by omega)
    have hv : wrap64 (i - 1) = i - 1 := wm (by omega) (by omega)
    by_cases c64 : i = 64
    · exact ⟨(i, 12), (Ev.pure _).step (fun k => by rw [attrs_Check.l0, if_pos hi, if_pos h0, if_pos hi, if_pos c64, if_neg (by decide)]), (Ev.pure _).step (fun k => by rw [tendrilref09_Check.l0, if_pos hi, if_pos c64])⟩
    obtain ⟨b, nb, nb', _⟩ := named (rd_T69 l i).f0 true
    have nb : Ev (fun k => chars_Name.f k (rd_T69 l i).f0) b := (nb.bind (g := fun _ t => some t) (Ev.pure b)).eq (fun k => rfl)
    cases b with
    | false =>
      exact ⟨(i, 8), nb.via (Ev.pure _) (fun k hk => by rw [attrs_Check.l0, if_pos hi, if_pos h0, if_pos hi, if_neg c64, hk]; rfl),
        nb'.via (Ev.pure _) (fun k hk => by rw [tendrilref09_Check.l0, if_pos hi, if_neg c64, if_pos h0, if_pos hi, hk]; rfl)⟩
    | true =>
    by_cases cf : ((rd_T69 l i).f1.size : Int) ≤ 65536
    case neg =>
      refine ⟨(i, 3), nb.via (Ev.pure _) (fun k hk => ?_), nb'.via (Ev.pure _) (fun k hk => ?_)⟩
      · rw [attrs_Check.l0, if_pos hi, if_pos h0, if_pos hi, if_neg c64, hk]; simp [chars_Fits.f, cf]
      · rw [tendrilref09_Check.l0, if_pos hi, if_neg c64, if_pos h0, if_pos hi, hk]; simp [show ((rd_T69 l i).f1.size : Int) > 65536 by omega]
    by_cases ci : i > 0
    case neg =>
      have p0 : Ev (fun k => attrs_Check.j2 k l i 0 l l.length i false) r := hp.step (fun k => by rw [attrs_Check.j2, if_neg (by decide), if_pos rfl, hw])
      have p1 : Ev (fun k => attrs_Check.j1 k l i 0 l l.length i false (rd_T69 l i).f0 (rd_T69 l i).f1) r := p0.step (fun k => by rw [attrs_Check.j1, if_neg (by decide), if_neg ci])
      have q1 : Ev (fun k => tendrilref09_Check.j1 k l i l.length i false) r := hq.step (fun k => by rw [tendrilref09_Check.j1, if_neg (by decide), if_neg ci, hw])
      refine ⟨r, nb.via p1 (fun k hk => ?_), nb'.via q1 (fun k hk => ?_)⟩
      · rw [attrs_Check.l0, if_pos hi, if_pos h0, if_pos hi, if_neg c64, hk]; simp [chars_Fits.f, cf, show ¬ 0 < i by omega]
      · rw [tendrilref09_Check.l0, if_pos hi, if_neg c64, if_pos h0, if_pos hi, hk]; simp [show ¬ ((rd_T69 l i).f1.size : Int) > 65536 by omega, show ¬ 0 < i by omega]
    have hvi : 0 ≤ wrap64 (i - 1) ∧ wrap64 (i - 1) < (l.length : Int) := by rw [hv]; omega
    obtain ⟨e, he⟩ : ∃ e, ((rd_T69 l (wrap64 (i - 1))).f0.toList == (rd_T69 l i).f0.toList) = e := ⟨_, rfl⟩
    have fin (r : Int × Int) (p1 : Ev (fun k => attrs_Check.j1 k l i 0 l l.length i e (rd_T69 l i).f0 (rd_T69 l i).f1) r) (q1 : Ev (fun k => tendrilref09_Check.j1 k l i l.length i e) r) :
        ∃ r, Ev (fun k => attrs_Check.l0 k l l l.length i) r ∧ Ev (fun k => tendrilref09_Check.l0 k l l.length i) r := by
      refine ⟨r, nb.via p1 (fun k hk => ?_), nb'.via q1 (fun k hk => ?_)⟩
      · rw [attrs_Check.l0, if_pos hi, if_pos h0, if_pos hi, if_neg c64, hk]; rw [← he]; simp [chars_Fits.f, cf, show 0 < i by omega, hvi]
      · rw [tendrilref09_Check.l0, if_pos hi, if_neg c64, if_pos h0, if_pos hi, hk]; rw [← he]; simp [show ¬ ((rd_T69 l i).f1.size : Int) > 65536 by omega, show 0 < i by omega, hvi]
    cases e with
    | true => exact fin (i, 10) ((Ev.pure _).step (fun k => by rw [attrs_Check.j1, if_pos rfl, if_neg (by decide)])) ((Ev.pure _).step (fun k => by rw [tendrilref09_Check.j1, if_pos rfl]))
    | false =>
      obtain ⟨t, ht, hti⟩ := compare (rd_T69 l (wrap64 (i - 1))).f0 (rd_T69 l i).f0 (hs _ (rd42_mem l _ hvi.1 hvi.2)).h0
      obtain ⟨b, hb⟩ : ∃ b, Op.bytesLess (rd_T69 l i).f0.toList (rd_T69 l (wrap64 (i - 1))).f0.toList = b := ⟨_, rfl⟩
      rw [hb] at hti
      cases b with
      | true =>
        have ht0 : t > 0 := hti.2 rfl
        refine fin (i, 9) (((Ev.pure (i, (9 : Int))).step (f := fun k => attrs_Check.j2 k l i 0 l l.length i true) (fun k => by rw [attrs_Check.j2, if_pos rfl, if_neg (by decide)])).step (fun k => by rw [attrs_Check.j1, if_neg (by decide), if_pos ci, if_pos hvi.1, if_pos hvi.2, hb])) ?_
        refine (ht.bind (g := fun k t => if t > 0 then some (i, 9) else tendrilref09_Check.l0 k l l.length (wrap64 (i + 1))) (Ev.all fun k => by rw [if_pos ht0])).step (fun k => ?_)
        rw [tendrilref09_Check.j1, if_neg (by decide), if_pos ci, if_pos hvi.1, if_pos hvi.2, if_pos h0, if_pos hi]
      | false =>
        have ht0 : ¬ t > 0 := fun h => by have := hti.1 h; cases this
        refine fin r ((hp.step (f := fun k => attrs_Check.j2 k l i 0 l l.length i false) (fun k => by rw [attrs_Check.j2, if_neg (by decide), if_pos rfl, hw])).step (fun k => by rw [attrs_Check.j1, if_neg (by decide), if_pos ci, if_pos hvi.1, if_pos hvi.2, hb])) ?_
        refine (ht.bind (g := fun k t => if t > 0 then some (i, 9) else tendrilref09_Check.l0 k l l.length (wrap64 (i + 1))) (hq.eq fun k => by rw [if_neg ht0, hw])).step (fun k => ?_)
        rw [tendrilref09_Check.j1, if_neg (by decide), if_pos ci, if_pos hvi.1, if_pos hvi.2, if_pos h0, if_pos hi]
/-- The attributes' test: both come to the same. -/
theorem attrs (l : List S69) (hl : l.length ≤ 140737488351232) (hs : ∀ y ∈ l, Sm69 y) : ∃ r, Ev (fun k => attrs_Check.f k l) r ∧ Ev (fun k => tendrilref09_Check.f k l) r := by
  obtain ⟨r, h1, h2⟩ := attrs_l0 l hl hs l.length 0 (by omega) (by omega)
  exact ⟨r, h1.eq fun k => rfl, h2.eq fun k => rfl⟩
theorem sm_h {x : S25} (h : Sm25 x) : x.f0.size ≤ 140737488351232 ∧ x.f1.size ≤ 140737488351232 ∧ x.f2.size ≤ 140737488351232 ∧ x.f3.length * 32 ≤ 140737488351232 ∧ (∀ y ∈ x.f3, Sm69 y) ∧ x.f4.length * 96 ≤ 140737488351232 ∧ ∀ y ∈ x.f4, Sm25 y := by
  cases h with
  | mk h0 h1 h2 h3 h4 h5 => exact ⟨h0, h1, h2, h3.1, h3.2, h4, h5⟩
/-- What is wrong with a node alone: both come to the same. -/
theorem alone (x : S25) (h : Sm25 x) : ∃ e, Ev (fun k => vtree_wrong.f k x.f0 x.f1 x.f2 x.f3 x.f4) e ∧ Ev (fun k => tendrilref11_Alone.f k x.f0 x.f1 x.f2 x.f3 x.f4) e := by
  obtain ⟨s0, s1, s2, s3, s3', _, _⟩ := sm_h h
  obtain ⟨b, nb, nb', _⟩ := named x.f0 false
  have nb : Ev (fun k => chars_Tag.f k x.f0) b := (nb.bind (g := fun _ t => some t) (Ev.pure b)).eq (fun k => rfl)
  cases b with
  | false =>
    exact ⟨7, nb.via0 (Ev.pure _) (fun k hk => by rw [vtree_wrong.f, hk]; rfl), nb'.via0 (Ev.pure _) (fun k hk => by rw [tendrilref11_Alone.f, hk]; rfl)⟩
  | true =>
    have fin (e : Int) (p : Ev (fun k => if (x.f1.size : Int) ≤ 65536 then (if (x.f2.size : Int) ≤ 65536 then (attrs_Check.f k x.f3).bind fun t => some t.2 else some 3) else some 3) e)
        (q : Ev (fun k => if (x.f1.size : Int) ≤ 65536 then (if (x.f2.size : Int) ≤ 65536 then (tendrilref09_Check.f k x.f3).bind fun t => some t.2 else some 3) else some 3) e) :
        ∃ e, Ev (fun k => vtree_wrong.f k x.f0 x.f1 x.f2 x.f3 x.f4) e ∧ Ev (fun k => tendrilref11_Alone.f k x.f0 x.f1 x.f2 x.f3 x.f4) e := by
      refine ⟨e, nb.via0 p (fun k hk => ?_), nb'.via0 q (fun k hk => ?_)⟩
      · rw [vtree_wrong.f, hk]
        by_cases c1 : (x.f1.size : Int) ≤ 65536 <;> by_cases c2 : (x.f2.size : Int) ≤ 65536 <;> simp [chars_Fits.f, c1, c2]
      · rw [tendrilref11_Alone.f, hk]
        have g1 : ((x.f1.size : Int) > 65536) = ¬ ((x.f1.size : Int) ≤ 65536) := by rw [Int.not_le]
        have g2 : ((x.f2.size : Int) > 65536) = ¬ ((x.f2.size : Int) ≤ 65536) := by rw [Int.not_le]
        simp only [g1, g2]
        by_cases c1 : (x.f1.size : Int) ≤ 65536 <;> by_cases c2 : (x.f2.size : Int) ≤ 65536 <;> simp [c1, c2]
    by_cases c1 : (x.f1.size : Int) ≤ 65536
    · by_cases c2 : (x.f2.size : Int) ≤ 65536
      · obtain ⟨r, p, q⟩ := attrs x.f3 (by omega) s3'
        exact fin r.2 ((p.bind (g := fun k t => some t.2) (Ev.pure _)).eq fun k => by rw [if_pos c1, if_pos c2]) ((q.bind (g := fun k t => some t.2) (Ev.pure _)).eq fun k => by rw [if_pos c1, if_pos c2])
      · exact fin 3 (Ev.all fun k => by rw [if_pos c1, if_neg c2]) (Ev.all fun k => by rw [if_pos c1, if_neg c2])
    · exact fin 3 (Ev.all fun k => by rw [if_neg c1]) (Ev.all fun k => by rw [if_neg c1])
end Go.Proofs.Ytcebfldagnjddaa.Pure
/- How great a tree is, how deep, whether it is right: and what the visits, and the weighing, come to. -/
namespace Go.Proofs.Ytcebfldagnjddaa.Pure
open Go.RowKit Go.Proofs.Ytcebfldagnjddaa.G Go.Proofs.YtcebfldagnjddaaW.PrintWords Go.Proofs.YtcebfldagnjddaaW.PrintLast
set_option linter.unusedVariables false
mutual
def szT : S25 → Int
  | ⟨_, _, _, _, ks⟩ => 1 + szL ks
def szL : List S25 → Int
  | [] => 0
  | y :: ys => szT y + szL ys
end
mutual
def htT : S25 → Int
  | ⟨_, _, _, _, ks⟩ => 1 + htL ks
def htL : List S25 → Int
  | [] => 0
  | y :: ys => max (htT y) (htL ys)
end
theorem szT_eq (x : S25) : szT x = 1 + szL x.f4 := by cases x; rw [szT]
theorem htT_eq (x : S25) : htT x = 1 + htL x.f4 := by cases x; rw [htT]
open Classical in
noncomputable def wr (x : S25) : Int := if h : ∃ e, Ev (fun k => vtree_wrong.f k x.f0 x.f1 x.f2 x.f3 x.f4) e then h.choose else 0
theorem wr_ev {x : S25} (h : Sm25 x) : Ev (fun k => vtree_wrong.f k x.f0 x.f1 x.f2 x.f3 x.f4) (wr x) ∧ Ev (fun k => tendrilref11_Alone.f k x.f0 x.f1 x.f2 x.f3 x.f4) (wr x) := by
  obtain ⟨e, h1, h2⟩ := alone x h
  have hx : ∃ e, Ev (fun k => vtree_wrong.f k x.f0 x.f1 x.f2 x.f3 x.f4) e := ⟨e, h1⟩
  have hw : wr x = e := by
    unfold wr
    rw [dif_pos hx]
    exact Ev.uniq hx.choose_spec h1
  rw [hw]
  exact ⟨h1, h2⟩
def next (met : List (List UInt8)) (x : S25) : List (List UInt8) := if x.f1.data.toList = [] then met else x.f1.data.toList :: met
/-- No key twice, and none of those that were met. -/
def DK : List (List UInt8) → List S25 → Prop
  | _, [] => True
  | met, y :: ys => y.f1.data.toList ∉ met ∧ DK (next met y) ys
mutual
def goodT : S25 → Prop
  | ⟨a, b, c, d, ks⟩ => wr ⟨a, b, c, d, ks⟩ = 0 ∧ DK [] ks ∧ goodL ks
def goodL : List S25 → Prop
  | [] => True
  | y :: ys => goodT y ∧ goodL ys
end
theorem goodT_eq (x : S25) : goodT x ↔ wr x = 0 ∧ DK [] x.f4 ∧ goodL x.f4 := by cases x; rw [goodT]
theorem pos_of (x : S25) (h : Sm25 x) : 1 ≤ szT x ∧ 1 ≤ htT x := by
  induction h with
  | @mk x h0 h1 h2 h3 h4 h5 ih =>
    rw [szT_eq, htT_eq]
    have (ks : List S25) (hk : ∀ y ∈ ks, 1 ≤ szT y ∧ 1 ≤ htT y) : 0 ≤ szL ks ∧ 0 ≤ htL ks := by
      induction ks with
      | nil => simp [szL, htL]
      | cons y ys ih2 =>
        have a := hk y (by simp)
        have b := ih2 (fun z hz => hk z (by simp [hz]))
        rw [szL, htL]
        omega
    have := this x.f4 ih
    omega
theorem posL (ks : List S25) (h : ∀ y ∈ ks, Sm25 y) : 0 ≤ szL ks ∧ 0 ≤ htL ks := by
  induction ks with
  | nil => simp [szL, htL]
  | cons y ys ih =>
    have a := pos_of y (h y (by simp))
    have b := ih (fun z hz => h z (by simp [hz]))
    rw [szL, htL]
    omega
def VT (x : S25) : Prop := ∀ (depth num deep : Int) (met : List (List UInt8)), 0 ≤ num → num + szT x ≤ 4096 →
  ∃ r, Ev (fun k => vis1 k x depth num deep met) r ∧ (r.1 = true ↔ goodT x ∧ depth + htT x - 1 ≤ 64 ∧ x.f1.data.toList ∉ met) ∧ (r.1 = true → r.2 = (num + szT x, max deep (depth + htT x - 1), 0)) ∧ (r.1 = false → r.2.2.2 ≠ 0)
theorem vis_L (ks : List S25) (hs : ∀ y ∈ ks, Sm25 y) (hv : ∀ y ∈ ks, VT y) : ∀ (depth num deep : Int) (met : List (List UInt8)), 0 ≤ num → num + szL ks ≤ 4096 → depth - 1 ≤ deep → depth ≤ 65 →
    ∃ r, Ev (fun k => vis k ks depth num deep met) r ∧ (r.1 = true ↔ goodL ks ∧ depth + htL ks - 1 ≤ 64 ∧ DK met ks) ∧ (r.1 = true → r.2 = (num + szL ks, max deep (depth + htL ks - 1), 0)) ∧ (r.1 = false → r.2.2.2 ≠ 0) := by
  induction ks with
  | nil =>
    intro depth num deep met h0 h1 h2 h3
    refine ⟨(true, num, deep, 0), (Ev.pure _).step (fun k => rfl), ?_, ?_, by simp⟩
    · simp [goodL, htL, DK]
      omega
    · intro _
      simp [szL, htL]
      omega
  | cons y ys ih =>
    intro depth num deep met h0 h1 h2 h3
    have pl := posL ys (fun z hz => hs z (by simp [hz]))
    have pt := pos_of y (hs y (by simp))
    rw [szL] at h1
    obtain ⟨r1, e1, t1, u1, v1⟩ := hv y (by simp) depth num deep met h0 (by omega)
    cases hr : r1.1 with
    | false =>
      refine ⟨r1, e1.via (Ev.pure r1) (fun k hk => by rw [vis_cons, hk]; simp [hr]), ?_, ?_, v1⟩
      · rw [hr]
        rw [hr] at t1
        simp only [Bool.false_eq_true, false_iff] at t1 ⊢
        intro h
        apply t1
        rw [goodL, htL, DK] at h
        exact ⟨h.1.1, by omega, h.2.2.1⟩
      · intro h
        rw [hr] at h
        cases h
    | true =>
      have hu := u1 hr
      obtain ⟨r2, e2, t2, u2, v2⟩ := ih (fun z hz => hs z (by simp [hz])) (fun z hz => hv z (by simp [hz])) depth (num + szT y) (max deep (depth + htT y - 1)) (next met y) (by omega) (by omega) (by omega) h3
      refine ⟨r2, e1.via e2 (fun k hk => by rw [vis_cons, hk]; simp only [Option.bind_some, hr, if_true, hu]; rfl), ?_, ?_, v2⟩
      · rw [t2, goodL, htL, DK]
        have := t1.1 hr
        constructor
        · intro h
          exact ⟨⟨this.1, h.1⟩, by omega, this.2.2, h.2.2⟩
        · intro h
          exact ⟨h.1.2, by omega, h.2.2.2⟩
      · intro h
        rw [u2 h, szL, htL]
        simp only [Prod.mk.injEq, and_true]
        refine ⟨by omega, by omega⟩
theorem vis_T (x : S25) (h : Sm25 x) : VT x := by
  induction h with
  | @mk x h0 h1 h2 h3 h4 h5 ih =>
    have hx : Sm25 x := Sm25.mk h0 h1 h2 h3 h4 h5
    intro depth num deep met hn0 hn
    rw [szT_eq] at hn
    have pl := posL x.f4 h5
    obtain ⟨w1, _⟩ := wr_ev hx
    have fin (e0 : Int) (hE : Ev (fun k => visE k x depth num) e0) (hne : visX e0 x.f1.data.toList met ≠ 0) (hno : ¬ (goodT x ∧ depth + htT x - 1 ≤ 64 ∧ x.f1.data.toList ∉ met)) :
        ∃ r, Ev (fun k => vis1 k x depth num deep met) r ∧ (r.1 = true ↔ goodT x ∧ depth + htT x - 1 ≤ 64 ∧ x.f1.data.toList ∉ met) ∧ (r.1 = true → r.2 = (num + szT x, max deep (depth + htT x - 1), 0)) ∧ (r.1 = false → r.2.2.2 ≠ 0) :=
      ⟨(false, num, max deep depth, visX e0 x.f1.data.toList met), hE.via0 (Ev.pure _) (fun k hk => by rw [vis1, if_pos h1, hk]; simp only [Option.bind_some]; rw [if_pos hne]), by simpa using hno, by simp, fun _ => hne⟩
    by_cases c2 : depth > 64
    · refine fin 11 (Ev.all fun k => by rw [visE, if_neg (by omega), if_pos c2]) (by rw [visX_ne (by decide)]; decide) ?_
      rw [htT_eq]
      intro h
      omega
    have hE : Ev (fun k => visE k x depth num) (wr x) := w1.eq (fun k => by rw [visE, if_neg (by omega), if_neg c2])
    by_cases cw : wr x = 0
    case neg => exact fin (wr x) hE (by rw [visX_ne cw]; exact cw) (fun h => cw ((goodT_eq x).1 h.1).1)
    by_cases ck : x.f1.data.toList ∈ met
    · exact fin (wr x) hE (by rw [visX, if_pos ⟨cw, ck⟩]; decide) (fun h => h.2.2 ck)
    · have hX : visX (wr x) x.f1.data.toList met = 0 := by rw [visX, if_neg (fun h => ck h.2)]; exact cw
      obtain ⟨r, e, t, u, v⟩ := vis_L x.f4 h5 ih (depth + 1) (num + 1) (max deep depth) [] (by omega) (by omega) (by omega) (by omega)
      refine ⟨r, hE.via0 e (fun k hk => by rw [vis1, if_pos h1, hk]; simp only [Option.bind_some]; rw [if_neg (by rw [hX]; decide)]), ?_, ?_, v⟩
      · rw [t, goodT_eq, htT_eq]
        constructor
        · intro h
          exact ⟨⟨cw, h.2.2, h.1⟩, by omega, ck⟩
        · intro h
          exact ⟨h.1.2.2, by omega, h.1.2.1⟩
      · intro h
        rw [u h, szT_eq, htT_eq]
        simp only [Prod.mk.injEq, and_true]
        refine ⟨by omega, by omega⟩
end Go.Proofs.Ytcebfldagnjddaa.Pure
/- The weighing (tendrilplain.Few): it comes to an end, and tells no tree of more nodes few. -/
namespace Go.Proofs.Ytcebfldagnjddaa.Pure
open Go.RowKit Go.Proofs.Ytcebfldagnjddaa.G Go.Proofs.YtcebfldagnjddaaW.PrintWords Go.Proofs.YtcebfldagnjddaaW.PrintLast
set_option linter.unusedVariables false
theorem rd25_drop (l : List S25) (i : Int) (h0 : 0 ≤ i) (h : i < l.length) : l.drop i.toNat = rd_T25 l i :: l.drop (i + 1).toNat := drop_T25 l i h0 h
theorem rd25_mem (l : List S25) (i : Int) (h0 : 0 ≤ i) (h : i < l.length) : rd_T25 l i ∈ l := by
  unfold rd_T25
  rw [List.getD_eq_getElem?_getD, List.getElem?_eq_getElem (by omega)]
  exact List.getElem_mem _
/-- All nodes have few attributes. -/
inductive FewA : S25 → Prop
  | mk {x : S25} (h3 : x.f3.length ≤ 1000000000) (h4 : ∀ y ∈ x.f4, FewA y) : FewA x
theorem FewA.h3 {x : S25} (h : FewA x) : x.f3.length ≤ 1000000000 := by cases h; assumption
theorem FewA.h4 {x : S25} (h : FewA x) : ∀ y ∈ x.f4, FewA y := by cases h; assumption
def WT (x : S25) : Prop := ∀ (a1 a2 : Int), 0 ≤ a1 → a1 ≤ 5000 → 0 ≤ a2 → a2 ≤ 81 →
  ∃ r, Ev (fun k => tendrilplain_weigh.f k x.f0 x.f1 x.f2 x.f3 x.f4 a1 a2) r ∧ (0 ≤ r → szT x + r ≤ a1 ∧ FewA x)
theorem weigh_l1 (x : S25) (hl : x.f4.length * 96 ≤ 140737488351232) (hs : ∀ y ∈ x.f4, Sm25 y) (hw : ∀ y ∈ x.f4, WT y) (d : Nat) : ∀ (i x1 x2 : Int), 0 ≤ i → (x.f4.length : Int) - i = d → x1 ≤ 5000 → 0 ≤ x2 → x2 ≤ 80 →
    ∃ r, Ev (fun k => tendrilplain_weigh.l1 k x1 x2 x.f4.length i x.f0 x.f1 x.f2 x.f3 x.f4) r ∧ (0 ≤ r → szL (x.f4.drop i.toNat) + r ≤ x1 ∧ ∀ y ∈ x.f4.drop i.toNat, FewA y) := by
  induction d with
  | zero =>
    intro i x1 x2 h0 hd h1 h2 h3
    refine ⟨x1, (Ev.pure _).step (fun k => by rw [tendrilplain_weigh.l1, if_neg (by omega)]), ?_⟩
    rw [List.drop_eq_nil_of_le (by omega), szL]
    exact fun _ => ⟨by omega, by simp⟩
  | succ d ih =>
    intro i x1 x2 h0 hd h1 h2 h3
    have hi : i < (x.f4.length : Int) := by omega
    by_cases c : x1 < 0
    · exact ⟨-1, (Ev.pure _).step (fun k => by rw [tendrilplain_weigh.l1, if_pos hi, if_pos c]), by omega⟩
    · have hm := rd25_mem x.f4 i h0 hi
      obtain ⟨t, ht, hti⟩ := hw _ hm x1 (x2 + 1) (by omega) h1 (by omega) (by omega)
      have hp := pos_of _ (hs _ hm)
      by_cases ct : t ≤ 5000
      · obtain ⟨r, hr, hri⟩ := ih (i + 1) t x2 (by omega) (by omega) ct h2 h3
        refine ⟨r, ht.via hr (fun k hk => by rw [tendrilplain_weigh.l1, if_pos hi, if_neg c, if_pos h0, if_pos hi, w1 (i := x2) (by omega) (by omega), hk, w1 (by omega) (by omega)]; rfl), ?_⟩
        intro hr0
        rw [rd25_drop x.f4 i h0 hi, szL]
        have := posL (x.f4.drop (i + 1).toNat) (fun y hy => hs y (List.mem_of_mem_drop hy))
        have q1 := hri hr0
        have q2 := hti (by omega)
        refine ⟨by omega, fun y hy => ?_⟩
        rcases List.mem_cons.1 hy with rfl | hy
        · exact q2.2
        · exact q1.2 y hy
      · have := hti (by omega)
        omega
theorem tdiv_small {n : Int} (h : 0 ≤ n) : Int.tdiv n 4096 = n / 4096 := Int.tdiv_eq_ediv_of_nonneg h
theorem weigh_l0 (x : S25) (hs : ∀ y ∈ x.f3, Sm69 y) (hl : x.f3.length ≤ 5000) (x2 : Int) (r1 : Int → Int → Prop)
    (hk : ∀ x1 : Int, x1 ≤ 5000 → ∃ r, Ev (fun k => tendrilplain_weigh.l1 k x1 x2 x.f4.length 0 x.f0 x.f1 x.f2 x.f3 x.f4) r ∧ (0 ≤ r → szL x.f4 + r ≤ x1 ∧ ∀ y ∈ x.f4, FewA y)) (d : Nat) : ∀ (i x1 : Int), 0 ≤ i → (x.f3.length : Int) - i = d → x1 ≤ 5000 → -(i * 137438953472) ≤ x1 →
    ∃ r, Ev (fun k => tendrilplain_weigh.l0 k x1 x2 x.f3.length i x.f0 x.f1 x.f2 x.f3 x.f4) r ∧ (0 ≤ r → szL x.f4 + r ≤ x1 ∧ ∀ y ∈ x.f4, FewA y) := by
  induction d with
  | zero =>
    intro i x1 h0 hd h1 h2
    obtain ⟨r, hr, hri⟩ := hk x1 h1
    exact ⟨r, hr.step (fun k => by rw [tendrilplain_weigh.l0, if_neg (by omega)]), hri⟩
  | succ d ih =>
    intro i x1 h0 hd h1 h2
    have hi : i < (x.f3.length : Int) := by omega
    have hm := hs _ (rd42_mem x.f3 i h0 hi)
    have m0 := hm.h0
    have m1 := hm.h1
    have e1 : wrap64 (((rd_T69 x.f3 i).f1.size : Int) / 4096) = ((rd_T69 x.f3 i).f1.size : Int) / 4096 := ww (by omega) (by omega)
    have e0 : wrap64 (((rd_T69 x.f3 i).f0.size : Int) / 4096) = ((rd_T69 x.f3 i).f0.size : Int) / 4096 := ww (by omega) (by omega)
    obtain ⟨r, hr, hri⟩ := ih (i + 1) (x1 - ((rd_T69 x.f3 i).f1.size : Int) / 4096 - ((rd_T69 x.f3 i).f0.size : Int) / 4096) (by omega) (by omega) (by omega) (by omega)
    refine ⟨r, hr.step (fun k => ?_), fun h => ⟨by have := hri h; omega, (hri h).2⟩⟩
    rw [tendrilplain_weigh.l0, if_pos hi, if_pos h0, if_pos hi, e1, e0, w1 (by omega) (by omega)]
    rw [ww (i := x1 - ((rd_T69 x.f3 i).f1.size : Int) / 4096) (by omega) (by omega), ww (by omega) (by omega)]
theorem weigh_T (x : S25) (h : Sm25 x) : WT x := by
  induction h with
  | @mk x s0 s1 s2 s3 s4 s5 ih =>
    intro a1 a2 h0 h1 h2 h3
    have e1 : wrap64 ((x.f2.size : Int) + (x.f1.size : Int)) = (x.f2.size : Int) + (x.f1.size : Int) := ww (by omega) (by omega)
    have e2 : wrap64 (Int.tdiv (wrap64 ((x.f2.size : Int) + (x.f1.size : Int))) 4096) = ((x.f2.size : Int) + (x.f1.size : Int)) / 4096 := by
      rw [e1, tdiv_small (by omega)]
      exact ww (by omega) (by omega)
    have e3 : wrap64 ((wrap64 ((wrap64 (a1 - 1)) - (x.f3.length : Int))) - (wrap64 (Int.tdiv (wrap64 ((x.f2.size : Int) + (x.f1.size : Int))) 4096))) = a1 - 1 - x.f3.length - ((x.f2.size : Int) + (x.f1.size : Int)) / 4096 := by
      have := s3.1
      rw [e2, wm (by omega) (by omega), ww (i := a1 - 1 - (x.f3.length : Int)) (by omega) (by omega), ww (by omega) (by omega)]
    obtain ⟨c, hc⟩ : ∃ c, a1 - 1 - (x.f3.length : Int) - ((x.f2.size : Int) + (x.f1.size : Int)) / 4096 = c := ⟨_, rfl⟩
    rw [hc] at e3
    by_cases c0 : c < 0
    · refine ⟨-1, ((Ev.pure (-1)).step (f := fun k => tendrilplain_weigh.j0 k c a2 true x.f0 x.f1 x.f2 x.f3 x.f4) (fun k => by rw [tendrilplain_weigh.j0, if_pos rfl])).step (fun k => by rw [tendrilplain_weigh.f, e3, if_pos c0]), by omega⟩
    by_cases ca : a2 > 80
    · refine ⟨-1, ((Ev.pure (-1)).step (f := fun k => tendrilplain_weigh.j0 k c a2 true x.f0 x.f1 x.f2 x.f3 x.f4) (fun k => by rw [tendrilplain_weigh.j0, if_pos rfl])).step (fun k => by rw [tendrilplain_weigh.f, e3, if_neg c0, decide_eq_true ca]), by omega⟩
    · obtain ⟨r, hr, hri⟩ := weigh_l0 x s3.2 (by omega) a2 (fun _ _ => True) (fun x1 hx1 => by
        obtain ⟨r, hr, hri⟩ := weigh_l1 x s4 s5 ih x.f4.length 0 x1 a2 (by omega) (by omega) hx1 h2 (by omega)
        exact ⟨r, hr, by simpa using hri⟩) x.f3.length 0 c (by omega) (by omega) (by omega) (by omega)
      refine ⟨r, (hr.step (f := fun k => tendrilplain_weigh.j0 k c a2 false x.f0 x.f1 x.f2 x.f3 x.f4) (fun k => by rw [tendrilplain_weigh.j0, if_neg (by decide)])).step (fun k => by rw [tendrilplain_weigh.f, e3, if_neg c0, decide_eq_false ca]), ?_⟩
      intro hr0
      have := hri hr0
      rw [szT_eq]
      exact ⟨by omega, FewA.mk (by omega) this.2⟩
theorem few (x : S25) (h : Sm25 x) (n : Int) (h0 : 0 ≤ n) (h1 : n ≤ 5000) : ∃ b, Ev (fun k => tendrilplain_Few.f k x.f0 x.f1 x.f2 x.f3 x.f4 n) b ∧ (b = true → szT x ≤ n ∧ FewA x) := by
  obtain ⟨r, hr, hri⟩ := weigh_T x h n 0 h0 h1 (by omega) (by omega)
  refine ⟨decide (r ≥ 0), hr.via0 (Ev.pure _) (fun k hk => by rw [tendrilplain_Few.f, hk]; rfl), ?_⟩
  intro hb
  have q := hri (of_decide_eq_true hb)
  have := of_decide_eq_true hb
  exact ⟨by omega, q.2⟩
end Go.Proofs.Ytcebfldagnjddaa.Pure
/- The visits against the reference's list of a tree's nodes: what is wrong first is the same. -/
namespace Go.Proofs.Ytcebfldagnjddaa.Pure
open Go.RowKit Go.Proofs.Ytcebfldagnjddaa.G Go.Proofs.YtcebfldagnjddaaW.PrintWords Go.Proofs.YtcebfldagnjddaaW.PrintLast
set_option linter.unusedVariables false
/-! ### the list comes to an end -/
def BT (x : S25) : Prop := ∀ (l : List S63) (depth u : Int), ∃ new, Ev (fun k => blw1 k l x depth u) (l ++ new) ∧ (∀ it ∈ new, Sm25 it.f0) ∧ (¬ (l.length : Int) > 4096 → ∃ rest, new = ⟨x, depth, u⟩ :: rest)
theorem blwL_ev (ks : List S25) (hb : ∀ y ∈ ks, BT y) : ∀ (l : List S63) (depth u : Int), ∃ new, Ev (fun k => blw k l ks depth u) (l ++ new) ∧ ∀ it ∈ new, Sm25 it.f0 := by
  induction ks with
  | nil => intro l depth u; exact ⟨[], by simpa using (Ev.pure l).step (fun k => rfl), by simp⟩
  | cons y ys ih =>
    intro l depth u
    by_cases c : (l.length : Int) > 4096
    · exact ⟨[], by simpa using (Ev.pure l).step (f := fun k => blw k l (y :: ys) depth u) (fun k => by rw [blw_cons, if_pos c]), by simp⟩
    · obtain ⟨n1, e1, s1, _⟩ := hb y (by simp) l depth u
      obtain ⟨n2, e2, s2⟩ := ih (fun z hz => hb z (by simp [hz])) (l ++ n1) depth u
      refine ⟨n1 ++ n2, e1.via (by rw [← List.append_assoc]; exact e2) (fun k hk => by rw [blw_cons, if_neg c, hk]; rfl), fun it hit => ?_⟩
      rcases List.mem_append.1 hit with h | h
      · exact s1 it h
      · exact s2 it h
theorem blwT_ev (x : S25) (h : Sm25 x) : BT x := by
  induction h with
  | @mk x h0 h1 h2 h3 h4 h5 ih =>
    have hx : Sm25 x := Sm25.mk h0 h1 h2 h3 h4 h5
    intro l depth u
    by_cases c : (l.length : Int) > 4096
    · exact ⟨[], by simpa using Ev.all (f := fun k => blw1 k l x depth u) (fun k => by rw [blw1, if_pos c]), by simp, fun h => absurd c h⟩
    · by_cases d : depth > 64
      · exact ⟨[⟨x, depth, u⟩], Ev.all (fun k => by rw [blw1, if_neg c, if_pos d]), by simp [hx], fun _ => ⟨[], rfl⟩⟩
      · obtain ⟨n, e, s⟩ := blwL_ev x.f4 ih (l ++ [⟨x, depth, u⟩]) (depth + 1) l.length
        refine ⟨⟨x, depth, u⟩ :: n, (by simpa using e : Ev (fun k => blw k (l ++ [⟨x, depth, u⟩]) x.f4 (depth + 1) l.length) (l ++ ⟨x, depth, u⟩ :: n)).eq (fun k => by rw [blw1, if_neg c, if_neg d]), fun it hit => ?_, fun _ => ⟨n, rfl⟩⟩
        rcases List.mem_cons.1 hit with h | h
        · rw [h]; exact hx
        · exact s it h
/-! ### what is wrong at a place of the list -/
def Twice (L : List S63) (i : Nat) : Prop := ∃ it jt j, j < i ∧ L[i]? = some it ∧ L[j]? = some jt ∧ 0 ≤ it.f2 ∧ jt.f2 = it.f2 ∧ it.f0.f1.data.toList ≠ [] ∧ jt.f0.f1.data.toList = it.f0.f1.data.toList
def OKat (L : List S63) (i : Nat) : Prop := ∃ it, L[i]? = some it ∧ i ≠ 4096 ∧ it.f1 ≤ 64 ∧ wr it.f0 = 0 ∧ ¬ Twice L i
def BadAt (L : List S63) (i : Nat) (e : Int) : Prop := ∃ it, L[i]? = some it ∧ ((i = 4096 ∧ e = 12) ∨ (i ≠ 4096 ∧ it.f1 > 64 ∧ e = 11) ∨ (i ≠ 4096 ∧ it.f1 ≤ 64 ∧ wr it.f0 ≠ 0 ∧ e = wr it.f0) ∨ (i ≠ 4096 ∧ it.f1 ≤ 64 ∧ wr it.f0 = 0 ∧ Twice L i ∧ e = 10))
theorem get_ext {L : List S63} {i : Nat} {it : S63} (h : L[i]? = some it) (E : List S63) : (L ++ E)[i]? = some it := by
  rw [List.getElem?_append_left (List.getElem?_eq_some_iff.1 h).1]; exact h
theorem twice_ext {L : List S63} {i : Nat} (hi : i < L.length) (E : List S63) : Twice (L ++ E) i ↔ Twice L i := by
  unfold Twice
  constructor
  · rintro ⟨it, jt, j, hj, h1, h2, h3⟩
    rw [List.getElem?_append_left hi] at h1
    rw [List.getElem?_append_left (by omega)] at h2
    exact ⟨it, jt, j, hj, h1, h2, h3⟩
  · rintro ⟨it, jt, j, hj, h1, h2, h3⟩
    exact ⟨it, jt, j, hj, get_ext h1 E, get_ext h2 E, h3⟩
theorem OKat.ext {L : List S63} {i : Nat} (h : OKat L i) (E : List S63) : OKat (L ++ E) i := by
  obtain ⟨it, h1, h2, h3, h4, h5⟩ := h
  exact ⟨it, get_ext h1 E, h2, h3, h4, fun ht => h5 ((twice_ext (List.getElem?_eq_some_iff.1 h1).1 E).1 ht)⟩
theorem BadAt.ext {L : List S63} {i : Nat} {e : Int} (h : BadAt L i e) (E : List S63) : BadAt (L ++ E) i e := by
  obtain ⟨it, h1, h2⟩ := h
  refine ⟨it, get_ext h1 E, ?_⟩
  rw [twice_ext (List.getElem?_eq_some_iff.1 h1).1 E]
  exact h2
def Met (l : List S63) (u : Int) (met : List (List UInt8)) : Prop := ∀ key, key ∈ met ↔ key ≠ [] ∧ ∃ jt ∈ l, jt.f2 = u ∧ jt.f0.f1.data.toList = key
def md (d : Int) (it : S63) : Int := max d it.f1
/-- What a visit tells, against the list. -/
structure Sim (l new : List S63) (deep : Int) (r : Bool × Int × Int × Int) : Prop where
  sm : ∀ it ∈ new, Sm25 it.f0
  yes : r.1 = true → r.2 = (((l ++ new).length : Int), new.foldl md deep, 0) ∧ (l ++ new).length ≤ 4096 ∧ (∀ i, l.length ≤ i → i < (l ++ new).length → OKat (l ++ new) i) ∧ ∀ it ∈ new, it.f2 < (l ++ new).length
  no : r.1 = false → ∃ p : Nat, r.2.1 = p ∧ l.length ≤ p ∧ p < (l ++ new).length ∧ (∀ i, l.length ≤ i → i < p → OKat (l ++ new) i) ∧ BadAt (l ++ new) p r.2.2.2
def SimT (x : S25) : Prop := ∀ (depth deep : Int) (met : List (List UInt8)) (l : List S63) (u : Int), l.length ≤ 4096 → u < l.length → (u < 0 → met = []) → Met l u met → (∀ jt ∈ l, jt.f2 < l.length) →
  ∃ r rest, Ev (fun k => vis1 k x depth l.length deep met) r ∧ Ev (fun k => blw1 k l x depth u) (l ++ ⟨x, depth, u⟩ :: rest) ∧ Sim l (⟨x, depth, u⟩ :: rest) deep r ∧ (r.1 = true → ∀ it ∈ rest, (l.length : Int) ≤ it.f2)
theorem sim_L (ks : List S25) (hs : ∀ y ∈ ks, Sm25 y) (hv : ∀ y ∈ ks, SimT y) : ∀ (depth deep : Int) (met : List (List UInt8)) (l : List S63) (u : Int), l.length ≤ 4096 → u < l.length → 0 ≤ u → Met l u met → (∀ jt ∈ l, jt.f2 < l.length) →
    ∃ r new, Ev (fun k => vis k ks depth l.length deep met) r ∧ Ev (fun k => blw k l ks depth u) (l ++ new) ∧ Sim l new deep r ∧ (r.1 = true → ∀ it ∈ new, it.f2 = u ∨ (l.length : Int) ≤ it.f2) := by
  induction ks with
  | nil =>
    intro depth deep met l u h0 h1 h2 h3 h4
    refine ⟨(true, l.length, deep, 0), [], (Ev.pure _).step (fun k => rfl), by simpa using (Ev.pure l).step (fun k => rfl), ⟨by simp, fun _ => ⟨by simp, by simpa using h0, fun i a b => by simp at b; omega, by simp⟩, by simp⟩, by simp⟩
  | cons y ys ih =>
    intro depth deep met l u h0 h1 h2 h3 h4
    have hc : ¬ (l.length : Int) > 4096 := by omega
    obtain ⟨r1, rest, e1, b1, s1, q1⟩ := hv y (by simp) depth deep met l u h0 h1 (fun h => by omega) h3 h4
    obtain ⟨n1, hn1⟩ : ∃ n1, (⟨y, depth, u⟩ : S63) :: rest = n1 := ⟨_, rfl⟩
    have hmem : ∀ it, it ∈ n1 ↔ it = ⟨y, depth, u⟩ ∨ it ∈ rest := by intro it; rw [← hn1]; simp
    rw [hn1] at b1 s1
    cases hr : r1.1 with
    | false =>
      obtain ⟨n2, b2, m2⟩ := blwL_ev ys (fun z hz => blwT_ev z (hs z (by simp [hz]))) (l ++ n1) depth u
      obtain ⟨p, p1, p2, p3, p4, p5⟩ := s1.no hr
      refine ⟨r1, n1 ++ n2, e1.via (Ev.pure r1) (fun k hk => by rw [vis_cons, hk]; simp [hr]), b1.via (by rw [← List.append_assoc]; exact b2) (fun k hk => by rw [blw_cons, if_neg hc, hk]; rfl), ⟨?_, ?_, ?_⟩, ?_⟩
      · intro it hit
        rcases List.mem_append.1 hit with h | h
        · exact s1.sm it h
        · exact m2 it h
      · intro h; rw [hr] at h; cases h
      · intro _
        rw [← List.append_assoc]
        exact ⟨p, p1, p2, by rw [List.length_append]; omega, fun i a b => (p4 i a b).ext n2, p5.ext n2⟩
      · intro h; rw [hr] at h; cases h
    | true =>
      obtain ⟨y1, y2, y3, y4⟩ := s1.yes hr
      have q1 := q1 hr
      have hlen : l.length < (l ++ n1).length := by rw [← hn1]; simp
      obtain ⟨r2, n2, e2, b2, s2, q2⟩ := ih (fun z hz => hs z (by simp [hz])) (fun z hz => hv z (by simp [hz])) depth (n1.foldl md deep) (next met y) (l ++ n1) u y2 (by omega) h2 (by
        intro key
        have hn : key ∈ next met y ↔ key ∈ met ∨ (key ≠ [] ∧ y.f1.data.toList = key) := by
          unfold next
          split
          · next he =>
            constructor
            · exact .inl
            · rintro (h | ⟨h, rfl⟩)
              · exact h
              · exact absurd he h
          · next he =>
            rw [List.mem_cons]
            constructor
            · rintro (rfl | h)
              · exact .inr ⟨he, rfl⟩
              · exact .inl h
            · rintro (h | ⟨_, rfl⟩)
              · exact .inr h
              · exact .inl rfl
        rw [hn, h3 key]
        constructor
        · rintro (⟨h5, jt, h6, h7⟩ | ⟨h5, h6⟩)
          · exact ⟨h5, jt, List.mem_append_left _ h6, h7⟩
          · exact ⟨h5, ⟨y, depth, u⟩, List.mem_append_right _ ((hmem _).2 (.inl rfl)), rfl, h6⟩
        · rintro ⟨h5, jt, h6, h7, h8⟩
          rcases List.mem_append.1 h6 with h | h
          · exact .inl ⟨h5, jt, h, h7, h8⟩
          · rcases (hmem _).1 h with rfl | h
            · exact .inr ⟨h5, h8⟩
            · have := q1 jt h
              omega) (by
        intro jt hjt
        rcases List.mem_append.1 hjt with h | h
        · have := h4 jt h; omega
        · exact y4 jt h)
      refine ⟨r2, n1 ++ n2, e1.via e2 (fun k hk => by rw [vis_cons, hk]; simp only [Option.bind_some, hr, if_true, y1]; rfl), b1.via (by rw [← List.append_assoc]; exact b2) (fun k hk => by rw [blw_cons, if_neg hc, hk]; rfl), ⟨?_, ?_, ?_⟩, ?_⟩
      · intro it hit
        rcases List.mem_append.1 hit with h | h
        · exact s1.sm it h
        · exact s2.sm it h
      · intro h
        obtain ⟨z1, z2, z3, z4⟩ := s2.yes h
        rw [← List.append_assoc, List.foldl_append]
        refine ⟨z1, z2, fun i a b => ?_, fun it hit => ?_⟩
        · rcases Nat.lt_or_ge i (l ++ n1).length with c | c
          · exact (y3 i a c).ext n2
          · exact z3 i c b
        · rcases List.mem_append.1 hit with h | h
          · have := y4 it h
            rw [List.length_append]
            omega
          · exact z4 it h
      · intro h
        obtain ⟨p, p1, p2, p3, p4, p5⟩ := s2.no h
        rw [← List.append_assoc]
        refine ⟨p, p1, by omega, p3, fun i a b => ?_, p5⟩
        rcases Nat.lt_or_ge i (l ++ n1).length with c | c
        · exact (y3 i a c).ext n2
        · exact p4 i c b
      · intro h it hit
        rcases List.mem_append.1 hit with g | g
        · rcases (hmem _).1 g with rfl | g
          · exact .inl rfl
          · exact .inr (q1 it g)
        · rcases q2 h it g with g | g
          · exact .inl g
          · exact .inr (by omega)
theorem sim_T (x : S25) (h : Sm25 x) : SimT x := by
  induction h with
  | @mk x h0 h1 h2 h3 h4 h5 ih =>
    have hx : Sm25 x := Sm25.mk h0 h1 h2 h3 h4 h5
    intro depth deep met l u c0 c1 c2 c3 c4
    obtain ⟨it, hit⟩ : ∃ it : S63, (⟨x, depth, u⟩ : S63) = it := ⟨_, rfl⟩
    have i0 : it.f0 = x := by rw [← hit]
    have i1 : it.f1 = depth := by rw [← hit]
    have i2 : it.f2 = u := by rw [← hit]
    have hc : ¬ (l.length : Int) > 4096 := by omega
    have hget (rest : List S63) : (l ++ it :: rest)[l.length]? = some it := by simp
    have hget2 (rest : List S63) (j : Nat) (hj : j < l.length) : (l ++ it :: rest)[j]? = some (l[j]) := by rw [List.getElem?_append_left hj, List.getElem?_eq_getElem hj]
    obtain ⟨w1, _⟩ := wr_ev hx
    have fin (e0 : Int) (hE : Ev (fun k => visE k x depth l.length) e0) (hne : visX e0 x.f1.data.toList met ≠ 0) (hno : ∀ rest, BadAt (l ++ it :: rest) l.length (visX e0 x.f1.data.toList met)) :
        ∃ r rest, Ev (fun k => vis1 k x depth l.length deep met) r ∧ Ev (fun k => blw1 k l x depth u) (l ++ ⟨x, depth, u⟩ :: rest) ∧ Sim l (⟨x, depth, u⟩ :: rest) deep r ∧ (r.1 = true → ∀ it ∈ rest, (l.length : Int) ≤ it.f2) := by
      obtain ⟨new, b, s, hrest⟩ := blwT_ev x hx l depth u
      obtain ⟨rest, rfl⟩ := hrest hc
      refine ⟨(false, l.length, max deep depth, visX e0 x.f1.data.toList met), rest, hE.via0 (Ev.pure _) (fun k hk => by rw [vis1, if_pos h1, hk]; simp only [Option.bind_some]; rw [if_pos hne]), b, ⟨s, by simp, fun _ => ⟨l.length, rfl, Nat.le_refl _, by simp, fun i a b => by omega, ?_⟩⟩, by simp⟩
      rw [hit]
      exact hno rest
    by_cases cn : (l.length : Int) = 4096
    · exact fin 12 (Ev.all fun k => by rw [visE, if_pos cn]) (by rw [visX_ne (by decide)]; decide) (fun rest => ⟨it, hget rest, .inl ⟨by omega, by rw [visX_ne (by decide)]⟩⟩)
    by_cases cd : depth > 64
    · exact fin 11 (Ev.all fun k => by rw [visE, if_neg cn, if_pos cd]) (by rw [visX_ne (by decide)]; decide) (fun rest => ⟨it, hget rest, .inr (.inl ⟨by omega, by omega, by rw [visX_ne (by decide)]⟩)⟩)
    have hE : Ev (fun k => visE k x depth l.length) (wr x) := w1.eq (fun k => by rw [visE, if_neg cn, if_neg cd])
    by_cases cw : wr x = 0
    case neg => exact fin (wr x) hE (by rw [visX_ne cw]; exact cw) (fun rest => ⟨it, hget rest, .inr (.inr (.inl ⟨by omega, by omega, by rw [i0]; exact cw, by rw [visX_ne cw, i0]⟩))⟩)
    have htw (rest : List S63) : Twice (l ++ it :: rest) l.length ↔ x.f1.data.toList ∈ met := by
      constructor
      · rintro ⟨a, jt, j, hj, g1, g2, g3, g4, g5, g6⟩
        rw [hget rest] at g1
        cases g1
        rw [hget2 rest j hj] at g2
        cases g2
        rw [i0] at g5 g6
        rw [i2] at g4
        exact (c3 _).2 ⟨g5, l[j], List.getElem_mem _, g4, g6⟩
      · intro hk
        obtain ⟨g1, jt, g2, g3, g4⟩ := (c3 _).1 hk
        obtain ⟨j, hj, rfl⟩ := List.getElem_of_mem g2
        have hu : 0 ≤ u := by
          rcases Int.lt_or_le u 0 with h | h
          · rw [c2 h] at hk; cases hk
          · exact h
        exact ⟨it, l[j], j, hj, hget rest, hget2 rest j hj, by omega, by rw [g3, i2], by rw [i0]; exact g1, by rw [g4, i0]⟩
    by_cases ck : x.f1.data.toList ∈ met
    · exact fin (wr x) hE (by rw [visX, if_pos ⟨cw, ck⟩]; decide) (fun rest => ⟨it, hget rest, .inr (.inr (.inr ⟨by omega, by omega, by rw [i0]; exact cw, (htw rest).2 ck, by rw [visX, if_pos ⟨cw, ck⟩]⟩))⟩)
    have hX : visX (wr x) x.f1.data.toList met = 0 := by rw [visX, if_neg (fun h => ck h.2)]; exact cw
    have hl1 : (l ++ [it]).length = l.length + 1 := by simp
    obtain ⟨r, new, e, b, s, q⟩ := sim_L x.f4 h5 ih (depth + 1) (max deep depth) [] (l ++ [it]) l.length (by omega) (by omega) (by omega) (by
      intro key
      simp only [List.not_mem_nil, false_iff]
      rintro ⟨_, jt, g1, g2, _⟩
      rcases List.mem_append.1 g1 with g | g
      · have := c4 jt g; omega
      · simp at g
        subst g
        omega) (by
      intro jt g1
      rcases List.mem_append.1 g1 with g | g
      · have := c4 jt g; omega
      · simp at g
        subst g
        omega)
    have hap : l ++ [it] ++ new = l ++ it :: new := by simp
    have hcast : (((l ++ [it]).length : Nat) : Int) = (l.length : Int) + 1 := by omega
    rw [hcast] at e
    rw [hap] at b
    have hok : OKat (l ++ it :: new) l.length := ⟨it, hget new, by omega, by omega, by rw [i0]; exact cw, fun h => ck ((htw new).1 h)⟩
    refine ⟨r, new, hE.via0 e (fun k hk => by rw [vis1, if_pos h1, hk]; simp only [Option.bind_some]; rw [if_neg (by rw [hX]; decide)]), ?_, ⟨?_, ?_, ?_⟩, ?_⟩
    · rw [hit]
      exact b.eq (fun k => by rw [blw1, if_neg hc, if_neg cd, hit])
    · rw [hit]
      intro jt hjt
      rcases List.mem_cons.1 hjt with rfl | g
      · rw [i0]; exact hx
      · exact s.sm jt g
    · rw [hit]
      intro hr
      obtain ⟨z1, z2, z3, z4⟩ := s.yes hr
      rw [hap] at z1 z2 z3 z4
      refine ⟨?_, z2, fun i a b => ?_, fun jt hjt => ?_⟩
      · rw [z1, List.foldl_cons]
        have : md deep it = max deep depth := by unfold md; rw [i1]
        rw [this]
      · rcases Nat.eq_or_lt_of_le a with rfl | a
        · exact hok
        · exact z3 i (by omega) b
      · rcases List.mem_cons.1 hjt with rfl | g
        · simp only [List.length_append, List.length_cons]
          omega
        · exact z4 jt g
    · rw [hit]
      intro hr
      obtain ⟨p, p1, p2, p3, p4, p5⟩ := s.no hr
      rw [hap] at p3 p4 p5
      refine ⟨p, p1, by omega, p3, fun i a b => ?_, p5⟩
      rcases Nat.eq_or_lt_of_le a with rfl | a
      · exact hok
      · exact p4 i (by omega) b
    · intro hr jt hjt
      rcases q hr jt hjt with g | g
      · omega
      · omega
end Go.Proofs.Ytcebfldagnjddaa.Pure
/- What vtree.Check and its reference say of a tree: of its list of items. -/
namespace Go.Proofs.Ytcebfldagnjddaa.Pure
open Go.RowKit Go.Proofs.Ytcebfldagnjddaa.G Go.Proofs.YtcebfldagnjddaaW.PrintWords Go.Proofs.YtcebfldagnjddaaW.PrintLast
set_option linter.unusedVariables false
theorem rd48 {L : List S63} {i : Nat} {it : S63} (h : L[i]? = some it) : rd_T63 L (i : Int) = it := by
  unfold rd_T63
  rw [List.getD_eq_getElem?_getD, Int.toNat_natCast, h]
  rfl
theorem lt48 {L : List S63} {i : Nat} {it : S63} (h : L[i]? = some it) : i < L.length := (List.getElem?_eq_some_iff.1 h).1
/-- The keys' round. -/
theorem chk_l1 (L : List S63) (hL : L.length ≤ 4097) (i : Nat) (it : S63) (hi : L[i]? = some it) (d : Nat) : ∀ j : Nat, i - j = d → j ≤ i →
    ((∃ jt k, j ≤ k ∧ k < i ∧ L[k]? = some jt ∧ 0 ≤ it.f2 ∧ jt.f2 = it.f2 ∧ it.f0.f1.data.toList ≠ [] ∧ jt.f0.f1.data.toList = it.f0.f1.data.toList) → Ev (fun k => tendrilref11_Check.l1 k L i L.length i i j) ((i : Int), 10)) ∧
    (¬ (∃ jt k, j ≤ k ∧ k < i ∧ L[k]? = some jt ∧ 0 ≤ it.f2 ∧ jt.f2 = it.f2 ∧ it.f0.f1.data.toList ≠ [] ∧ jt.f0.f1.data.toList = it.f0.f1.data.toList) → ∀ r, Ev (fun k => tendrilref11_Check.l0 k L L.length ((i + 1 : Nat) : Int)) r → Ev (fun k => tendrilref11_Check.l1 k L i L.length i i j) r) := by
  have hil := lt48 hi
  have hrd := rd48 hi
  induction d with
  | zero =>
    intro j hd hj
    refine ⟨fun ⟨jt, k, h1, h2, _⟩ => by omega, fun _ r hr => hr.step (fun k => by rw [tendrilref11_Check.l1, if_neg (by omega), w1 (by omega) (by omega)]; rfl)⟩
  | succ d ih =>
    intro j hd hj
    obtain ⟨ih1, ih2⟩ := ih (j + 1) (by omega) (by omega)
    obtain ⟨jt, hjt⟩ : ∃ jt, L[j]? = some jt := ⟨_, List.getElem?_eq_getElem (by omega)⟩
    have hw : wrap64 ((j : Int) + 1) = ((j + 1 : Nat) : Int) := by rw [w1 (by omega) (by omega)]; rfl
    have hrj := rd48 hjt
    have a1 : (j : Int) < (i : Int) := by omega
    have a2 : (0 : Int) ≤ (i : Int) := by omega
    have a3 : (i : Int) < (L.length : Int) := by omega
    have a4 : (0 : Int) ≤ (j : Int) := by omega
    have a5 : (j : Int) < (L.length : Int) := by omega
    by_cases c : 0 ≤ it.f2 ∧ jt.f2 = it.f2 ∧ it.f0.f1.data.toList ≠ [] ∧ jt.f0.f1.data.toList = it.f0.f1.data.toList
    · refine ⟨fun _ => (Ev.pure _).step (fun k => ?_), fun h => absurd ⟨jt, j, Nat.le_refl _, by omega, hjt, c⟩ h⟩
      rw [tendrilref11_Check.l1, if_pos (by omega), if_pos (by omega), if_pos (by omega), hrd, if_pos c.1, if_pos (by omega), if_pos (by omega), hrj, if_pos c.2.1, Lib.toList_data, if_neg c.2.2.1, Lib.toList_data, if_pos c.2.2.2]
    · have hstep (k : Nat) : tendrilref11_Check.l1 (k + 1) L i L.length i i j = tendrilref11_Check.l1 k L i L.length i i ((j + 1 : Nat) : Int) := by
        rw [tendrilref11_Check.l1, if_pos a1, if_pos a2, if_pos a3, hrd]
        by_cases d1 : it.f2 ≥ 0
        · rw [if_pos d1, if_pos a4, if_pos a5, hrj]
          by_cases d2 : jt.f2 = it.f2
          · rw [if_pos d2, Lib.toList_data]
            by_cases d3 : it.f0.f1.data.toList = []
            · rw [if_pos d3, hw]
            · rw [if_neg d3, Lib.toList_data, if_neg (fun d4 => c ⟨d1, d2, d3, d4⟩), hw]
          · rw [if_neg d2, hw]
        · rw [if_neg d1, hw]
      have hex : (∃ jt k, j ≤ k ∧ k < i ∧ L[k]? = some jt ∧ 0 ≤ it.f2 ∧ jt.f2 = it.f2 ∧ it.f0.f1.data.toList ≠ [] ∧ jt.f0.f1.data.toList = it.f0.f1.data.toList) ↔ (∃ jt k, j + 1 ≤ k ∧ k < i ∧ L[k]? = some jt ∧ 0 ≤ it.f2 ∧ jt.f2 = it.f2 ∧ it.f0.f1.data.toList ≠ [] ∧ jt.f0.f1.data.toList = it.f0.f1.data.toList) := by
        constructor
        · rintro ⟨a, k, h1, h2, h3, h4⟩
          rcases Nat.eq_or_lt_of_le h1 with rfl | h1
          · rw [hjt] at h3
            cases h3
            exact absurd h4 c
          · exact ⟨a, k, h1, h2, h3, h4⟩
        · rintro ⟨a, k, h1, h2, h3, h4⟩
          exact ⟨a, k, by omega, h2, h3, h4⟩
      rw [hex]
      exact ⟨fun h => (ih1 h).step hstep, fun h r hr => (ih2 h r hr).step hstep⟩
theorem bad_ne {L : List S63} {p : Nat} {e : Int} (h : BadAt L p e) : e ≠ 0 := by
  obtain ⟨it, _, h | h | h | h⟩ := h
  · omega
  · omega
  · rw [h.2.2.2]; exact h.2.2.1
  · omega
theorem chk_ok (L : List S63) (hL : L.length ≤ 4097) (hs : ∀ it ∈ L, Sm25 it.f0) (i : Nat) (h : OKat L i) {r : Int × Int} (hr : Ev (fun k => tendrilref11_Check.l0 k L L.length ((i + 1 : Nat) : Int)) r) : Ev (fun k => tendrilref11_Check.l0 k L L.length (i : Int)) r := by
  obtain ⟨it, h1, h2, h3, h4, h5⟩ := h
  have hil := lt48 h1
  have hrd := rd48 h1
  obtain ⟨_, w2⟩ := wr_ev (hs it (List.mem_of_getElem? h1))
  rw [h4] at w2
  have hl := (chk_l1 L hL i it h1 i 0 (by omega) (by omega)).2 (fun ⟨jt, k, a1, a2, a3, a4⟩ => h5 ⟨it, jt, k, a2, h1, a3, a4⟩) r hr
  refine w2.via hl (fun k hk => ?_)
  rw [tendrilref11_Check.l0, if_pos (by omega), if_neg (by omega), if_pos (by omega), if_pos (by omega), hrd, if_neg (by omega), hk, Option.bind_some, if_pos rfl]
  rfl
theorem chk_bad (L : List S63) (hL : L.length ≤ 4097) (hs : ∀ it ∈ L, Sm25 it.f0) (p : Nat) (e : Int) (h : BadAt L p e) : Ev (fun k => tendrilref11_Check.l0 k L L.length (p : Int)) ((p : Int), e) := by
  obtain ⟨it, h1, h2⟩ := h
  have hil := lt48 h1
  have hrd := rd48 h1
  obtain ⟨_, w2⟩ := wr_ev (hs it (List.mem_of_getElem? h1))
  rcases h2 with ⟨a1, rfl⟩ | ⟨a1, a2, rfl⟩ | ⟨a1, a2, a3, rfl⟩ | ⟨a1, a2, a3, a4, rfl⟩
  · exact (Ev.pure _).step (fun k => by rw [tendrilref11_Check.l0, if_pos (by omega), if_pos (by omega)])
  · exact (Ev.pure _).step (fun k => by rw [tendrilref11_Check.l0, if_pos (by omega), if_neg (by omega), if_pos (by omega), if_pos (by omega), hrd, if_pos (by omega)])
  · exact w2.via (Ev.pure _) (fun k hk => by rw [tendrilref11_Check.l0, if_pos (by omega), if_neg (by omega), if_pos (by omega), if_pos (by omega), hrd, if_neg (by omega), hk, Option.bind_some, if_neg a3])
  · rw [a3] at w2
    obtain ⟨it', jt, j, b1, b2, b3, b4⟩ := a4
    rw [h1] at b2
    cases b2
    have hl := (chk_l1 L hL p it h1 p 0 (by omega) (by omega)).1 ⟨jt, j, by omega, b1, b3, b4⟩
    refine w2.via hl (fun k hk => ?_)
    rw [tendrilref11_Check.l0, if_pos (by omega), if_neg (by omega), if_pos (by omega), if_pos (by omega), hrd, if_neg (by omega), hk, Option.bind_some, if_pos rfl]
    rfl
theorem chk_upto (L : List S63) (hL : L.length ≤ 4097) (hs : ∀ it ∈ L, Sm25 it.f0) (p : Nat) (h : ∀ i, i < p → OKat L i) (r : Int × Int) (hr : Ev (fun k => tendrilref11_Check.l0 k L L.length (p : Int)) r) (d : Nat) : ∀ i : Nat, p - i = d → i ≤ p → Ev (fun k => tendrilref11_Check.l0 k L L.length (i : Int)) r := by
  induction d with
  | zero =>
    intro i hd hi
    obtain rfl : i = p := by omega
    exact hr
  | succ d ih =>
    intro i hd hi
    exact chk_ok L hL hs i (h i (by omega)) (ih (i + 1) (by omega) (by omega))
/-- vtree.Check and its reference, by the list of items. -/
theorem checks (x : S25) (h : Sm25 x) : ∃ L c, Ev (fun k => tendrilref11_Items.f k x.f0 x.f1 x.f2 x.f3 x.f4) L ∧ L.length ≤ 4097 ∧ (∀ it ∈ L, Sm25 it.f0) ∧
    Ev (fun k => vtree_Check.f k x.f0 x.f1 x.f2 x.f3 x.f4) c ∧ Ev (fun k => tendrilref11_Check.f k x.f0 x.f1 x.f2 x.f3 x.f4) c ∧
    ((c.2 = 0 ∧ L.length ≤ 4096 ∧ ∀ i, i < L.length → OKat L i) ∨ (c.2 ≠ 0 ∧ ∃ p : Nat, p < L.length ∧ (∀ i, i < p → OKat L i) ∧ BadAt L p c.2)) := by
  have hxe : (⟨x.f0, x.f1, x.f2, x.f3, x.f4⟩ : S25) = x := by cases x; rfl
  obtain ⟨r, rest, e, bl, s, _⟩ := sim_T x h 1 0 [] [] (-1) (by simp) (by simp) (by simp) (by intro key; simp) (by simp)
  obtain ⟨L, hL⟩ : ∃ L, (⟨x, 1, -1⟩ : S63) :: rest = L := ⟨_, rfl⟩
  rw [hL] at bl s
  simp only [List.nil_append] at bl
  have hit : Ev (fun k => tendrilref11_Items.f k x.f0 x.f1 x.f2 x.f3 x.f4) L := bl.eq (fun k => by rw [tendrilref11_Items.f, hxe])
  have hlen : L.length ≤ 4097 := by
    obtain ⟨k, hk⟩ := bl.ex
    exact (blw1_len hk (by simp)).2
  have hchk : Ev (fun k => vtree_check.f k x.f0 x.f1 x.f2 x.f3 x.f4) r.2 := e.via0 (Ev.pure _) (fun k hk => by rw [vtree_check.f, hxe]; rw [show ((([] : List S63).length : Nat) : Int) = 0 from rfl] at hk; rw [hk]; rfl)
  have hrc (r : Int × Int) (hr : Ev (fun k => tendrilref11_Check.l0 k L L.length ((0 : Nat) : Int)) r) : Ev (fun k => tendrilref11_Check.f k x.f0 x.f1 x.f2 x.f3 x.f4) r := hit.via0 hr (fun k hk => by rw [tendrilref11_Check.f, hk]; rfl)
  cases hr : r.1 with
  | true =>
    obtain ⟨y1, y2, y3, _⟩ := s.yes hr
    simp only [List.nil_append] at y1 y2 y3
    have hz : r.2.2.2 = 0 := by rw [y1]
    have hcl : Ev (fun k => tendrilref11_Check.l0 k L L.length (L.length : Int)) (0, 0) := (Ev.pure _).step (fun k => by rw [tendrilref11_Check.l0, if_neg (by omega)])
    exact ⟨L, (0, 0), hit, hlen, s.sm, hchk.via0 (Ev.pure _) (fun k hk => by rw [vtree_Check.f, hk, Option.bind_some, if_pos hz]), hrc _ (chk_upto L hlen s.sm L.length (fun i hi => y3 i (by simp) hi) _ hcl L.length 0 (by omega) (by omega)), .inl ⟨rfl, y2, fun i hi => y3 i (by simp) hi⟩⟩
  | false =>
    obtain ⟨p, p1, p2, p3, p4, p5⟩ := s.no hr
    simp only [List.nil_append] at p3 p4 p5
    have hne := bad_ne p5
    exact ⟨L, (p, r.2.2.2), hit, hlen, s.sm, hchk.via0 (Ev.pure _) (fun k hk => by rw [vtree_Check.f, hk, Option.bind_some, if_neg hne, p1]), hrc _ (chk_upto L hlen s.sm p (fun i hi => p4 i (by simp) hi) _ (chk_bad L hlen s.sm p _ p5) p 0 (by omega) (by omega)), .inr ⟨hne, p, p3, fun i hi => p4 i (by simp) hi, p5⟩⟩
end Go.Proofs.Ytcebfldagnjddaa.Pure
/- The rows of a tree, and its items: what put and the items' list come to. -/
namespace Go.Proofs.Ytcebfldagnjddaa.Pure
open Go.RowKit Go.Proofs.Ytcebfldagnjddaa.G Go.Proofs.YtcebfldagnjddaaW.PrintWords Go.Proofs.YtcebfldagnjddaaW.PrintLast
set_option linter.unusedVariables false
mutual
/-- The rows of a tree that stands behind so many rows, under a handle. -/
def rowsT : S25 → Int → Int → List S53
  | ⟨a, b, c, d, ks⟩, at_, up => ⟨0, up, a, b, c, d⟩ :: rowsL ks (at_ + 1) (at_ + 1)
def rowsL : List S25 → Int → Int → List S53
  | [], _, _ => []
  | y :: ys, at_, up => rowsT y at_ up ++ rowsL ys (at_ + szT y) up
end
mutual
/-- The items of a tree. -/
def itemsT : S25 → Int → Int → Int → List S63
  | ⟨a, b, c, d, ks⟩, dp, at_, up => ⟨⟨a, b, c, d, ks⟩, dp, up⟩ :: itemsL ks (dp + 1) (at_ + 1) at_
def itemsL : List S25 → Int → Int → Int → List S63
  | [], _, _, _ => []
  | y :: ys, dp, at_, up => itemsT y dp at_ up ++ itemsL ys dp (at_ + szT y) up
end
theorem rowsT_eq (x : S25) (at_ up : Int) : rowsT x at_ up = rowOf x up :: rowsL x.f4 (at_ + 1) (at_ + 1) := by cases x; rw [rowsT]; rfl
theorem itemsT_eq (x : S25) (dp at_ up : Int) : itemsT x dp at_ up = ⟨x, dp, up⟩ :: itemsL x.f4 (dp + 1) (at_ + 1) at_ := by cases x; rw [itemsT]
theorem rowsL_len (ks : List S25) (h : ∀ y ∈ ks, ∀ at_ up, ((rowsT y at_ up).length : Int) = szT y) : ∀ at_ up, ((rowsL ks at_ up).length : Int) = szL ks := by
  induction ks with
  | nil => intro at_ up; rfl
  | cons y ys ih =>
    intro at_ up
    rw [rowsL, szL, List.length_append]
    have h1 := h y (by simp) at_ up
    have h2 := ih (fun z hz => h z (by simp [hz])) (at_ + szT y) up
    omega
theorem rowsT_len (x : S25) (h : Sm25 x) : ∀ at_ up, ((rowsT x at_ up).length : Int) = szT x := by
  induction h with
  | @mk x h0 h1 h2 h3 h4 h5 ih =>
    intro at_ up
    rw [rowsT_eq, szT_eq, List.length_cons]
    have := rowsL_len x.f4 ih (at_ + 1) (at_ + 1)
    omega
theorem itemsL_len (ks : List S25) (h : ∀ y ∈ ks, ∀ dp at_ up, ((itemsT y dp at_ up).length : Int) = szT y) : ∀ dp at_ up, ((itemsL ks dp at_ up).length : Int) = szL ks := by
  induction ks with
  | nil => intro dp at_ up; rfl
  | cons y ys ih =>
    intro dp at_ up
    rw [itemsL, szL, List.length_append]
    have h1 := h y (by simp) dp at_ up
    have h2 := ih (fun z hz => h z (by simp [hz])) dp (at_ + szT y) up
    omega
theorem itemsT_len (x : S25) (h : Sm25 x) : ∀ dp at_ up, ((itemsT x dp at_ up).length : Int) = szT x := by
  induction h with
  | @mk x h0 h1 h2 h3 h4 h5 ih =>
    intro dp at_ up
    rw [itemsT_eq, szT_eq, List.length_cons]
    have := itemsL_len x.f4 ih (dp + 1) (at_ + 1) at_
    omega
def PutT (x : S25) : Prop := FewA x → ∀ (l : List S53) (up : Int), (l.length : Int) + szT x ≤ 1000000 → Ev (fun k => put1 k l x up) (l ++ rowsT x l.length up)
theorem puts_L (ks : List S25) (hs : ∀ y ∈ ks, Sm25 y) (ha : ∀ y ∈ ks, FewA y) (hp : ∀ y ∈ ks, PutT y) : ∀ (l : List S53) (up : Int), (l.length : Int) + szL ks ≤ 1000000 → Ev (fun k => puts k l ks up) (l ++ rowsL ks l.length up) := by
  induction ks with
  | nil => intro l up hl; exact (Ev.pure _).step (fun k => by rw [puts, rowsL, List.append_nil])
  | cons y ys ih =>
    intro l up hl
    rw [szL] at hl
    have p1 := pos_of y (hs y (by simp))
    have p2 := posL ys (fun z hz => hs z (by simp [hz]))
    have e1 := hp y (by simp) (ha y (by simp)) l up (by omega)
    have hlen := rowsT_len y (hs y (by simp)) l.length up
    have hcast : ((l ++ rowsT y l.length up).length : Int) = l.length + szT y := by rw [List.length_append]; omega
    have e2 := ih (fun z hz => hs z (by simp [hz])) (fun z hz => ha z (by simp [hz])) (fun z hz => hp z (by simp [hz])) (l ++ rowsT y l.length up) up (by omega)
    rw [hcast] at e2
    rw [rowsL, ← List.append_assoc]
    exact e1.via e2 (fun k hk => by rw [puts_cons, hk]; rfl)
theorem put_T (x : S25) (h : Sm25 x) : PutT x := by
  induction h with
  | @mk x h0 h1 h2 h3 h4 h5 ih =>
    intro ha l up hl
    rw [szT_eq] at hl
    have p2 := posL x.f4 h5
    have hk : x.f4.length ≤ 1000000000 := by
      have hge (ks : List S25) (hk : ∀ y ∈ ks, Sm25 y) : (ks.length : Int) ≤ szL ks := by
        induction ks with
        | nil => simp [szL]
        | cons y ys ih2 =>
          have a := pos_of y (hk y (by simp))
          have b := ih2 (fun z hz => hk z (by simp [hz]))
          rw [szL, List.length_cons]
          omega
      have := hge x.f4 h5
      omega
    have e := puts_L x.f4 h5 ha.h4 ih (l ++ [rowOf x up]) ((l.length : Int) + 1) (by rw [List.length_append, List.length_singleton]; omega)
    rw [List.length_append, List.length_singleton] at e
    rw [rowsT_eq, ← List.singleton_append, ← List.append_assoc]
    exact e.eq (fun k => by rw [put1, if_pos ⟨by omega, ha.h3, hk⟩])
def ItT (x : S25) : Prop := ∀ (l : List S63) (dp up : Int), (l.length : Int) + szT x ≤ 4097 → dp + htT x ≤ 66 → Ev (fun k => blw1 k l x dp up) (l ++ itemsT x dp l.length up)
theorem its_L (ks : List S25) (hs : ∀ y ∈ ks, Sm25 y) (hp : ∀ y ∈ ks, ItT y) : ∀ (l : List S63) (dp up : Int), (l.length : Int) + szL ks ≤ 4097 → dp + htL ks ≤ 66 → Ev (fun k => blw k l ks dp up) (l ++ itemsL ks dp l.length up) := by
  induction ks with
  | nil => intro l dp up hl hd; exact (Ev.pure _).step (fun k => by rw [blw, itemsL, List.append_nil])
  | cons y ys ih =>
    intro l dp up hl hd
    rw [szL] at hl
    rw [htL] at hd
    have p1 := pos_of y (hs y (by simp))
    have p2 := posL ys (fun z hz => hs z (by simp [hz]))
    have e1 := hp y (by simp) l dp up (by omega) (by omega)
    have hlen := itemsT_len y (hs y (by simp)) dp l.length up
    have hcast : ((l ++ itemsT y dp l.length up).length : Int) = l.length + szT y := by rw [List.length_append]; omega
    have e2 := ih (fun z hz => hs z (by simp [hz])) (fun z hz => hp z (by simp [hz])) (l ++ itemsT y dp l.length up) dp up (by omega) (by omega)
    rw [hcast] at e2
    rw [itemsL, ← List.append_assoc]
    exact e1.via e2 (fun k hk => by rw [blw_cons, if_neg (by omega), hk]; rfl)
theorem its_T (x : S25) (h : Sm25 x) : ItT x := by
  induction h with
  | @mk x h0 h1 h2 h3 h4 h5 ih =>
    intro l dp up hl hd
    rw [szT_eq] at hl
    rw [htT_eq] at hd
    have p2 := posL x.f4 h5
    by_cases c : dp > 64
    · have hk : x.f4 = [] := by
        cases hf : x.f4 with
        | nil => rfl
        | cons y ys =>
          rw [hf] at hd h5
          have := pos_of y (h5 y (by simp))
          rw [htL] at hd
          omega
      refine (Ev.pure _).eq (fun k => ?_)
      rw [blw1, if_neg (by omega), if_pos c, itemsT_eq, hk, itemsL]
    have e := its_L x.f4 h5 ih (l ++ [⟨x, dp, up⟩]) (dp + 1) (l.length : Int) (by rw [List.length_append, List.length_singleton]; omega) (by omega)
    rw [List.length_append, List.length_singleton] at e
    rw [itemsT_eq, ← List.singleton_append, ← List.append_assoc]
    exact e.eq (fun k => by rw [blw1, if_neg (by omega), if_neg c])
theorem rowI_L (ks : List S25) (h : ∀ y ∈ ks, Sm25 y) (hp : ∀ y ∈ ks, ∀ dp at_ up, 0 ≤ at_ → at_ + szT y ≤ 1000000 → -1 ≤ up → up ≤ 1000000 → (itemsT y dp at_ up).map rowI = rowsT y at_ (up + 1)) :
    ∀ dp at_ up, 0 ≤ at_ → at_ + szL ks ≤ 1000000 → -1 ≤ up → up ≤ 1000000 → (itemsL ks dp at_ up).map rowI = rowsL ks at_ (up + 1) := by
  induction ks with
  | nil => intro dp at_ up _ _ _ _; rfl
  | cons y ys ih =>
    intro dp at_ up h0 h1 h2 h3
    rw [szL] at h1
    have p1 := pos_of y (h y (by simp))
    have p2 := posL ys (fun z hz => h z (by simp [hz]))
    rw [itemsL, rowsL, List.map_append, hp y (by simp) dp at_ up h0 (by omega) h2 h3, ih (fun z hz => h z (by simp [hz])) (fun z hz => hp z (by simp [hz])) dp (at_ + szT y) up (by omega) (by omega) h2 h3]
theorem rowI_T (x : S25) (h : Sm25 x) : ∀ dp at_ up, 0 ≤ at_ → at_ + szT x ≤ 1000000 → -1 ≤ up → up ≤ 1000000 → (itemsT x dp at_ up).map rowI = rowsT x at_ (up + 1) := by
  induction h with
  | @mk x h0 h1 h2 h3 h4 h5 ih =>
    intro dp at_ up a0 a1 a2 a3
    rw [szT_eq] at a1
    have p2 := posL x.f4 h5
    rw [itemsT_eq, rowsT_eq, List.map_cons, rowI_L x.f4 h5 ih (dp + 1) (at_ + 1) at_ (by omega) (by omega) (by omega) (by omega)]
    congr 1
    unfold rowI rowOf
    rw [w1 (i := up) (by omega) (by omega)]
end Go.Proofs.Ytcebfldagnjddaa.Pure
/- Attributes and rows that are alike: what the plain comparisons say. -/
namespace Go.Proofs.Ytcebfldagnjddaa.Pure
open Go.RowKit Go.Proofs.Ytcebfldagnjddaa.G Go.Proofs.YtcebfldagnjddaaW.PrintWords Go.Proofs.YtcebfldagnjddaaW.PrintLast
set_option linter.unusedVariables false
theorem rd53_mem (l : List S53) (i : Int) (h0 : 0 ≤ i) (h : i < l.length) : rd_T53 l i ∈ l := by
  unfold rd_T53
  rw [List.getD_eq_getElem?_getD, List.getElem?_eq_getElem (by omega)]
  exact List.getElem_mem _
theorem drp53 (xs : List S53) (i : Int) (h0 : 0 ≤ i) (hi : i < xs.length) : xs.drop i.toNat = rd_T53 xs i :: xs.drop (i + 1).toNat := by
  have e : (i + 1).toNat = i.toNat + 1 := by omega
  rw [e, List.drop_eq_getElem_cons (by omega)]
  unfold rd_T53
  rw [List.getD_eq_getElem?_getD, List.getElem?_eq_getElem (by omega)]
  rfl
/-! Attributes that are alike. -/
def atT (x : S69) : List UInt8 × List UInt8 := (x.f0.toList, x.f1.toList)
def attrsEq (a b : List S69) : Bool := a.map atT == b.map atT
theorem drop_T69 (l : List S69) (i : Int) (h0 : 0 ≤ i) (h : i < l.length) : l.drop i.toNat = rd_T69 l i :: l.drop (i + 1).toNat := by
  have e : (i + 1).toNat = i.toNat + 1 := by omega
  rw [e, List.drop_eq_getElem_cons (by omega)]
  unfold rd_T69
  rw [List.getD_eq_getElem?_getD, List.getElem?_eq_getElem (by omega)]
  rfl
theorem attrsA_l0 (a b : List S69) (hl : a.length ≤ 140737488351232) (he : a.length = b.length) (d : Nat) : ∀ i : Int, 0 ≤ i → (a.length : Int) - i = d →
    Ev (fun k => tendrilplain_Attrs.l0 k a b a.length i) (attrsEq (a.drop i.toNat) (b.drop i.toNat)) := by
  induction d with
  | zero =>
    intro i h0 hd
    rw [List.drop_eq_nil_of_le (by omega), List.drop_eq_nil_of_le (by omega)]
    exact (Ev.pure true).step (fun k => by rw [tendrilplain_Attrs.l0, if_neg (by omega)])
  | succ d ih =>
    intro i h0 hd
    have hi : i < (a.length : Int) := by omega
    have hi2 : i < (b.length : Int) := by omega
    have hcons : attrsEq (a.drop i.toNat) (b.drop i.toNat) = ((((rd_T69 a i).f0.toList == (rd_T69 b i).f0.toList) && ((rd_T69 a i).f1.toList == (rd_T69 b i).f1.toList)) && attrsEq (a.drop (i + 1).toNat) (b.drop (i + 1).toNat)) := by
      rw [drop_T69 a i h0 hi, drop_T69 b i h0 hi2]
      rfl
    rw [hcons]
    by_cases c : ((rd_T69 a i).f0.toList == (rd_T69 b i).f0.toList && (rd_T69 a i).f1.toList == (rd_T69 b i).f1.toList) = true
    · rw [c, Bool.true_and]
      refine (ih (i + 1) (by omega) (by omega)).step (fun k => ?_)
      rw [tendrilplain_Attrs.l0, if_pos hi, if_pos h0, if_pos hi, if_pos hi2, if_neg (by rw [Bool.and_eq_true] at c; rw [c.1, c.2]; decide), w1 (by omega) (by omega)]
    · have c' : ((rd_T69 a i).f0.toList == (rd_T69 b i).f0.toList && (rd_T69 a i).f1.toList == (rd_T69 b i).f1.toList) = false := by simpa using c
      rw [c', Bool.false_and]
      refine (Ev.pure false).step (fun k => ?_)
      rw [tendrilplain_Attrs.l0, if_pos hi, if_pos h0, if_pos hi, if_pos hi2, if_pos (by
        generalize ((rd_T69 a i).f0.toList == (rd_T69 b i).f0.toList) = p at c'
        generalize ((rd_T69 a i).f1.toList == (rd_T69 b i).f1.toList) = q at c'
        revert c'; cases p <;> cases q <;> decide)]
theorem attrsEq_len {a b : List S69} (h : a.length ≠ b.length) : attrsEq a b = false := by
  unfold attrsEq
  rw [beq_eq_false_iff_ne]
  intro e
  have := congrArg List.length e
  simp at this
  exact h this
theorem attrsA (a b : List S69) (hl : a.length ≤ 140737488351232) : Ev (fun k => tendrilplain_Attrs.f k a b) (attrsEq a b) := by
  by_cases he : a.length = b.length
  · exact (attrsA_l0 a b hl he a.length 0 (by omega) (by omega)).eq (fun k => by rw [tendrilplain_Attrs.f, if_pos (by omega)])
  · rw [attrsEq_len he]
    exact (Ev.pure false).eq (fun k => by rw [tendrilplain_Attrs.f, if_neg (by omega)])
/-! Rows that are alike. -/
def rowEq (x y : S53) : Bool := decide (x.f1 = y.f1) && decide (x.f2.toList = y.f2.toList) && decide (x.f3.toList = y.f3.toList) && decide (x.f4.toList = y.f4.toList) && attrsEq x.f5 y.f5
def rowsEq : List S53 → List S53 → Bool
  | x :: xs, y :: ys => rowEq x y && rowsEq xs ys
  | [], [] => true
  | _, _ => false
theorem attrsEq_refl (a : List S69) : attrsEq a a = true := by unfold attrsEq; exact beq_self_eq_true _
theorem rowEq_refl (x : S53) : rowEq x x = true := by simp [rowEq, attrsEq_refl]
theorem rowsEq_refl : ∀ l : List S53, rowsEq l l = true
  | [] => rfl
  | x :: xs => by rw [rowsEq, rowEq_refl, rowsEq_refl xs]; rfl
theorem rowsEq_len : ∀ {a b : List S53}, a.length ≠ b.length → rowsEq a b = false
  | [], [], h => absurd rfl h
  | [], _ :: _, _ => rfl
  | _ :: _, [], _ => rfl
  | x :: xs, y :: ys, h => by rw [rowsEq, rowsEq_len (a := xs) (b := ys) (by simpa using h), Bool.and_false]
theorem shapes_l0 (a b : List S53) (hl : a.length * 88 ≤ 140737488351232) (hs : ∀ y ∈ a, Sm53 y) (he : a.length = b.length) (d : Nat) : ∀ i : Int, 0 ≤ i → (a.length : Int) - i = d →
    Ev (fun k => tendrilplain_Shapes.l0 k a b a.length i) (rowsEq (a.drop i.toNat) (b.drop i.toNat)) := by
  induction d with
  | zero =>
    intro i h0 hd
    rw [List.drop_eq_nil_of_le (by omega), List.drop_eq_nil_of_le (by omega)]
    exact (Ev.pure true).step (fun k => by rw [tendrilplain_Shapes.l0, if_neg (by omega)])
  | succ d ih =>
    intro i h0 hd
    have hi : i < (a.length : Int) := by omega
    have hi2 : i < (b.length : Int) := by omega
    have hm := hs _ (rd53_mem a i h0 hi)
    rw [drp53 a i h0 hi, drp53 b i h0 hi2, rowsEq]
    have ih' := ih (i + 1) (by omega) (by omega)
    have ha : Ev (fun k => tendrilplain_Attrs.f k (rd_T53 a i).f5 (rd_T53 b i).f5) (attrsEq (rd_T53 a i).f5 (rd_T53 b i).f5) := attrsA _ _ (by have := hm.h5.1; omega)
    generalize hx : rd_T53 a i = x at *
    generalize hy : rd_T53 b i = y at *
    unfold rowEq
    by_cases c1 : x.f1 = y.f1
    case neg => exact (Ev.pure _).step (fun k => by rw [tendrilplain_Shapes.l0, if_pos hi, if_pos h0, if_pos hi, if_pos hi2, hx, hy, if_neg c1, decide_eq_false c1]; rfl)
    by_cases c2 : x.f2.toList = y.f2.toList
    case neg => exact (Ev.pure _).step (fun k => by rw [tendrilplain_Shapes.l0, if_pos hi, if_pos h0, if_pos hi, if_pos hi2, hx, hy, if_pos c1, if_neg c2, decide_eq_true c1, decide_eq_false c2]; rfl)
    by_cases c3 : x.f3.toList = y.f3.toList
    case neg => exact (Ev.pure _).step (fun k => by rw [tendrilplain_Shapes.l0, if_pos hi, if_pos h0, if_pos hi, if_pos hi2, hx, hy, if_pos c1, if_pos c2, if_neg c3, decide_eq_true c1, decide_eq_true c2, decide_eq_false c3]; rfl)
    by_cases c4 : x.f4.toList = y.f4.toList
    case neg => exact (Ev.pure _).step (fun k => by rw [tendrilplain_Shapes.l0, if_pos hi, if_pos h0, if_pos hi, if_pos hi2, hx, hy, if_pos c1, if_pos c2, if_pos c3, if_neg c4, decide_eq_true c1, decide_eq_true c2, decide_eq_true c3, decide_eq_false c4]; rfl)
    rw [decide_eq_true c1, decide_eq_true c2, decide_eq_true c3, decide_eq_true c4]
    simp only [Bool.and_self, Bool.true_and]
    by_cases c : attrsEq x.f5 y.f5 = true
    · rw [c, Bool.true_and]
      exact ha.via ih' (fun k hk => by rw [tendrilplain_Shapes.l0, if_pos hi, if_pos h0, if_pos hi, if_pos hi2, hx, hy, if_pos c1, if_pos c2, if_pos c3, if_pos c4, hk, c, w1 (by omega) (by omega)]; rfl)
    · have c' : attrsEq x.f5 y.f5 = false := by simpa using c
      rw [c', Bool.false_and]
      exact ha.via (Ev.pure false) (fun k hk => by rw [tendrilplain_Shapes.l0, if_pos hi, if_pos h0, if_pos hi, if_pos hi2, hx, hy, if_pos c1, if_pos c2, if_pos c3, if_pos c4, hk, c']; rfl)
theorem shapes_ev (a b : List S53) (hl : a.length * 88 ≤ 140737488351232) (hs : ∀ y ∈ a, Sm53 y) : Ev (fun k => tendrilplain_Shapes.f k a b) (rowsEq a b) := by
  by_cases he : a.length = b.length
  · exact (shapes_l0 a b hl hs he a.length 0 (by omega) (by omega)).eq (fun k => by rw [tendrilplain_Shapes.f, if_pos (by omega)])
  · rw [rowsEq_len he]
    exact (Ev.pure false).eq (fun k => by rw [tendrilplain_Shapes.f, if_neg (by omega)])
theorem same_ev : Ev (fun k => tendrillaw13_same.f k) true := Ev.of (fun k => tendrillaw13_same.mono k) (k := 40) (by decide +kernel)
end Go.Proofs.Ytcebfldagnjddaa.Pure
/- Rows that stand as a tree's do: what formed tells; a tree's own rows stand so; what is built of them. -/
namespace Go.Proofs.Ytcebfldagnjddaa.Pure
open Go.RowKit Go.Proofs.Ytcebfldagnjddaa.G Go.Proofs.YtcebfldagnjddaaW.PrintWords Go.Proofs.YtcebfldagnjddaaW.PrintLast
set_option linter.unusedVariables false
/-- The handle that stands above one. -/
def upOf (l : List S53) (h : Int) : Int := (rd_T53 l (h - 1)).f1
/-- A handle is one, or stands above it. -/
inductive An (l : List S53) (u : Int) : Int → Prop
  | self : 0 < u → An l u u
  | up {x : Int} : 0 < x → An l u (upOf l x) → An l u x
/-- A row stands as a tree's does. -/
def GoodRow (l : List S53) (i : Int) : Prop := (i = 0 ∧ upOf l (i + 1) = 0) ∨ (0 < i ∧ An l (upOf l (i + 1)) i)
def GoodTo (l : List S53) (n : Int) : Prop := ∀ i, 0 ≤ i → i < n → GoodRow l i
theorem An.pos {l : List S53} {u x : Int} (h : An l u x) : 0 < u ∧ 0 < x := by
  induction h with
  | self h => exact ⟨h, h⟩
  | up hx _ ih => exact ⟨ih.1, hx⟩
theorem An.le_of {l : List S53} {u x n : Int} (hu : ∀ y, 0 < y → y ≤ n → upOf l y < y) (h : An l u x) (hx : x ≤ n) : u ≤ x := by
  induction h with
  | self h => exact Int.le_refl _
  | @up x h0 _ ih =>
    have := hu x h0 hx
    have := ih (by omega)
    omega
theorem up_lt {l : List S53} {n : Int} (hg : GoodTo l n) (d : Nat) : ∀ x : Int, x.toNat = d → 0 < x → x ≤ n → 0 ≤ upOf l x ∧ upOf l x < x := by
  induction d using Nat.strongRecOn with
  | _ d ih =>
    intro x hd h0 hn
    have h := hg (x - 1) (by omega) (by omega)
    unfold GoodRow at h
    rw [show x - 1 + 1 = x by omega] at h
    rcases h with ⟨h1, h2⟩ | ⟨h1, h2⟩
    · omega
    · have hp := h2.pos
      have hl := h2.le_of (n := x - 1) (fun y hy hy2 => (ih y.toNat (by omega) y rfl hy (by omega)).2) (Int.le_refl _)
      omega
theorem GoodTo.up {l : List S53} {n : Int} (hg : GoodTo l n) {x : Int} (h0 : 0 < x) (hn : x ≤ n) : 0 ≤ upOf l x ∧ upOf l x < x := up_lt hg x.toNat x rfl h0 hn
theorem GoodTo.succ {l : List S53} {n : Int} (hg : GoodTo l n) (h : GoodRow l n) : GoodTo l (n + 1) := fun i h0 h1 => by
  rcases Int.lt_or_eq_of_le (show i ≤ n by omega) with h2 | rfl
  · exact hg i h0 h2
  · exact h
theorem An.step {l : List S53} {u x : Int} (h : An l u x) (hne : u ≠ x) : An l u (upOf l x) := by
  cases h with
  | self h => exact absurd rfl hne
  | up _ h => exact h
/-! What formed tells. -/
theorem formed_l1 (l : List S53) (hl : (l.length : Int) ≤ 1000000000) (i : Int) (h0 : 0 ≤ i) (hi : i < l.length) (hg : GoodTo l i) (d : Nat) : ∀ x : Int, x.toNat = d → 0 ≤ x → x ≤ i →
    ((i = 0 ∧ upOf l (i + 1) = 0 ∨ 0 < i ∧ An l (upOf l (i + 1)) x) → ∀ r, Ev (fun k => flat_formed.l0 k l l l.length (i + 1)) r → Ev (fun k => flat_formed.l1 k l i x l l.length i (rd_T53 l i).f0 (rd_T53 l i).f1 (rd_T53 l i).f2 (rd_T53 l i).f3 (rd_T53 l i).f4 (rd_T53 l i).f5) r) ∧
    (¬ (i = 0 ∧ upOf l (i + 1) = 0 ∨ 0 < i ∧ An l (upOf l (i + 1)) x) → Ev (fun k => flat_formed.l1 k l i x l l.length i (rd_T53 l i).f0 (rd_T53 l i).f1 (rd_T53 l i).f2 (rd_T53 l i).f3 (rd_T53 l i).f4 (rd_T53 l i).f5) false) := by
  have hup : upOf l (i + 1) = (rd_T53 l i).f1 := by unfold upOf; rw [show i + 1 - 1 = i by omega]
  induction d using Nat.strongRecOn with
  | _ d ih =>
    intro x hd hx0 hxi
    generalize hu : (rd_T53 l i).f1 = u at *
    rw [hup] at *
    by_cases c0 : x = 0
    · subst c0
      by_cases c1 : (0 : Int) = u
      · subst c1
        by_cases c2 : i = 0
        · subst c2
          refine ⟨fun _ r hr => hr.step (fun k => ?_), fun h => absurd (.inl ⟨rfl, rfl⟩) h⟩
          rw [flat_formed.l1, if_pos rfl, if_pos rfl, if_neg (by decide), w1 (by omega) (by omega)]
        · refine ⟨fun h => ?_, fun _ => (Ev.pure false).step (fun k => ?_)⟩
          · rcases h with h | h
            · omega
            · have := h.2.pos; omega
          · rw [flat_formed.l1, if_pos rfl, if_pos rfl, if_pos (by rw [show (i == 0) = false by simpa using c2]; decide)]
      · refine ⟨fun h => ?_, fun _ => (Ev.pure false).step (fun k => by rw [flat_formed.l1, if_pos rfl, if_neg c1])⟩
        rcases h with h | h
        · omega
        · have := h.2.pos; omega
    · have c0b : (x == 0) = false := by simpa using c0
      have hib : (i == 0) = false := by simp; omega
      by_cases c1 : x = u
      · refine ⟨fun _ r hr => hr.step (fun k => ?_), fun h => absurd (.inr ⟨by omega, by rw [← c1]; exact An.self (by omega)⟩) h⟩
        rw [flat_formed.l1, if_neg c0, if_pos c1, if_neg (by rw [c0b, hib]; decide), w1 (by omega) (by omega)]
      · have hx := hg.up (x := x) (by omega) hxi
        obtain ⟨ih1, ih2⟩ := ih (upOf l x).toNat (by omega) (upOf l x) rfl hx.1 (by omega)
        have e : ∀ k, flat_formed.l1 (k + 1) l i x l l.length i (rd_T53 l i).f0 u (rd_T53 l i).f2 (rd_T53 l i).f3 (rd_T53 l i).f4 (rd_T53 l i).f5 = flat_formed.l1 k l i (upOf l x) l l.length i (rd_T53 l i).f0 u (rd_T53 l i).f2 (rd_T53 l i).f3 (rd_T53 l i).f4 (rd_T53 l i).f5 := by
          intro k
          rw [flat_formed.l1, if_neg c0, if_neg c1, wm (by omega) (by omega), if_pos (by omega), if_pos (by omega)]
          rfl
        have hiff : (i = 0 ∧ u = 0 ∨ 0 < i ∧ An l u x) ↔ (i = 0 ∧ u = 0 ∨ 0 < i ∧ An l u (upOf l x)) := by
          constructor
          · rintro (h | h)
            · exact .inl h
            · exact .inr ⟨h.1, h.2.step (fun e => c1 e.symm)⟩
          · rintro (h | h)
            · exact .inl h
            · exact .inr ⟨h.1, .up (by omega) h.2⟩
        rw [hiff]
        exact ⟨fun h r hr => (ih1 h r hr).step e, fun h => (ih2 h).step e⟩
theorem formed_l0 (l : List S53) (hl : (l.length : Int) ≤ 1000000000) (d : Nat) : ∀ i : Int, 0 ≤ i → (l.length : Int) - i = d → GoodTo l i → ∃ b, Ev (fun k => flat_formed.l0 k l l l.length i) b ∧ (b = true ↔ GoodTo l l.length) := by
  induction d with
  | zero =>
    intro i h0 hd hg
    obtain rfl : i = l.length := by omega
    exact ⟨true, (Ev.pure true).step (fun k => by rw [flat_formed.l0, if_neg (by omega)]), by simp [hg]⟩
  | succ d ih =>
    intro i h0 hd hg
    have hi : i < l.length := by omega
    obtain ⟨f1, f2⟩ := formed_l1 l hl i h0 hi hg i.toNat i rfl h0 (Int.le_refl _)
    have e : ∀ k, flat_formed.l0 (k + 1) l l l.length i = flat_formed.l1 k l i i l l.length i (rd_T53 l i).f0 (rd_T53 l i).f1 (rd_T53 l i).f2 (rd_T53 l i).f3 (rd_T53 l i).f4 (rd_T53 l i).f5 := fun k => by rw [flat_formed.l0, if_pos hi, if_pos h0, if_pos hi]
    by_cases c : GoodRow l i
    · obtain ⟨b, hb, hbi⟩ := ih (i + 1) (by omega) (by omega) (hg.succ c)
      exact ⟨b, (f1 c _ hb).step e, hbi⟩
    · exact ⟨false, (f2 c).step e, by simp; exact fun h => c (h i h0 hi)⟩
theorem formed_ev (l : List S53) (hl : (l.length : Int) ≤ 1000000000) : ∃ b, Ev (fun k => flat_formed.f k l) b ∧ (b = true ↔ GoodTo l l.length) := by
  obtain ⟨b, hb, hi⟩ := formed_l0 l hl l.length 0 (by omega) (by omega) (fun i h0 h1 => by omega)
  exact ⟨b, hb, hi⟩
/-! A tree's own rows stand so. -/
theorem rd_drop {l r : List S53} {at_ : Int} {y : S53} (h0 : 0 ≤ at_) (h : l.drop at_.toNat = y :: r) : rd_T53 l at_ = y ∧ at_ < l.length ∧ l.drop (at_ + 1).toNat = r := by
  have hlt : at_.toNat < l.length := by
    rcases Nat.lt_or_ge at_.toNat l.length with h1 | h1
    · exact h1
    · rw [List.drop_eq_nil_of_le h1] at h; cases h
  rw [drp53 l at_ h0 (by omega)] at h
  injection h with h1 h2
  exact ⟨h1, by omega, h2⟩
theorem drop_app {l r s : List S53} {at_ n : Int} (h0 : 0 ≤ at_) (h : l.drop at_.toNat = r ++ s) (hn : (r.length : Int) = n) : l.drop (at_ + n).toNat = s := by
  rw [show (at_ + n).toNat = at_.toNat + r.length by omega, ← List.drop_drop, h, List.drop_left]
def GT (x : S25) : Prop := ∀ (L : List S53) (at_ up : Int) (post : List S53), 0 ≤ at_ → L.drop at_.toNat = rowsT x at_ up ++ post → (at_ = 0 ∧ up = 0 ∨ 0 < at_ ∧ An L up at_) →
  (∀ i, at_ ≤ i → i < at_ + szT x → GoodRow L i) ∧ (∀ u, An L u (at_ + 1) → An L u (at_ + szT x))
theorem good_L (ks : List S25) (hs : ∀ y ∈ ks, Sm25 y) (hp : ∀ y ∈ ks, GT y) : ∀ (L : List S53) (at_ h : Int) (post : List S53), 0 < at_ → L.drop at_.toNat = rowsL ks at_ h ++ post → 0 < h → (∀ u, An L u h → An L u at_) →
    (∀ i, at_ ≤ i → i < at_ + szL ks → GoodRow L i) ∧ (∀ u, An L u h → An L u (at_ + szL ks)) := by
  induction ks with
  | nil =>
    intro L at_ h post h0 hd hh hu
    rw [szL]
    exact ⟨fun i h1 h2 => by omega, fun u hx => by rw [Int.add_zero]; exact hu u hx⟩
  | cons y ys ih =>
    intro L at_ h post h0 hd hh hu
    rw [rowsL, List.append_assoc] at hd
    obtain ⟨g1, g2⟩ := hp y (by simp) L at_ h _ (by omega) hd (.inr ⟨h0, hu h (.self hh)⟩)
    have p1 := pos_of y (hs y (by simp))
    have hd2 := drop_app (by omega) hd (rowsT_len y (hs y (by simp)) at_ h)
    have hup : upOf L (at_ + 1) = h := by
      rw [rowsT_eq, List.cons_append] at hd
      unfold upOf
      rw [show at_ + 1 - 1 = at_ by omega, (rd_drop (by omega) hd).1]
      rfl
    have hu2 : ∀ u, An L u h → An L u (at_ + szT y) := fun u hx => g2 u (.up (by omega) (by rw [hup]; exact hx))
    obtain ⟨g3, g4⟩ := ih (fun z hz => hs z (by simp [hz])) (fun z hz => hp z (by simp [hz])) L (at_ + szT y) h post (by omega) hd2 hh hu2
    rw [szL]
    refine ⟨fun i h1 h2 => ?_, fun u hx => by rw [show at_ + (szT y + szL ys) = at_ + szT y + szL ys by omega]; exact g4 u hx⟩
    by_cases c : i < at_ + szT y
    · exact g1 i h1 c
    · exact g3 i (by omega) (by omega)
theorem good_T (x : S25) (h : Sm25 x) : GT x := by
  induction h with
  | @mk x h0 h1 h2 h3 h4 h5 ih =>
    intro L at_ up post ha hd hc
    rw [rowsT_eq, List.cons_append] at hd
    obtain ⟨r1, r2, r3⟩ := rd_drop ha hd
    have hup : upOf L (at_ + 1) = up := by
      unfold upOf
      rw [show at_ + 1 - 1 = at_ by omega, r1]
      rfl
    obtain ⟨g1, g2⟩ := good_L x.f4 h5 ih L (at_ + 1) (at_ + 1) post (by omega) r3 (by omega) (fun u hu => hu)
    rw [szT_eq]
    refine ⟨fun i h1 h2 => ?_, fun u hu => by rw [show at_ + (1 + szL x.f4) = at_ + 1 + szL x.f4 by omega]; exact g2 u hu⟩
    rcases Int.lt_or_eq_of_le h1 with h3 | rfl
    · exact g1 i (by omega) (by omega)
    · unfold GoodRow
      rw [hup]
      exact hc
theorem good_rows (x : S25) (h : Sm25 x) : GoodTo (rowsT x 0 0) (rowsT x 0 0).length := by
  have hl := rowsT_len x h 0 0
  have := (good_T x h (rowsT x 0 0) 0 0 [] (by omega) (by simp) (.inl ⟨rfl, rfl⟩)).1
  intro i h0 h1
  exact this i h0 (by omega)
/-! What is built of a tree's rows. -/
def BD (x : S25) : Prop := ∀ (L : List S53) (at_ up : Int) (post : List S53), (L.length : Int) ≤ 1000000 → 0 ≤ at_ → L.drop at_.toNat = rowsT x at_ up ++ post → (∀ y, post.head? = some y → y.f1 ≤ at_) →
  Ev (fun k => flat_build.f k L at_) (x.f0, x.f1, x.f2, x.f3, x.f4, at_ + szT x)
theorem build_L (ks : List S25) (hs : ∀ y ∈ ks, Sm25 y) (hp : ∀ y ∈ ks, BD y) (a b c : ByteArray) (d : List S69) : ∀ (L : List S53) (at_ nx : Int) (done : List S25) (post : List S53), (L.length : Int) ≤ 1000000 → 0 ≤ at_ → at_ < nx → (done.length : Int) ≤ nx → L.drop nx.toNat = rowsL ks nx (at_ + 1) ++ post → (∀ y, post.head? = some y → y.f1 ≤ at_) →
    Ev (fun k => flat_build.l0 k L at_ nx a b c d done) (a, b, c, d, done ++ ks, nx + szL ks) := by
  induction ks with
  | nil =>
    intro L at_ nx done post hL h0 h1 hdn hd hpost
    rw [rowsL, List.nil_append] at hd
    rw [szL, Int.add_zero, List.append_nil]
    by_cases c1 : nx < L.length
    · refine (Ev.pure _).step (fun k => ?_)
      cases hpp : post with
      | nil =>
        rw [hpp] at hd
        have := List.drop_eq_nil_iff.1 hd
        omega
      | cons y ys =>
        rw [hpp] at hd
        obtain ⟨r1, _, _⟩ := rd_drop (by omega) hd
        have := hpost y (by rw [hpp]; rfl)
        rw [flat_build.l0, if_pos c1, if_pos (by omega), r1, w1 (by omega) (by omega), if_neg (by omega)]
    · exact (Ev.pure _).step (fun k => by rw [flat_build.l0, if_neg c1])
  | cons y ys ih =>
    intro L at_ nx done post hL h0 h1 hdn hd hpost
    rw [rowsL, List.append_assoc] at hd
    have p1 := pos_of y (hs y (by simp))
    have hd2 := drop_app (by omega) hd (rowsT_len y (hs y (by simp)) nx (at_ + 1))
    have hrow : (rd_T53 L nx).f1 = at_ + 1 ∧ nx < L.length := by
      rw [rowsT_eq, List.cons_append] at hd
      obtain ⟨r1, r2, _⟩ := rd_drop (by omega) hd
      exact ⟨by rw [r1]; rfl, r2⟩
    have hb := hp y (by simp) L nx (at_ + 1) _ hL (by omega) hd (by
      intro z hz
      cases ys with
      | nil =>
        rw [rowsL, List.nil_append] at hz
        have := hpost z hz
        omega
      | cons w ws =>
        rw [rowsL, rowsT_eq] at hz
        simp only [List.cons_append, List.head?_cons, Option.some.injEq] at hz
        subst hz
        show at_ + 1 ≤ nx
        omega)
    have hr := ih (fun z hz => hs z (by simp [hz])) (fun z hz => hp z (by simp [hz])) L at_ (nx + szT y) (done ++ [y]) post hL h0 (by omega) (by rw [List.length_append, List.length_singleton]; omega) hd2 hpost
    rw [szL, show nx + (szT y + szL ys) = nx + szT y + szL ys by omega, show done ++ y :: ys = done ++ [y] ++ ys by simp]
    refine hb.via hr (fun k hk => ?_)
    rw [flat_build.l0, if_pos hrow.2, if_pos (by omega), hrow.1, w1 (by omega) (by omega), if_pos rfl, hk, Option.bind_some, if_pos (by omega)]
    cases y
    rfl
theorem build_T (x : S25) (h : Sm25 x) : BD x := by
  induction h with
  | @mk x h0 h1 h2 h3 h4 h5 ih =>
    intro L at_ up post hL ha hd hpost
    rw [rowsT_eq, List.cons_append] at hd
    obtain ⟨r1, r2, r3⟩ := rd_drop ha hd
    have hr := build_L x.f4 h5 ih x.f0 x.f1 x.f2 x.f3 L at_ (at_ + 1) [] post hL ha (by omega) (by simp; omega) r3 hpost
    rw [szT_eq, show at_ + (1 + szL x.f4) = at_ + 1 + szL x.f4 by omega]
    refine Ev.step hr (fun k => ?_)
    rw [flat_build.f, if_pos ha, if_pos r2, r1, w1 (by omega) (by omega)]
    show (api_Attr.f x.f3).bind _ = _
    rw [api_Attr.f, if_pos (by omega)]
    rfl
theorem build_rows (x : S25) (h : Sm25 x) (hz : szT x ≤ 1000000) : Ev (fun k => flat_build.f k (rowsT x 0 0) 0) (x.f0, x.f1, x.f2, x.f3, x.f4, szT x) := by
  have := build_T x h (rowsT x 0 0) 0 0 [] (by rw [rowsT_len x h]; exact hz) (by omega) (by simp) (by simp)
  rwa [Int.zero_add] at this
end Go.Proofs.Ytcebfldagnjddaa.Pure
/- How deep the rows lie; a tree's rows, read back. -/
namespace Go.Proofs.Ytcebfldagnjddaa.Pure
open Go.RowKit Go.Proofs.Ytcebfldagnjddaa.G Go.Proofs.YtcebfldagnjddaaW.PrintWords Go.Proofs.YtcebfldagnjddaaW.PrintLast
set_option linter.unusedVariables false
/-- How deep a handle lies: the root's is 1. -/
inductive Dp (l : List S53) : Int → Int → Prop
  | zero : Dp l 0 0
  | up {x d : Int} : 0 < x → Dp l (upOf l x) d → Dp l x (d + 1)
theorem Dp.nn {l : List S53} {x d : Int} (h : Dp l x d) : 0 ≤ x ∧ 0 ≤ d := by
  induction h with
  | zero => omega
  | up h _ ih => omega
theorem Dp.uniq {l : List S53} {x d : Int} (h : Dp l x d) : ∀ {e : Int}, Dp l x e → d = e := by
  induction h with
  | zero =>
    intro e he
    cases he with
    | zero => rfl
    | up h _ => omega
  | up h _ ih =>
    intro e he
    cases he with
    | zero => omega
    | up _ h2 => rw [ih h2]
theorem Dp.ex {l : List S53} {n : Int} (hg : GoodTo l n) (d : Nat) : ∀ x : Int, x.toNat = d → 0 ≤ x → x ≤ n → ∃ e, Dp l x e ∧ e ≤ x := by
  induction d using Nat.strongRecOn with
  | _ d ih =>
    intro x hd h0 hn
    by_cases c : x = 0
    · subst c; exact ⟨0, .zero, Int.le_refl _⟩
    · have hu := hg.up (x := x) (by omega) hn
      obtain ⟨e, he, hle⟩ := ih (upOf l x).toNat (by omega) (upOf l x) rfl hu.1 (by omega)
      exact ⟨e + 1, .up (by omega) he, by omega⟩
theorem deep_l0 (l : List S53) (hl : (l.length : Int) ≤ 1000000000) (hg : GoodTo l l.length) (d : Nat) : ∀ (i : Int) (arr : List Int), 0 ≤ i → (l.length : Int) - i = d → (arr.length : Int) = l.length + 1 →
    (∀ j, 0 ≤ j → j ≤ i → Dp l j (rd arr j)) → (∀ j e, 0 ≤ j → j ≤ i → Dp l j e → e ≤ 64) →
    ∃ b, Ev (fun k => flat_deep.l0 k l arr l l.length i) b ∧ (b = true ↔ (∃ j e : Int, 0 ≤ j ∧ j ≤ l.length ∧ Dp l j e ∧ e > 64) ∨ (l.length : Int) > 4096) := by
  induction d with
  | zero =>
    intro i arr h0 hd ha hdp hsm
    obtain rfl : i = l.length := by omega
    refine ⟨decide ((l.length : Int) > 4096), (Ev.pure _).step (fun k => by rw [flat_deep.l0, if_neg (by omega)]), ?_⟩
    rw [decide_eq_true_iff]
    constructor
    · exact .inr
    · rintro (⟨j, e, a, b, c, d⟩ | h)
      · have := hsm j e a b c; omega
      · exact h
  | succ d ih =>
    intro i arr h0 hd ha hdp hsm
    have hi : i < l.length := by omega
    have hu := hg.up (x := i + 1) (by omega) (by omega)
    have hup : upOf l (i + 1) = (rd_T53 l i).f1 := by unfold upOf; rw [show i + 1 - 1 = i by omega]
    rw [hup] at hu
    have hDu := hdp _ hu.1 (by omega)
    have hnn := hDu.nn
    obtain ⟨e0, he0, hle0⟩ := Dp.ex hg (rd_T53 l i).f1.toNat _ rfl hu.1 (by omega)
    have hee := hDu.uniq he0
    have hDi : Dp l (i + 1) (rd arr (rd_T53 l i).f1 + 1) := .up (by omega) (by rw [hup]; exact hDu)
    have hw : wrap64 (rd arr (rd_T53 l i).f1 + 1) = rd arr (rd_T53 l i).f1 + 1 := w1 (by omega) (by omega)
    have e : ∀ k, flat_deep.l0 (k + 1) l arr l l.length i = if rd arr (rd_T53 l i).f1 + 1 > 64 then some true else flat_deep.l0 k l (arr.set (i + 1).toNat (rd arr (rd_T53 l i).f1 + 1)) l l.length (i + 1) := by
      intro k
      have hrd : rd (arr.set (i + 1).toNat (rd arr (rd_T53 l i).f1 + 1)) (i + 1) = rd arr (rd_T53 l i).f1 + 1 := by
        unfold rd
        rw [List.getD_eq_getElem?_getD, List.getElem?_set_self (by omega)]
        rfl
      rw [flat_deep.l0, if_pos hi, if_pos h0, if_pos hi, if_pos hu.1, if_pos (by omega), w1 (by omega) (by omega), if_pos (by omega), if_pos (by omega), hw, Option.bind_some, hrd]
    by_cases c : rd arr (rd_T53 l i).f1 + 1 > 64
    · refine ⟨true, (Ev.pure true).step (fun k => by rw [e, if_pos c]), ?_⟩
      simp only [true_iff]
      exact .inl ⟨i + 1, _, by omega, by omega, hDi, c⟩
    · obtain ⟨b, hb, hbi⟩ := ih (i + 1) (arr.set (i + 1).toNat (rd arr (rd_T53 l i).f1 + 1)) (by omega) (by omega) (by rw [List.length_set]; exact ha)
        (fun j j0 j1 => by
          rcases Int.lt_or_eq_of_le j1 with j2 | rfl
          · have : rd (arr.set (i + 1).toNat (rd arr (rd_T53 l i).f1 + 1)) j = rd arr j := by
              unfold rd
              rw [List.getD_eq_getElem?_getD, List.getElem?_set_ne (by omega), ← List.getD_eq_getElem?_getD]
            rw [this]
            exact hdp j j0 (by omega)
          · have : rd (arr.set (i + 1).toNat (rd arr (rd_T53 l i).f1 + 1)) (i + 1) = rd arr (rd_T53 l i).f1 + 1 := by
              unfold rd
              rw [List.getD_eq_getElem?_getD, List.getElem?_set_self (by omega)]
              rfl
            rw [this]
            exact hDi)
        (fun j e j0 j1 he => by
          rcases Int.lt_or_eq_of_le j1 with j2 | rfl
          · exact hsm j e j0 (by omega) he
          · have := hDi.uniq he; omega)
      exact ⟨b, hb.step (fun k => by rw [e, if_neg c]), hbi⟩
theorem deep_ev (l : List S53) (hl : (l.length : Int) ≤ 1000000000) (hg : GoodTo l l.length) : ∃ b, Ev (fun k => flat_deep.f k l) b ∧ (b = true ↔ (∃ j e : Int, 0 ≤ j ∧ j ≤ l.length ∧ Dp l j e ∧ e > 64) ∨ (l.length : Int) > 4096) := by
  have hz : ∀ j, 0 ≤ j → j ≤ (0 : Int) → j = 0 := fun j a b => by omega
  obtain ⟨b, hb, hbi⟩ := deep_l0 l hl hg l.length 0 (List.replicate (l.length + 1) 0) (by omega) (by omega) (by rw [List.length_replicate]; omega)
    (fun j a b => by
      rw [hz j a b]
      have : rd (List.replicate (l.length + 1) 0) 0 = 0 := by unfold rd; rfl
      rw [this]
      exact .zero)
    (fun j e a b he => by
      rw [hz j a b] at he
      have := he.uniq .zero
      omega)
  refine ⟨b, hb.eq (fun k => ?_), hbi⟩
  rw [flat_deep.f, w1 (by omega) (by omega), if_pos (by omega), if_pos (by omega)]
  rw [show ((l.length : Int) + 1).toNat = l.length + 1 by omega]
/-! A tree's rows lie as deep as its items. -/
def DI (x : S25) : Prop := ∀ (L : List S53) (at_ up : Int) (post : List S53) (dp u : Int), 0 ≤ at_ → L.drop at_.toNat = rowsT x at_ up ++ post → Dp L up (dp - 1) →
  ∀ (j : Nat) it, (itemsT x dp at_ u)[j]? = some it → Dp L (at_ + j + 1) it.f1 ∧ it.f1 ≤ dp + htT x - 1
theorem di_L (ks : List S25) (hs : ∀ y ∈ ks, Sm25 y) (hp : ∀ y ∈ ks, DI y) : ∀ (L : List S53) (at_ up : Int) (post : List S53) (dp u : Int), 0 ≤ at_ → L.drop at_.toNat = rowsL ks at_ up ++ post → Dp L up (dp - 1) →
    ∀ (j : Nat) it, (itemsL ks dp at_ u)[j]? = some it → Dp L (at_ + j + 1) it.f1 ∧ it.f1 ≤ dp + htL ks - 1 := by
  induction ks with
  | nil =>
    intro L at_ up post dp u h0 hd hu j it hj
    rw [itemsL] at hj
    simp at hj
  | cons y ys ih =>
    intro L at_ up post dp u h0 hd hu j it hj
    rw [rowsL, List.append_assoc] at hd
    have hs1 := itemsT_len y (hs y (by simp)) dp at_ u
    have p1 := pos_of y (hs y (by simp))
    rw [itemsL] at hj
    rw [htL]
    by_cases c : j < (itemsT y dp at_ u).length
    · rw [List.getElem?_append_left c] at hj
      have := hp y (by simp) L at_ up _ dp u h0 hd hu j it hj
      exact ⟨this.1, by omega⟩
    · rw [List.getElem?_append_right (by omega)] at hj
      have hd2 := drop_app h0 hd (rowsT_len y (hs y (by simp)) at_ up)
      have := ih (fun z hz => hs z (by simp [hz])) (fun z hz => hp z (by simp [hz])) L (at_ + szT y) up post dp u (by omega) hd2 hu _ it hj
      rw [show at_ + szT y + ((j - (itemsT y dp at_ u).length : Nat) : Int) + 1 = at_ + j + 1 by omega] at this
      exact ⟨this.1, by omega⟩
theorem di_T (x : S25) (h : Sm25 x) : DI x := by
  induction h with
  | @mk x h0 h1 h2 h3 h4 h5 ih =>
    intro L at_ up post dp u ha hd hu j it hj
    have p2 := posL x.f4 h5
    rw [rowsT_eq, List.cons_append] at hd
    obtain ⟨r1, r2, r3⟩ := rd_drop ha hd
    have hup : upOf L (at_ + 1) = up := by
      unfold upOf
      rw [show at_ + 1 - 1 = at_ by omega, r1]
      rfl
    have hD : Dp L (at_ + 1) dp := by
      have := Dp.up (l := L) (x := at_ + 1) (d := dp - 1) (by omega) (by rw [hup]; exact hu)
      rwa [show dp - 1 + 1 = dp by omega] at this
    rw [itemsT_eq] at hj
    rw [htT_eq]
    cases j with
    | zero =>
      rw [List.getElem?_cons_zero] at hj
      obtain rfl := Option.some.inj hj
      refine ⟨by simpa using hD, ?_⟩
      show dp ≤ _
      omega
    | succ j =>
      rw [List.getElem?_cons_succ] at hj
      have := di_L x.f4 h5 ih L (at_ + 1) (at_ + 1) post (dp + 1) at_ (by omega) r3 (by rwa [show dp + 1 - 1 = dp by omega]) j it hj
      rw [show at_ + 1 + (j : Int) + 1 = at_ + ((j + 1 : Nat) : Int) + 1 by omega] at this
      exact ⟨this.1, by omega⟩
/-- No row of a tree that is low enough lies too deep. -/
theorem low_rows (x : S25) (h : Sm25 x) (hh : htT x ≤ 64) : ¬ ∃ j e : Int, 0 ≤ j ∧ j ≤ (rowsT x 0 0).length ∧ Dp (rowsT x 0 0) j e ∧ e > 64 := by
  rintro ⟨j, e, h0, h1, h2, h3⟩
  by_cases c : j = 0
  · subst c
    have := h2.uniq .zero
    omega
  · have hl := rowsT_len x h 0 0
    have hl2 := itemsT_len x h 1 0 (-1)
    have hj : (j - 1).toNat < (itemsT x 1 0 (-1)).length := by omega
    have := di_T x h (rowsT x 0 0) 0 0 [] 1 (-1) (by omega) (by simp) .zero (j - 1).toNat _ (List.getElem?_eq_getElem hj)
    rw [show (0 : Int) + ((j - 1).toNat : Int) + 1 = j by omega] at this
    have := h2.uniq this.1
    omega
end Go.Proofs.Ytcebfldagnjddaa.Pure
/- Trees and rows are like themselves; the rows of a right tree, and the tree of its rows. -/
namespace Go.Proofs.Ytcebfldagnjddaa.Pure
open Go.RowKit Go.Proofs.Ytcebfldagnjddaa.G Go.Proofs.YtcebfldagnjddaaW.PrintWords Go.Proofs.YtcebfldagnjddaaW.PrintLast
set_option linter.unusedVariables false
def ND (x : S25) : Prop := Ev (fun k => tendrilplain_Nodes.f k x.f0 x.f1 x.f2 x.f3 x.f4 x.f0 x.f1 x.f2 x.f3 x.f4) true
theorem nodes_l0 (ks : List S25) (hl : (ks.length : Int) ≤ 140737488351232) (hp : ∀ y ∈ ks, ND y) (a b c : ByteArray) (d : List S69) (n : Nat) : ∀ i : Int, 0 ≤ i → (ks.length : Int) - i = n →
    Ev (fun k => tendrilplain_Nodes.l0 k ks.length i a b c d ks a b c d ks) true := by
  induction n with
  | zero => intro i h0 hd; exact (Ev.pure true).step (fun k => by rw [tendrilplain_Nodes.l0, if_neg (by omega)])
  | succ n ih =>
    intro i h0 hd
    have hi : i < (ks.length : Int) := by omega
    exact Ev.via (hp _ (rd25_mem ks i h0 hi)) (ih (i + 1) (by omega) (by omega)) (fun k hk => by rw [tendrilplain_Nodes.l0, if_pos hi, if_pos h0, if_pos hi, if_pos hi, hk, Option.bind_some, if_pos rfl, w1 (by omega) (by omega)])
theorem nodes_refl (x : S25) (h : Sm25 x) : ND x := by
  induction h with
  | @mk x h0 h1 h2 h3 h4 h5 ih =>
    have ha := attrsA x.f3 x.f3 (by omega)
    rw [attrsEq_refl] at ha
    have hn := nodes_l0 x.f4 (by omega) ih x.f0 x.f1 x.f2 x.f3 x.f4.length 0 (by omega) (by omega)
    have hj : Ev (fun k => tendrilplain_Nodes.j0 k ((x.f4.length : Int) != (x.f4.length : Int)) x.f0 x.f1 x.f2 x.f3 x.f4 x.f0 x.f1 x.f2 x.f3 x.f4) true := by
      rw [show ((x.f4.length : Int) != (x.f4.length : Int)) = false by simp]
      exact hn.step (fun k => by rw [tendrilplain_Nodes.j0, if_neg (by decide)])
    exact ha.via hj (fun k hk => by rw [tendrilplain_Nodes.f, if_pos rfl, if_pos rfl, if_pos rfl, hk, Option.bind_some, if_pos rfl])
theorem rows_l0 (l : List S53) (hl : l.length * 88 ≤ 140737488351232) (hs : ∀ y ∈ l, Sm53 y) (n : Nat) : ∀ i : Int, 0 ≤ i → (l.length : Int) - i = n → Ev (fun k => tendrilplain_Rows.l0 k l l l.length i) true := by
  induction n with
  | zero =>
    intro i h0 hd
    have h := shapes_ev l l hl hs
    rw [rowsEq_refl] at h
    exact h.via (Ev.pure true) (fun k hk => by rw [tendrilplain_Rows.l0, if_neg (by omega), hk]; rfl)
  | succ n ih =>
    intro i h0 hd
    have hi : i < (l.length : Int) := by omega
    exact (ih (i + 1) (by omega) (by omega)).step (fun k => by rw [tendrilplain_Rows.l0, if_pos hi, if_pos h0, if_pos hi, if_pos hi, if_pos rfl, w1 (by omega) (by omega)])
theorem rows_refl (l : List S53) (hl : l.length * 88 ≤ 140737488351232) (hs : ∀ y ∈ l, Sm53 y) : Ev (fun k => tendrilplain_Rows.f k l l) true :=
  (rows_l0 l hl hs l.length 0 (by omega) (by omega)).eq (fun k => by rw [tendrilplain_Rows.f, if_pos rfl])
theorem wf_of {i : Int} (h0 : 0 ≤ i) (h1 : i ≤ 1000000000) : (Lit.int .i64 i).wf = true := by
  simp [Lit.wf]
  have : IntKind.i64.min = -9223372036854775808 := rfl
  omega
theorem smL (ks : List S25) (hs : ∀ y ∈ ks, Sm25 y) (hp : ∀ y ∈ ks, ∀ at_ up, 0 ≤ at_ → at_ + szT y ≤ 1000000 → 0 ≤ up → up ≤ 1000000 → ∀ r ∈ rowsT y at_ up, Sm53 r) : ∀ at_ up, 0 ≤ at_ → at_ + szL ks ≤ 1000000 → 0 ≤ up → up ≤ 1000000 → ∀ r ∈ rowsL ks at_ up, Sm53 r := by
  induction ks with
  | nil => intro at_ up _ _ _ _ r hr; rw [rowsL] at hr; simp at hr
  | cons y ys ih =>
    intro at_ up h0 h1 h2 h3 r hr
    rw [szL] at h1
    have p1 := pos_of y (hs y (by simp))
    have p2 := posL ys (fun z hz => hs z (by simp [hz]))
    rw [rowsL] at hr
    rcases List.mem_append.1 hr with hr | hr
    · exact hp y (by simp) at_ up h0 (by omega) h2 h3 r hr
    · exact ih (fun z hz => hs z (by simp [hz])) (fun z hz => hp z (by simp [hz])) (at_ + szT y) up (by omega) (by omega) h2 h3 r hr
theorem smT (x : S25) (h : Sm25 x) : ∀ at_ up, 0 ≤ at_ → at_ + szT x ≤ 1000000 → 0 ≤ up → up ≤ 1000000 → ∀ r ∈ rowsT x at_ up, Sm53 r := by
  induction h with
  | @mk x h0 h1 h2 h3 h4 h5 ih =>
    intro at_ up a0 a1 a2 a3 r hr
    rw [szT_eq] at a1
    have p2 := posL x.f4 h5
    rw [rowsT_eq] at hr
    rcases List.mem_cons.1 hr with rfl | hr
    · exact ⟨wf_of (i := 0) (by decide) (by decide), wf_of a2 (by show up ≤ _; omega), h0, h1, h2, h3⟩
    · exact smL x.f4 h5 ih (at_ + 1) (at_ + 1) (by omega) (by omega) (by omega) (by omega) r hr
/-- Whether a tree is right, by its shape. -/
theorem right_ev (x : S25) (h : Sm25 x) (hz : szT x ≤ 4096) : ∃ c : Int × Int, Ev (fun k => vtree_Check.f k x.f0 x.f1 x.f2 x.f3 x.f4) c ∧ Ev (fun k => tendrilref11_Check.f k x.f0 x.f1 x.f2 x.f3 x.f4) c ∧ (c.2 = 0 → goodT x ∧ htT x ≤ 64) := by
  have hxe : (⟨x.f0, x.f1, x.f2, x.f3, x.f4⟩ : S25) = x := by cases x; rfl
  obtain ⟨L, c, _, _, _, h1, h2, _⟩ := checks x h
  obtain ⟨r, e, i1, i2, i3⟩ := vis_T x h 1 0 0 [] (by omega) (by omega)
  have hchk : Ev (fun k => vtree_check.f k x.f0 x.f1 x.f2 x.f3 x.f4) r.2 := e.via0 (Ev.pure _) (fun k hk => by rw [vtree_check.f, hxe, hk]; rfl)
  refine ⟨c, h1, h2, fun hc => ?_⟩
  cases hr : r.1 with
  | true =>
    have := i1.1 hr
    exact ⟨this.1, by omega⟩
  | false =>
    have hne := i3 hr
    have hv : Ev (fun k => vtree_Check.f k x.f0 x.f1 x.f2 x.f3 x.f4) (r.2.1, r.2.2.2) := hchk.via0 (Ev.pure _) (fun k hk => by rw [vtree_Check.f, hk, Option.bind_some, if_neg hne])
    have := Ev.uniq h1 hv
    rw [this] at hc
    exact absurd hc hne
theorem tree_rows (x : S25) (h : Sm25 x) (hz : szT x ≤ 4096) (hh : htT x ≤ 64) {c : Int × Int} (hc : Ev (fun k => vtree_Check.f k x.f0 x.f1 x.f2 x.f3 x.f4) c) (h0 : c.2 = 0) : Ev (fun k => flat_Tree.f k (rowsT x 0 0)) (x.f0, x.f1, x.f2, x.f3, x.f4, 0) := by
  have hlen := rowsT_len x h 0 0
  have hp := pos_of x h
  have hg := good_rows x h
  obtain ⟨b, hb, hbi⟩ := formed_ev (rowsT x 0 0) (by omega)
  obtain rfl : b = true := hbi.2 hg
  obtain ⟨d, hd, hdi⟩ := deep_ev (rowsT x 0 0) (by omega) hg
  obtain rfl : d = false := by
    rw [← Bool.not_eq_true]
    intro hd
    rcases hdi.1 hd with h1 | h1
    · exact low_rows x h hh h1
    · omega
  have hj : Ev (fun k => flat_Tree.j0 k (rowsT x 0 0)) (x.f0, x.f1, x.f2, x.f3, x.f4, 0) := by
    refine (build_rows x h (by omega)).via (hc.via0 (Ev.pure _) (F := fun k => (vtree_Check.f k x.f0 x.f1 x.f2 x.f3 x.f4).bind fun bt199 => (if bt199.2 = 0 then (some (x.f0, x.f1, x.f2, x.f3, x.f4, (0 : Int))) else (some ((⟨#[]⟩ : ByteArray), (⟨#[]⟩ : ByteArray), (⟨#[]⟩ : ByteArray), ([] : List (S69)), ([] : List (S25)), bt199.2)))) (fun k hk => by rw [hk, Option.bind_some, if_pos h0])) (fun k hk => by rw [flat_Tree.j0, hk, Option.bind_some])
  refine hb.via0 (hd.via0 hj (F := fun k => (flat_deep.f k (rowsT x 0 0)).bind fun t184 => (if t184 = true then ((flat_cut.f k (rowsT x 0 0)).bind fun t185 => (flat_Tree.j0 k t185)) else (flat_Tree.j0 k (rowsT x 0 0)))) (fun k hk => by rw [hk, Option.bind_some, if_neg (by decide)])) (fun k hk => by rw [flat_Tree.f, if_neg (by omega), hk, Option.bind_some, if_pos rfl])
end Go.Proofs.Ytcebfldagnjddaa.Pure
namespace Go.Proofs.Ytcebfldagnjddaa.Pure
open Go.RowKit Go.Proofs.Ytcebfldagnjddaa.G Go.Proofs.YtcebfldagnjddaaW.PrintWords Go.Proofs.YtcebfldagnjddaaW.PrintLast
theorem FlatRows : ∀ (x0 : S25), Sm25 x0 → ∃ k, tendrillaw13_FlatRows.f k x0.f0 x0.f1 x0.f2 x0.f3 x0.f4 = some true := by
  intro x h
  have hxe : (⟨x.f0, x.f1, x.f2, x.f3, x.f4⟩ : S25) = x := by cases x; rfl
  obtain ⟨b, hb, hbi⟩ := few x h 800 (by omega) (by omega)
  refine Ev.ex (r := true) ?_
  have hsame : Ev (fun k => (tendrillaw13_same.f k).bind fun t => (some t)) true := Ev.bind same_ev (Ev.pure true)
  cases b with
  | false => exact hb.via0 hsame (fun k hk => by rw [tendrillaw13_FlatRows.f, hk, Option.bind_some, if_neg (by decide)])
  | true =>
    obtain ⟨hz, hfa⟩ := hbi rfl
    have hp := pos_of x h
    obtain ⟨c, h1, h2, h3⟩ := right_ev x h (by omega)
    have main (l : List S53) (hl : l.length * 88 ≤ 140737488351232) (hs : ∀ y ∈ l, Sm53 y) (e : Int) (r1 : Ev (fun k => flat_Rows.f k x.f0 x.f1 x.f2 x.f3 x.f4) (l, e)) (r2 : Ev (fun k => tendrilref13_Rows.f k x.f0 x.f1 x.f2 x.f3 x.f4) (l, e))
        (hj : Ev (fun k => tendrillaw13_FlatRows.j0 k l e false x.f0 x.f1 x.f2 x.f3 x.f4) true) : Ev (fun k => tendrillaw13_FlatRows.f k x.f0 x.f1 x.f2 x.f3 x.f4) true := by
      unfold tendrillaw13_FlatRows.f
      refine Ev.bind hb ?_
      refine Ev.eq (Ev.bind r1 (Ev.bind r2 (r := true) ?_)) (fun k => by rw [if_pos rfl])
      exact (Ev.bind (rows_refl l hl hs) hj).eq (fun k => by rw [if_pos rfl])
    by_cases c0 : c.2 = 0
    · obtain ⟨g1, g2⟩ := h3 c0
      have hlen := rowsT_len x h 0 0
      have hput := put_T x h hfa [] 0 (by simp; omega)
      have hit := its_T x h [] 1 (-1) (by simp; omega) (by omega)
      simp only [List.nil_append, List.length_nil, Int.ofNat_zero] at hput hit
      have hmap := rowI_T x h 1 0 (-1) (by omega) (by omega) (by omega) (by omega)
      have hil := itemsT_len x h 1 0 (-1)
      have r1 : Ev (fun k => flat_Rows.f k x.f0 x.f1 x.f2 x.f3 x.f4) (rowsT x 0 0, 0) := by
        unfold flat_Rows.f
        refine Ev.bind h1 ?_
        exact (Ev.bind hput (g := fun k l => some (l, (0 : Int))) (Ev.pure _)).eq (fun k => by rw [if_pos c0, hxe])
      have r2 : Ev (fun k => tendrilref13_Rows.f k x.f0 x.f1 x.f2 x.f3 x.f4) (rowsT x 0 0, 0) := by
        unfold tendrilref13_Rows.f
        refine Ev.bind h2 ?_
        have hI : Ev (fun k => tendrilref11_Items.f k x.f0 x.f1 x.f2 x.f3 x.f4) (itemsT x 1 0 (-1)) := hit.eq (fun k => by rw [tendrilref11_Items.f, hxe])
        refine (Ev.bind hI (r := (rowsT x 0 0, (0 : Int))) ((Ev.pure _).eq (fun k => ?_))).eq (fun k => by rw [if_pos c0])
        rw [if_pos (by omega), hmap]
        rfl
      have hT := tree_rows x h (by omega) g2 h1 c0
      have hC : Ev (fun k => flat_Check.f k (rowsT x 0 0)) 0 := (Ev.bind hT (g := fun k bt => some bt.2.2.2.2.2) (Ev.pure _)).eq (fun k => by rw [flat_Check.f, if_neg (by omega)])
      refine main _ (by omega) (smT x h 0 0 (by omega) (by omega) (by omega) (by omega)) 0 r1 r2 ?_
      have E : Ev (fun k => (flat_Tree.f k (rowsT x 0 0)).bind fun bt313 => (if bt313.2.2.2.2.2 = 0 then ((tendrilplain_Nodes.f k bt313.1 bt313.2.1 bt313.2.2.1 bt313.2.2.2.1 bt313.2.2.2.2.1 x.f0 x.f1 x.f2 x.f3 x.f4).bind fun t324 => (if t324 = true then ((flat_Check.f k (rowsT x 0 0)).bind fun t325 => (if t325 = 0 then ((tendrillaw13_same.f k).bind fun t326 => (some t326)) else (some false))) else (some false))) else (some false))) true := by
        refine Ev.bind hT ?_
        refine Ev.eq (Ev.bind (nodes_refl x h) (r := true) ?_) (fun k => by rw [if_pos rfl])
        refine Ev.eq (Ev.bind hC (r := true) ?_) (fun k => by rw [if_pos rfl])
        exact hsame.eq (fun k => by rw [if_pos rfl])
      exact E.step (fun k => by rw [tendrillaw13_FlatRows.j0, if_neg (by decide), if_pos rfl])
    · have r1 : Ev (fun k => flat_Rows.f k x.f0 x.f1 x.f2 x.f3 x.f4) ([], c.2) := by
        unfold flat_Rows.f
        exact Ev.bind h1 ((Ev.pure _).eq (fun k => by rw [if_neg c0]))
      have r2 : Ev (fun k => tendrilref13_Rows.f k x.f0 x.f1 x.f2 x.f3 x.f4) ([], c.2) := by
        unfold tendrilref13_Rows.f
        exact Ev.bind h2 ((Ev.pure _).eq (fun k => by rw [if_neg c0]))
      exact main [] (by simp) (by simp) _ r1 r2 (hsame.step (fun k => by rw [tendrillaw13_FlatRows.j0, if_neg (by decide), if_neg c0]))
end Go.Proofs.Ytcebfldagnjddaa.Pure
