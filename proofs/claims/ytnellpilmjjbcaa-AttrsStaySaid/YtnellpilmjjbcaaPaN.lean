/- The test of names: the program's and the reference's. -/
import Derived.Test.YtnellpilmjjbcaaGx3
import Derived.Test.YtnellpilmjjbcaaGx8
import Derived.Test.YtnellpilmjjbcaaH0
import Derived.Test.YtnellpilmjjbcaaPaE
namespace Go.Proofs.Ytnellpilmjjbcaa.Pure
open Go.RowKit Go.Proofs.Ytnellpilmjjbcaa.G Go.Proofs.YtnellpilmjjbcaaW.PrintWords Go.Proofs.YtnellpilmjjbcaaW.PrintLast
set_option linter.unusedVariables false

/-- Is a byte one of a name's? -/
def inner (c : Int) (f : Bool) : Bool := (decide (97 ≤ c) && decide (c ≤ 122)) || (decide (48 ≤ c) && decide (c ≤ 57)) || (c == 45) || (f && ((c == 58) || (c == 46)))
def extra (f : Bool) : ByteArray := if f then ⟨#[45, 58, 46]⟩ else ⟨#[45]⟩

theorem inner_ref (c : Int) (f : Bool) : tendrilref02_inner.f c f = some (inner c f) := by
  unfold tendrilref02_inner.f inner
  by_cases h1 : 97 ≤ c <;> by_cases h2 : c ≤ 122 <;> by_cases h3 : 48 ≤ c <;> by_cases h4 : c ≤ 57 <;> by_cases h5 : c = 45 <;> by_cases h6 : c = 58 <;> by_cases h7 : c = 46 <;>
    first
      | (exfalso; omega)
      | (cases f <;> simp [h1, h2, h3, h4, h5, h6, h7, show (c == 45) = decide (c = 45) from rfl, show (c == 58) = decide (c = 58) from rfl, show (c == 46) = decide (c = 46) from rfl])
theorem index_extra (f : Bool) : ∀ n : Fin 256, (decide (Lib.indexByte (extra f).data.toList n.1.toUInt8 < 0)) = !((n.1 == 45) || (f && ((n.1 == 58) || (n.1 == 46)))) := by
  cases f <;> decide +kernel
theorem index_lt (c : Int) (h0 : 0 ≤ c) (h1 : c < 256) (f : Bool) : Lib.indexByte (extra f).data.toList c.toNat.toUInt8 < 0 ↔ ((c == 45) || (f && ((c == 58) || (c == 46)))) = false := by
  have := index_extra f ⟨c.toNat, by omega⟩
  simp only at this
  obtain ⟨n, rfl⟩ : ∃ n : Nat, c = n := ⟨c.toNat, by omega⟩
  simp only [Int.toNat_natCast] at this ⊢
  have hd : (Lib.indexByte (extra f).data.toList n.toUInt8 < 0) ↔ decide (Lib.indexByte (extra f).data.toList n.toUInt8 < 0) = true := by simp
  rw [hd, this]
  have h (m : Nat) : ((n : Int) == (m : Int)) = (n == m) := by
    by_cases e : n = m
    · subst e; rw [beq_self_eq_true, beq_self_eq_true]
    · have : ¬ (n : Int) = (m : Int) := by omega
      rw [beq_eq_false_iff_ne.2 this, beq_eq_false_iff_ne.2 e]
  rw [show ((45 : Int) = ((45 : Nat) : Int)) from rfl, show ((58 : Int) = ((58 : Nat) : Int)) from rfl, show ((46 : Int) = ((46 : Nat) : Int)) from rfl, h, h, h]
  cases f <;> simp

def NamedOK (s : ByteArray) (f : Bool) : Prop := 1 ≤ s.size ∧ s.size ≤ 32 ∧ 97 ≤ bt s 0 ∧ bt s 0 ≤ 122 ∧ ∀ i : Int, 0 ≤ i → i < s.size → inner (bt s i) f = true

theorem named_prog_l0 (s : ByteArray) (f : Bool) (hs : s.size ≤ 32) (d : Nat) : ∀ i : Int, 0 ≤ i → (s.size : Int) - i = d →
    ∃ b, Ev (fun k => chars_named.l0 k s (extra f) s.size i) b ∧ (b = true ↔ ∀ j : Int, i ≤ j → j < s.size → inner (bt s j) f = true) := by
  induction d with
  | zero =>
    intro i h0 hd
    exact ⟨true, (Ev.pure true).step (fun k => by rw [chars_named.l0, if_neg (by omega)]), by simp; intro j h1 h2; omega⟩
  | succ d ih =>
    intro i h0 hd
    obtain ⟨b, hb, hi⟩ := ih (i + 1) (by omega) (by omega)
    have hr := bt_range s i
    have hw : wrap64 (i + 1) = i + 1 := w1 (by omega) (by omega)
    by_cases hc : inner (bt s i) f = true
    · refine ⟨b, hb.step (fun k => ?_), ?_⟩
      · rw [chars_named.l0, if_pos (by omega), if_pos h0, if_pos (by omega), hw]
        have hidx := index_lt (bt s i) hr.1 hr.2 f
        simp only [chars_small.f, strings_IndexByte.f]
        simp only [inner, Bool.or_eq_true, Bool.and_eq_true, decide_eq_true_eq, beq_iff_eq] at hc
        simp only [Bool.or_eq_false_iff, beq_eq_false_iff_ne] at hidx
        by_cases c1 : bt s i ≥ 97
        · by_cases c2 : bt s i ≤ 122
          · simp [c1, c2]
          · have hn : ¬ Lib.indexByte (extra f).data.toList (bt s i).toNat.toUInt8 < 0 := by
              rw [hidx]
              cases f <;> simp at hc ⊢ <;> omega
            simp [c1, c2, show ¬ bt s i < 48 by omega, show bt s i > 57 by omega, hn]
        · by_cases c2 : bt s i < 48
          · have hn : ¬ Lib.indexByte (extra f).data.toList (bt s i).toNat.toUInt8 < 0 := by
              rw [hidx]
              cases f <;> simp at hc ⊢ <;> omega
            simp [c1, c2, hn]
          · by_cases c3 : bt s i > 57
            · have hn : ¬ Lib.indexByte (extra f).data.toList (bt s i).toNat.toUInt8 < 0 := by
                rw [hidx]
                cases f <;> simp at hc ⊢ <;> omega
              simp [c1, c2, c3, hn]
            · simp [c1, c2, c3]
      · rw [hi]
        constructor
        · intro h j h1 h2
          by_cases e : j = i
          · subst e; exact hc
          · exact h j (by omega) h2
        · intro h j h1 h2
          exact h j (by omega) h2
    · refine ⟨false, (Ev.pure false).step (fun k => ?_), by simp; exact ⟨i, by omega, by omega, by simpa using hc⟩⟩
      rw [chars_named.l0, if_pos (by omega), if_pos h0, if_pos (by omega)]
      have hidx := index_lt (bt s i) hr.1 hr.2 f
      simp only [chars_small.f, strings_IndexByte.f]
      simp only [inner, Bool.not_eq_true, Bool.or_eq_false_iff, Bool.and_eq_false_iff, decide_eq_false_iff_not, beq_eq_false_iff_ne] at hc
      simp only [Bool.or_eq_false_iff, Bool.and_eq_false_iff, beq_eq_false_iff_ne] at hidx
      have hn : Lib.indexByte (extra f).data.toList (bt s i).toNat.toUInt8 < 0 := by
        rw [hidx]
        exact ⟨hc.1.2, hc.2⟩
      by_cases c1 : bt s i ≥ 97
      · have c2 : ¬ bt s i ≤ 122 := by omega
        simp [c1, c2, show ¬ bt s i < 48 by omega, show bt s i > 57 by omega, hn]
      · by_cases c2 : bt s i < 48
        · simp [c1, c2, hn]
        · have c3 : bt s i > 57 := by omega
          simp [c1, c2, c3, hn]

theorem named_ref_l0 (s : ByteArray) (f : Bool) (hs : s.size ≤ 32) (d : Nat) : ∀ i : Int, 0 ≤ i → (s.size : Int) - i = d →
    ∃ b, Ev (fun k => tendrilref02_Named.l0 k s f i) b ∧ (b = true ↔ ∀ j : Int, i ≤ j → j < s.size → inner (bt s j) f = true) := by
  induction d with
  | zero =>
    intro i h0 hd
    exact ⟨true, (Ev.pure true).step (fun k => by rw [tendrilref02_Named.l0, if_neg (by omega)]), by simp; intro j h1 h2; omega⟩
  | succ d ih =>
    intro i h0 hd
    obtain ⟨b, hb, hi⟩ := ih (i + 1) (by omega) (by omega)
    have hw : wrap64 (i + 1) = i + 1 := w1 (by omega) (by omega)
    by_cases hc : inner (bt s i) f = true
    · refine ⟨b, hb.step (fun k => ?_), ?_⟩
      · rw [tendrilref02_Named.l0, if_pos (by omega), if_pos h0, hw, inner_ref, hc]
        simp
      · rw [hi]
        constructor
        · intro h j h1 h2
          by_cases e : j = i
          · subst e; exact hc
          · exact h j (by omega) h2
        · intro h j h1 h2
          exact h j (by omega) h2
    · refine ⟨false, (Ev.pure false).step (fun k => ?_), by simp; exact ⟨i, by omega, by omega, by simpa using hc⟩⟩
      rw [tendrilref02_Named.l0, if_pos (by omega), if_pos h0, inner_ref]
      simp [hc]

theorem toList_nil {s : ByteArray} : s.toList = [] ↔ s.size = 0 := by
  rw [Lib.toList_data]
  constructor
  · intro h
    have := congrArg List.length h
    simpa using this
  · intro h
    exact List.eq_nil_of_length_eq_zero (by simpa using h)

/-- The names' test: both come to the same. -/
theorem named (s : ByteArray) (f : Bool) : ∃ b, Ev (fun k => chars_named.f k s (extra f)) b ∧ Ev (fun k => tendrilref02_Named.f k s f) b ∧ (b = true ↔ NamedOK s f) := by
  by_cases h0 : s.size = 0
  · refine ⟨false, (Ev.pure false).step (fun k => ?_), (Ev.pure false).step (fun k => ?_), by simp [NamedOK, h0]⟩
    · rw [chars_named.f, if_pos (toList_nil.2 h0), chars_named.j0, if_pos rfl]
    · rw [tendrilref02_Named.f, if_pos (by omega), tendrilref02_Named.j0, if_pos rfl]
  by_cases h1 : s.size ≤ 32
  · by_cases h2 : 97 ≤ bt s 0 ∧ bt s 0 ≤ 122
    · have hin : inner (bt s 0) f = true := by simp [inner, h2.1, h2.2]
      obtain ⟨b, hb, hi⟩ := named_prog_l0 s f h1 s.size 0 (by omega) (by omega)
      obtain ⟨b', hb', hi'⟩ := named_ref_l0 s f h1 (s.size - 1) 1 (by omega) (by omega)
      have e : b = b' := by
        rw [Bool.eq_iff_iff, hi, hi']
        constructor
        · intro h j h3 h4
          exact h j (by omega) h4
        · intro h j h3 h4
          by_cases e : j = 0
          · subst e; exact hin
          · exact h j (by omega) h4
      subst e
      refine ⟨b, hb.step (fun k => ?_), hb'.step (fun k => ?_), ?_⟩
      · rw [chars_named.f, if_neg (fun h => h0 (toList_nil.1 h)), if_neg (by omega), if_pos (by omega), chars_small.f, if_pos h2.1]
        simp only [Option.bind_some, h2.2, decide_true, Bool.not_true]
        rw [chars_named.j0, if_neg (by decide)]
      · rw [tendrilref02_Named.f, if_neg (by omega), if_neg (by omega), if_pos (by omega), if_neg (by omega), tendrilref02_Named.j0, if_neg (by simp; omega)]
      · rw [hi]
        exact ⟨fun h => ⟨by omega, h1, h2.1, h2.2, fun i h3 h4 => h i h3 h4⟩, fun h i h3 h4 => h.2.2.2.2 i h3 h4⟩
    · refine ⟨false, (Ev.pure false).step (fun k => ?_), (Ev.pure false).step (fun k => ?_), by simp [NamedOK]; intro _ _ h3 h4; exact absurd ⟨h3, h4⟩ h2⟩
      · rw [chars_named.f, if_neg (fun h => h0 (toList_nil.1 h)), if_neg (by omega), if_pos (by omega), chars_small.f]
        by_cases c : bt s 0 ≥ 97
        · rw [if_pos c]
          have : ¬ bt s 0 ≤ 122 := fun h => h2 ⟨c, h⟩
          simp [this, chars_named.j0]
        · rw [if_neg c]
          simp [chars_named.j0]
      · rw [tendrilref02_Named.f, if_neg (by omega), if_neg (by omega), if_pos (by omega)]
        by_cases c : bt s 0 < 97
        · rw [if_pos c]
          simp [tendrilref02_Named.j0]
        · rw [if_neg c, tendrilref02_Named.j0, if_pos (by simp; omega)]
  · refine ⟨false, (Ev.pure false).step (fun k => ?_), (Ev.pure false).step (fun k => ?_), by simp [NamedOK]; intro _ h; exact absurd h h1⟩
    · rw [chars_named.f, if_neg (fun h => h0 (toList_nil.1 h)), if_pos (by omega), chars_named.j0, if_pos rfl]
    · rw [tendrilref02_Named.f, if_neg (by omega), if_pos (by omega), tendrilref02_Named.j0, if_pos rfl]
end Go.Proofs.Ytnellpilmjjbcaa.Pure
