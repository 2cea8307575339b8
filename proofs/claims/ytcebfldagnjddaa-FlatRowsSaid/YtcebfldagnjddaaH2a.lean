import Derived.Test.YtcebfldagnjddaaGx0
import Derived.Test.YtcebfldagnjddaaH1a
namespace Go.Proofs.Ytcebfldagnjddaa.G
open Go.RowKit Go.Proofs.YtcebfldagnjddaaW.PrintWords Go.Proofs.YtcebfldagnjddaaW.PrintLast Go.Proofs.YtcebfldagnjddaaW.PrintMore
set_option linter.unusedVariables false
set_option linter.unusedSimpArgs false
/-- The items of siblings, behind those that are there. -/
def blw : Nat → List S63 → List S25 → Int → Int → Option (List S63)
  | 0, _, _, _, _ => none
  | _ + 1, l, [], _, _ => some l
  | k + 1, l, x :: xs, depth, up => if (l.length : Int) > 4096 then some l else
    (if (l.length : Int) > 4096 then some l else if depth > 64 then some (l ++ [⟨x, depth, up⟩]) else blw k (l ++ [⟨x, depth, up⟩]) x.f4 (depth + 1) l.length).bind fun l' => blw k l' xs depth up
/-- .. of one. -/
def blw1 (k : Nat) (l : List S63) (x : S25) (depth up : Int) : Option (List S63) :=
  if (l.length : Int) > 4096 then some l else if depth > 64 then some (l ++ [⟨x, depth, up⟩]) else blw k (l ++ [⟨x, depth, up⟩]) x.f4 (depth + 1) l.length
theorem blw_cons (k : Nat) (l : List S63) (x : S25) (xs : List S25) (depth up : Int) : blw (k + 1) l (x :: xs) depth up = if (l.length : Int) > 4096 then some l else (blw1 k l x depth up).bind fun l' => blw k l' xs depth up := rfl
def tendrilref11_Items.f (k : Nat) (a0_0 : ByteArray) (a0_1 : ByteArray) (a0_2 : ByteArray) (l0_3 : List (S69)) (l0_4 : List (S25)) : Option (List S63) := blw1 k [] ⟨a0_0, a0_1, a0_2, l0_3, l0_4⟩ 1 (-1)
theorem blw_len (k : Nat) : ∀ l xs depth up r, blw k l xs depth up = some r → l.length ≤ 4097 → l.length ≤ r.length ∧ r.length ≤ 4097 := by
  induction k with
  | zero => intro l xs depth up r h; cases h
  | succ k ih =>
    intro l xs depth up r h hl; cases xs with
    | nil => cases h; omega
    | cons x xs =>
      rw [blw] at h
      split at h
      · cases h; omega
      · next hn =>
        obtain ⟨l', h1, h2⟩ := Option.bind_eq_some_iff.1 h
        split at h1
        · cases h1
          have := ih _ _ _ _ _ h2 (by simp; omega)
          simp at this
          omega
        · have h3 := ih _ _ _ _ _ h1 (by simp; omega)
          have h4 := ih _ _ _ _ _ h2 h3.2
          simp at h3
          omega
theorem blw1_len {k : Nat} {l : List S63} {x : S25} {depth up : Int} {r : List S63} (h : blw1 k l x depth up = some r) (hl : l.length ≤ 4097) : l.length ≤ r.length ∧ r.length ≤ 4097 := by
  unfold blw1 at h
  split at h
  · cases h; omega
  · split at h
    · cases h; simp; omega
    · have := blw_len _ _ _ _ _ _ h (by simp; omega)
      simp at this
      omega
theorem blw1_more {k : Nat} {l : List S63} {x : S25} {depth up : Int} {r : List S63} (h : blw1 k l x depth up = some r) (hl : ¬ (l.length : Int) > 4096) : l.length + 1 ≤ r.length ∧ r.length ≤ 4097 := by
  unfold blw1 at h
  rw [if_neg hl] at h
  split at h
  · cases h; simp; omega
  · have := blw_len _ _ _ _ _ _ h (by simp; omega)
    simp at this
    omega
end Go.Proofs.Ytcebfldagnjddaa.G
