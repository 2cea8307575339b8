/- The plain law of links: what placing and dropping make of the links. -/
import Derived.Test.YtgamhkhninogeaaP1
namespace Go.Proofs.Ytgamhkhninogeaa.Pure
open Go.RowKit Go.Proofs.Ytgamhkhninogeaa.G Go.Proofs.YtgamhkhninogeaaW.PrintWords Go.Proofs.YtgamhkhninogeaaW.PrintLast
set_option linter.unusedVariables false
set_option linter.unusedSimpArgs false

theorem placeF_at (F : FF) (x y b p : Int) (hb : b ≠ y) (hp : p = if b < 0 then F x 3 else F b 4) (j : Int) :
    placeF F x y b j 1 = (if j = y then x else F j 1) ∧ placeF F x y b j 2 = (if p < 0 ∧ j = x then y else F j 2) ∧ placeF F x y b j 3 = (if b < 0 ∧ j = x then y else F j 3) ∧
    placeF F x y b j 4 = (if ¬ b < 0 ∧ j = b then y else if j = y then p else F j 4) ∧ placeF F x y b j 5 = (if ¬ p < 0 ∧ j = p then y else if j = y then b else F j 5) := by
  by_cases c : b < 0
  · rw [if_pos c] at hp
    have e2 : place2 (place1 F x y b) x y b = setF (setF (place1 F x y b) y 4 p) x 3 y := by
      unfold place2
      rw [if_pos c, hp]
      congr 2
      simp [place1, setF]
    have e3 : place2 (place1 F x y b) x y b y 4 = p := by rw [e2]; simp [setF]
    unfold placeF place3
    rw [e3, e2]
    by_cases d : p < 0
    · rw [if_pos d]
      simp [setF, place1, c, d]
    · rw [if_neg d]
      simp [setF, place1, c, d]
  · rw [if_neg c] at hp
    have e2 : place2 (place1 F x y b) x y b = setF (setF (place1 F x y b) y 4 p) b 4 y := by
      unfold place2
      rw [if_neg c, hp]
      congr 2
      simp [place1, setF]
    have e3 : place2 (place1 F x y b) x y b y 4 = p := by
      rw [e2]
      have : ¬ y = b := fun e => hb e.symm
      simp [setF, this]
    unfold placeF place3
    rw [e3, e2]
    by_cases d : p < 0
    · rw [if_pos d]
      simp [setF, place1, c, d]
    · rw [if_neg d]
      simp [setF, place1, c, d]
theorem dropF_at (F : FF) (x : Int) (h1 : F x 1 ≠ x) (h4 : F x 4 ≠ x) (h5 : F x 5 ≠ x) (j : Int) :
    dropF F x j 1 = (if j = x then -1 else F j 1) ∧ dropF F x j 2 = (if F x 4 < 0 ∧ j = F x 1 then F x 5 else F j 2) ∧ dropF F x j 3 = (if F x 5 < 0 ∧ j = F x 1 then F x 4 else F j 3) ∧
    dropF F x j 4 = (if j = x then -1 else if ¬ F x 5 < 0 ∧ j = F x 5 then F x 4 else F j 4) ∧ dropF F x j 5 = (if j = x then -1 else if ¬ F x 4 < 0 ∧ j = F x 4 then F x 5 else F j 5) := by
  have g1 : ¬ x = F x 1 := fun e => h1 e.symm
  have g4 : ¬ x = F x 4 := fun e => h4 e.symm
  have g5 : ¬ x = F x 5 := fun e => h5 e.symm
  obtain ⟨p, hp⟩ : ∃ p, F x 4 = p := ⟨_, rfl⟩
  obtain ⟨q, hq⟩ : ∃ q, F x 5 = q := ⟨_, rfl⟩
  obtain ⟨u, hu⟩ : ∃ u, F x 1 = u := ⟨_, rfl⟩
  rw [hp] at g4 ⊢
  rw [hq] at g5 ⊢
  rw [hu] at g1 ⊢
  have d1 : drop1 F x = if p < 0 then setF F u 2 q else setF F p 5 q := by unfold drop1; rw [hp, hq, hu]
  have a1 : drop1 F x x 1 = u := by rw [d1]; split <;> simp [setF, hu]
  have a4 : drop1 F x x 4 = p := by rw [d1]; split <;> simp [setF, hp]
  have a5 : drop1 F x x 5 = q := by rw [d1]; split <;> simp [setF, hq, g4]
  unfold dropF drop3 drop2
  rw [a1, a4, a5, d1]
  by_cases c : p < 0
  · rw [if_pos c]
    by_cases d : q < 0
    · rw [if_pos d]
      by_cases e : j = x
      · subst e; simp [setF, c, d, g1]
      · simp [setF, c, d, e]
    · rw [if_neg d]
      by_cases e : j = x
      · subst e; simp [setF, c, d, g1]
      · simp [setF, c, d, e]
  · rw [if_neg c]
    by_cases d : q < 0
    · rw [if_pos d]
      by_cases e : j = x
      · subst e; simp [setF, c, d, g1]
      · simp [setF, c, d, e]
    · rw [if_neg d]
      by_cases e : j = x
      · subst e; simp [setF, c, d, g1]
      · simp [setF, c, d, e]
end Go.Proofs.Ytgamhkhninogeaa.Pure
