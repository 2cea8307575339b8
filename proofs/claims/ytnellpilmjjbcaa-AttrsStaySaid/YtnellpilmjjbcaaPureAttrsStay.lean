/- With and Without keep right attributes right, if name, value and length permit. -/
import Derived.Test.YtnellpilmjjbcaaGx8
import Derived.Test.YtnellpilmjjbcaaOpk
import Derived.Test.YtnellpilmjjbcaaPf
namespace Go.Proofs.Ytnellpilmjjbcaa.Pure
open Go.RowKit Go.Proofs.Ytnellpilmjjbcaa.G Go.Proofs.YtnellpilmjjbcaaW.PrintWords Go.Proofs.YtnellpilmjjbcaaW.PrintLast
set_option linter.unusedVariables false

theorem stay_main (l : List S45) (n v : ByteArray) (hl : l.length ≤ 299) (R : List S45) (hR : R.length ≤ 300) (h3 : Ev (fun k => attrs_With.f k l n v) R)
    (hiff : Valid l → (Valid R ↔ NamedOK n true ∧ (v.size : Int) ≤ 65536 ∧ (keep n l).length < 64)) : Ev (fun k => tendrillaw09_AttrsStay.j0 k l n v false) true := by
  have hk := keep_le n l
  obtain ⟨r1, ⟨k1, g1⟩, v1⟩ := check_ev l (by omega)
  obtain ⟨r2, ⟨k2, g2⟩, v2⟩ := check_ev (keep n l) (by omega)
  obtain ⟨r3, ⟨k3, g3⟩, v3⟩ := check_ev R (by omega)
  obtain ⟨k4, g4⟩ := h3
  obtain ⟨b, _, ⟨k5, g5⟩, v5⟩ := named n true
  obtain ⟨k9, g9⟩ := same_ev
  refine ⟨k1 + k2 + k3 + k4 + k5 + k9 + 2, fun k hk => ?_⟩
  obtain ⟨k, rfl⟩ : ∃ j, k = j + 2 := ⟨k - 2, by omega⟩
  have a1 := g1 (k + 1) (by omega)
  have a2 := g2 (k + 1) (by omega)
  have a3 := g3 (k + 1) (by omega)
  have a4 := g4 (k + 1) (by omega)
  have a5 := g5 (k + 1) (by omega)
  have a9 := g9 k (by omega)
  have a9' := g9 (k + 1) (by omega)
  dsimp only at a1 a2 a3 a4 a5 a9 a9' ⊢
  have a10 : attrs_Without.f l n = some (keep n l, decide ((keep n l).length < l.length)) := by rw [attrs_Without.f, if_pos (by omega)]
  rw [tendrillaw09_AttrsStay.j0, if_neg (by decide), a1, Option.bind_some, a10, Option.bind_some]
  dsimp only
  rw [a2, Option.bind_some]
  by_cases c : r1.2 = 0
  · have hv := v1.1 c
    have hr2 : r2.2 = 0 := v2.2 (keep_valid n l hv)
    have hi := hiff hv
    rw [if_pos c, a4, Option.bind_some, a3, Option.bind_some, a5, Option.bind_some]
    have fin (q : Bool) (hq : q = true ↔ r3.2 = 0) : tendrillaw09_AttrsStay.j1 (k + 1) r2.2 r3.2 q = some true := by
      rw [tendrillaw09_AttrsStay.j1, if_pos hr2]
      by_cases c3 : r3.2 = 0
      · rw [if_pos (hq.2 c3), if_pos c3, a9]; rfl
      · rw [if_neg (fun h => c3 (hq.1 h)), if_pos hr2, if_neg c3, a9]; rfl
    cases b with
    | true =>
      rw [if_pos rfl]
      by_cases cv : (v.size : Int) ≤ 65536
      · rw [if_pos cv]
        refine fin _ ?_
        rw [v3, hi]
        simp [v5.1 rfl, cv]
        omega
      · rw [if_neg cv]
        refine fin _ ?_
        rw [v3, hi]
        simp [cv]
    | false =>
      rw [if_neg (by decide)]
      refine fin _ ?_
      have : ¬ NamedOK n true := fun h => by simpa using v5.2 h
      rw [v3, hi]
      simp [this]
  · rw [if_neg c, a9']
    rfl

theorem AttrsStay : ∀ (x0 : List (S45)) (x1 : ByteArray) (x2 : ByteArray), (x0.length * 32 ≤ 140737488351232 ∧ ∀ y ∈ x0, Sm45 y) → x1.size ≤ 140737488351232 → x2.size ≤ 140737488351232 → ∃ k, tendrillaw09_AttrsStay.f k x0 x1 x2 = some true := by
  intro l n v ⟨hl, hs⟩ hn hv
  obtain ⟨b, ⟨k1, g1⟩, hb⟩ := heavy_ev l (by omega)
  have fin (c : Bool) (h : Ev (fun k => tendrillaw09_AttrsStay.j0 k l n v c) true) (he : ∀ k, k1 ≤ k → tendrillaw09_AttrsStay.f k l n v = tendrillaw09_AttrsStay.j0 k l n v c) : ∃ k, tendrillaw09_AttrsStay.f k l n v = some true := by
    obtain ⟨k2, g2⟩ := h
    exact ⟨k1 + k2, by rw [he _ (by omega)]; exact g2 _ (by omega)⟩
  have t : Ev (fun k => tendrillaw09_AttrsStay.j0 k l n v true) true := by
    obtain ⟨k9, g9⟩ := same_ev
    refine ⟨k9 + 1, fun k hk => ?_⟩
    obtain ⟨k, rfl⟩ : ∃ j, k = j + 1 := ⟨k - 1, by omega⟩
    have a9 := g9 k (by omega)
    dsimp only at a9 ⊢
    rw [tendrillaw09_AttrsStay.j0, if_pos rfl, a9]
    rfl
  cases b with
  | true => exact fin true t (fun k hk => by have a1 := g1 k hk; dsimp only at a1; rw [tendrillaw09_AttrsStay.f, a1, Option.bind_some, if_pos rfl])
  | false =>
    have hl3 := hb rfl
    refine fin (decide ((wrap64 ((n.size : Int) + (v.size : Int))) > 70000)) ?_ (fun k hk => by have a1 := g1 k hk; dsimp only at a1; rw [tendrillaw09_AttrsStay.f, a1, Option.bind_some, if_neg (by decide)])
    cases decide ((wrap64 ((n.size : Int) + (v.size : Int))) > 70000) with
    | true => exact t
    | false =>
      rcases name_cases n l with ⟨A, x, B, rfl, hA, hx⟩ | h
      · have hlen : (A ++ (⟨x.f0, v⟩ : S45) :: B).length ≤ 300 := by simp at *; omega
        refine stay_main _ n v hl3 _ hlen (with_found A x B n v (by omega) hA hx) (fun hv => ?_)
        rw [set_valid A x B v hv]
        have hn2 : x.f0 = n := bytes_eq ((isN_iff n x).1 hx)
        have h1 : NamedOK n true := hn2 ▸ (hv.2.1 x (by simp)).1
        have h2 := keep_lt n A x B hx
        have h3 := hv.1
        constructor
        · intro h; exact ⟨h1, h, by omega⟩
        · intro h; exact h.2.1
      · have hi := ins_len n v l
        refine stay_main l n v hl3 _ (by omega) (with_none l n v (by omega) h) (fun hv => ?_)
        rw [ins_valid n v l hv h, keep_none n l h]
end Go.Proofs.Ytnellpilmjjbcaa.Pure
