/- Get, With and Without say of any attributes and any name what the document says; what With stored, Get finds. -/
import Derived.Test.YtnellpilmjjbcaaGx7
import Derived.Test.YtnellpilmjjbcaaOpk
import Derived.Test.YtnellpilmjjbcaaPd
import Derived.Test.YtnellpilmjjbcaaPe
namespace Go.Proofs.Ytnellpilmjjbcaa.Pure
open Go.RowKit Go.Proofs.Ytnellpilmjjbcaa.G Go.Proofs.YtnellpilmjjbcaaW.PrintWords Go.Proofs.YtnellpilmjjbcaaW.PrintLast
set_option linter.unusedVariables false

theorem looks_main (l : List S45) (n v : ByteArray) (hl : l.length ≤ 299) (u : ByteArray × Bool) (R : List S45) (hR : R.length ≤ 300) (h1 : Ev (fun k => attrs_Get.f k l n) u) (h2 : Ev (fun k => tendrilref09_Get.f k l n) u) (h3 : Ev (fun k => attrs_With.f k l n v) R) (h4 : Ev (fun k => attrs_Get.f k R n) (v, true)) (h5 : Ev (fun k => tendrilref09_With.f k l n v) R) :
    Ev (fun k => tendrillaw09_AttrsLooks.j0 k l n v false) true := by
  obtain ⟨k1, g1⟩ := h1
  obtain ⟨k2, g2⟩ := h2
  obtain ⟨k3, g3⟩ := h3
  obtain ⟨k4, g4⟩ := h4
  obtain ⟨k5, g5⟩ := h5
  obtain ⟨k6, g6⟩ := refWithout_ev l n (by omega)
  obtain ⟨k7, g7⟩ := attrs_refl_ev R (by omega)
  have hk := keep_le n l
  obtain ⟨k8, g8⟩ := attrs_refl_ev (keep n l) (by omega)
  obtain ⟨k9, g9⟩ := same_ev
  refine ⟨k1 + k2 + k3 + k4 + k5 + k6 + k7 + k8 + k9 + 2, fun k hk => ?_⟩
  obtain ⟨k, rfl⟩ : ∃ j, k = j + 2 := ⟨k - 2, by omega⟩
  have a1 := g1 (k + 1) (by omega)
  have a2 := g2 (k + 1) (by omega)
  have a3 := g3 (k + 1) (by omega)
  have a4 := g4 (k + 1) (by omega)
  have a5 := g5 (k + 1) (by omega)
  have a6 := g6 (k + 1) (by omega)
  have a7 := g7 (k + 1) (by omega)
  have a8 := g8 k (by omega)
  have a9 := g9 k (by omega)
  dsimp only at a1 a2 a3 a4 a5 a6 a7 a8 a9 ⊢
  have a10 : attrs_Without.f l n = some (keep n l, decide ((keep n l).length < l.length)) := by rw [attrs_Without.f, if_pos (by omega)]
  rw [tendrillaw09_AttrsLooks.j0, if_neg (by decide), a1, Option.bind_some, a2, Option.bind_some, a3, Option.bind_some, a4, Option.bind_some, a10, Option.bind_some, a6, Option.bind_some, if_pos rfl, if_neg (by simp), a5, Option.bind_some, a7, Option.bind_some, if_pos rfl, if_pos rfl, if_pos rfl]
  dsimp only
  rw [tendrillaw09_AttrsLooks.j1, if_neg (by simp), a8, Option.bind_some, if_pos rfl, a9]
  rfl

theorem AttrsLooks : ∀ (x0 : List (S45)) (x1 : ByteArray) (x2 : ByteArray), (x0.length * 32 ≤ 140737488351232 ∧ ∀ y ∈ x0, Sm45 y) → x1.size ≤ 140737488351232 → x2.size ≤ 140737488351232 → ∃ k, tendrillaw09_AttrsLooks.f k x0 x1 x2 = some true := by
  intro l n v ⟨hl, hs⟩ hn hv
  obtain ⟨b, ⟨k1, g1⟩, hb⟩ := heavy_ev l (by omega)
  have fin (c : Bool) (h : Ev (fun k => tendrillaw09_AttrsLooks.j0 k l n v c) true) (he : ∀ k, k1 ≤ k → tendrillaw09_AttrsLooks.f k l n v = tendrillaw09_AttrsLooks.j0 k l n v c) : ∃ k, tendrillaw09_AttrsLooks.f k l n v = some true := by
    obtain ⟨k2, g2⟩ := h
    exact ⟨k1 + k2, by rw [he _ (by omega)]; exact g2 _ (by omega)⟩
  have t : Ev (fun k => tendrillaw09_AttrsLooks.j0 k l n v true) true := by
    obtain ⟨k9, g9⟩ := same_ev
    refine ⟨k9 + 1, fun k hk => ?_⟩
    obtain ⟨k, rfl⟩ : ∃ j, k = j + 1 := ⟨k - 1, by omega⟩
    have a9 := g9 k (by omega)
    dsimp only at a9 ⊢
    rw [tendrillaw09_AttrsLooks.j0, if_pos rfl, a9]
    rfl
  cases b with
  | true => exact fin true t (fun k hk => by have a1 := g1 k hk; dsimp only at a1; rw [tendrillaw09_AttrsLooks.f, a1, Option.bind_some, if_pos rfl])
  | false =>
    have hl3 := hb rfl
    refine fin (decide ((wrap64 ((n.size : Int) + (v.size : Int))) > 70000)) ?_ (fun k hk => by have a1 := g1 k hk; dsimp only at a1; rw [tendrillaw09_AttrsLooks.f, a1, Option.bind_some, if_neg (by decide)])
    cases decide ((wrap64 ((n.size : Int) + (v.size : Int))) > 70000) with
    | true => exact t
    | false =>
      rcases name_cases n l with ⟨A, x, B, rfl, hA, hx⟩ | h
      · have hlen : (A ++ (⟨x.f0, v⟩ : S45) :: B).length ≤ 300 := by simp at *; omega
        obtain ⟨e1, e2⟩ := get_at A x B n (by omega) hA hx
        have hx' : isN n (⟨x.f0, v⟩ : S45) = true := hx
        exact looks_main _ n v hl3 _ _ hlen e1 e2 (with_found A x B n v (by omega) hA hx) (get_at A ⟨x.f0, v⟩ B n (by omega) hA hx').1 (refWith_found A x B n v (by omega) hs hA hx)
      · obtain ⟨e1, e2⟩ := get_none l n (by omega) h
        have hi := ins_len n v l
        have hx' : isN n (⟨n, v⟩ : S45) = true := by rw [isN_iff]
        have hA : ∀ y ∈ l.take (pl n l), ¬ isN n y = true := fun y hy => h y (List.mem_of_mem_take hy)
        have e5 : (l.take (pl n l) ++ (⟨n, v⟩ : S45) :: l.drop (pl n l)).length = (ins n v l).length := by unfold ins; simp
        have e3 := (get_at (l.take (pl n l)) ⟨n, v⟩ (l.drop (pl n l)) n (by omega) hA hx').1
        have e4 : ins n v l = l.take (pl n l) ++ (⟨n, v⟩ : S45) :: l.drop (pl n l) := by unfold ins; simp
        rw [← e4] at e3
        exact looks_main l n v hl3 _ _ (by omega) e1 e2 (with_none l n v (by omega) h) e3 (refWith_none l n v (by omega) hs h)
end Go.Proofs.Ytnellpilmjjbcaa.Pure
