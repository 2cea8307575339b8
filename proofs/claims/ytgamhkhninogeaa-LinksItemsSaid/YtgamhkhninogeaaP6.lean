/- The document's Drop (tendrilref19), against the plain law of links. -/
import Derived.Test.YtgamhkhninogeaaP5
namespace Go.Proofs.Ytgamhkhninogeaa.Pure
open Go.RowKit Go.Proofs.Ytgamhkhninogeaa.G Go.Proofs.YtgamhkhninogeaaW.PrintLast
open Go.Proofs.YtgamhkhninogeaaW.PrintWords (LeO rd)
set_option linter.unusedVariables false
set_option linter.unusedSimpArgs false

/-- Entries but for one that is dropped. -/
def Dropped (r r' : List S65) (x u : Int) (A B : List Int) : Prop := r'.length = r.length ∧ ∀ i : Int, 0 ≤ i → i < r.length → Ur r' i = (if i = x then -1 else Ur r i) ∧ Kr r' i = (if i = u then A ++ B else Kr r i)
def droppedR (r : List S65) (x u : Int) (K : List Int) : List S65 := (r.set u.toNat ⟨(rd_T65 r u).f0, K⟩).set x.toNat ⟨-1, (rd_T65 (r.set u.toNat ⟨(rd_T65 r u).f0, K⟩) x).f1⟩
theorem dropped_set (r : List S65) (x u : Int) (A B : List Int) (hx0 : 0 ≤ x) (hx : x < r.length) (hu0 : 0 ≤ u) (hu : u < r.length) (hne : x ≠ u) : Dropped r (droppedR r x u (A ++ B)) x u A B := by
  refine ⟨by simp [droppedR], fun i i0 i1 => ?_⟩
  have hl : (r.set u.toNat (⟨(rd_T65 r u).f0, A ++ B⟩ : S65)).length = r.length := by simp
  unfold Ur Kr droppedR
  rw [rd_set _ x _ i hx0 (by rw [hl]; exact hx) i0]
  by_cases c : i = x
  · subst c
    rw [if_pos rfl, if_pos rfl, if_neg hne]
    refine ⟨rfl, ?_⟩
    show (rd_T65 (r.set u.toNat _) i).f1 = _
    rw [rd_set r u _ i hu0 hu i0, if_neg hne]
  · rw [if_neg c, if_neg c, rd_set r u _ i hu0 hu i0]
    by_cases d : i = u
    · subst d
      rw [if_pos rfl, if_pos rfl]
      exact ⟨rfl, rfl⟩
    · rw [if_neg d, if_neg d]
      exact ⟨rfl, rfl⟩
theorem drop_l0 (r : List S65) (x u : Int) (hx : inP r.length x) (hu : inP r.length u) (hl : (Kr r u).length ≤ 1000000) (d : Nat) : ∀ i : Nat, i + d = (Kr r u).length →
    Ev (fun k => tendrilref19_Drop.l0 k r x r u (((Kr r u).take i).filter (fun a => !(a == x))) ((Kr r u).length : Int) (i : Int)) (droppedR r x u ((Kr r u).filter (fun a => !(a == x))), 0) := by
  have hl' : ((rd_T65 r u).f1).length ≤ 1000000 := hl
  induction d with
  | zero =>
    intro i hi
    have e : (Kr r u).take i = Kr r u := List.take_of_length_le (by omega)
    rw [e]
    refine (Ev.pure _).step (fun k => ?_)
    rw [tendrilref19_Drop.l0, if_neg (by omega), if_pos hu.1, if_pos hu.2]
    simp only [Option.bind_some]
    rw [if_pos hx.1, if_pos hx.2]
    rfl
  | succ d ih =>
    intro i hi
    have hi' : i < (Kr r u).length := by omega
    have hi2 : i < ((rd_T65 r u).f1).length := hi'
    have et : (Kr r u).take (i + 1) = (Kr r u).take i ++ [(Kr r u)[i]] := by rw [List.take_succ_eq_append_getElem hi']
    have hrd : rd ((rd_T65 r u).f1) (i : Int) = (Kr r u)[i] := rd_get _ i hi'
    have ih := ih (i + 1) (by omega)
    rw [et, List.filter_append] at ih
    refine ih.step (fun k => ?_)
    rw [tendrilref19_Drop.l0, if_pos (by omega), if_pos hu.1, if_pos hu.2, if_pos (by omega), if_pos (by omega), hrd, w1 (by omega) (by omega)]
    by_cases c : (Kr r u)[i] = x
    · rw [if_pos c]
      have : List.filter (fun a => !(a == x)) [(Kr r u)[i]] = [] := by simp [c]
      rw [this, List.append_nil]
      rfl
    · rw [if_neg c]
      have : List.filter (fun a => !(a == x)) [(Kr r u)[i]] = [(Kr r u)[i]] := by simp [c]
      rw [this, if_pos ?_]
      · rfl
      · have q := List.length_filter_le (fun a => !(a == x)) ((Kr r u).take i)
        have : ((Kr r u).take i).length ≤ (Kr r u).length := by simp; omega
        omega
theorem filter_mid (A B : List Int) (x : Int) (hA : x ∉ A) (hB : x ∉ B) : (A ++ x :: B).filter (fun a => !(a == x)) = A ++ B := by
  rw [List.filter_append, List.filter_cons_of_neg (by simp)]
  congr 1
  · exact List.filter_eq_self.2 (fun a ha => by simp; intro e; exact hA (e ▸ ha))
  · exact List.filter_eq_self.2 (fun a ha => by simp; intro e; exact hB (e ▸ ha))
/-- What the document's Drop says. -/
inductive DCase (r : List S65) (x : Int) : List S65 → Int → Prop
  | none : ¬ inP r.length x → DCase r x r 13
  | free : inP r.length x → Ur r x < 0 → DCase r x r 16
  | ok (r' : List S65) : inP r.length x → 0 ≤ Ur r x → Ur r x < r.length → (∀ A B, Kr r (Ur r x) = A ++ x :: B → Dropped r r' x (Ur r x) A B) → DCase r x r' 0
theorem drop_ref (r : List S65) (F : FF) (h : LR r F) (hn : r.length ≤ 1000000) (x : Int) : ∃ r' c, (∃ k, tendrilref19_Drop.f k r x = some (r', c)) ∧ DCase r x r' c := by
  by_cases hx : inP r.length x
  · by_cases hf : Ur r x < 0
    · refine ⟨r, 16, ⟨0, ?_⟩, .free hx hf⟩
      have hf' : (rd_T65 r x).f0 < 0 := hf
      unfold tendrilref19_Drop.f
      rw [in_ref, hasB_true hx]
      simp only [Option.bind_some, if_pos]
      rw [if_pos hx.1, if_pos hx.2, if_pos hf']
    · have hu : inP r.length (Ur r x) := ⟨by omega, (h.st.up x hx.1 hx.2).2⟩
      have hkl := h.kids_le (Ur r x) hu.1 hu.2
      have hux : x ≠ Ur r x := by
        intro e
        obtain ⟨ρ, hρ⟩ := h.st.rk
        have := hρ x hx.1 hx.2 hu.1
        rw [← e] at this
        omega
      have he := drop_l0 r x (Ur r x) hx hu (by omega) (Kr r (Ur r x)).length 0 (by omega)
      rw [List.take_zero, List.filter_nil] at he
      refine ⟨_, 0, (he.eq (f := fun k => tendrilref19_Drop.f k r x) (fun k => ?_)).ex, .ok _ hx hu.1 hu.2 (fun A B hK => ?_)⟩
      · have hf' : ¬ (rd_T65 r x).f0 < 0 := hf
        unfold tendrilref19_Drop.f
        rw [in_ref, hasB_true hx]
        simp only [Option.bind_some, if_pos]
        rw [if_pos hx.1, if_pos hx.2, if_neg hf', if_pos (by simp; omega), if_pos hu.1, if_pos hu.2]
        rfl
      · have hnd := h.st.nd (Ur r x) hu.1 hu.2
        rw [hK, List.nodup_append, List.nodup_cons] at hnd
        rw [hK, filter_mid A B x (fun m => hnd.2.2 x m x (List.mem_cons_self ..) rfl) hnd.2.1.1]
        exact dropped_set r x (Ur r x) A B hx.1 hx.2 hu.1 hu.2 hux
  · refine ⟨r, 13, ⟨0, ?_⟩, .none hx⟩
    unfold tendrilref19_Drop.f
    rw [in_ref, hasB_false hx]
    simp only [Option.bind_some]
    rw [if_neg (by decide)]
end Go.Proofs.Ytgamhkhninogeaa.Pure
