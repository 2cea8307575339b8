/- The document's Place and Drop (tendrilref19), against the plain law of links. -/
import Derived.Test.YtgamhkhninogeaaP4
namespace Go.Proofs.Ytgamhkhninogeaa.Pure
open Go.RowKit Go.Proofs.Ytgamhkhninogeaa.G Go.Proofs.YtgamhkhninogeaaW.PrintLast
open Go.Proofs.YtgamhkhninogeaaW.PrintWords (LeO rd)
set_option linter.unusedVariables false
set_option linter.unusedSimpArgs false

theorem in_ref (r : List S65) (x : Int) : tendrilref19_in.f r x = some (hasB r.length x) := by
  unfold tendrilref19_in.f hasB
  by_cases h : x ≥ 0
  · rw [if_pos h]
    congr 1
    rw [decide_eq_decide]
    exact ⟨fun q => ⟨h, q⟩, fun q => q.2⟩
  · rw [if_neg h, decide_eq_false]
    exact fun q => h q.1
theorem rd_get (l : List Int) (i : Nat) (h : i < l.length) : rd l (i : Int) = l[i] := by
  unfold rd
  simp [h]
theorem find_l0 (l : List Int) (b : Int) (hl : l.length ≤ 1000000) (d : Nat) : ∀ i : Nat, i + d = l.length → (∀ j, j < i → rd l (j : Int) ≠ b) →
    ∃ t, Ev (fun k => tendrilref19_Find.l0 k l b (l.length : Int) (i : Int)) t ∧ ((t = -1 ∧ b ∉ l) ∨ ∃ j : Nat, t = (j : Int) ∧ j < l.length ∧ rd l (j : Int) = b ∧ ∀ j', j' < j → rd l (j' : Int) ≠ b) := by
  induction d with
  | zero =>
    intro i hi hj
    refine ⟨-1, (Ev.pure _).step (fun k => by rw [tendrilref19_Find.l0, if_neg (by omega)]), .inl ⟨rfl, fun hm => ?_⟩⟩
    obtain ⟨j, hjl, e⟩ := List.getElem_of_mem hm
    have := hj j (by omega)
    rw [rd_get l j hjl] at this
    exact this e
  | succ d ih =>
    intro i hi hj
    by_cases c : rd l (i : Int) = b
    · exact ⟨i, (Ev.pure _).step (fun k => by rw [tendrilref19_Find.l0, if_pos (by omega), if_pos (by omega), if_pos (by omega), if_pos c]), .inr ⟨i, rfl, by omega, c, hj⟩⟩
    · obtain ⟨t, ht, h⟩ := ih (i + 1) (by omega) (fun j hj' => by
        by_cases e : j = i
        · subst e; exact c
        · exact hj j (by omega))
      refine ⟨t, ht.step (fun k => ?_), h⟩
      rw [tendrilref19_Find.l0, if_pos (by omega), if_pos (by omega), if_pos (by omega), if_neg c, w1 (by omega) (by omega)]
      rfl
theorem find_ref (l : List Int) (b : Int) (hl : l.length ≤ 1000000) :
    ∃ t, Ev (fun k => tendrilref19_Find.f k l b) t ∧ ((t = -1 ∧ b ∉ l) ∨ ∃ j : Nat, t = (j : Int) ∧ j < l.length ∧ rd l (j : Int) = b) := by
  obtain ⟨t, ht, h⟩ := find_l0 l b hl l.length 0 (by omega) (fun j hj => by omega)
  refine ⟨t, ht.eq (fun k => rfl), ?_⟩
  rcases h with h | ⟨j, h1, h2, h3, _⟩
  · exact .inl h
  · exact .inr ⟨j, h1, h2, h3⟩
theorem LR.kids_le {r : List S65} {F : FF} (h : LR r F) (i : Int) (h0 : 0 ≤ i) (h1 : i < r.length) : (Kr r i).length ≤ r.length :=
  nodup_le _ _ (h.st.nd i h0 h1) (fun a ha => by have := (h.st.kid i a h0 h1).1 ha; exact ⟨this.1, this.2.1⟩)
/-- Entries but for one that is placed. -/
def Placed (r r' : List S65) (x up : Int) (A B : List Int) : Prop := r'.length = r.length ∧ ∀ i : Int, 0 ≤ i → i < r.length → Ur r' i = (if i = x then up else Ur r i) ∧ Kr r' i = (if i = up then A ++ x :: B else Kr r i)
theorem placed_set (r : List S65) (x up : Int) (A B : List Int) (hx0 : 0 ≤ x) (hx : x < r.length) (hu0 : 0 ≤ up) (hu : up < r.length) (hne : x ≠ up) :
    Placed r ((r.set up.toNat ⟨(rd_T65 r up).f0, A ++ [x] ++ B⟩).set x.toNat ⟨up, (rd_T65 (r.set up.toNat ⟨(rd_T65 r up).f0, A ++ [x] ++ B⟩) x).f1⟩) x up A B := by
  refine ⟨by simp, fun i i0 i1 => ?_⟩
  have hl : (r.set up.toNat (⟨(rd_T65 r up).f0, A ++ [x] ++ B⟩ : S65)).length = r.length := by simp
  unfold Ur Kr
  rw [rd_set _ x _ i hx0 (by rw [hl]; exact hx) i0]
  by_cases c : i = x
  · subst c
    rw [if_pos rfl, if_pos rfl, if_neg hne]
    refine ⟨rfl, ?_⟩
    show (rd_T65 (r.set up.toNat _) i).f1 = _
    rw [rd_set r up _ i hu0 hu i0, if_neg hne]
  · rw [if_neg c, if_neg c, rd_set r up _ i hu0 hu i0]
    by_cases d : i = up
    · subst d
      rw [if_pos rfl, if_pos rfl]
      exact ⟨rfl, by simp⟩
    · rw [if_neg d, if_neg d]
      exact ⟨rfl, rfl⟩
/-- What the document's Place says. -/
inductive PCase (r : List S65) (x up b : Int) : List S65 → Int → Prop
  | none : ¬ (inP r.length x ∧ inP r.length up ∧ (b = -1 ∨ inP r.length b)) → PCase r x up b r 13
  | held : inP r.length x → inP r.length up → (b = -1 ∨ inP r.length b) → 0 ≤ Ur r x → PCase r x up b r 15
  | cycle (l : List Int) : inP r.length x → inP r.length up → (b = -1 ∨ inP r.length b) → Ur r x < 0 → Way (Ur r) up l → (∀ a ∈ l, 0 ≤ a ∧ a < r.length) → x ∈ l → PCase r x up b r 17
  | at_ (l : List Int) : inP r.length x → inP r.length up → inP r.length b → Ur r x < 0 → Way (Ur r) up l → (∀ a ∈ l, 0 ≤ a ∧ a < r.length) → x ∉ l → Ur r b ≠ up → PCase r x up b r 18
  | ok (l : List Int) (A B : List Int) (r' : List S65) : inP r.length x → inP r.length up → (b = -1 ∨ inP r.length b) → Ur r x < 0 → Way (Ur r) up l → (∀ a ∈ l, 0 ≤ a ∧ a < r.length) → x ∉ l → Kr r up = A ++ B → (b = -1 ∧ B = []) ∨ (∃ B', B = b :: B') → Placed r r' x up A B → PCase r x up b r' 0
theorem place_j0_true (r : List S65) (x up b : Int) : Ev (fun k => tendrilref19_Place.j0 k r x up b true) (r, 13) := (Ev.pure (r, (13 : Int))).step (fun k => by rw [tendrilref19_Place.j0, if_pos rfl])
theorem place_j0 (r : List S65) (F : FF) (h : LR r F) (hn : r.length ≤ 1000000) (x up b : Int) (hx : inP r.length x) (hu : inP r.length up) (hb : b = -1 ∨ inP r.length b) :
    ∃ r' c, Ev (fun k => tendrilref19_Place.j0 k r x up b false) (r', c) ∧ PCase r x up b r' c := by
  by_cases hf : Ur r x < 0
  · have hf' : ¬ (rd_T65 r x).f0 ≥ 0 := by have : (rd_T65 r x).f0 < 0 := hf; omega
    obtain ⟨l', w, hbd, _⟩ := h.st.way1 up hu.1 hu.2
    have eu : Ev (fun k => tendrilref19_Under.f k r up x) (decide (x ∈ up :: l')) := (under_ev r x (up :: l') up w hbd).eq (fun k => rfl)
    by_cases hm : x ∈ up :: l'
    · refine ⟨r, 17, eu.via (Ev.pure _) (fun k hk => ?_), .cycle _ hx hu hb hf w hbd hm⟩
      rw [tendrilref19_Place.j0, if_neg (by decide), if_pos hx.1, if_pos hx.2, if_neg hf', hk]
      simp only [Option.bind_some]
      rw [if_pos (decide_eq_true hm)]
    · have hne : x ≠ up := fun e => hm (e ▸ List.mem_cons_self ..)
      have hmf : ¬ decide (x ∈ up :: l') = true := by simp only [decide_eq_true_eq]; exact hm
      have hkl := h.kids_le up hu.1 hu.2
      have hlen : ((rd_T65 r up).f1).length ≤ r.length := hkl
      by_cases c : b = -1
      · refine ⟨_, 0, eu.via (Ev.pure (_, (0 : Int))) (fun k hk => ?_), .ok _ (Kr r up) [] _ hx hu hb hf w hbd hm (by simp) (.inl ⟨c, rfl⟩) (placed_set r x up (Kr r up) [] hx.1 hx.2 hu.1 hu.2 hne)⟩
        rw [tendrilref19_Place.j0, if_neg (by decide), if_pos hx.1, if_pos hx.2, if_neg hf', hk]
        simp only [Option.bind_some, List.nil_append, List.length_nil, Int.toNat_natCast]
        rw [if_neg hmf, if_pos hu.1, if_pos hu.2, if_pos c, if_neg (by omega), if_pos (by omega), if_pos (by omega), if_pos (by omega)]
        simp only [List.take_length, List.drop_length, List.length_append, List.length_singleton, List.length_nil, List.append_nil]
        rw [if_pos (by omega), if_pos (by omega), if_pos (by omega), if_pos hu.2, if_pos hx.2]
      · have hbi : inP r.length b := by
          rcases hb with e | e
          · exact absurd e c
          · exact e
        obtain ⟨t, et, ht⟩ := find_ref (Kr r up) b (by omega)
        have et' : Ev (fun k => (tendrilref19_Under.f k r up x).bind fun t1 => (tendrilref19_Find.f k (Kr r up) b).bind fun t2 => some (t1, t2)) (decide (x ∈ up :: l'), t) :=
          eu.bind (g := fun k t1 => (tendrilref19_Find.f k (Kr r up) b).bind fun t2 => some (t1, t2)) (et.bind (g := fun k t2 => some (decide (x ∈ up :: l'), t2)) (Ev.pure _))
        obtain ⟨k1, h1⟩ := eu
        obtain ⟨k2, h2⟩ := et
        have both (G : Nat → Option (List S65 × Int)) (v : List S65 × Int) (hG : ∀ k, tendrilref19_Under.f k r up x = some (decide (x ∈ up :: l')) → tendrilref19_Find.f k ((rd_T65 r up).f1) b = some t → G (k + 1) = some v) : Ev G v :=
          ⟨max k1 k2 + 1, fun k hk => by obtain ⟨m, rfl⟩ : ∃ m, k = m + 1 := ⟨k - 1, by omega⟩; exact hG m (h1 m (by omega)) (h2 m (by omega))⟩
        rcases ht with ⟨e, hnm⟩ | ⟨j, e, hj, hjb⟩
        · have hub : Ur r b ≠ up := fun q => hnm ((h.st.kid up b hu.1 hu.2).2 ⟨hbi.1, hbi.2, q⟩)
          refine ⟨r, 18, both _ _ (fun k q1 q2 => ?_), .at_ _ hx hu hbi hf w hbd hm hub⟩
          rw [tendrilref19_Place.j0, if_neg (by decide), if_pos hx.1, if_pos hx.2, if_neg hf', q1]
          simp only [Option.bind_some]
          rw [if_neg hmf, if_pos hu.1, if_pos hu.2, if_neg c, q2]
          simp only [Option.bind_some]
          rw [if_pos (by omega)]
        · have hdrop : (Kr r up).drop j = b :: (Kr r up).drop (j + 1) := by
            rw [List.drop_eq_getElem_cons hj]
            rw [rd_get _ j hj] at hjb
            rw [hjb]
          have hj' : j < ((rd_T65 r up).f1).length := hj
          refine ⟨_, 0, both _ (_, (0 : Int)) (fun k q1 q2 => ?_), .ok _ ((Kr r up).take j) ((Kr r up).drop j) _ hx hu hb hf w hbd hm (List.take_append_drop j _).symm (.inr ⟨_, hdrop⟩) (placed_set r x up ((Kr r up).take j) ((Kr r up).drop j) hx.1 hx.2 hu.1 hu.2 hne)⟩
          have t1 : (((rd_T65 r up).f1).take j).length ≤ r.length := by simp; omega
          have t2 : (((rd_T65 r up).f1).drop j).length ≤ r.length := by simp; omega
          rw [tendrilref19_Place.j0, if_neg (by decide), if_pos hx.1, if_pos hx.2, if_neg hf', q1]
          simp only [Option.bind_some]
          rw [if_neg hmf, if_pos hu.1, if_pos hu.2, if_neg c, q2]
          simp only [Option.bind_some, List.nil_append, List.length_nil, e, Int.toNat_natCast]
          rw [if_neg (by omega), if_pos (by omega), if_pos (by omega), if_pos (by omega), if_pos (by omega), if_pos (by omega), if_pos (by simp only [List.length_append, List.length_singleton]; omega), if_pos hu.2, if_pos hx.2]
  · have hf' : (rd_T65 r x).f0 ≥ 0 := by have : ¬ (rd_T65 r x).f0 < 0 := hf; omega
    exact ⟨r, 15, (Ev.pure _).step (fun k => by rw [tendrilref19_Place.j0, if_neg (by decide), if_pos hx.1, if_pos hx.2, if_pos hf']), .held hx hu hb hf'⟩
theorem place_ref (r : List S65) (F : FF) (h : LR r F) (hn : r.length ≤ 1000000) (x up b : Int) : ∃ r' c, (∃ k, tendrilref19_Place.f k r x up b = some (r', c)) ∧ PCase r x up b r' c := by
  by_cases hx : inP r.length x
  · by_cases hu : inP r.length up
    · by_cases c : b = -1
      · obtain ⟨r', q, he, hp⟩ := place_j0 r F h hn x up b hx hu (.inl c)
        refine ⟨r', q, (he.eq (f := fun k => tendrilref19_Place.f k r x up b) (fun k => ?_)).ex, hp⟩
        unfold tendrilref19_Place.f
        rw [in_ref, in_ref, hasB_true hx, hasB_true hu]
        simp only [Option.bind_some, if_pos]
        rw [if_pos c]
      · by_cases hb : inP r.length b
        · obtain ⟨r', q, he, hp⟩ := place_j0 r F h hn x up b hx hu (.inr hb)
          refine ⟨r', q, (he.eq (f := fun k => tendrilref19_Place.f k r x up b) (fun k => ?_)).ex, hp⟩
          unfold tendrilref19_Place.f
          rw [in_ref, in_ref, in_ref, hasB_true hx, hasB_true hu, hasB_true hb]
          simp only [Option.bind_some, if_pos]
          rw [if_neg c]
          rfl
        · refine ⟨r, 13, ((place_j0_true r x up b).eq (f := fun k => tendrilref19_Place.f k r x up b) (fun k => ?_)).ex, .none (fun q => ?_)⟩
          · unfold tendrilref19_Place.f
            rw [in_ref, in_ref, in_ref, hasB_true hx, hasB_true hu, hasB_false hb]
            simp only [Option.bind_some, if_pos]
            rw [if_neg c]
            rfl
          · rcases q.2.2 with e | e
            · exact c e
            · exact hb e
    · refine ⟨r, 13, ((place_j0_true r x up b).eq (f := fun k => tendrilref19_Place.f k r x up b) (fun k => ?_)).ex, .none (fun q => hu q.2.1)⟩
      unfold tendrilref19_Place.f
      rw [in_ref, in_ref, hasB_true hx, hasB_false hu]
      simp only [Option.bind_some, if_pos]
      rw [if_neg (by decide)]
  · refine ⟨r, 13, ((place_j0_true r x up b).eq (f := fun k => tendrilref19_Place.f k r x up b) (fun k => ?_)).ex, .none (fun q => hx q.1)⟩
    unfold tendrilref19_Place.f
    rw [in_ref, hasB_false hx]
    simp only [Option.bind_some]
    rw [if_neg (by decide)]
end Go.Proofs.Ytgamhkhninogeaa.Pure
