/- What the claim LawMatchLabels rests on, part 5 of 7: the kit's words, the printed walks, the walks by hand, the plain laws. -/
import Derived.Test.YtelacebdmmanhaaB2
import Derived.Test.YtelacebdmmanhaaB3
import Derived.Test.YtelacebdmmanhaaB4
namespace Go.Proofs.Ytelacebdmmanhaa.Pure
open Go.RowKit Go.Proofs.Ytelacebdmmanhaa.G Go.Proofs.YtelacebdmmanhaaW.PrintWords Go.Proofs.YtelacebdmmanhaaW.PrintLast
set_option linter.unusedVariables false
set_option linter.unusedSimpArgs false
theorem wn {q : Nat} (h : q ≤ 1000000000) : wrap64 ((q : Int) + 1) = ((q + 1 : Nat) : Int) := by rw [w1 (by omega) (by omega)]; rfl
theorem refLabels_ev (l : List S32) (hl : l.length ≤ 1000000) : Ev (fun _ => r14_Labels.f l) (labsR l l.length) := .all fun _ => if_pos hl
theorem kids_take (l : List S32) (p : Nat) (hp : p < l.length) (h : Int) : kidsIdx (l.take (p + 1)) 0 h = kidsIdx (l.take p) 0 h ++ (if (rd_T32 l p).f1 = h then [((p + 1 : Nat) : Int)] else []) := by
  have e : l.take (p + 1) = l.take p ++ [rd_T32 l p] := by
    rw [List.take_succ_eq_append_getElem hp]; unfold rd_T32; rw [Int.toNat_natCast, List.getD_eq_getElem?_getD, List.getElem?_eq_getElem hp]; rfl
  rw [e, kidsIdx_app, List.length_take, Nat.min_eq_left (by omega)]
  congr 1
  rw [kidsIdx]; simp only [kidsIdx]; split <;> simp
theorem kids_split (l : List S32) (p : Nat) (hp : p ≤ l.length) (h : Int) : ∃ r, kidsIdx l 0 h = kidsIdx (l.take p) 0 h ++ r := by
  refine ⟨kidsIdx (l.drop p) (0 + (l.take p).length) h, ?_⟩; rw [← kidsIdx_app, List.take_append_drop]
/-- Where a row stands among its siblings. -/
def jOf (l : List S32) (h : Int) (p : Nat) : Nat := (kidsIdx (l.take p) 0 h).length
theorem kids_at (l : List S32) (h : Int) (p : Nat) (hp : p < l.length) (hf : (rd_T32 l p).f1 = h) : (kidsIdx l 0 h)[jOf l h p]? = some ((p + 1 : Nat) : Int) := by
  obtain ⟨r, e⟩ := kids_split l (p + 1) (by omega) h; rw [e, kids_take l p hp h, if_pos hf, List.append_assoc]; unfold jOf; rw [List.getElem?_append_right (Nat.le_refl _)]; simp
theorem kids_pos (l : List S32) (h : Int) : ∀ (p : Nat), p ≤ l.length → ∀ (j : Nat) (v : Int), (kidsIdx (l.take p) 0 h)[j]? = some v → ∃ q : Nat, q < p ∧ v = ((q + 1 : Nat) : Int) ∧ (rd_T32 l q).f1 = h ∧ jOf l h q = j
  | 0, _, j, v, e => by simp [kidsIdx] at e
  | p + 1, hp, j, v, e => by
    rw [kids_take l p (by omega) h] at e
    by_cases c : j < (kidsIdx (l.take p) 0 h).length
    · rw [List.getElem?_append_left c] at e
      obtain ⟨q, a, b⟩ := kids_pos l h p (by omega) j v e
      exact ⟨q, by omega, b⟩
    · rw [List.getElem?_append_right (by omega)] at e
      split at e
      · next hf =>
        have hj : j - (kidsIdx (l.take p) 0 h).length = 0 := by
          have := (List.getElem?_eq_some_iff.1 e).1
          simp at this
          omega
        rw [hj] at e
        simp at e
        exact ⟨p, by omega, by rw [← e]; rfl, hf, by unfold jOf; omega⟩
      · simp at e
theorem kids_get (l : List S32) (h : Int) (j : Nat) (hj : j < (kidsIdx l 0 h).length) : ∃ q : Nat, q < l.length ∧ rd (kidsIdx l 0 h) j = ((q + 1 : Nat) : Int) ∧ (rd_T32 l q).f1 = h ∧ jOf l h q = j := by
  have e := List.getElem?_eq_getElem hj
  have e2 : (kidsIdx (l.take l.length) 0 h)[j]? = some ((kidsIdx l 0 h)[j]) := by rw [List.take_length]; exact e
  obtain ⟨q, a, b, c, d⟩ := kids_pos l h l.length (Nat.le_refl _) j _ e2; refine ⟨q, a, ?_, c, d⟩; rw [← b]; unfold rd; rw [Int.toNat_natCast, List.getD_eq_getElem?_getD, e]; rfl
theorem jOf_lt (l : List S32) (h : Int) (p : Nat) (hp : p < l.length) (hf : (rd_T32 l p).f1 = h) : jOf l h p < (kidsIdx l 0 h).length := (List.getElem?_eq_some_iff.1 (kids_at l h p hp hf)).1
def nodeAt (l : List S32) (h : Int) : S54 := ⟨(rd_T32 l (h - 1)).f2, (rd_T32 l (h - 1)).f3, (⟨#[]⟩ : ByteArray), [], []⟩
theorem cntE_append (a b : List S54) (t : ByteArray) : ∀ i, i ≤ a.length → cntE (a ++ b) t i = cntE a t i
  | 0, _ => rfl
  | i + 1, h => by
    have e : at54 (a ++ b) i = at54 a i := by
      unfold at54
      rw [List.getD_eq_getElem?_getD, List.getD_eq_getElem?_getD, List.getElem?_append_left (by omega)]
    unfold cntE
    rw [e, cntE_append a b t i (by omega)]
theorem cntE_kids (l : List S32) (h : Int) (t : ByteArray) : ∀ p, p ≤ l.length → cntE ((kidsIdx (l.take p) 0 h).map (nodeAt l)) t (jOf l h p) = cntR l h t.toList p
  | 0, _ => rfl
  | p + 1, hp => by
    have ih := cntE_kids l h t p (by omega)
    unfold jOf at ih ⊢
    rw [kids_take l p (by omega) h]
    by_cases c : (rd_T32 l p).f1 = h
    · rw [if_pos c, List.length_append, List.length_singleton, List.map_append]
      have e : at54 ((kidsIdx (l.take p) 0 h).map (nodeAt l) ++ [((p + 1 : Nat) : Int)].map (nodeAt l)) (kidsIdx (l.take p) 0 h).length = nodeAt l ((p + 1 : Nat) : Int) := by
        unfold at54
        rw [List.getD_eq_getElem?_getD, List.getElem?_append_right (by simp)]
        simp
      have en : nodeAt l ((p + 1 : Nat) : Int) = ⟨(rd_T32 l p).f2, (rd_T32 l p).f3, (⟨#[]⟩ : ByteArray), [], []⟩ := by
        unfold nodeAt; rw [show ((p + 1 : Nat) : Int) - 1 = (p : Int) by omega]
      rw [cntE, cntR, e, en, cntE_append _ _ _ _ (by simp), ih]
      by_cases q : (rd_T32 l p).f3.toList = [] ∧ (rd_T32 l p).f2.toList = t.toList
      · rw [if_pos q, if_pos ⟨c, q⟩]
      · rw [if_neg q, if_neg (fun e => q e.2)]
    · rw [if_neg c, List.append_nil, ih, cntR, if_neg (fun e => c e.1)]
theorem labAt_kids (l : List S32) (h : Int) (p : Nat) (hp : p < l.length) (hf : (rd_T32 l p).f1 = h) : labAt ((kidsIdx l 0 h).map (nodeAt l)) (jOf l h p) = labR l p := by
  have e : at54 ((kidsIdx l 0 h).map (nodeAt l)) (jOf l h p) = nodeAt l ((p + 1 : Nat) : Int) := by
    unfold at54; rw [List.getD_eq_getElem?_getD, List.getElem?_map, kids_at l h p hp hf]; rfl
  have en : nodeAt l ((p + 1 : Nat) : Int) = ⟨(rd_T32 l p).f2, (rd_T32 l p).f3, (⟨#[]⟩ : ByteArray), [], []⟩ := by
    unfold nodeAt; rw [show ((p + 1 : Nat) : Int) - 1 = (p : Int) by omega]
  unfold labAt labR; rw [e, en, hf]; simp only
  congr 1
  split
  · obtain ⟨r, es⟩ := kids_split l (p + 1) (by omega) h
    have hj : jOf l h (p + 1) = jOf l h p + 1 := by
      unfold jOf; rw [kids_take l p hp h, if_pos hf, List.length_append]; rfl
    have := cntE_kids l h (rd_T32 l p).f2 (p + 1) (by omega)
    rw [hj] at this
    rw [es, List.map_append, cntE_append _ _ _ _ (by rw [List.length_map, ← hj]; exact Nat.le_refl _), this]
  · rfl
theorem labT_at (ns : List S54) : ∀ (m j : Nat), j < m → rd_T37 (labT ns m) j = labAt ns j
  | 0, _, h => by omega
  | m + 1, j, h => by
    unfold rd_T37 labT
    rw [Int.toNat_natCast, List.getD_eq_getElem?_getD]
    by_cases c : j < m
    · rw [List.getElem?_append_left (by rw [labT_len]; exact c)]
      have := labT_at ns m j c
      unfold rd_T37 at this
      rw [Int.toNat_natCast, List.getD_eq_getElem?_getD] at this
      exact this
    · obtain rfl : j = m := by omega
      rw [List.getElem?_append_right (by rw [labT_len]; exact Nat.le_refl _), labT_len]
      simp
theorem up_of {l : List S32} (hg : GoodTo l l.length) (p : Nat) (hp : p < l.length) : 0 ≤ (rd_T32 l p).f1 ∧ (rd_T32 l p).f1 ≤ p := by
  have := hg.up (x := (p : Int) + 1) (by omega) (by omega); rw [upOf_rd] at this; exact ⟨this.1, by omega⟩
/-- What stands in the labels behind so many handles, and so many kids of the next one. -/
def PL (l : List S32) (out : List S37) (h : Int) (j : Nat) : Prop := out.length = l.length ∧ ∀ p : Nat, p < l.length → ((rd_T32 l p).f1 < h ∨ ((rd_T32 l p).f1 = h ∧ jOf l h p < j)) → rd_T37 out p = labR l p
theorem PL.next {l : List S32} {out : List S37} {h : Nat} (a : PL l out h (kidsIdx l 0 h).length) : PL l out ((h + 1 : Nat) : Int) 0 := by
  refine ⟨a.1, fun p hp hor => a.2 p hp ?_⟩
  rcases hor with q | q
  · by_cases e : (rd_T32 l p).f1 = h
    · exact .inr ⟨e, jOf_lt l h p hp e⟩
    · exact .inl (by omega)
  · omega
theorem rd37_set (xs : List S37) (i j : Nat) (v : S37) (h : i < xs.length) : rd_T37 (xs.set i v) j = if j = i then v else rd_T37 xs j := by
  unfold rd_T37; rw [Int.toNat_natCast, List.getD_eq_getElem?_getD, List.getD_eq_getElem?_getD, List.getElem?_set]
  by_cases e : i = j
  (subst e; rw [if_pos rfl, if_pos h, if_pos rfl]; rfl); (rw [if_neg e, if_neg (fun q => e q.symm)])
theorem PL.put {l : List S32} {out : List S37} {h : Int} {j : Nat} (a : PL l out h j) (q : Nat) (hq : q < l.length) (hf : (rd_T32 l q).f1 = h) (hj : jOf l h q = j) : PL l (out.set q (labR l q)) h (j + 1) := by
  refine ⟨by rw [List.length_set]; exact a.1, fun p hp hor => ?_⟩; rw [rd37_set _ _ _ _ (by rw [a.1]; exact hq)]
  by_cases e : p = q
  · subst e; rw [if_pos rfl]
  · rw [if_neg e]
    refine a.2 p hp ?_
    rcases hor with c | ⟨c, d⟩
    · exact .inl c
    · refine .inr ⟨c, ?_⟩
      by_cases e2 : jOf l h p = j
      · exfalso
        have h1 := kids_at l h p hp c
        have h2 := kids_at l h q hq hf
        rw [e2] at h1
        rw [hj, h1] at h2
        have := Option.some.inj h2
        omega
      · omega
theorem PL.all {l : List S32} (hg : GoodTo l l.length) {out : List S37} (a : PL l out ((l.length + 1 : Nat) : Int) 0) : out = labsR l l.length := by
  refine List.ext_getElem (by rw [a.1, labsR_len]) (fun p h1 h2 => ?_)
  have hp : p < l.length := by rw [← a.1]; exact h1
  have := a.2 p hp (.inl (by have := up_of hg p hp; omega)); have e2 := labsR_at l l.length p hp; rw [← e2] at this; unfold rd_T37 at this; rw [Int.toNat_natCast, List.getD_eq_getElem?_getD, List.getD_eq_getElem?_getD, List.getElem?_eq_getElem h1, List.getElem?_eq_getElem h2] at this; exact this
structure KL (l : List S32) (kids : List (List Int)) : Prop where
  n : kids.length = l.length + 1
  at_ : ∀ j : Int, 0 ≤ j → j ≤ l.length → rd_L7 kids j = kidsIdx l 0 j
  hl : l.length ≤ 4096
  sm : ∀ y ∈ l, Sm32 y
  good : GoodTo l l.length
theorem labels_l2 {l : List S32} {kids : List (List Int)} (K : KL l kids) (h : Nat) (hh : h ≤ l.length) (labs : List S37) (hlabs : labs = labT ((kidsIdx l 0 h).map (nodeAt l)) (kidsIdx l 0 h).length) (r : List S37)
    (hr : ∀ out, PL l out ((h + 1 : Nat) : Int) 0 → Ev (fun k => match_labels.l0 k l out kids kids.length ((h + 1 : Nat) : Int)) r) (d : Nat) :
    ∀ (j : Nat) (out : List S37), (kidsIdx l 0 h).length - j = d → j ≤ (kidsIdx l 0 h).length → PL l out h j → Ev (fun k => match_labels.l2 k l out (kidsIdx l 0 h) kids kids.length h labs labs.length (j : Int)) r := by
  have hll : labs.length = (kidsIdx l 0 h).length := by rw [hlabs, labT_len]
  have hkl := kidsIdx_len l 0 h; have hle := K.hl
  induction d with
  | zero =>
    intro j out hd hj hP
    obtain rfl : j = (kidsIdx l 0 h).length := by omega
    refine (hr out hP.next).step (fun k => ?_); rw [match_labels.l2, if_neg (by omega), wn (by omega)]
  | succ d ih =>
    intro j out hd hj hP
    have hj2 : j < (kidsIdx l 0 h).length := by omega
    obtain ⟨q, q1, q2, q3, q4⟩ := kids_get l h j hj2
    have hlab : rd_T37 labs j = labR l q := by rw [hlabs, labT_at _ _ _ hj2, ← q4]; exact labAt_kids l h q q1 q3
    refine (ih (j + 1) (out.set q (labR l q)) (by omega) (by omega) (hP.put q q1 q3 q4)).step (fun k => ?_)
    have hw : wrap64 (((q + 1 : Nat) : Int) - 1) = q := by rw [wm (by omega) (by omega)]; omega
    have ho := hP.1; rw [match_labels.l2, if_pos (by omega), if_pos (by omega), if_pos (by omega), if_pos (by omega), q2, hw, if_pos (by omega), if_pos (by omega), hlab, Int.toNat_natCast, wn (by omega)]
theorem labels_l1 {l : List S32} {kids : List (List Int)} (K : KL l kids) (h : Nat) (hh : h ≤ l.length) (out r : List S37)
    (hr : Ev (fun k => match_labels.l2 k l out (kidsIdx l 0 h) kids kids.length h (labT ((kidsIdx l 0 h).map (nodeAt l)) (kidsIdx l 0 h).length) (labT ((kidsIdx l 0 h).map (nodeAt l)) (kidsIdx l 0 h).length).length ((0 : Nat) : Int)) r) (d : Nat) :
    ∀ (j : Nat), (kidsIdx l 0 h).length - j = d → j ≤ (kidsIdx l 0 h).length → Ev (fun k => match_labels.l1 k l out (kidsIdx l 0 h) (((kidsIdx l 0 h).take j).map (nodeAt l)) kids kids.length h (kidsIdx l 0 h) (kidsIdx l 0 h).length (j : Int)) r := by
  have hkl := kidsIdx_len l 0 h; have hle := K.hl
  induction d with
  | zero =>
    intro j hd hj
    obtain rfl : j = (kidsIdx l 0 h).length := by omega
    rw [List.take_length]
    have hlen : ((kidsIdx l 0 h).map (nodeAt l)).length = (kidsIdx l 0 h).length := by simp
    have hOf : label_Of.f ((kidsIdx l 0 h).map (nodeAt l)) = some (labT ((kidsIdx l 0 h).map (nodeAt l)) (kidsIdx l 0 h).length) := by
      have hall : (((kidsIdx l 0 h).map (nodeAt l)).all fun x => decide (x.f0.size ≤ maxLen)) = true := by
        rw [List.all_eq_true]; intro x hx; obtain ⟨v, hv, rfl⟩ := List.mem_map.1 hx; obtain ⟨j, hj, rfl⟩ := List.mem_iff_getElem.1 hv; obtain ⟨q, q1, q2, _⟩ := kids_get l h j hj; have hs := K.sm (rd_T32 l q) (rd32_mem l q (by omega) (by omega))
        have e : (kidsIdx l 0 h)[j] = ((q + 1 : Nat) : Int) := by
          rw [← q2]; unfold rd; rw [Int.toNat_natCast, List.getD_eq_getElem?_getD, List.getElem?_eq_getElem hj]; rfl
        rw [e]; unfold nodeAt; rw [show ((q + 1 : Nat) : Int) - 1 = (q : Int) by omega]; exact decide_eq_true (by have := hs.h2; unfold maxLen; show (rd_T32 l q).f2.size ≤ _; omega)
      unfold label_Of.f; rw [if_pos ⟨by rw [hlen]; omega, hall⟩, hlen]
    refine hr.step (fun k => ?_); rw [match_labels.l1, if_neg (by omega), hOf, Option.bind_some]; rfl
  | succ d ih =>
    intro j hd hj
    have hj2 : j < (kidsIdx l 0 h).length := by omega
    obtain ⟨q, q1, q2, q3, q4⟩ := kids_get l h j hj2
    have hw : wrap64 (((q + 1 : Nat) : Int) - 1) = q := by rw [wm (by omega) (by omega)]; omega
    have hn : nodeAt l ((kidsIdx l 0 h)[j]) = ⟨(rd_T32 l q).f2, (rd_T32 l q).f3, (⟨#[]⟩ : ByteArray), [], []⟩ := by
      have e : (kidsIdx l 0 h)[j] = ((q + 1 : Nat) : Int) := by
        rw [← q2]; unfold rd; rw [Int.toNat_natCast, List.getD_eq_getElem?_getD, List.getElem?_eq_getElem hj2]; rfl
      rw [e]; unfold nodeAt; rw [show ((q + 1 : Nat) : Int) - 1 = (q : Int) by omega]
    have h2 := ih (j + 1) (by omega) (by omega); rw [List.take_succ_eq_append_getElem hj2, List.map_append, List.map_cons, List.map_nil, hn] at h2; refine h2.step (fun k => ?_); rw [match_labels.l1, if_pos (by omega), if_pos (by omega), if_pos (by omega), q2, hw, if_pos (by omega), if_pos (by omega), if_pos (by simp; omega), wn (by omega)]
theorem labels_l0 {l : List S32} {kids : List (List Int)} (K : KL l kids) (d : Nat) : ∀ (h : Nat) (out : List S37), l.length + 1 - h = d → h ≤ l.length + 1 → PL l out h 0 → Ev (fun k => match_labels.l0 k l out kids kids.length (h : Int)) (labsR l l.length) := by
  have hn := K.n; have hle := K.hl
  induction d with
  | zero =>
    intro h out hd hh hP
    obtain rfl : h = l.length + 1 := by omega
    refine (Ev.pure _).step (fun k => ?_); rw [match_labels.l0, if_neg (by omega), hP.all K.good]
  | succ d ih =>
    intro h out hd hh hP; have hkl := kidsIdx_len l 0 h; have := labels_l2 K h (by omega) _ rfl _ (fun out' hP' => ih (h + 1) out' (by omega) (by omega) hP') _ 0 out rfl (by omega) hP; have := labels_l1 K h (by omega) out _ this _ 0 rfl (by omega); refine this.step (fun k => ?_); rw [match_labels.l0, if_pos (by omega), if_pos (by omega), if_pos (by omega), K.at_ h (by omega) (by omega), if_pos (by omega), if_pos (by rw [Int.toNat_natCast]; omega)]; rfl
theorem labels_ev {l : List S32} {kids : List (List Int)} (K : KL l kids) : Ev (fun k => match_labels.f k l kids) (labsR l l.length) := by
  have hle := K.hl; have := labels_l0 K _ 0 (List.replicate l.length z37) rfl (by omega) ⟨by simp, fun p hp hor => by have := up_of K.good p hp; omega⟩; refine this.eq (fun k => ?_); rw [match_labels.f, if_pos (by omega), if_pos (by rw [Int.toNat_natCast]; omega), Int.toNat_natCast]; rfl
/-- Of right rows: the kids' lists and the labels. -/
theorem right_kids {l : List S32} (hl : l.length ≤ 4096) (hs : ∀ y ∈ l, Sm32 y) (hg : GoodTo l l.length) (hc : Ev (fun k => flat_Check.f k l) 0) : ∃ kids, Ev (fun k => flat_Lists.f k l) kids ∧ KL l kids := by
  obtain ⟨kids, a, b, c⟩ := lists_ev l (by omega) hg hc; exact ⟨kids, a, by omega, c, hl, hs, hg⟩
theorem cntR_mono (l : List S32) (u : Int) (t : List UInt8) : ∀ (q p : Nat), p ≤ q → cntR l u t p ≤ cntR l u t q
  | 0, p, h => by obtain rfl : p = 0 := by omega
                  exact Nat.le_refl _
  | q + 1, p, h => by
    by_cases e : p = q + 1
    · subst e; exact Nat.le_refl _
    · have := cntR_mono l u t q p (by omega)
      rw [show cntR l u t (q + 1) = if (rd_T32 l q).f1 = u ∧ (rd_T32 l q).f3.toList = [] ∧ (rd_T32 l q).f2.toList = t then cntR l u t q + 1 else cntR l u t q from rfl]
      split <;> omega
/-- Right rows. -/
structure Rt (l : List S32) : Prop where
  hl : l.length ≤ 4096
  sm : ∀ y ∈ l, Sm32 y
  good : GoodTo l l.length
  tw : ∀ i : Nat, i < l.length → ¬ Tw l i 0
theorem Rt.inj1 {l : List S32} (R : Rt l) (p q : Nat) (hpq : p < q) (hq : q < l.length) (hu : (rd_T32 l p).f1 = (rd_T32 l q).f1) : labR l p ≠ labR l q := by
  intro e; unfold labR at e; injection e with e0 e1 e2
  by_cases hk : (rd_T32 l q).f3.toList = []
  · rw [e1, if_pos hk, if_pos hk, hu, e0] at e2
    have h1 := cntR_mono l (rd_T32 l q).f1 (rd_T32 l q).f2.toList q (p + 1) (by omega)
    have h2 : cntR l (rd_T32 l q).f1 (rd_T32 l q).f2.toList (q + 1) = cntR l (rd_T32 l q).f1 (rd_T32 l q).f2.toList q + 1 := by rw [cntR, if_pos ⟨rfl, hk, rfl⟩]
    omega
  · exact R.tw q hq ⟨p, by omega, by omega, hu, hk, by rw [e1]⟩
theorem Rt.inj {l : List S32} (R : Rt l) (p q : Nat) (hp : p < l.length) (hq : q < l.length) (hu : (rd_T32 l p).f1 = (rd_T32 l q).f1) (e : labR l p = labR l q) : p = q := by
  rcases Nat.lt_trichotomy p q with h | h | h
  (exact absurd e (R.inj1 p q h hq hu)); (exact h); (exact absurd e.symm (R.inj1 q p h hp hu.symm))
/-- The handle that the one above row i is matched with. -/
def upM (b : List S32) (R : List Int) (i : Nat) : Int := if 0 < (rd_T32 b i).f1 then rd R ((rd_T32 b i).f1 - 1) else 0
/-- Row i of b may be matched with row k of a. -/
def Mt (a b : List S32) (R : List Int) (i k : Nat) : Prop := (rd_T32 a k).f1 = upM b R i ∧ labR a k = labR b i ∧ ((rd_T32 b i).f1 = 0 ∨ 0 < upM b R i)
/-- What row i is matched with. -/
def ValAt (a b : List S32) (R : List Int) (i : Nat) (v : Int) : Prop := (v = 0 ∧ ∀ k : Nat, k < a.length → ¬ Mt a b R i k) ∨ ∃ k : Nat, k < a.length ∧ Mt a b R i k ∧ v = ((k + 1 : Nat) : Int)
/-- The pairs, as_ the reference tells them. -/
structure RS (a b : List S32) (R : List Int) : Prop where
  len : R.length = b.length
  at_ : ∀ i : Nat, i < b.length → ValAt a b R i (rd R i)
theorem ValAt.uniq {a b : List S32} (Ra : Rt a) {R : List Int} {i : Nat} {v v' : Int} (h : ValAt a b R i v) (h' : ValAt a b R i v') : v = v' := by
  rcases h with ⟨rfl, h1⟩ | ⟨k, k1, k2, rfl⟩
  · rcases h' with ⟨rfl, _⟩ | ⟨k, k1, k2, rfl⟩
    · rfl
    · exact absurd k2 (h1 k k1)
  · rcases h' with ⟨rfl, h1⟩ | ⟨j, j1, j2, rfl⟩
    · exact absurd k2 (h1 k k1)
    · obtain rfl := Ra.inj k j k1 j1 (k2.1.trans j2.1.symm) (k2.2.1.trans j2.2.1.symm)
      rfl
theorem eq37 (x y : S37) : ((x.f0.toList == y.f0.toList && (x.f1.toList == y.f1.toList && (x.f2 == y.f2))) = true) ↔ x = y := eqL_iff x y
/-- What stands at row p's handle when so many handles have been gone through (t: so many have been looked at). -/
def ex (b : List S32) (R : List Int) (h t p : Nat) : Int := if (rd_T32 b p).f1 < h then (if 0 < rd R p then rd R p else if p + 1 < t then -1 else 0) else 0
structure PS (b : List S32) (R : List Int) (h t : Nat) (out : List Int) : Prop where
  len : out.length = b.length + 1
  z : rd out 0 = 0
  at_ : ∀ p : Nat, p < b.length → rd out ((p + 1 : Nat) : Int) = ex b R h t p
/-- So many of the rows right below a handle are matched. -/
structure PJ (b : List S32) (R : List Int) (h j : Nat) (out : List Int) : Prop where
  len : out.length = b.length + 1
  z : rd out 0 = 0
  at_ : ∀ p : Nat, p < b.length → rd out ((p + 1 : Nat) : Int) = if (rd_T32 b p).f1 = h then (if jOf b h p < j then rd R p else 0) else ex b R h (h + 1) p
/-- Right rows, and that the program takes them. -/
structure Rc (l : List S32) : Prop extends Rt l where
  chk : Ev (fun k => flat_Check.f k l) 0
set_option maxRecDepth 100000
theorem same_ev : Ev (fun k => lw_same.f k) true := Ev.of (fun k => lw_same.mono k) (k := 60) (by decide +kernel)
theorem same_ev2 : Ev (fun k => (lw_same.f k).bind fun t => (some t)) true := Ev.bind same_ev (Ev.pure true)
/-- Few rows: right, or wrong by an error. -/
theorem few_cases (l : List S32) (hl : l.length * 88 ≤ 140737488351232) (hs : ∀ y ∈ l, Sm32 y) :
    Ev (fun k => pl_FewRows.f k l 200) false ∨
    (Ev (fun k => pl_FewRows.f k l 200) true ∧ l.length ≤ 200 ∧ ((Rc l ∧ Ev (fun k => lw_right.f k l) true) ∨ ∃ e, e ≠ 0 ∧ Ev (fun k => flat_Check.f k l) e ∧ Ev (fun k => lw_right.f k l) false)) := by
  obtain ⟨b, hb, hbi⟩ := fewR l hl hs 200 (by omega) (by omega)
  cases b with
  | false => exact .inl hb
  | true =>
    have hn := hbi rfl; refine .inr ⟨hb, by omega, ?_⟩; obtain ⟨e, h1, h2, h3⟩ := chk_any l (by omega) hs
    by_cases c : e = 0
    · subst c
      obtain ⟨g1, g2⟩ := h3 rfl; refine .inl ⟨⟨⟨by omega, hs, g1, g2⟩, h2⟩, ?_⟩; unfold lw_right.f; refine Ev.bind hb ?_; exact Ev.eq (Ev.bind h1 (Ev.pure _)) (fun k => if_pos rfl)
    · refine .inr ⟨e, c, h2, ?_⟩
      unfold lw_right.f
      refine Ev.bind hb ?_
      have : (e == 0) = false := by simp [c]
      rw [← this]
      exact Ev.eq (Ev.bind h1 (g := fun k t => some (t == 0)) (Ev.pure _)) (fun k => if_pos rfl)
theorem labs_same (a : List S37) (ha : a.length ≤ 1000000) : Ev (fun k => pl_Labels.f k a a) true := by
  have key : ∀ (d : Nat) (i : Nat), a.length - i = d → i ≤ a.length → Ev (fun k => pl_Labels.l0 k a a a.length (i : Int)) true := by
    intro d
    induction d with
    | zero => intro i h0 hd; exact (Ev.pure _).step (fun k => by rw [pl_Labels.l0, if_neg (by omega)])
    | succ d ih =>
      intro i h0 hd; refine (ih (i + 1) (by omega) (by omega)).step (fun k => ?_); rw [pl_Labels.l0, if_pos (by omega), if_pos (by omega), if_pos (by omega), if_pos (by omega), if_neg (by simp), wn (by omega)]
  exact (key _ 0 rfl (by omega)).eq (fun k => by rw [pl_Labels.f, if_pos rfl]; rfl)
theorem unlike_l1 {l : List S32} (R : Rt l) (i : Nat) (hi : i < l.length) (hr : Ev (fun k => lw_MatchLabels.l0 k l (labsR l l.length) l.length ((i + 1 : Nat) : Int)) true) (d : Nat) :
    ∀ q : Nat, i - q = d → q ≤ i → Ev (fun k => lw_MatchLabels.l1 k l (labsR l l.length) i l.length i i (q : Int)) true := by
  have hl := R.hl; have hll := labsR_len l l.length
  induction d with
  | zero =>
    intro q hd hq
    obtain rfl : q = i := by omega
    exact hr.step (fun k => by rw [lw_MatchLabels.l1, if_neg (by omega), wn (by omega)])
  | succ d ih =>
    intro q hd hq; have h := ih (q + 1) (by omega) (by omega); have e1 := labsR_at l l.length q (by omega); have e2 := labsR_at l l.length i hi
    by_cases c : (rd_T32 l q).f1 = (rd_T32 l i).f1
    · have hne : ¬ ((((labR l q).f0).toList == ((labR l i).f0).toList && ((((labR l q).f1).toList == ((labR l i).f1).toList) && (((labR l q).f2) == ((labR l i).f2)))) = true) := fun e => by
        have := R.inj q i (by omega) hi c ((eq37 _ _).1 e)
        omega
      exact h.step (fun k => by rw [lw_MatchLabels.l1, if_pos (by omega), if_pos (by omega), if_pos (by omega), if_pos (by omega), if_pos (by omega), if_pos c, if_pos (by omega), if_pos (by omega), e1, e2, if_neg hne, wn (by omega)])
    · exact h.step (fun k => by rw [lw_MatchLabels.l1, if_pos (by omega), if_pos (by omega), if_pos (by omega), if_pos (by omega), if_pos (by omega), if_neg c, wn (by omega)])
theorem unlike_l0 {l : List S32} (R : Rt l) (d : Nat) : ∀ i : Nat, l.length - i = d → i ≤ l.length → Ev (fun k => lw_MatchLabels.l0 k l (labsR l l.length) l.length (i : Int)) true := by
  induction d with
  | zero =>
    intro i hd hi
    obtain rfl : i = l.length := by omega
    exact same_ev2.step (fun k => by rw [lw_MatchLabels.l0, if_neg (by omega)])
  | succ d ih =>
    intro i hd hi; have := unlike_l1 R i (by omega) (ih (i + 1) (by omega) (by omega)) _ 0 rfl (by omega); exact this.step (fun k => by rw [lw_MatchLabels.l0, if_pos (by omega)]; rfl)
theorem MatchLabels : ∀ (x0 : List (S32)), (x0.length * 88 ≤ 140737488351232 ∧ ∀ y ∈ x0, Sm32 y) → ∃ k, lw_MatchLabels.f k x0 = some true := by
  rintro l ⟨hl, hs⟩; refine Ev.ex (r := true) ?_; unfold lw_MatchLabels.f
  rcases few_cases l hl hs with ha | ⟨ha, la, ca⟩
  (refine Ev.bind ha ?_; exact same_ev2.eq (fun k => if_neg (by decide))); refine Ev.bind ha ?_
  rcases ca with ⟨R, ra⟩ | ⟨e, e0, e1, ra⟩
  · obtain ⟨ka, k1, K⟩ := right_kids R.hl R.sm R.good R.chk
    have hL : Ev (fun k => match_Labels.f k l) (labsR l l.length) := by
      unfold match_Labels.f; refine Ev.bind k1 ?_; have := K.n; exact (labels_ev K).eq (fun k => if_neg (by omega))
    refine Ev.eq (Ev.bind hL (Ev.bind ra ?_)) (fun k => if_pos rfl)
    refine Ev.eq (Ev.bind (refLabels_ev l (by omega)) (Ev.bind (labs_same _ (by rw [labsR_len]; omega)) ?_)) (fun k => if_pos rfl)
    exact (unlike_l0 R.toRt _ 0 rfl (by omega)).eq (fun k => if_pos rfl)
  · have hL : Ev (fun k => match_Labels.f k l) [] := by
      unfold match_Labels.f
      refine Ev.bind (lists_bad l e e0 e1) ?_
      exact (Ev.pure _).eq (fun k => if_pos rfl)
    refine Ev.eq (Ev.bind hL (Ev.bind ra ?_)) (fun k => if_pos rfl)
    refine Ev.eq (g := fun k => if ((([] : List S37).length : Nat) : Int) = 0 then ((lw_same.f k).bind fun t432 => (some t432)) else (some false)) ?_ (fun k => if_neg (by decide))
    exact same_ev2.eq (fun k => if_pos rfl)
end Go.Proofs.Ytelacebdmmanhaa.Pure
