/- What the claim LawAdiffBack rests on, part 4 of 6: the kit's words, the printed walks, the walks by hand, the plain laws. -/
import Derived.Test.YtmpdbblljofjfaaB3
namespace Go.Proofs.Ytmpdbblljofjfaa.Pure
open Go.RowKit Go.Proofs.Ytmpdbblljofjfaa.G Go.Proofs.YtmpdbblljofjfaaW.PrintWords Go.Proofs.YtmpdbblljofjfaaW.PrintLast
set_option linter.unusedVariables false
theorem with_prog {l : List S43} (h : Up l) (hl : l.length ≤ 4000000) (n v : ByteArray) : Ev (fun k => attrs_With.f k l n v) (putN l ⟨n, v⟩) := by
  unfold putN
  by_cases c : ∃ y ∈ l, isN (⟨n, v⟩ : S43).f0 y = true
  (rw [dif_pos c]; obtain ⟨y, hy, hn⟩ := c; obtain ⟨A, B, rfl⟩ := List.append_of_mem hy; obtain ⟨hA, hB⟩ := up_split h hn; rw [map_split hA hB hn]; exact with_found A y B n v (by omega) hA hn); (rw [dif_neg c]; exact with_none l n v (by omega) (fun y hy e => c ⟨y, hy, e⟩))
def stD (acc : List S43) (c : S31) : List S43 := if c.f2 = true then keep c.f0 acc else putN acc ⟨c.f0, c.f1⟩
def doP (acc : List S43) (l : List S31) : List S43 := l.foldl stD acc
theorem keep_up {l : List S43} (h : Up l) (n : ByteArray) : Up (keep n l) := List.Pairwise.sublist (List.filter_sublist) h
theorem stD_ok {l : List S43} (h : Up l) (c : S31) : Up (stD l c) ∧ (stD l c).length ≤ l.length + 1 := by
  unfold stD; split; (exact ⟨keep_up h _, Nat.le_trans (List.length_filter_le _ _) (Nat.le_succ _)⟩); (have := putN_ok h ⟨c.f0, c.f1⟩; exact ⟨this.1, this.2.2⟩)
theorem do_l0 (l : List S31) (hl : l.length ≤ 2000000) (d : Nat) : ∀ (i : Nat) (acc : List S43), i ≤ l.length → l.length - i = d → Up acc → acc.length ≤ 1000000 + i →
    Ev (fun k => adiff_Do.l0 k acc l l.length i) (doP acc (l.drop i)) := by
  induction d with
  | zero =>
    intro i acc hi hd hu ha
    obtain rfl : i = l.length := by omega
    rw [List.drop_length]; exact (Ev.pure acc).step (fun k => by rw [adiff_Do.l0, if_neg (by omega)])
  | succ d ih =>
    intro i acc hi hd hu ha
    have hlt : i < l.length := by omega
    have hw : wrap64 ((i : Int) + 1) = ((i + 1 : Nat) : Int) := by rw [w1 (by omega) (by omega)]; omega
    have hdr : l.drop i = rd_T31 l (i : Int) :: l.drop (i + 1) := by
      rw [List.drop_eq_getElem_cons hlt]; unfold rd_T31; rw [List.getD_eq_getElem?_getD, Int.toNat_natCast, List.getElem?_eq_getElem hlt]; rfl
    rw [hdr]; obtain ⟨c, hc⟩ : ∃ c, rd_T31 l (i : Int) = c := ⟨_, rfl⟩; rw [hc]; have h1 := stD_ok hu c; have h2 := ih (i + 1) (stD acc c) (by omega) (by omega) h1.1 (by omega)
    show Ev _ (doP (stD acc c) (l.drop (i + 1)))
    by_cases g : c.f2 = true
    · have e : stD acc c = keep c.f0 acc := if_pos g
      rw [e] at h2 ⊢; refine h2.step (fun k => ?_); rw [adiff_Do.l0, if_pos (by omega), if_pos (by omega), if_pos (by omega), hc, if_pos g]; unfold attrs_Without.f; rw [if_pos (by omega), Option.bind_some, hw]
    · have e : stD acc c = putN acc ⟨c.f0, c.f1⟩ := if_neg g
      rw [e] at h2 ⊢
      refine Ev.step (g := fun k => (attrs_With.f k acc c.f0 c.f1).bind fun t127 => (adiff_Do.l0 k t127 l l.length (wrap64 ((i : Int) + 1)))) (Ev.bind (with_prog hu (by omega) c.f0 c.f1) ?_) (fun k => ?_)
      · rw [hw]; exact h2
      · rw [adiff_Do.l0, if_pos (by omega), if_pos (by omega), if_pos (by omega), hc, if_neg g]
theorem do_ev {a : List S43} (l : List S31) (hu : Up a) (ha : a.length ≤ 1000000) (hl : l.length ≤ 2000000) : Ev (fun k => adiff_Do.f k a l) (doP a l) := by
  have h := do_l0 l hl l.length 0 a (Nat.zero_le _) rfl hu ha; refine Ev.eq (g := fun k => adiff_Do.l0 k a l l.length 0) h (fun k => ?_); unfold adiff_Do.f api_Attr_20.f; rw [if_pos (by omega), Option.bind_some]
theorem up_app {P A : List S43} : Up (P ++ A) ↔ Up P ∧ Up A ∧ ∀ p ∈ P, ∀ a ∈ A, lessB p.f0 a.f0 = true := List.pairwise_append
theorem not_isN {n : ByteArray} {x : S43} (h : x.f0 ≠ n) : ¬ isN n x = true := fun e => h ((isN_eq _ _).1 e)
theorem keep_mid {P A : List S43} {x : S43} (h : Up (P ++ x :: A)) : keep x.f0 (P ++ x :: A) = P ++ A := by
  obtain ⟨h1, h2, h3⟩ := up_app.1 h; have e1 : keep x.f0 P = P := keep_none _ _ (fun y hy => not_isN (ne_of_less (h3 y hy x List.mem_cons_self))); have e2 : keep x.f0 A = A := keep_none _ _ (fun y hy => not_isN (ne_of_less ((up_cons.1 h2).1 y hy)).symm); unfold keep at e1 e2 ⊢; rw [List.filter_append, e1, List.filter_cons, if_neg (by simp [isN_self]), e2]
theorem put_is {L R : List S43} {y : S43} (hL : Up L) (hR : Up R) (h : ∀ z, z ∈ R ↔ z = y ∨ (z ∈ L ∧ z.f0 ≠ y.f0)) : putN L y = R := by
  have h1 := putN_ok hL y; refine up_uniq _ _ h1.1 hR (fun z => ?_); rw [h1.2.1, h]; constructor
  · rintro (e | ⟨hz, hn⟩)
    · exact .inl e
    · exact .inr ⟨hz, fun e => hn ((isN_eq _ _).2 e.symm)⟩
  · rintro (e | ⟨hz, hn⟩)
    · exact .inl e
    · exact .inr ⟨hz, fun e => hn ((isN_eq _ _).1 e).symm⟩
theorem do_prs : ∀ (n : Nat) (P A B : List S43), Up (P ++ A) → Up (P ++ B) → A.length + B.length ≤ n → doP (P ++ A) ((prs n A B).filterMap ofP) = P ++ B := by
  intro n
  induction n with
  | zero =>
    intro P A B _ _ h; obtain rfl : A = [] := List.length_eq_zero_iff.1 (by omega); obtain rfl : B = [] := List.length_eq_zero_iff.1 (by omega); rfl
  | succ n ih =>
    intro P A B uA uB h
    -- a name that goes
    have gone : ∀ (x : S43) (A' : List S43), A = x :: A' → prs (n + 1) A B = (some x, none) :: prs n A' B → doP (P ++ A) ((prs (n + 1) A B).filterMap ofP) = P ++ B := by
      rintro x A' rfl e; rw [e, List.filterMap_cons]
      show doP (stD (P ++ x :: A') ⟨x.f0, ⟨#[]⟩, true⟩) _ = _
      have e1 : stD (P ++ x :: A') (⟨x.f0, ⟨#[]⟩, true⟩ : S31) = P ++ A' := (if_pos rfl).trans (keep_mid uA); rw [e1]; have u2 := up_app.1 uA; exact ih P A' B (up_app.2 ⟨u2.1, (up_cons.1 u2.2.1).2, fun p hp a ha => u2.2.2 p hp a (List.mem_cons_of_mem _ ha)⟩) uB (by simp at h ⊢; omega)
    -- a name that comes
    have came : ∀ (y : S43) (B' : List S43), B = y :: B' → (∀ a ∈ A, lessB y.f0 a.f0 = true) → prs (n + 1) A B = (none, some y) :: prs n A B' → doP (P ++ A) ((prs (n + 1) A B).filterMap ofP) = P ++ B := by
      rintro y B' rfl hy e; rw [e, List.filterMap_cons]
      show doP (stD (P ++ A) ⟨y.f0, y.f1, false⟩) _ = _
      have u1 := up_app.1 uA; have u2 := up_app.1 uB
      have uR : Up ((P ++ [y]) ++ A) := by
        rw [List.append_assoc, List.singleton_append]; refine up_app.2 ⟨u1.1, up_cons.2 ⟨hy, u1.2.1⟩, fun p hp a ha => ?_⟩
        rcases List.mem_cons.1 ha with rfl | ha
        (exact u2.2.2 p hp _ List.mem_cons_self); (exact u1.2.2 p hp a ha)
      have e1 : stD (P ++ A) (⟨y.f0, y.f1, false⟩ : S31) = (P ++ [y]) ++ A := by
        refine (if_neg (by simp)).trans (put_is uA uR (fun z => ?_)); rw [List.append_assoc, List.singleton_append, List.mem_append, List.mem_cons, List.mem_append]; constructor
        · rintro (hz | rfl | hz)
          · exact .inr ⟨.inl hz, ne_of_less (u2.2.2 z hz y List.mem_cons_self)⟩
          · exact .inl rfl
          · exact .inr ⟨.inr hz, (ne_of_less (hy z hz)).symm⟩
        · rintro (rfl | ⟨hz | hz, _⟩)
          · exact .inr (.inl rfl)
          · exact .inl hz
          · exact .inr (.inr hz)
      rw [e1]; have := ih (P ++ [y]) A B' uR (by rw [List.append_assoc, List.singleton_append]; exact uB) (by simp at h ⊢; omega); rw [this, List.append_assoc, List.singleton_append]
    cases A with
    | nil =>
      cases B with
      | nil => rfl
      | cons y B => exact came y B rfl (fun a ha => by cases ha) rfl
    | cons x A =>
      cases B with
      | nil => exact gone x A rfl rfl
      | cons y B =>
        cases c1 : leS x.f0 y.f0 with
        | false => exact came y B rfl (up_all (up_app.1 uA).2.1 (less_of c1)) (by rw [prs, c1]; rfl)
        | true =>
          cases c2 : leS y.f0 x.f0 with
          | false => exact gone x A rfl (by rw [prs, c1, c2]; rfl)
          | true =>
            have he0 := both_le c1 c2
            have e : prs (n + 1) (x :: A) (y :: B) = (some x, some y) :: prs n A B := by rw [prs, c1, c2]; rfl
            have u1 := up_app.1 uA; have u2 := up_app.1 uB
            have uR : Up ((P ++ [y]) ++ A) := by
              rw [List.append_assoc, List.singleton_append]; refine up_app.2 ⟨u1.1, up_cons.2 ⟨fun z hz => by rw [← he0]; exact (up_cons.1 u1.2.1).1 z hz, (up_cons.1 u1.2.1).2⟩, fun p hp a ha => ?_⟩
              rcases List.mem_cons.1 ha with rfl | ha
              (exact u2.2.2 p hp _ List.mem_cons_self); (exact u1.2.2 p hp a (List.mem_cons_of_mem _ ha))
            have fin := ih (P ++ [y]) A B uR (by rw [List.append_assoc, List.singleton_append]; exact uB) (by simp at h ⊢; omega); rw [e, List.filterMap_cons]
            by_cases q : eqS x y = true
            · have hxy : x = y := by
                unfold eqS at q
                rw [Bool.and_eq_true, beq_iff_eq, beq_iff_eq] at q
                obtain ⟨x0, x1⟩ := x
                obtain ⟨y0, y1⟩ := y
                rw [show x0 = y0 from bytes_eq q.1, show x1 = y1 from bytes_eq q.2]
              have eo : ofP (some x, some y) = none := if_pos q
              rw [eo]
              subst hxy
              rw [List.append_assoc, List.singleton_append, List.append_assoc, List.singleton_append] at fin
              exact fin
            · have eo : ofP (some x, some y) = some ⟨y.f0, y.f1, false⟩ := if_neg q
              rw [eo]
              show doP (stD (P ++ x :: A) ⟨y.f0, y.f1, false⟩) _ = _
              have e1 : stD (P ++ x :: A) (⟨y.f0, y.f1, false⟩ : S31) = (P ++ [y]) ++ A := by
                refine (if_neg (by simp)).trans (put_is uA uR (fun z => ?_)); rw [List.append_assoc, List.singleton_append, List.mem_append, List.mem_cons, List.mem_append, List.mem_cons]; constructor
                · rintro (hz | rfl | hz)
                  · exact .inr ⟨.inl hz, ne_of_less (u2.2.2 z hz y List.mem_cons_self)⟩
                  · exact .inl rfl
                  · exact .inr ⟨.inr (.inr hz), by rw [← he0]; exact (ne_of_less ((up_cons.1 u1.2.1).1 z hz)).symm⟩
                · rintro (rfl | ⟨hz | rfl | hz, hn⟩)
                  · exact .inr (.inl rfl)
                  · exact .inl hz
                  · exact absurd he0 hn
                  · exact .inr (.inr hz)
              rw [e1, fin, List.append_assoc, List.singleton_append]
theorem ofN_up {A B : List S43} (uA : Up A) (uB : Up B) : ofN A B = (prs (A.length + B.length) A B).filterMap ofP := by
  unfold ofN; rw [right_norm, right_norm, norm_up uA, norm_up uB]
theorem do_of {A B : List S43} (uA : Up A) (uB : Up B) : doP A (ofN A B) = B := by
  rw [ofN_up uA uB]; exact do_prs _ [] A B uA uB (Nat.le_refl _)
theorem of_self {A : List S43} (uA : Up A) : ofN A A = [] := by
  rw [ofN_up uA uA, List.filterMap_eq_nil_iff]; rintro ⟨o1, o2⟩ hel; have h := (prs_spec _ A A uA uA (Nat.le_refl _)).1 _ hel
  cases o1 with
  | none =>
    cases o2 with
    | none => exact h.elim
    | some y => exact absurd rfl (h.2 y h.1)
  | some x =>
    cases o2 with
    | none => exact absurd rfl (h.2 x h.1)
    | some y =>
      obtain rfl : x = y := up_name uA h.2.1 h.1 h.2.2; exact if_pos (by simp [eqS])
def sw (el : Option S43 × Option S43) : Option S43 × Option S43 := (el.2, el.1)
theorem prs_swap : ∀ (n : Nat) (A B : List S43), prs n B A = (prs n A B).map sw
  | 0, _, _ => rfl
  | n + 1, A, B => by
    cases A with
    | nil =>
      cases B with
      | nil => rfl
      | cons y B => show _ :: _ = _ :: _; rw [prs_swap n [] B]; rfl
    | cons x A =>
      cases B with
      | nil => show _ :: _ = _ :: _; rw [prs_swap n A []]; rfl
      | cons y B =>
        cases c1 : leS x.f0 y.f0 with
        | false =>
          have c2 : leS y.f0 x.f0 = true := by
            have h := less_of c1
            rw [leS_eq]
            cases g : lessB x.f0 y.f0 with
            | false => rfl
            | true => exact absurd (less_trans h g) (less_irrefl _)
          rw [show prs (n + 1) (y :: B) (x :: A) = (some y, none) :: prs n B (x :: A) by rw [prs, c1, c2]; rfl, show prs (n + 1) (x :: A) (y :: B) = (none, some y) :: prs n (x :: A) B by rw [prs, c1]; rfl, prs_swap n (x :: A) B]
          rfl
        | true =>
          cases c2 : leS y.f0 x.f0 with
          | false =>
            rw [show prs (n + 1) (y :: B) (x :: A) = (none, some x) :: prs n (y :: B) A by rw [prs, c2]; rfl, show prs (n + 1) (x :: A) (y :: B) = (some x, none) :: prs n A (y :: B) by rw [prs, c1, c2]; rfl, prs_swap n A (y :: B)]; rfl
          | true =>
            rw [show prs (n + 1) (y :: B) (x :: A) = (some y, some x) :: prs n B A by rw [prs, c1, c2]; rfl, show prs (n + 1) (x :: A) (y :: B) = (some x, some y) :: prs n A B by rw [prs, c1, c2]; rfl, prs_swap n A B]; rfl
theorem of_sw (el : Option S43 × Option S43) : (ofP (sw el)).isSome = (ofP el).isSome := by
  obtain ⟨o1, o2⟩ := el; cases o1 <;> cases o2; (rfl); (rfl); (rfl)
  · rename_i x y
    have e : eqS y x = eqS x y := by
      unfold eqS; rw [Bool.beq_comm, Bool.beq_comm (a := y.f1.toList)]
    show (if eqS y x = true then none else some _ : Option S31).isSome = (if eqS x y = true then none else some _ : Option S31).isSome
    rw [e]
    cases eqS x y <;> rfl
theorem len_sw : ∀ (l : List (Option S43 × Option S43)), ((l.map sw).filterMap ofP).length = (l.filterMap ofP).length
  | [] => rfl
  | el :: l => by
    have ih := len_sw l
    have h := of_sw el
    rw [List.map_cons, List.filterMap_cons, List.filterMap_cons]
    cases h1 : ofP (sw el) <;> cases h2 : ofP el <;> rw [h1, h2] at h
    · exact ih
    · cases h
    · cases h
    · rw [List.length_cons, List.length_cons, ih]
theorem names_sw {A B : List S43} (uA : Up A) (uB : Up B) : (ofN B A).length = (ofN A B).length := by
  rw [ofN_up uA uB, ofN_up uB uA, Nat.add_comm, prs_swap, len_sw]
theorem prs_len : ∀ (n : Nat) (A B : List S43), (prs n A B).length ≤ n := by
  intro n
  induction n with
  | zero => intro A B; exact Nat.le_refl _
  | succ n ih =>
    intro A B; unfold prs; split; (simp); (simpa using ih _ _); (simpa using ih _ _)
    · split
      · split
        · simpa using ih _ _
        · simpa using ih _ _
      · simpa using ih _ _
theorem ofN_len (l m : List S43) : (ofN l m).length ≤ l.length + m.length := by
  unfold ofN; refine Nat.le_trans (List.length_filterMap_le _ _) (Nat.le_trans (prs_len _ _ _) ?_); have h4 := rightP_len l; have h5 := rightP_len m; omega
theorem AdiffBack : ∀ (x0 : List (S43)) (x1 : List (S43)), (x0.length * 32 ≤ 140737488351232 ∧ ∀ y ∈ x0, Sm43 y) → (x1.length * 32 ≤ 140737488351232 ∧ ∀ y ∈ x1, Sm43 y) → ∃ k, lw_AdiffBack.f k x0 x1 = some true := by
  rintro l m ⟨h1, hs⟩ ⟨h2, hs2⟩; refine Ev.ex (r := true) ?_; have hsame : Ev (fun k => (lw_same.f k).bind fun t => (some t)) true := Ev.bind same_ev (Ev.pure true); have hj : Ev (fun k => lw_AdiffBack.j0 k l m true) true := hsame.step (fun k => by rw [lw_AdiffBack.j0, if_pos rfl]); obtain ⟨p, hp, hpi⟩ := heavy_ev l (by omega); obtain ⟨q, hq, hqi⟩ := heavy_ev m (by omega); unfold lw_AdiffBack.f; refine Ev.bind hp ?_
  cases p with
  | true => simp only [↓reduceIte]; exact hj
  | false =>
    simp only [Bool.false_eq_true, ↓reduceIte]; refine Ev.bind hq ?_
    cases q with
    | true => exact hj
    | false =>
      have ll := hpi rfl; have lm := hqi rfl; have n1 := refNorm_ev l (by omega) hs; have n2 := refNorm_ev m (by omega) hs2; obtain ⟨A, hA⟩ : ∃ A, normR l = A := ⟨_, rfl⟩; obtain ⟨B, hB⟩ : ∃ B, normR m = B := ⟨_, rfl⟩; have uA : Up A := hA ▸ (normR_ok _ l rfl).1; have uB : Up B := hB ▸ (normR_ok _ m rfl).1; have lA : A.length ≤ l.length := hA ▸ (normR_ok _ l rfl).2.2; have lB : B.length ≤ m.length := hB ▸ (normR_ok _ m rfl).2.2; rw [hA] at n1; rw [hB] at n2; have e1 : adiff_Of.f A B = some (ofN A B) := if_pos (by omega); have e2 : adiff_Of.f A A = some (ofN A A) := if_pos (by omega); have e3 : adiff_Names.f A B = some (((ofN A B).length : Nat) : Int) := if_pos (by omega); have e4 : adiff_Names.f B A = some (((ofN B A).length : Nat) : Int) := if_pos (by omega); have hl := ofN_len A B; have d := do_ev (ofN A B) uA (by omega) (by omega); rw [do_of uA uB] at d
      have key : Ev (fun k => (r09_Norm.f k l).bind fun t229 => ((r09_Norm.f k m).bind fun t232 => ((adiff_Of.f t229 t232).bind fun t235 => ((adiff_Do.f k t229 t235).bind fun t238 => ((pl_Attrs.f k t238 t232).bind fun t241 => (if t241 = true then ((adiff_Of.f t229 t229).bind fun t242 => (if (t242.length : Int) = 0 then ((adiff_Names.f t232 t229).bind fun t245 => ((adiff_Names.f t229 t232).bind fun t246 => (if t245 = t246 then ((lw_same.f k).bind fun t247 => (some t247)) else (some false)))) else (some false))) else (some false))))))) true := by
        refine Ev.bind n1 (Ev.bind n2 ?_); rw [e1, e2, e3, e4]; simp only [Option.bind_some]; refine Ev.bind d (Ev.bind (attrs_refl_ev B (by omega)) ?_); rw [of_self uA, names_sw uA uB]; simp only [↓reduceIte, List.length_nil, Int.natCast_zero]; exact hsame
      exact key.step (fun k => by rw [lw_AdiffBack.j0, if_neg (by decide)])
end Go.Proofs.Ytmpdbblljofjfaa.Pure
