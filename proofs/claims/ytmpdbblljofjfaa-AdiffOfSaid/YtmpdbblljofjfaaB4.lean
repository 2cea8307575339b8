/- What the claim LawAdiffOf rests on, part 4 of 6: the kit's words, the printed walks, the walks by hand, the plain laws. -/
import Derived.Test.YtmpdbblljofjfaaB2
import Derived.Test.YtmpdbblljofjfaaB3
namespace Go.Proofs.Ytmpdbblljofjfaa.Pure
open Go.RowKit Go.Proofs.Ytmpdbblljofjfaa.G Go.Proofs.YtmpdbblljofjfaaW.PrintWords Go.Proofs.YtmpdbblljofjfaaW.PrintLast
set_option linter.unusedVariables false
theorem leS_eq (a b : ByteArray) : leS a b = !(lessB b a) := by
  have h := Go.Proofs.Ytmpdbblljofjfaa.Str.bytesLess_swap a.toList b.toList; unfold leS lessB; rw [← h, Bool.not_not]
theorem ne_of_less {a b : ByteArray} (h : lessB a b = true) : a ≠ b := fun e => by
  subst e
  exact less_irrefl _ h
theorem both_le {a b : ByteArray} (h : leS a b = true) (g : leS b a = true) : a = b := by
  rw [leS_eq] at h g
  rcases less_total a b with h1 | h1 | h1
  (rw [h1] at g; cases g); (exact bytes_eq h1); (rw [h1] at h; cases h)
theorem less_of {a b : ByteArray} (h : leS a b = false) : lessB b a = true := by
  rw [leS_eq] at h
  cases hb : lessB b a with
  | true => rfl
  | false => rw [hb] at h; cases h
def pk (el : Option S43 × Option S43) : S43 := match el.1, el.2 with
  | _, some y => y
  | some x, none => x
  | none, none => z43
def Sp (A B : List S43) (el : Option S43 × Option S43) : Prop := match el.1, el.2 with
  | some x, some y => x ∈ A ∧ y ∈ B ∧ x.f0 = y.f0
  | some x, none => x ∈ A ∧ ∀ z ∈ B, z.f0 ≠ x.f0
  | none, some y => y ∈ B ∧ ∀ z ∈ A, z.f0 ≠ y.f0
  | none, none => False
theorem up_cons {x : S43} {A : List S43} : Up (x :: A) ↔ (∀ z ∈ A, lessB x.f0 z.f0 = true) ∧ Up A := List.pairwise_cons
theorem up_all {x : ByteArray} {y : S43} {B : List S43} (h : Up (y :: B)) (hl : lessB x y.f0 = true) : ∀ z ∈ y :: B, lessB x z.f0 = true := by
  intro z hz
  rcases List.mem_cons.1 hz with rfl | hz
  (exact hl); (exact less_trans hl ((up_cons.1 h).1 z hz))
theorem prs_spec : ∀ (n : Nat) (A B : List S43), Up A → Up B → A.length + B.length ≤ n →
    (∀ el ∈ prs n A B, Sp A B el) ∧ Up ((prs n A B).map pk) ∧ (∀ z, z ∈ (prs n A B).map pk ↔ z ∈ B ∨ (z ∈ A ∧ ∀ y ∈ B, y.f0 ≠ z.f0)) := by
  intro n
  induction n with
  | zero =>
    intro A B _ _ h; obtain rfl : A = [] := List.length_eq_zero_iff.1 (by omega); obtain rfl : B = [] := List.length_eq_zero_iff.1 (by omega); exact ⟨fun el h => by (cases h), List.Pairwise.nil, fun z => by simp [prs]⟩
  | succ n ih =>
    intro A B uA uB h
    cases A with
    | nil =>
      cases B with
      | nil => exact ⟨fun el h => by (cases h), List.Pairwise.nil, fun z => by simp [prs]⟩
      | cons y B =>
        obtain ⟨i1, i2, i3⟩ := ih [] B uA (up_cons.1 uB).2 (by simp at h ⊢; omega); refine ⟨?_, ?_, ?_⟩
        · intro el he
          rcases List.mem_cons.1 he with rfl | he
          · exact ⟨List.mem_cons_self, fun z hz => by cases hz⟩
          · have := i1 el he
            obtain ⟨o1, o2⟩ := el
            cases o1 <;> cases o2 <;> simp only [Sp] at this ⊢
            · exact ⟨List.mem_cons_of_mem _ this.1, this.2⟩
            · exact absurd this.1 (by simp)
            · exact absurd this.1 (by simp)
        · show Up (y :: (prs n [] B).map pk)
          refine up_cons.2 ⟨fun z hz => ?_, i2⟩
          rcases (i3 z).1 hz with hz | hz
          · exact (up_cons.1 uB).1 z hz
          · exact absurd hz.1 (by simp)
        · intro z
          show z ∈ y :: (prs n [] B).map pk ↔ _
          rw [List.mem_cons, i3]
          simp
    | cons x A =>
      cases B with
      | nil =>
        obtain ⟨i1, i2, i3⟩ := ih A [] (up_cons.1 uA).2 uB (by simp at h ⊢; omega); refine ⟨?_, ?_, ?_⟩
        · intro el he
          rcases List.mem_cons.1 he with rfl | he
          · exact ⟨List.mem_cons_self, fun z hz => by cases hz⟩
          · have := i1 el he
            obtain ⟨o1, o2⟩ := el
            cases o1 <;> cases o2 <;> simp only [Sp] at this ⊢
            · exact absurd this.1 (by simp)
            · exact ⟨List.mem_cons_of_mem _ this.1, this.2⟩
            · exact absurd this.2.1 (by simp)
        · show Up (x :: (prs n A []).map pk)
          refine up_cons.2 ⟨fun z hz => ?_, i2⟩
          rcases (i3 z).1 hz with hz | hz
          · exact absurd hz (by simp)
          · exact (up_cons.1 uA).1 z hz.1
        · intro z
          show z ∈ x :: (prs n A []).map pk ↔ _
          rw [List.mem_cons, i3]
          simp
      | cons y B =>
        cases c1 : leS x.f0 y.f0 with
        | false =>
          have hl := less_of c1
          have e : prs (n + 1) (x :: A) (y :: B) = (none, some y) :: prs n (x :: A) B := by rw [prs, c1]; rfl
          obtain ⟨i1, i2, i3⟩ := ih (x :: A) B uA (up_cons.1 uB).2 (by simp at h ⊢; omega); rw [e]; have big := up_all uA hl; refine ⟨?_, ?_, ?_⟩
          · intro el he
            rcases List.mem_cons.1 he with rfl | he
            · exact ⟨List.mem_cons_self, fun z hz => (ne_of_less (big z hz)).symm⟩
            · have := i1 el he
              obtain ⟨o1, o2⟩ := el
              cases o1 <;> cases o2 <;> simp only [Sp] at this ⊢
              · exact ⟨List.mem_cons_of_mem _ this.1, this.2⟩
              · refine ⟨this.1, fun z hz => ?_⟩
                rcases List.mem_cons.1 hz with rfl | hz
                · exact ne_of_less (big _ this.1)
                · exact this.2 z hz
              · exact ⟨this.1, List.mem_cons_of_mem _ this.2.1, this.2.2⟩
          · show Up (y :: (prs n (x :: A) B).map pk)
            refine up_cons.2 ⟨fun z hz => ?_, i2⟩
            rcases (i3 z).1 hz with hz | hz
            · exact (up_cons.1 uB).1 z hz
            · exact big z hz.1
          · intro z
            show z ∈ y :: (prs n (x :: A) B).map pk ↔ _
            rw [List.mem_cons, i3]
            constructor
            · rintro (rfl | hz | ⟨hz, hn⟩)
              · exact .inl List.mem_cons_self
              · exact .inl (List.mem_cons_of_mem _ hz)
              · refine .inr ⟨hz, fun w hw => ?_⟩
                rcases List.mem_cons.1 hw with rfl | hw
                · exact ne_of_less (big _ hz)
                · exact hn w hw
            · rintro (hz | ⟨hz, hn⟩)
              · rcases List.mem_cons.1 hz with rfl | hz
                · exact .inl rfl
                · exact .inr (.inl hz)
              · exact .inr (.inr ⟨hz, fun w hw => hn w (List.mem_cons_of_mem _ hw)⟩)
        | true =>
          cases c2 : leS y.f0 x.f0 with
          | false =>
            have hl := less_of c2
            have e : prs (n + 1) (x :: A) (y :: B) = (some x, none) :: prs n A (y :: B) := by rw [prs, c1, c2]; rfl
            obtain ⟨i1, i2, i3⟩ := ih A (y :: B) (up_cons.1 uA).2 uB (by simp at h ⊢; omega); rw [e]; have big := up_all uB hl; refine ⟨?_, ?_, ?_⟩
            · intro el he
              rcases List.mem_cons.1 he with rfl | he
              · exact ⟨List.mem_cons_self, fun z hz => (ne_of_less (big z hz)).symm⟩
              · have := i1 el he
                obtain ⟨o1, o2⟩ := el
                cases o1 <;> cases o2 <;> simp only [Sp] at this ⊢
                · refine ⟨this.1, fun z hz => ?_⟩
                  rcases List.mem_cons.1 hz with rfl | hz
                  · exact ne_of_less (big _ this.1)
                  · exact this.2 z hz
                · exact ⟨List.mem_cons_of_mem _ this.1, this.2⟩
                · exact ⟨List.mem_cons_of_mem _ this.1, this.2⟩
            · show Up (x :: (prs n A (y :: B)).map pk)
              refine up_cons.2 ⟨fun z hz => ?_, i2⟩
              rcases (i3 z).1 hz with hz | hz
              · exact big z hz
              · exact (up_cons.1 uA).1 z hz.1
            · intro z
              show z ∈ x :: (prs n A (y :: B)).map pk ↔ _
              rw [List.mem_cons, i3]
              constructor
              · rintro (rfl | hz | ⟨hz, hn⟩)
                · exact .inr ⟨List.mem_cons_self, fun w hw => (ne_of_less (big _ hw)).symm⟩
                · exact .inl hz
                · exact .inr ⟨List.mem_cons_of_mem _ hz, hn⟩
              · rintro (hz | ⟨hz, hn⟩)
                · exact .inr (.inl hz)
                · rcases List.mem_cons.1 hz with rfl | hz
                  · exact .inl rfl
                  · exact .inr (.inr ⟨hz, hn⟩)
          | true =>
            have he0 := both_le c1 c2
            have e : prs (n + 1) (x :: A) (y :: B) = (some x, some y) :: prs n A B := by rw [prs, c1, c2]; rfl
            obtain ⟨i1, i2, i3⟩ := ih A B (up_cons.1 uA).2 (up_cons.1 uB).2 (by simp at h ⊢; omega); rw [e]; have bA := (up_cons.1 uA).1; have bB := (up_cons.1 uB).1; refine ⟨?_, ?_, ?_⟩
            · intro el he
              rcases List.mem_cons.1 he with rfl | he
              · exact ⟨List.mem_cons_self, List.mem_cons_self, he0⟩
              · have := i1 el he
                obtain ⟨o1, o2⟩ := el
                cases o1 <;> cases o2 <;> simp only [Sp] at this ⊢
                · refine ⟨List.mem_cons_of_mem _ this.1, fun z hz => ?_⟩
                  rcases List.mem_cons.1 hz with rfl | hz
                  · rw [he0]; exact ne_of_less (bB _ this.1)
                  · exact this.2 z hz
                · refine ⟨List.mem_cons_of_mem _ this.1, fun z hz => ?_⟩
                  rcases List.mem_cons.1 hz with rfl | hz
                  · rw [← he0]; exact ne_of_less (bA _ this.1)
                  · exact this.2 z hz
                · exact ⟨List.mem_cons_of_mem _ this.1, List.mem_cons_of_mem _ this.2.1, this.2.2⟩
            · show Up (y :: (prs n A B).map pk)
              refine up_cons.2 ⟨fun z hz => ?_, i2⟩
              rcases (i3 z).1 hz with hz | hz
              · exact bB z hz
              · rw [← he0]; exact bA z hz.1
            · intro z
              show z ∈ y :: (prs n A B).map pk ↔ _
              rw [List.mem_cons, i3]
              constructor
              · rintro (rfl | hz | ⟨hz, hn⟩)
                · exact .inl List.mem_cons_self
                · exact .inl (List.mem_cons_of_mem _ hz)
                · refine .inr ⟨List.mem_cons_of_mem _ hz, fun w hw => ?_⟩
                  rcases List.mem_cons.1 hw with rfl | hw
                  · rw [← he0]; exact ne_of_less (bA _ hz)
                  · exact hn w hw
              · rintro (hz | ⟨hz, hn⟩)
                · rcases List.mem_cons.1 hz with rfl | hz
                  · exact .inl rfl
                  · exact .inr (.inl hz)
                · rcases List.mem_cons.1 hz with rfl | hz
                  · exact absurd he0.symm (hn y List.mem_cons_self)
                  · exact .inr (.inr ⟨hz, fun w hw => hn w (List.mem_cons_of_mem _ hw)⟩)
/-- right is Norm. -/
theorem incU_up (l : List S43) : ∀ n, n ≤ l.length → incU l n = true → Up (l.take n)
  | 0, _, _ => by simp [Up]
  | 1, h, _ => by
    cases l with
    | nil => simp [Up]
    | cons x l => simp [Up]
  | n + 2, h, e => by
    unfold incU at e
    rw [Bool.and_eq_true] at e
    have ih := incU_up l (n + 1) (by omega) e.1
    rw [take_nat l (n + 1) (by omega)]
    unfold Up
    refine List.pairwise_append.2 ⟨ih, List.pairwise_singleton _ _, fun a ha b hb => ?_⟩
    rw [List.mem_singleton] at hb
    subst hb
    have hl : lessB (rd_T43 l (n : Int)).f0 (rd_T43 l ((n + 1 : Nat) : Int)).f0 = true := e.2
    rw [take_nat l n (by omega)] at ha ih
    rcases List.mem_append.1 ha with ha | ha
    · exact less_trans ((List.pairwise_append.1 ih).2.2 a ha _ (List.mem_singleton.2 rfl)) hl
    · rw [List.mem_singleton.1 ha]; exact hl
theorem right_norm (l : List S43) : rightP l = normP l := by
  unfold rightP; split
  · rename_i h
    have := incU_up l l.length (Nat.le_refl _) h
    rw [List.take_length] at this
    exact (norm_up this).symm
  · rfl
theorem isN_eq (n : ByteArray) (x : S43) : isN n x = true ↔ x.f0 = n := by
  rw [isN_iff]; exact ⟨bytes_eq, fun e => by rw [e]⟩
def getV (l : List S43) (n : ByteArray) : ByteArray × Bool := match l.find? (isN n) with
  | some x => (x.f1, true)
  | none => (⟨#[]⟩, false)
theorem find_split {n : ByteArray} {A B : List S43} {x : S43} (hA : ∀ y ∈ A, ¬ isN n y = true) (hx : isN n x = true) : (A ++ x :: B).find? (isN n) = some x := by
  rw [List.find?_append, List.find?_eq_none.2 hA]; simp [hx]
theorem get_ev (l : List S43) (n : ByteArray) (hl : l.length ≤ 140737488351232) : Ev (fun k => r09_Get.f k l n) (getV l n) := by
  rcases name_cases n l with ⟨A, x, B, rfl, hA, hx⟩ | h
  (have := get_at A x B n hl hA hx; unfold getV; rw [find_split hA hx]; exact this); (have := get_none l n hl h; unfold getV; rw [List.find?_eq_none.2 h]; exact this)
def gO (A B : List S43) (u : S43) : Option S32 :=
  if (getV B u.f0).2 = true then (if (getV A u.f0).2 = true then (if (getV A u.f0).1.toList = (getV B u.f0).1.toList then none else some ⟨u.f0, (getV B u.f0).1, false⟩) else some ⟨u.f0, (getV B u.f0).1, false⟩) else some ⟨u.f0, ⟨#[]⟩, true⟩
theorem refOf_l0 (A B U : List S43) (hA : A.length ≤ 1000000) (hB : B.length ≤ 1000000) (hU : U.length ≤ 2000000) (d : Nat) : ∀ (i : Nat) (acc : List S32), i ≤ U.length → U.length - i = d → acc.length ≤ i →
    Ev (fun k => r10_Of.l0 k A B U acc U.length i) (acc ++ (U.drop i).filterMap (gO A B)) := by
  induction d with
  | zero =>
    intro i acc hi hd ha
    obtain rfl : i = U.length := by omega
    rw [List.drop_length, List.filterMap_nil, List.append_nil]; exact (Ev.pure acc).step (fun k => by rw [r10_Of.l0, if_neg (by omega)])
  | succ d ih =>
    intro i acc hi hd ha
    have hlt : i < U.length := by omega
    have hw : wrap64 ((i : Int) + 1) = ((i + 1 : Nat) : Int) := by rw [w1 (by omega) (by omega)]; omega
    have hdr : U.drop i = rd_T43 U (i : Int) :: U.drop (i + 1) := drop43 U i hlt; have gA := get_ev A (rd_T43 U (i : Int)).f0 (by omega); have gB := get_ev B (rd_T43 U (i : Int)).f0 (by omega); rw [hdr, List.filterMap_cons]
    have stay : Ev (fun k => r10_Of.l0 k A B U acc U.length (wrap64 ((i : Int) + 1))) (acc ++ (U.drop (i + 1)).filterMap (gO A B)) := by
      rw [hw]; exact ih (i + 1) acc (by omega) (by omega) (by omega)
    have go : ∀ c : S32, Ev (fun k => if acc.length < 3518437208883 then r10_Of.l0 k A B U (acc ++ [c]) U.length (wrap64 ((i : Int) + 1)) else none) (acc ++ c :: (U.drop (i + 1)).filterMap (gO A B)) := by
      intro c; have := ih (i + 1) (acc ++ [c]) (by omega) (by omega) (by rw [List.length_append, List.length_singleton]; omega); rw [List.append_assoc, List.singleton_append] at this; rw [hw]; exact this.eq (fun k => if_pos (by omega))
    refine Ev.step (g := fun k => (r09_Get.f k A (rd_T43 U (i : Int)).f0).bind fun bt196 => ((r09_Get.f k B (rd_T43 U (i : Int)).f0).bind fun bt198 => (if bt198.2 = true then (if bt196.2 = true then (if bt196.1.toList = bt198.1.toList then (r10_Of.l0 k A B U acc U.length (wrap64 ((i : Int) + 1))) else (if acc.length < 3518437208883 then (r10_Of.l0 k A B U (acc ++ [(⟨(rd_T43 U (i : Int)).f0, bt198.1, false⟩ : S32)]) U.length (wrap64 ((i : Int) + 1))) else (none))) else (if acc.length < 3518437208883 then (r10_Of.l0 k A B U (acc ++ [(⟨(rd_T43 U (i : Int)).f0, bt198.1, false⟩ : S32)]) U.length (wrap64 ((i : Int) + 1))) else (none))) else (if acc.length < 3518437208883 then (r10_Of.l0 k A B U (acc ++ [(⟨(rd_T43 U (i : Int)).f0, (⟨#[]⟩ : ByteArray), true⟩ : S32)]) U.length (wrap64 ((i : Int) + 1))) else (none)))))
      (Ev.bind gA (Ev.bind gB ?_)) (fun k => by rw [r10_Of.l0, if_pos (by omega), if_pos (by omega), if_pos (by omega)])
    unfold gO
    by_cases c1 : (getV B (rd_T43 U (i : Int)).f0).2 = true
    · by_cases c2 : (getV A (rd_T43 U (i : Int)).f0).2 = true
      · by_cases c3 : (getV A (rd_T43 U (i : Int)).f0).1.toList = (getV B (rd_T43 U (i : Int)).f0).1.toList
        · simp only [c1, c2, c3, ↓reduceIte]
          exact stay
        · simp only [c1, c2, c3, ↓reduceIte]
          exact go _
      · simp only [c1, c2, ↓reduceIte, Bool.false_eq_true]
        exact go _
    · simp only [c1, ↓reduceIte, Bool.false_eq_true]
      exact go _
theorem up_name {l : List S43} (h : Up l) {x z : S43} (hx : x ∈ l) (hz : z ∈ l) (e : z.f0 = x.f0) : z = x := by
  induction l with
  | nil => cases hx
  | cons y l ih =>
    obtain ⟨h1, h2⟩ := up_cons.1 h
    rcases List.mem_cons.1 hx with ax | ax <;> rcases List.mem_cons.1 hz with az | az
    (rw [ax, az]); (rw [ax] at e; exact absurd e.symm (ne_of_less (h1 z az))); (rw [az] at e; exact absurd e (ne_of_less (h1 x ax))); (exact ih h2 ax az)
theorem getV_mem {l : List S43} (h : Up l) {x : S43} (hx : x ∈ l) : getV l x.f0 = (x.f1, true) := by
  unfold getV
  cases hf : l.find? (isN x.f0) with
  | none => exact absurd ((isN_eq _ _).2 rfl) (by simpa using List.find?_eq_none.1 hf x hx)
  | some z =>
    have h1 := List.mem_of_find?_eq_some hf; have h2 : isN x.f0 z = true := List.find?_some hf; rw [up_name h hx h1 ((isN_eq _ _).1 h2)]
theorem getV_none {l : List S43} {n : ByteArray} (h : ∀ z ∈ l, z.f0 ≠ n) : getV l n = (⟨#[]⟩, false) := by
  unfold getV; rw [List.find?_eq_none.2 (fun z hz => fun hh => h z hz ((isN_eq _ _).1 hh))]
def conv (c : S31) : S32 := ⟨c.f0, c.f1, c.f2⟩
theorem of_el {A B : List S43} (uA : Up A) (uB : Up B) {el : Option S43 × Option S43} (h : Sp A B el) : (ofP el).map conv = gO A B (pk el) := by
  obtain ⟨o1, o2⟩ := el
  cases o1 with
  | none =>
    cases o2 with
    | none => exact h.elim
    | some y =>
      have hA := getV_none h.2; have hB := getV_mem uB h.1; simp [ofP, pk, gO, hA, hB, conv]
  | some x =>
    cases o2 with
    | none =>
      have hB := getV_none h.2; simp [ofP, pk, gO, hB, conv]
    | some y =>
      have hA := getV_mem uA h.1; have hB := getV_mem uB h.2.1; rw [h.2.2] at hA; have e0 : x.f0 = y.f0 := h.2.2; simp only [ofP, pk, gO, hA, hB, ↓reduceIte]; unfold eqS; rw [e0]
      by_cases c : x.f1.toList = y.f1.toList
      (simp [c]); (simp [c, conv])
theorem filterMap_conv {A B : List S43} (uA : Up A) (uB : Up B) : ∀ (l : List (Option S43 × Option S43)), (∀ el ∈ l, Sp A B el) → (l.filterMap ofP).map conv = (l.map pk).filterMap (gO A B)
  | [], _ => rfl
  | el :: l, h => by
    have ih := filterMap_conv uA uB l (fun e he => h e (List.mem_cons_of_mem _ he))
    have h1 := of_el uA uB (h el List.mem_cons_self)
    rw [List.filterMap_cons, List.map_cons, List.filterMap_cons, ← h1]
    cases ofP el with
    | none => exact ih
    | some c => rw [Option.map_some, List.map_cons, ih]
theorem last_app (A : List S43) (x : S43) : ∀ (n : Nat) (B : List S43), B.length = n → (Last (A ++ B) x ↔ Last B x ∨ (Last A x ∧ ∀ y ∈ B, ¬ isN x.f0 y = true)) := by
  intro n
  induction n with
  | zero =>
    intro B h; obtain rfl := List.length_eq_zero_iff.1 h; rw [List.append_nil]; exact ⟨fun h => .inr ⟨h, fun y hy => by cases hy⟩, fun h => h.elim (fun h => absurd h (last_nil x)) (·.1)⟩
  | succ n ih =>
    intro B h
    rcases List.eq_nil_or_concat B with rfl | ⟨B', z, rfl⟩
    · cases h
    · rw [List.concat_eq_append] at h ⊢
      rw [← List.append_assoc, last_snoc, last_snoc, ih B' (by simpa using h)]
      constructor
      · rintro (rfl | ⟨h1 | ⟨h1, h2⟩, h3⟩)
        · exact .inl (.inl rfl)
        · exact .inl (.inr ⟨h1, h3⟩)
        · refine .inr ⟨h1, fun y hy => ?_⟩
          rcases List.mem_append.1 hy with hy | hy
          · exact h2 y hy
          · rw [List.mem_singleton.1 hy]; exact h3
      · rintro ((rfl | ⟨h1, h3⟩) | ⟨h1, h2⟩)
        · exact .inl rfl
        · exact .inr ⟨.inl h1, h3⟩
        · exact .inr ⟨.inr ⟨h1, fun y hy => h2 y (List.mem_append.2 (.inl hy))⟩, h2 z (List.mem_append.2 (.inr (List.mem_singleton.2 rfl)))⟩
theorem mrg_eq {A B : List S43} (uA : Up A) (uB : Up B) : (prs (A.length + B.length) A B).map pk = normR (A ++ B) := by
  obtain ⟨h1, h2, h3⟩ := prs_spec _ A B uA uB (Nat.le_refl _); obtain ⟨h4, h5, _⟩ := normR_ok _ (A ++ B) rfl; refine up_uniq _ _ h2 h4 (fun z => ?_); rw [h3, h5, last_app A z _ B rfl, up_last uA, up_last uB]; constructor
  · rintro (h | ⟨h, g⟩)
    · exact .inl h
    · exact .inr ⟨h, fun y hy hh => g y hy ((isN_eq _ _).1 hh)⟩
  · rintro (h | ⟨h, g⟩)
    · exact .inl h
    · exact .inr ⟨h, fun y hy hh => g y hy ((isN_eq _ _).2 hh)⟩
def ofR (a b : List S43) : List S32 := (normR (normR a ++ normR b)).filterMap (gO (normR a) (normR b))
theorem of_conv (a b : List S43) : (ofN a b).map conv = ofR a b := by
  unfold ofN ofR; rw [right_norm, right_norm, norm_eq, norm_eq]; have uA := (normP_ok a).1; have uB := (normP_ok b).1; rw [filterMap_conv uA uB _ (prs_spec _ _ _ uA uB (Nat.le_refl _)).1, mrg_eq uA uB]
theorem normR_sm {l : List S43} (h : ∀ y ∈ l, Sm43 y) : ∀ y ∈ normR l, Sm43 y := fun y hy => by
  obtain ⟨A, B, e, _⟩ := ((normR_ok _ l rfl).2.1 y).1 hy
  exact h y (e ▸ List.mem_append.2 (.inr List.mem_cons_self))
theorem refOf_ev (a b : List S43) (ha : a.length ≤ 500000) (hb : b.length ≤ 500000) (sa : ∀ y ∈ a, Sm43 y) (sb : ∀ y ∈ b, Sm43 y) : Ev (fun k => r10_Of.f k a b) (ofR a b) := by
  have la := (normR_ok _ a rfl).2.2; have lb := (normR_ok _ b rfl).2.2
  have hs : ∀ y ∈ normR a ++ normR b, Sm43 y := fun y hy => (List.mem_append.1 hy).elim (normR_sm sa y) (normR_sm sb y)
  have hl : (normR a ++ normR b).length ≤ 1000000 := by rw [List.length_append]; omega
  have lu := (normR_ok _ (normR a ++ normR b) rfl).2.2; unfold r10_Of.f; refine Ev.bind (refNorm_ev a (by omega) sa) (Ev.bind (refNorm_ev b (by omega) sb) ?_)
  have key : Ev (fun k => (r09_Norm.f k (normR a ++ normR b)).bind fun t192 => r10_Of.l0 k (normR a) (normR b) t192 [] (t192.length : Int) 0) (ofR a b) := by
    refine Ev.bind (refNorm_ev _ hl hs) ?_; have := refOf_l0 (normR a) (normR b) (normR (normR a ++ normR b)) (by omega) (by omega) (by omega) _ 0 [] (Nat.zero_le _) rfl (Nat.le_refl _); exact this
  refine key.eq (fun k => ?_); rw [if_pos (show ([] : List S43).length + (normR a).length < 4398046511104 by simp only [List.length_nil]; omega)]; simp only [List.nil_append, Option.bind_some]; rw [if_pos (show (normR a).length + (normR b).length < 4398046511104 by omega)]
theorem rd31_map (l : List S31) (i : Int) (h0 : 0 ≤ i) (h : i < l.length) : rd_T32 (l.map conv) i = conv (rd_T31 l i) := by
  unfold rd_T32 rd_T31
  have : i.toNat < l.length := by omega
  simp [List.getD_eq_getElem?_getD, this]
theorem law_l0 (l : List S31) (hl : l.length ≤ 140737488351232) (d : Nat) : ∀ i : Int, 0 ≤ i → (l.length : Int) - i = d → Ev (fun k => lw_AdiffOf.l0 k l (l.map conv) l.length i) true := by
  induction d with
  | zero =>
    intro i h0 hd; exact (Ev.bind same_ev (Ev.pure true)).step (fun k => by rw [lw_AdiffOf.l0, if_neg (by omega)])
  | succ d ih =>
    intro i h0 hd; have hr := rd31_map l i h0 (by omega); refine (ih (i + 1) (by omega) (by omega)).step (fun k => ?_); rw [lw_AdiffOf.l0, if_pos (by omega), if_pos h0, if_pos (by omega), if_pos (by rw [List.length_map]; omega), hr]; simp only [conv, ↓reduceIte, bne_self_eq_false, Bool.false_eq_true]; rw [w1 (by omega) (by omega)]
theorem AdiffOf : ∀ (x0 : List (S43)) (x1 : List (S43)), (x0.length * 32 ≤ 140737488351232 ∧ ∀ y ∈ x0, Sm43 y) → (x1.length * 32 ≤ 140737488351232 ∧ ∀ y ∈ x1, Sm43 y) → ∃ k, lw_AdiffOf.f k x0 x1 = some true := by
  rintro l m ⟨h1, hs⟩ ⟨h2, hs2⟩; refine Ev.ex (r := true) ?_; have hsame : Ev (fun k => (lw_same.f k).bind fun t => (some t)) true := Ev.bind same_ev (Ev.pure true); have hj : Ev (fun k => lw_AdiffOf.j0 k l m true) true := hsame.step (fun k => by rw [lw_AdiffOf.j0, if_pos rfl]); obtain ⟨p, hp, hpi⟩ := heavy_ev l (by omega); obtain ⟨q, hq, hqi⟩ := heavy_ev m (by omega); unfold lw_AdiffOf.f; refine Ev.bind hp ?_
  cases p with
  | true => simp only [↓reduceIte]; exact hj
  | false =>
    simp only [Bool.false_eq_true, ↓reduceIte]; refine Ev.bind hq ?_
    cases q with
    | true => exact hj
    | false =>
      have ll := hpi rfl; have lm := hqi rfl; have e1 : adiff_Of.f l m = some (ofN l m) := if_pos (by omega); have e2 : adiff_Names.f l m = some (((ofN l m).length : Nat) : Int) := if_pos (by omega); have e3 := refOf_ev l m (by omega) (by omega) hs hs2; rw [← of_conv] at e3
      have hlen : (ofN l m).length ≤ 2000000 := by
        unfold ofN; refine Nat.le_trans (List.length_filterMap_le _ _) ?_; have h3 := (prs_spec _ (rightP l) (rightP m) (right_norm l ▸ (normP_ok l).1) (right_norm m ▸ (normP_ok m).1) (Nat.le_refl _)); have h4 := rightP_len l; have h5 := rightP_len m
        have h6 : ∀ (n : Nat) (A B : List S43), (prs n A B).length ≤ n := by
          intro n
          induction n with
          | zero => intro A B; exact Nat.le_refl _
          | succ n ih =>
            intro A B; unfold prs; split; (simp); (simpa using ih _ _); (simpa using ih _ _)
            · split
              · split
                · simpa using ih _ _
                · simpa using ih _ _
              · simpa using ih _ _
        have h7 := h6 ((rightP l).length + (rightP m).length) (rightP l) (rightP m); omega
      have key : Ev (fun k => (adiff_Of.f l m).bind fun t212 => ((r10_Of.f k l m).bind fun t215 => (if (t212.length : Int) = (t215.length : Int) then ((adiff_Names.f l m).bind fun t218 => (lw_AdiffOf.j1 k t212 t215 (t218 != (t215.length : Int)))) else (lw_AdiffOf.j1 k t212 t215 true)))) true := by
        rw [e1, e2]; simp only [Option.bind_some]; refine Ev.bind e3 ?_
        have hl : ((ofN l m).length : Int) = (((ofN l m).map conv).length : Int) := by rw [List.length_map]
        rw [← hl]; simp only [↓reduceIte, bne_self_eq_false]; exact (law_l0 (ofN l m) (by omega) (ofN l m).length 0 (Int.le_refl _) (by omega)).step (fun k => by rw [lw_AdiffOf.j1, if_neg (by decide)])
      exact key.step (fun k => by rw [lw_AdiffOf.j0, if_neg (by decide)])
end Go.Proofs.Ytmpdbblljofjfaa.Pure
