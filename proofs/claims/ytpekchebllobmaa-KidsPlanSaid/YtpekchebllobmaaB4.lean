/- What the claim LawKidsPlan rests on, part 4 of 6: the kit's words, the printed walks, the walks by hand, the plain laws. -/
import Derived.Test.YtpekchebllobmaaB2
import Derived.Test.YtpekchebllobmaaB3
namespace Go.Proofs.Ytpekchebllobmaa.Pure
open Go.RowKit Go.Proofs.Ytpekchebllobmaa.G Go.Proofs.YtpekchebllobmaaW.PrintWords Go.Proofs.YtpekchebllobmaaW.PrintLast
set_option linter.unusedVariables false
theorem mid_of {a b : List S50} (ha : a.Nodup) (hb : b.Nodup) {f g : Nat} (E : Ends a b f g) : Mid (kpL a b) (midL a b f g) f g (a.length - g) := by
  have la := E.la; have lb := E.lb; have hml := mid_len a b f g; refine ⟨by rw [kpL_len, hml]; omega, fun j hj => ?_, fun x hx => ?_, fun x hx h0 => ?_, fun j hj => ?_, by omega⟩; (rw [rd_kpL a b j (by omega), ← kept_at ha hb E j (by omega)]; unfold keptAt; rw [if_pos hj]); (rw [rd_kpL a b (f + x) (by omega), rd_mid a b f g x (by omega)])
  · rw [rd_mid a b f g x (by omega), ← kept_at ha hb E (f + x) (by omega)] at h0 ⊢
    unfold keptAt at h0 ⊢
    rw [if_neg (by omega), if_neg (by omega)] at h0 ⊢
    cases hf : fnd ((a.take (a.length - g)).drop f) (rd_T50 b ((f + x : Nat) : Int)) with
    | none => rw [hf] at h0; simp only [] at h0; omega
    | some q =>
      obtain ⟨hq, _⟩ := fnd_get _ _ _ hf; rw [List.length_drop, List.length_take] at hq; simp only []; omega
  · rw [rd_kpL a b (f + (midL a b f g).length + j) (by omega), ← kept_at ha hb E _ (by omega)]
    unfold keptAt; rw [if_neg (by omega), if_pos (by omega)]; omega
/-- What stays is the longest choice of the whole list. -/
theorem ST_whole {a b : List S50} (ha : a.Nodup) (hb : b.Nodup) {f g : Nat} (E : Ends a b f g) (j : Nat) (hj : j < b.length) : (longestOf (kpL a b)).any (fun x => x == (j : Int)) = ST a b f g j := by
  have la := E.la; have lb := E.lb; have H := mid_of ha hb E; have hc := H.count; have hml := mid_len a b f g; have hlen := longest_len (kpL a b); have hlenM := longest_len (midL a b f g)
  have get : ∀ (l : List Int) (t : Nat) (ht : t < l.length), rd l (t : Int) = l[t] := fun l t ht => by
    unfold rd; rw [List.getD_eq_getElem?_getD, Int.toNat_natCast, List.getElem?_eq_getElem ht]; rfl
  have hch := longest_choice (midL a b f g)
  have hpl : (pilesOf (midL a b f g)).length ≤ (midL a b f g).length := by
    have hi := playN_inv (midL a b f g) (midL a b f g).length (Nat.le_refl _); exact hi.psl
  rw [Bool.eq_iff_iff]; constructor
  · intro h
    obtain ⟨x, hx, hxe⟩ := List.any_eq_true.1 h
    have hxe := beq_iff_eq.1 hxe
    obtain ⟨q, hq, hqe⟩ := List.getElem_of_mem hx
    have h1 := H.chain ((pilesOf (kpL a b)).length - 1 - q) q (by omega)
    rw [get _ q hq, hqe, hxe] at h1
    unfold ST
    simp only [Bool.or_eq_true, decide_eq_true_eq]
    by_cases c1 : q < f
    · rw [if_pos c1] at h1
      exact .inl (.inl (by omega))
    · rw [if_neg c1] at h1
      by_cases c2 : q < f + (pilesOf (midL a b f g)).length
      · rw [if_pos c2] at h1
        refine .inr (List.any_eq_true.2 ⟨_, List.getElem_mem (show q - f < (longestOf (midL a b f g)).length by omega), ?_⟩)
        rw [beq_iff_eq, ← get _ (q - f) (by omega)]
        exact h1.symm
      · rw [if_neg c2] at h1
        exact .inl (.inr (by omega))
  · intro h
    unfold ST at h
    simp only [Bool.or_eq_true, decide_eq_true_eq] at h
    have fin : ∀ q : Nat, q < (longestOf (kpL a b)).length → rd (longestOf (kpL a b)) (q : Int) = (j : Int) → (longestOf (kpL a b)).any (fun x => x == (j : Int)) = true := fun q hq e => List.any_eq_true.2 ⟨_, List.getElem_mem hq, by rw [beq_iff_eq, ← get _ q hq]; exact e⟩
    rcases h with (h | h) | h
    · refine fin j (by omega) ?_
      rw [H.chain ((pilesOf (kpL a b)).length - 1 - j) j (by omega), if_pos h]
    · refine fin ((pilesOf (midL a b f g)).length + j - (midL a b f g).length) (by omega) ?_
      rw [H.chain ((pilesOf (kpL a b)).length - 1 - ((pilesOf (midL a b f g)).length + j - (midL a b f g).length)) _ (by omega), if_neg (by omega), if_neg (by omega)]
      omega
    · obtain ⟨x, hx, hxe⟩ := List.any_eq_true.1 h
      have hxe := beq_iff_eq.1 hxe
      obtain ⟨t, ht, hte⟩ := List.getElem_of_mem hx
      refine fin (f + t) (by omega) ?_
      rw [H.chain ((pilesOf (kpL a b)).length - 1 - (f + t)) (f + t) (by omega), if_neg (by omega), if_pos (by omega), show f + t - f = t by omega, get _ t ht, hte]
      exact hxe
/-- What is dropped, one by one. -/
def dl (a b : List S50) : Nat → List Int
  | 0 => []
  | i + 1 => dl a b i ++ if (fnd b (rd_T50 a i)).isNone then [(i : Int)] else []
theorem dl_len (a b : List S50) : ∀ i, (dl a b i).length ≤ i
  | 0 => by simp [dl]
  | i + 1 => by
    have := dl_len a b i
    rw [dl, List.length_append]
    split <;> simp <;> omega
theorem drop_dl (a b : List S50) (hla : a.length ≤ 1000000) (hlb : b.length ≤ 1000000) : Ev (fun k => r32_Drop.f k a b) (dl a b a.length) := by
  have loop : ∀ (d i : Nat), i + d = a.length → Ev (fun k => r32_Drop.l0 k a b (dl a b i) a.length i) (dl a b a.length) := by
    intro d
    induction d with
    | zero => intro i hi; rw [show i = a.length by omega]; exact (Ev.pure _).step (fun k => by rw [r32_Drop.l0, if_neg (by omega)])
    | succ d ih =>
      intro i hi; have h := ih (i + 1) (by omega); have hf := find_ev b hlb (rd_T50 a i); have hle := dl_len a b i; rw [dl] at h
      by_cases c : fnd b (rd_T50 a i) = none
      · rw [if_pos (by rw [c]; rfl)] at h
        exact hf.via h (fun k hk => by rw [r32_Drop.l0, if_pos (by omega), if_pos (by omega), if_pos (by omega), hk, Option.bind_some, if_pos ((toZ_neg _).2 c), if_pos (by omega), w1 (by omega) (by omega)]; rfl)
      · have hs : ¬ (fnd b (rd_T50 a i)).isNone = true := fun h => c (by simpa using h)
        rw [if_neg hs, List.append_nil] at h
        exact hf.via h (fun k hk => by rw [r32_Drop.l0, if_pos (by omega), if_pos (by omega), if_pos (by omega), hk, Option.bind_some, if_neg (fun h => c ((toZ_neg _).1 h)), w1 (by omega) (by omega)]; rfl)
  exact loop a.length 0 (by omega)
theorem of_l1x (a b : List S50) (hla : a.length ≤ 1000000) (met : List Bool) (hm : met.length = a.length) (out : List Int × List Int × List S46 × Int) (hmet : ∀ u : Nat, u < a.length → (rdOf false met (u : Int) = false ↔ fnd b (rd_T50 a u) = none))
    (hk : Ev (fun k => (kids_stay.f k a b (kpL a b)).bind fun t => kids_Of.l2 k t (-1) (wrap64 ((b.length : Int) - 1)) (kpL a b) (dl a b a.length) []) out) (d : Nat) :
    ∀ (i : Nat), i + d = a.length → Ev (fun k => kids_Of.l1 k a b met met.length i (kpL a b) (dl a b i)) out := by
  induction d with
  | zero => intro i hi; rw [show i = a.length by omega]; exact hk.step (fun k => by rw [kids_Of.l1, if_neg (by omega)])
  | succ d ih =>
    intro i hi; have h := ih (i + 1) (by omega); have hle := dl_len a b i; have hme := hmet i (by omega); rw [dl] at h
    by_cases c : rdOf false met (i : Int) = true
    · have hs : ¬ (fnd b (rd_T50 a i)).isNone = true := fun h => by
        have := hme.2 (by simpa using h)
        rw [c] at this; cases this
      rw [if_neg hs, List.append_nil] at h
      exact h.step (fun k => by rw [kids_Of.l1, if_pos (by omega), if_pos (by omega), if_pos (by omega), if_pos c, w1 (by omega) (by omega)]; rfl)
    · have hs : (fnd b (rd_T50 a i)).isNone = true := by rw [hme.1 (by simpa using c)]; rfl
      rw [if_pos hs] at h
      exact h.step (fun k => by rw [kids_Of.l1, if_pos (by omega), if_pos (by omega), if_pos (by omega), if_neg c, if_pos (by omega), w1 (by omega) (by omega)]; rfl)
theorem of_ev2 (a b : List S50) (hla : a.length ≤ 1000000) (hlb : b.length ≤ 1000000) (fa : a.all fitB = true) (fb : b.all fitB = true) (ha : a.Nodup) (hb : b.Nodup) {f g : Nat} (hT : Ev (fun k => kids_Trim.f k a b) ((f : Int), (g : Int))) (E : Ends a b f g) :
    Ev (fun k => kids_Of.f k a b) (kpL a b, dl a b a.length, stp a b (ST a b f g) b.length, 0) := by
  obtain ⟨st, s1, s2, s3⟩ := stay_ev a b hlb hT E; have hwb : wrap64 ((b.length : Int) - 1) = (b.length : Int) - 1 := ww (by omega) (by omega)
  have hL2 : ∀ D, Ev (fun k => (kids_stay.f k a b (kpL a b)).bind fun t => kids_Of.l2 k t (-1) (wrap64 ((b.length : Int) - 1)) (kpL a b) D []) (kpL a b, D, stp a b (ST a b f g) b.length, 0) := fun D => by
    have h := of_l2 a b hlb (ST a b f g) st s2 s3 D b.length [] (Nat.le_refl _) (by simp); rw [if_pos rfl, List.nil_append] at h; rw [hwb]; exact Ev.bind s1 h
  have hkl := kpL_len a b
  have loop : ∀ (d i : Nat) (met : List Bool), i + d = b.length → met.length = a.length → (∀ u : Nat, u < a.length → (rdOf false met (u : Int) = true ↔ ∃ j : Nat, j < i ∧ kp a b j = (u : Int))) →
      Ev (fun k => kids_Of.l0 k a b met (kpL a b) b.length i (kpL a b)) (kpL a b, dl a b a.length, stp a b (ST a b f g) b.length, 0) := by
    intro d
    induction d with
    | zero =>
      intro i met hi hm hmet
      have d2 := of_l1x a b hla met hm (kpL a b, dl a b a.length, stp a b (ST a b f g) b.length, 0) (fun u hu => by
        have h1 := hmet u hu; have h2 := kp_iff (b := b) ha hu; rw [show i = b.length by omega, h2] at h1
        cases hr : rdOf false met (u : Int) with
        | true => rw [hr] at h1; simp only [true_iff] at h1; exact ⟨fun h => (by cases h), fun h => absurd h h1⟩
        | false =>
          rw [hr] at h1; simp only [Bool.false_eq_true, false_iff, ne_eq, Decidable.not_not] at h1
          exact ⟨fun _ => h1, fun _ => rfl⟩) (hL2 _) a.length 0 (by omega)
      refine d2.step (fun k => ?_); rw [kids_Of.l0, if_neg (by omega)]; rfl
    | succ d ih =>
      intro i met hi hm hmet
      rcases kp_range a b i (by omega) with h | ⟨u, hu, h⟩
      · have d2 := ih (i + 1) met (by omega) hm (fun v hv => by
          rw [hmet v hv]
          constructor
          · rintro ⟨j, p, q⟩; exact ⟨j, by omega, q⟩
          · rintro ⟨j, p, q⟩
            refine ⟨j, ?_, q⟩
            rcases Nat.lt_or_ge j i with hj | hj
            · exact hj
            · obtain rfl : j = i := by omega
              rw [h] at q; omega)
        refine d2.step (fun k => ?_)
        rw [kids_Of.l0, if_pos (by omega), if_pos (by omega), if_pos (by omega), rd_kpL a b i (by omega), if_neg (by omega), w1 (by omega) (by omega)]
        rfl
      · have d2 := ih (i + 1) (met.set u true) (by omega) (by rw [List.length_set]; exact hm) (fun v hv => by
          rw [rdOf_set met u v true (by omega)]
          by_cases c : v = u
          · rw [if_pos c]
            simp only [true_iff]
            exact ⟨i, by omega, by rw [h, c]⟩
          · rw [if_neg c, hmet v hv]
            constructor
            · rintro ⟨j, p, q⟩; exact ⟨j, by omega, q⟩
            · rintro ⟨j, p, q⟩
              refine ⟨j, ?_, q⟩
              rcases Nat.lt_or_ge j i with hj | hj
              · exact hj
              · obtain rfl : j = i := by omega
                rw [h] at q; omega)
        refine d2.step (fun k => ?_)
        rw [kids_Of.l0, if_pos (by omega), if_pos (by omega), if_pos (by omega), rd_kpL a b i (by omega), h, if_pos (by omega), if_pos (by omega), if_pos (by omega), Int.toNat_natCast, w1 (by omega) (by omega)]
        rfl
  have d2 := loop b.length 0 (List.replicate a.length false) (by omega) (by rw [List.length_replicate]) (fun u hu => by
    unfold rdOf; rw [List.getD_eq_getElem?_getD, List.getElem?_replicate]; constructor; (intro h; split at h <;> cases h)
    · rintro ⟨j, h, _⟩; omega)
  have ta : twiceN a a.length = false := (twice_nodup a).2 ha; have tb : twiceN b b.length = false := (twice_nodup b).2 hb
  have hj0 : Ev (fun k => kids_Of.j0 k a b false) (kpL a b, dl a b a.length, stp a b (ST a b f g) b.length, 0) := by
    have hK := kept_ev a b hla hlb fa fb ha hb hT E; refine (Ev.bind hK (g := fun k t144 => (if 0 ≤ (a.length : Int) then (if ((a.length : Int) : Int).toNat ≤ 281474976710656 then (kids_Of.l0 k a b (List.replicate ((a.length : Int) : Int).toNat false) t144 (t144.length : Int) 0 t144) else (none)) else (none))) ?_).step (fun k => by rw [kids_Of.j0, if_neg (by decide)]); refine d2.eq (fun k => ?_); rw [if_pos (by omega), if_pos (by omega), Int.toNat_natCast, hkl]; rfl
  refine hj0.eq (fun k => ?_); rw [kids_Of.f, kids_twice.f, if_pos ⟨hla, fa⟩, Option.bind_some, ta, if_neg (by decide), kids_twice.f, if_pos ⟨hlb, fb⟩, Option.bind_some, tb]
theorem Longest_ev (l : List Int) (hn : l.length ≤ 1000000) : Ev (fun k => r06_Longest.f k l) (longestOf l) :=
  ⟨Lis.K1 l + l.length + 1, fun k hk => Lis.refLongest l hn k (by omega) (by omega)⟩
theorem rstay_l1 (L : List Int) (hL : L.length ≤ 1000000) (i n : Nat) (hn : n ≤ 1000000) (hi : i < n) (acc : List Bool) (ha : acc.length ≤ i) (r : List Bool) (h : Ev (fun k => r08_Stay.l0 k L (acc ++ [L.any (fun x => x == (i : Int))]) n ((i + 1 : Nat) : Int)) r) (d : Nat) :
    ∀ (q : Nat) (x : Bool), q + d = L.length → (x || (L.drop q).any (fun x => x == (i : Int))) = L.any (fun x => x == (i : Int)) → Ev (fun k => r08_Stay.l1 k L acc i x n i L.length q) r := by
  induction d with
  | zero =>
    intro q x hq hx; rw [List.drop_eq_nil_of_le (by omega), List.any_nil, Bool.or_false] at hx; rw [← hx] at h; exact h.step (fun k => by rw [r08_Stay.l1, if_neg (by omega), if_pos (by omega), w1 (by omega) (by omega)]; rfl)
  | succ d ih =>
    intro q x hq hx; rw [drpI L q (by omega), List.any_cons] at hx
    by_cases c : x = true
    · have := ih (q + 1) true (by omega) (by rw [c] at hx; rw [← hx]; simp)
      exact this.step (fun k => by rw [r08_Stay.l1, if_pos (by omega), if_pos c, w1 (by omega) (by omega)]; rfl)
    · have c2 : x = false := by simpa using c
      have := ih (q + 1) (rd L q == (i : Int)) (by omega) (by rw [← hx, c2, Bool.false_or])
      exact this.step (fun k => by rw [r08_Stay.l1, if_pos (by omega), if_neg c, if_pos (by omega), if_pos (by omega), w1 (by omega) (by omega)]; rfl)
theorem rstay_ev (K : List Int) (hn : K.length ≤ 1000000) (hL : (longestOf K).length ≤ 1000000) : Ev (fun k => r08_Stay.f k K) ((List.range K.length).map (fun j : Nat => (longestOf K).any (fun x => x == (j : Int)))) := by
  have loop : ∀ (d i : Nat), i + d = K.length → Ev (fun k => r08_Stay.l0 k (longestOf K) ((List.range i).map (fun j : Nat => (longestOf K).any (fun x => x == (j : Int)))) K.length i) ((List.range K.length).map (fun j : Nat => (longestOf K).any (fun x => x == (j : Int)))) := by
    intro d
    induction d with
    | zero => intro i hi; rw [show i = K.length by omega]; exact (Ev.pure _).step (fun k => by rw [r08_Stay.l0, if_neg (by omega)])
    | succ d ih =>
      intro i hi; have h := ih (i + 1) (by omega); rw [List.range_succ, List.map_append] at h; have := rstay_l1 (longestOf K) hL i K.length hn (by omega) ((List.range i).map (fun j : Nat => (longestOf K).any (fun x => x == (j : Int)))) (by rw [List.length_map, List.length_range]; omega) _ h (longestOf K).length 0 false (by omega) (by rw [List.drop_zero, Bool.false_or]); exact this.step (fun k => by rw [r08_Stay.l0, if_pos (by omega)]; rfl)
  unfold r08_Stay.f; exact Ev.bind (Longest_ev K hn) (loop K.length 0 (by omega))
theorem rdOf_map (n : Nat) (S : Nat → Bool) (j : Nat) (hj : j < n) : rdOf false ((List.range n).map S) (j : Int) = S j := by
  unfold rdOf; rw [List.getD_eq_getElem?_getD, Int.toNat_natCast, List.getElem?_map, List.getElem?_range hj]; rfl
/-- The reference's steps. -/
def st58 (n : Nat) (S : Nat → Bool) : Nat → List S58
  | 0 => []
  | i + 1 => (if S i = true then [] else [⟨(i : Int), if i + 1 = n then -1 else ((i + 1 : Nat) : Int)⟩]) ++ st58 n S i
theorem plan_l0 (K : List Int) (hn : K.length ≤ 1000000) (S : Nat → Bool) (st : List Bool) (hst : st.length = K.length) (hS : ∀ j : Nat, j < K.length → rdOf false st (j : Int) = S j) : ∀ (i : Nat) (acc : List S58), i ≤ K.length → acc.length + i ≤ K.length → Ev (fun k => r08_Plan.l0 k K acc st ((i : Int) - 1)) (acc ++ st58 K.length S i)
  | 0, acc, _, _ => by
    rw [st58, List.append_nil]
    exact (Ev.pure _).step (fun k => by rw [r08_Plan.l0, if_neg (by omega)])
  | i + 1, acc, hi, ha => by
    have hi1 : (((i + 1 : Nat) : Int) - 1) = (i : Int) := by omega
    have hwl : wrap64 ((K.length : Int) - 1) = (K.length : Int) - 1 := ww (by omega) (by omega)
    rw [st58, hi1]
    by_cases c : S i = true
    · have h := plan_l0 K hn S st hst hS i acc (by omega) (by omega)
      rw [if_pos c, List.nil_append]
      exact h.step (fun k => by rw [r08_Plan.l0, if_pos (by omega), if_pos (by omega), if_pos (by omega), hS i (by omega), if_pos c, wm (by omega) (by omega)])
    · have h := plan_l0 K hn S st hst hS i (acc ++ [⟨(i : Int), if i + 1 = K.length then -1 else ((i + 1 : Nat) : Int)⟩]) (by omega) (by rw [List.length_append, List.length_singleton]; omega)
      rw [if_neg c, ← List.append_assoc]
      refine h.step (fun k => ?_)
      rw [r08_Plan.l0, if_pos (by omega), if_pos (by omega), if_pos (by omega), hS i (by omega), if_neg c, hwl, wm (by omega) (by omega)]
      by_cases e : i + 1 = K.length
      · rw [if_pos (by omega), if_pos (by omega), if_pos e]
      · rw [if_neg (by omega), if_pos (by omega), if_neg e, w1 (by omega) (by omega)]
        rfl
theorem st58_len (n : Nat) (S : Nat → Bool) : ∀ i, (st58 n S i).length ≤ i
  | 0 => by simp [st58]
  | i + 1 => by
    have := st58_len n S i
    rw [st58]
    split
    · simp only [List.nil_append]; omega
    · simp only [List.length_append, List.length_singleton]; omega
theorem st58_at (n : Nat) (S : Nat → Bool) : ∀ (i : Nat) (y : S58), y ∈ st58 n S i → ∃ j : Nat, j < i ∧ y.f0 = (j : Int)
  | 0, y, h => by rw [st58] at h; cases h
  | i + 1, y, h => by
    rw [st58, List.mem_append] at h
    rcases h with h | h
    · split at h
      · cases h
      · rw [List.mem_singleton] at h; exact ⟨i, by omega, by rw [h]⟩
    · obtain ⟨j, h1, h2⟩ := st58_at n S i y h
      exact ⟨j, by omega, h2⟩
theorem st58_map (a b : List S50) (S : Nat → Bool) : ∀ i, i ≤ b.length → (st58 b.length S i).map (fun s => (⟨s.f0, rd (kpL a b) s.f0, s.f1⟩ : S38)) = (stp a b S i).map s38
  | 0, _ => rfl
  | i + 1, hi => by
    have ih := st58_map a b S i (by omega)
    rw [st58, stp, List.map_append, List.map_append, ih]
    by_cases c : S i = true
    · rw [if_pos c, if_pos c]; rfl
    · rw [if_neg c, if_neg c]
      simp only [List.map_cons, List.map_nil]
      rw [rd_kpL a b i (by omega)]
      rfl
theorem steps32_ev (a b : List S50) (hla : a.length ≤ 1000000) (hlb : b.length ≤ 1000000) (S : Nat → Bool) (hS : ∀ j, j < b.length → (longestOf (kpL a b)).any (fun x => x == (j : Int)) = S j) (hL : (longestOf (kpL a b)).length ≤ 1000000) : Ev (fun k => r32_Steps.f k a b) ((stp a b S b.length).map s38) := by
  have hk := kpL_len a b; have hSt := rstay_ev (kpL a b) (by omega) hL
  have hP : Ev (fun k => r08_Plan.f k (kpL a b)) (st58 b.length S b.length) := by
    have h := plan_l0 (kpL a b) (by omega) S _ (by rw [List.length_map, List.length_range]) (fun j hj => (rdOf_map _ _ j hj).trans (hS j (by omega))) (kpL a b).length [] (Nat.le_refl _) (by simp); rw [List.nil_append, hk] at h; unfold r08_Plan.f; refine Ev.bind hSt ?_; rw [ww (i := ((kpL a b).length : Int) - 1) (by omega) (by omega), hk]; exact h
  have hlen := st58_len b.length S b.length
  have loop : ∀ (d i : Nat) (acc : List S38), i + d = (st58 b.length S b.length).length → acc.length ≤ i → acc ++ ((st58 b.length S b.length).drop i).map (fun s => (⟨s.f0, rd (kpL a b) s.f0, s.f1⟩ : S38)) = (stp a b S b.length).map s38 → Ev (fun k => r32_Steps.l0 k (kpL a b) (st58 b.length S b.length) acc (st58 b.length S b.length).length i) ((stp a b S b.length).map s38) := by
    intro d
    induction d with
    | zero =>
      intro i acc hi ha he; rw [List.drop_eq_nil_of_le (by omega), List.map_nil, List.append_nil] at he; rw [he]; exact (Ev.pure _).step (fun k => by rw [r32_Steps.l0, if_neg (by omega)])
    | succ d ih =>
      intro i acc hi ha he
      have hip : i < (st58 b.length S b.length).length := by omega
      have e : rd_T58 (st58 b.length S b.length) (i : Int) = (st58 b.length S b.length)[i] := by
        unfold rd_T58; rw [List.getD_eq_getElem?_getD, Int.toNat_natCast, List.getElem?_eq_getElem hip]; rfl
      obtain ⟨j, j1, j2⟩ := st58_at b.length S b.length _ (List.getElem_mem hip); rw [List.drop_eq_getElem_cons hip, List.map_cons] at he; have := ih (i + 1) (acc ++ [(⟨(st58 b.length S b.length)[i].f0, rd (kpL a b) (st58 b.length S b.length)[i].f0, (st58 b.length S b.length)[i].f1⟩ : S38)]) (by omega) (by rw [List.length_append, List.length_singleton]; omega) (by rw [List.append_assoc]; exact he); refine this.step (fun k => ?_); rw [r32_Steps.l0, if_pos (by omega), if_pos (by omega), if_pos (by omega), e, if_pos (by omega), if_pos (by omega), if_pos (by omega), w1 (by omega) (by omega)]; rfl
  have h := loop (st58 b.length S b.length).length 0 [] (by omega) (by simp) (by rw [List.drop_zero, List.nil_append]; exact st58_map a b S b.length (Nat.le_refl _)); unfold r32_Steps.f; exact Ev.bind (keptref_ev a b hla hlb) (Ev.bind hP h)
theorem least_ev (a b : List S50) (hlb : b.length ≤ 1000000) (S : Nat → Bool) (hS : ∀ j, j < b.length → (longestOf (kpL a b)).any (fun x => x == (j : Int)) = S j) (hL : (longestOf (kpL a b)).length ≤ 1000000) : Ev (fun k => r08_Least.f k (kpL a b)) ((cn (fun j => !S j && decide (0 ≤ kp a b j)) b.length : Nat) : Int) := by
  have hk := kpL_len a b; have hSt := rstay_ev (kpL a b) (by omega) hL
  have loop : ∀ (d i : Nat), i + d = b.length → Ev (fun k => r08_Least.l0 k (kpL a b) ((cn (fun j => !S j && decide (0 ≤ kp a b j)) i : Nat) : Int) ((List.range (kpL a b).length).map (fun j : Nat => (longestOf (kpL a b)).any (fun x => x == (j : Int)))) b.length i) ((cn (fun j => !S j && decide (0 ≤ kp a b j)) b.length : Nat) : Int) := by
    intro d
    induction d with
    | zero => intro i hi; rw [show i = b.length by omega]; exact (Ev.pure _).step (fun k => by rw [r08_Least.l0, if_neg (by omega)])
    | succ d ih =>
      intro i hi; have h := ih (i + 1) (by omega); have hle := cn_le (fun j => !S j && decide (0 ≤ kp a b j)) i; have hr : rdOf false ((List.range (kpL a b).length).map (fun j : Nat => (longestOf (kpL a b)).any (fun x => x == (j : Int)))) (i : Int) = S i := (rdOf_map _ _ i (by omega)).trans (hS i (by omega))
      have hln : ((List.range (kpL a b).length).map (fun j : Nat => (longestOf (kpL a b)).any (fun x => x == (j : Int)))).length = b.length := by rw [List.length_map, List.length_range, hk]
      rw [cn] at h
      by_cases c : kp a b i ≥ 0
      · have c2 : decide (0 ≤ kp a b i) = true := decide_eq_true c
        by_cases s : S i = true
        · rw [s, Bool.not_true, Bool.false_and, if_neg (by decide), Nat.add_zero] at h
          exact h.step (fun k => by rw [r08_Least.l0, if_pos (by omega), if_pos (by omega), if_pos (by omega), rd_kpL a b i (by omega), if_pos c, if_pos (by omega), hr, if_pos s, w1 (by omega) (by omega)]; rfl)
        · have s2 : S i = false := by simpa using s
          rw [s2, c2, if_pos (by decide)] at h
          exact h.step (fun k => by rw [r08_Least.l0, if_pos (by omega), if_pos (by omega), if_pos (by omega), rd_kpL a b i (by omega), if_pos c, if_pos (by omega), hr, if_neg s, w1 (by omega) (by omega), w1 (by omega) (by omega)]; rfl)
      · have c2 : decide (0 ≤ kp a b i) = false := decide_eq_false c
        rw [c2, Bool.and_false, if_neg (by decide), Nat.add_zero] at h; exact h.step (fun k => by rw [r08_Least.l0, if_pos (by omega), if_pos (by omega), if_pos (by omega), rd_kpL a b i (by omega), if_neg c, w1 (by omega) (by omega)]; rfl)
  unfold r08_Least.f; refine Ev.bind hSt ?_; rw [hk]; have := loop b.length 0 (by omega); rw [hk] at this; exact this
theorem ints_refl (a : List Int) (ha : a.length ≤ 1000000) : Ev (fun k => pl_Ints.f k a a) true := by
  have key : ∀ (d : Nat) (i : Int), 0 ≤ i → (a.length : Int) - i = d → Ev (fun k => pl_Ints.l0 k a a a.length i) true := by
    intro d
    induction d with
    | zero => intro i h0 hd; exact (Ev.pure _).step (fun k => by rw [pl_Ints.l0, if_neg (by omega)])
    | succ d ih =>
      intro i h0 hd
      have hi : i < (a.length : Int) := by omega
      exact (ih (i + 1) (by omega) (by omega)).step (fun k => by rw [pl_Ints.l0, if_pos hi, if_pos h0, if_pos hi, if_pos hi, if_pos rfl, w1 (by omega) (by omega)])
  exact (key a.length 0 (by omega) (by omega)).eq (fun k => by rw [pl_Ints.f, if_pos rfl])
theorem plan_end (a b : List S50) (T : List S38) (hT : T.length ≤ 1000000) (K D : List Int) (P : List S46) (h : Ev (fun k => (r12_Kept.f k a b).bind fun t321 => ((pl_Ints.f k K t321).bind fun t324 => (if t324 = true then ((r32_Drop.f k a b).bind fun t325 => ((pl_Ints.f k D t325).bind fun t328 => (if t328 = true then ((kids_Moves.f k K D P).bind fun t329 => ((r08_Least.f k K).bind fun t330 => (if t329 = t330 then ((lw_same.f k).bind fun t331 => (some t331)) else (some false)))) else (some false)))) else (some false)))) true) (d : Nat) : ∀ i : Nat, i + d = T.length → Ev (fun k => lw_KidsPlan.l0 k a b T T T.length i K D P) true := by
  induction d with
  | zero => intro i hi; exact h.step (fun k => by rw [lw_KidsPlan.l0, if_neg (by omega)])
  | succ d ih =>
    intro i hi; refine (ih (i + 1) (by omega)).step (fun k => ?_); rw [lw_KidsPlan.l0, if_pos (by omega), if_pos (by omega), if_pos (by omega), if_pos (by omega), if_neg (by simp), w1 (by omega) (by omega)]; rfl
theorem KidsPlan : ∀ (x0 : List (S50)) (x1 : List (S50)), (x0.length * 40 ≤ 140737488351232 ∧ ∀ y ∈ x0, Sm50 y) → (x1.length * 40 ≤ 140737488351232 ∧ ∀ y ∈ x1, Sm50 y) → ∃ k, lw_KidsPlan.f k x0 x1 = some true := by
  rintro a b ⟨hla, hsa⟩ ⟨hlb, hsb⟩; refine Ev.ex (r := true) ?_; have hsame : Ev (fun k => (lw_same.f k).bind fun t => (some t)) true := Ev.bind same_ev (Ev.pure true); have hj : Ev (fun k => lw_KidsPlan.j0 k a b true) true := hsame.step (fun k => by rw [lw_KidsPlan.j0, if_pos rfl]); obtain ⟨p, hp, hpi⟩ := heavy_ev a hla hsa; obtain ⟨q, hq, hqi⟩ := heavy_ev b hlb hsb; unfold lw_KidsPlan.f; refine Ev.bind hp ?_
  cases p with
  | true => simp only [↓reduceIte]; exact hj
  | false =>
    simp only [Bool.false_eq_true, ↓reduceIte]; refine Ev.bind hq ?_
    cases q with
    | true => exact hj
    | false =>
      obtain ⟨la, fa⟩ := hpi rfl; obtain ⟨lb, fb⟩ := hqi rfl; obtain ⟨f, g, hT, hT2, E⟩ := trim_ev a b (by omega) (by omega); have hta := twice_ev a (by omega); have htb := twice_ev b (by omega)
      have enter (K D : List Int) (P : List S46) (e : Int) (hO : Ev (fun k => kids_Of.f k a b) (K, D, P, e)) (h : Ev (fun k => lw_KidsPlan.j1 k a b e false K D P) true) : Ev (fun k => lw_KidsPlan.j0 k a b false) true := by
        have key : Ev (fun k => (kids_Trim.f k a b).bind fun bt295 => ((r32_Trim.f k a b).bind fun bt297 => ((kids_Of.f k a b).bind fun bt299 => (if bt295.1 = bt297.1 then (lw_KidsPlan.j1 k a b bt299.2.2.2 (bt295.2 != bt297.2) bt299.1 bt299.2.1 bt299.2.2.1) else (lw_KidsPlan.j1 k a b bt299.2.2.2 true bt299.1 bt299.2.1 bt299.2.2.1))))) true := by
          refine Ev.bind hT (Ev.bind hT2 (Ev.bind hO ?_)); simp only [↓reduceIte, bne_self_eq_false]; exact h
        exact key.step (fun k => by rw [lw_KidsPlan.j0, if_neg (by decide)])
      -- two of one list are alike
      have alike (h1 : twiceN a a.length = true ∨ twiceN b b.length = true) : Ev (fun k => lw_KidsPlan.j0 k a b false) true := by
        have hj0 : Ev (fun k => kids_Of.j0 k a b true) ([], [], [], 10) := (Ev.pure _).step (fun k => by rw [kids_Of.j0, if_pos rfl])
        have hO : Ev (fun k => kids_Of.f k a b) ([], [], [], 10) := hj0.eq (fun k => by
          rw [kids_Of.f, kids_twice.f, if_pos ⟨by omega, fa⟩, Option.bind_some]
          by_cases c : twiceN a a.length = true
          · rw [if_pos c]
          · rw [if_neg c, kids_twice.f, if_pos ⟨by omega, fb⟩, Option.bind_some, h1.resolve_left c])
        refine enter _ _ _ _ hO ?_
        have hz : wrap64 (wrap64 ((([] : List Int).length : Int) + (([] : List Int).length : Int)) + (([] : List S46).length : Int)) = 0 := by simp only [List.length_nil]; rw [ww (i := ((0 : Nat) : Int) + ((0 : Nat) : Int)) (by omega) (by omega), ww (by omega) (by omega)]; rfl
        have hj2 : Ev (fun k => lw_KidsPlan.j2 k a b 10 true [] [] []) true := hsame.step (fun k => by rw [lw_KidsPlan.j2, if_pos rfl, if_pos rfl, if_pos hz])
        have key : Ev (fun k => (r32_Twice.f k a).bind fun t310 => (if t310 = true then (lw_KidsPlan.j2 k a b 10 true [] [] []) else ((r32_Twice.f k b).bind fun t311 => (lw_KidsPlan.j2 k a b 10 t311 [] [] [])))) true := by
          refine Ev.bind hta ?_
          by_cases c : twiceN a a.length = true
          · rw [c]; simp only [↓reduceIte]; exact hj2
          · have c2 : twiceN a a.length = false := by simpa using c
            rw [c2]
            simp only [Bool.false_eq_true, ↓reduceIte]
            refine Ev.bind htb ?_
            rw [h1.resolve_left c]
            exact hj2
        exact key.step (fun k => by rw [lw_KidsPlan.j1, if_neg (by decide)])
      by_cases ta : twiceN a a.length = true
      · exact alike (.inl ta)
      by_cases tb : twiceN b b.length = true
      · exact alike (.inr tb)
      have ta : twiceN a a.length = false := by simpa using ta
      have tb : twiceN b b.length = false := by simpa using tb
      have ha := (twice_nodup a).1 ta; have hb := (twice_nodup b).1 tb; have hO := of_ev2 a b (by omega) (by omega) fa fb ha hb hT E; have hsl := stp_len a b (ST a b f g) b.length; have hdl := dl_len a b a.length; have hkl := kpL_len a b
      have hLl : (longestOf (kpL a b)).length ≤ 1000000 := by
        rw [longest_len]; have hi := playN_inv (kpL a b) (kpL a b).length (Nat.le_refl _); have h2 : (pilesOf (kpL a b)).length ≤ (kpL a b).length := hi.psl; omega
      have hW := fun j hj => ST_whole ha hb E j hj
      have hmv := mv_stp a b (ST a b f g) (stp a b (ST a b f g) b.length) b.length; have hMo := moves_ev (kpL a b) (dl a b a.length) (stp a b (ST a b f g) b.length) (by omega); rw [hmv] at hMo
      have hend := plan_end a b ((stp a b (ST a b f g) b.length).map s38) (by rw [List.length_map]; omega) (kpL a b) (dl a b a.length) (stp a b (ST a b f g) b.length) (by
        refine Ev.bind (keptref_ev a b (by omega) (by omega)) (Ev.bind (ints_refl (kpL a b) (by omega)) ?_); simp only [↓reduceIte]; refine Ev.bind (drop_dl a b (by omega) (by omega)) (Ev.bind (ints_refl (dl a b a.length) (by omega)) ?_); simp only [↓reduceIte]; refine Ev.bind hMo (Ev.bind (least_ev a b (by omega) (ST a b f g) hW hLl) ?_); simp only [↓reduceIte]
        exact hsame) _ 0 (Nat.zero_add _)
      refine enter _ _ _ _ hO ?_; have hj3 : Ev (fun k => lw_KidsPlan.j3 k a b ((stp a b (ST a b f g) b.length).map s38) ((stp a b (ST a b f g) b.length).map s38) ((0 : Int) != 0) (kpL a b) (dl a b a.length) (stp a b (ST a b f g) b.length)) true := hend.step (fun k => by rw [lw_KidsPlan.j3, if_neg (by decide)]; rfl)
      have hj2 : Ev (fun k => lw_KidsPlan.j2 k a b 0 false (kpL a b) (dl a b a.length) (stp a b (ST a b f g) b.length)) true := by
        have key : Ev (fun k => (lw_steps.f k (stp a b (ST a b f g) b.length)).bind fun t313 => ((r32_Steps.f k a b).bind fun t316 => (if (t313.length : Int) = (t316.length : Int) then (lw_KidsPlan.j3 k a b t313 t316 ((0 : Int) != 0) (kpL a b) (dl a b a.length) (stp a b (ST a b f g) b.length)) else (lw_KidsPlan.j3 k a b t313 t316 true (kpL a b) (dl a b a.length) (stp a b (ST a b f g) b.length))))) true := by
          refine Ev.bind (steps_ev (stp a b (ST a b f g) b.length) (by omega)) (Ev.bind (steps32_ev a b (by omega) (by omega) (ST a b f g) hW hLl) ?_); simp only [↓reduceIte]; exact hj3
        exact key.step (fun k => by rw [lw_KidsPlan.j2, if_neg (by decide)])
      have key : Ev (fun k => (r32_Twice.f k a).bind fun t310 => (if t310 = true then (lw_KidsPlan.j2 k a b 0 true (kpL a b) (dl a b a.length) (stp a b (ST a b f g) b.length)) else ((r32_Twice.f k b).bind fun t311 => (lw_KidsPlan.j2 k a b 0 t311 (kpL a b) (dl a b a.length) (stp a b (ST a b f g) b.length))))) true := by
        refine Ev.bind hta ?_; rw [ta]; simp only [Bool.false_eq_true, ↓reduceIte]; refine Ev.bind htb ?_; rw [tb]; exact hj2
      exact key.step (fun k => by rw [lw_KidsPlan.j1, if_neg (by decide)])
end Go.Proofs.Ytpekchebllobmaa.Pure
