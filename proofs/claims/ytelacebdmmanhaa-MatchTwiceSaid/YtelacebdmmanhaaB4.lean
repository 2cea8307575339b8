/- What the claim LawMatchTwice rests on, part 4 of 7: the kit's words, the printed walks, the walks by hand, the plain laws. -/
import Derived.Test.YtelacebdmmanhaaB0
import Derived.Test.YtelacebdmmanhaaB1
import Derived.Test.YtelacebdmmanhaaB2
import Derived.Test.YtelacebdmmanhaaB3
import Derived.BigQuiet
import Derived.Deep.QuietTactic
namespace Go.Proofs.Ytelacebdmmanhaa.G
open Go.RowKit Go.Proofs.YtelacebdmmanhaaW.PrintWords Go.Proofs.YtelacebdmmanhaaW.PrintLast Go.Proofs.YtelacebdmmanhaaW.PrintMore
set_option linter.unusedVariables false
set_option linter.unusedSimpArgs false
def eqL (x y : S37) : Bool := x.f0.toList == y.f0.toList && (x.f1.toList == y.f1.toList && x.f2 == y.f2)
theorem eqL_iff (x y : S37) : eqL x y = true ↔ x = y := by
  rw [← key_iff]; simp [eqL]
/-- The first of some handles that has a label. -/
def fndL (la : List S37) (ks : List Int) (x : S37) : Option Int := ks.find? (fun k => eqL (rd_T37 la (k - 1)) x)
/-- One handle of b's: matched with that of its label. -/
def put1 (la lb : List S37) (fr : List Int) (out : List Int) (k : Int) : List Int :=
  match fndL la fr (rd_T37 lb (k - 1)) with
  | some n => out.set k.toNat n
  | none => out
def putK (la lb : List S37) (fr : List Int) (ks : List Int) (out : List Int) : Nat → List Int
  | 0 => out
  | i + 1 => put1 la lb fr (putK la lb fr ks out i) (rd ks i)
def markH (out : List Int) (h : Nat) : List Int := if 0 < h ∧ rd out h = 0 then out.set h (-1) else out
def stepH (ta tb : List (List Int)) (la lb : List S37) (out : List Int) (h : Nat) : List Int :=
  if rd (markH out h) h < 0 ∨ (rd_L7 tb h).length = 0 ∨ (rd_L7 ta (rd (markH out h) h)).length = 0 then markH out h
  else putK la lb (rd_L7 ta (rd (markH out h) h)) (rd_L7 tb h) (markH out h) (rd_L7 tb h).length
def goH (ta tb : List (List Int)) (la lb : List S37) (n : Nat) : Nat → List Int
  | 0 => List.replicate n 0
  | h + 1 => stepH ta tb la lb (goH ta tb la lb n h) h
def fitL (l : List S37) : Bool := l.all fun x => decide (x.f0.size ≤ 140737488351232) && decide (x.f1.size ≤ 140737488351232)
/-- What keeps match.pairs within its rows. -/
def okH (ta tb : List (List Int)) (la lb : List S37) (n : Nat) : Bool :=
  decide (tb.length = n) && decide (n ≤ 1000000) && decide (0 < ta.length) && decide (ta.length ≤ 1000000) && fitL la && fitL lb &&
  (ta.all fun ks => decide (ks.length ≤ 1000000) && ks.all fun k => decide (1 ≤ k) && decide (k ≤ la.length) && decide (k < ta.length)) &&
  (tb.all fun ks => decide (ks.length ≤ 1000000) && ks.all fun k => decide (1 ≤ k) && decide (k ≤ lb.length) && decide (k < n))
def match_pairs.f (k : Nat) (l0 l1 : List S32) : Option (List Int) :=
  (flat_Lists.f k l0).bind fun fr => (flat_Lists.f k l1).bind fun tb =>
    if fr.length = 0 ∨ tb.length = 0 then some [] else
    (match_labels.f k l0 fr).bind fun la => (match_labels.f k l1 tb).bind fun lb =>
      if okH fr tb la lb (l1.length + 1) = true then some (goH fr tb la lb (l1.length + 1) (l1.length + 1)) else none
theorem match_pairs.mono : ∀ a0 a1 k, LeO (match_pairs.f k a0 a1) (match_pairs.f (k + 1) a0 a1) := by
  intro a0 a1 k; unfold match_pairs.f; refine LeO.bind (flat_Lists.mono _ _) (fun fr => LeO.bind (flat_Lists.mono _ _) (fun tb => LeO.ite (LeO.refl _) (LeO.bind (match_labels.mono _ _ _) (fun la => LeO.bind (match_labels.mono _ _ _) (fun lb => LeO.refl _)))))
structure OkH (ta tb : List (List Int)) (la lb : List S37) (n : Nat) : Prop where
  tn : tb.length = n
  nl : n ≤ 1000000
  fp : 0 < ta.length
  fl : ta.length ≤ 1000000
  fa : ∀ k : Int, 1 ≤ k → k ≤ la.length → Fit (rd_T37 la (k - 1))
  fb : ∀ k : Int, 1 ≤ k → k ≤ lb.length → Fit (rd_T37 lb (k - 1))
  kf : ∀ j : Int, 0 ≤ j → j < ta.length → (rd_L7 ta j).length ≤ 1000000 ∧ ∀ i : Int, 0 ≤ i → i < (rd_L7 ta j).length → 1 ≤ rd (rd_L7 ta j) i ∧ rd (rd_L7 ta j) i ≤ la.length ∧ rd (rd_L7 ta j) i < ta.length
  kt : ∀ j : Int, 0 ≤ j → j < tb.length → (rd_L7 tb j).length ≤ 1000000 ∧ ∀ i : Int, 0 ≤ i → i < (rd_L7 tb j).length → 1 ≤ rd (rd_L7 tb j) i ∧ rd (rd_L7 tb j) i ≤ lb.length ∧ rd (rd_L7 tb j) i < n
theorem getD_mem' {α : Type} (l : List α) (z : α) (i : Int) (h0 : 0 ≤ i) (h : i < l.length) : l.getD i.toNat z ∈ l := by
  rw [List.getD_eq_getElem?_getD, List.getElem?_eq_getElem (by omega)]; exact List.getElem_mem _
theorem fit_of {l : List S37} (h : fitL l = true) (k : Int) (h0 : 1 ≤ k) (h1 : k ≤ l.length) : Fit (rd_T37 l (k - 1)) := by
  have := List.all_eq_true.1 h _ (getD_mem' l z37 (k - 1) (by omega) (by omega)); simp only [Bool.and_eq_true, decide_eq_true_eq] at this; exact this
theorem OkH.of {ta tb : List (List Int)} {la lb : List S37} {n : Nat} (h : okH ta tb la lb n = true) : OkH ta tb la lb n := by
  unfold okH at h; simp only [Bool.and_eq_true, decide_eq_true_eq] at h; obtain ⟨⟨⟨⟨⟨⟨⟨h1, h2⟩, h3⟩, h4⟩, h5⟩, h6⟩, h7⟩, h8⟩ := h; refine ⟨h1, h2, h3, h4, fit_of h5, fit_of h6, fun j j0 j1 => ?_, fun j j0 j1 => ?_⟩; (have := List.all_eq_true.1 h7 _ (getD_mem' ta [] j j0 j1); simp only [Bool.and_eq_true, decide_eq_true_eq] at this; refine ⟨this.1, fun i i0 i1 => ?_⟩; have q := List.all_eq_true.1 this.2 _ (getD_mem' (rd_L7 ta j) 0 i i0 i1); simp only [Bool.and_eq_true, decide_eq_true_eq] at q; exact ⟨q.1.1, q.1.2, q.2⟩); (have := List.all_eq_true.1 h8 _ (getD_mem' tb [] j j0 j1); simp only [Bool.and_eq_true, decide_eq_true_eq] at this; refine ⟨this.1, fun i i0 i1 => ?_⟩; have q := List.all_eq_true.1 this.2 _ (getD_mem' (rd_L7 tb j) 0 i i0 i1); simp only [Bool.and_eq_true, decide_eq_true_eq] at q; exact ⟨q.1.1, q.1.2, q.2⟩)
theorem put1_len (la lb : List S37) (fr out : List Int) (k : Int) : (put1 la lb fr out k).length = out.length := by
  unfold put1; split <;> simp
theorem putK_len (la lb : List S37) (fr ks out : List Int) : ∀ i, (putK la lb fr ks out i).length = out.length
  | 0 => rfl
  | i + 1 => by rw [putK, put1_len, putK_len la lb fr ks out i]
theorem markH_len (out : List Int) (h : Nat) : (markH out h).length = out.length := by
  unfold markH; split <;> simp
theorem stepH_len (ta tb : List (List Int)) (la lb : List S37) (out : List Int) (h : Nat) : (stepH ta tb la lb out h).length = out.length := by
  unfold stepH; split; (exact markH_len out h); (rw [putK_len, markH_len])
theorem goH_len (ta tb : List (List Int)) (la lb : List S37) (n : Nat) : ∀ h, (goH ta tb la lb n h).length = n
  | 0 => by simp [goH]
  | h + 1 => by rw [goH, stepH_len, goH_len ta tb la lb n h]
/-- Each number is a handle of a's, or 0, or -1. -/
def Lt (m : Int) (out : List Int) : Prop := ∀ v ∈ out, -1 ≤ v ∧ v < m
theorem Lt.set {m : Int} {out : List Int} (h : Lt m out) (i : Nat) (v : Int) (h0 : -1 ≤ v) (h1 : v < m) : Lt m (out.set i v) := fun u hu => by
  rcases List.mem_or_eq_of_mem_set hu with e | e
  · exact h u e
  · subst e; exact ⟨h0, h1⟩
theorem Lt.at_ {m : Int} {out : List Int} (h : Lt m out) (i : Int) (h0 : 0 ≤ i) (h1 : i < out.length) : -1 ≤ rd out i ∧ rd out i < m := h _ (getD_mem' out 0 i h0 h1)
theorem fndL_mem {la : List S37} {ks : List Int} {x : S37} {n : Int} (h : fndL la ks x = some n) : n ∈ ks := List.mem_of_find?_eq_some h
theorem mem_rd {ks : List Int} {n : Int} (h : n ∈ ks) : ∃ i : Int, 0 ≤ i ∧ i < ks.length ∧ rd ks i = n := by
  obtain ⟨j, hj, e⟩ := List.mem_iff_getElem.1 h; refine ⟨j, by omega, by omega, ?_⟩; unfold rd; rw [Int.toNat_natCast, List.getD_eq_getElem?_getD, List.getElem?_eq_getElem hj]; exact e
theorem putK_lt {la lb : List S37} {fr ks out : List Int} {m : Int} (h : Lt m out) (hf : ∀ i : Int, 0 ≤ i → i < fr.length → 1 ≤ rd fr i ∧ rd fr i < m) : ∀ i, Lt m (putK la lb fr ks out i)
  | 0 => h
  | i + 1 => by
    have ih := putK_lt (la := la) (lb := lb) (ks := ks) h hf i
    unfold putK put1
    split
    · rename_i n hn
      obtain ⟨j, j0, j1, e⟩ := mem_rd (fndL_mem hn)
      have := hf j j0 j1
      exact ih.set _ _ (by omega) (by omega)
    · exact ih
theorem markH_lt {out : List Int} {m : Int} (h : Lt m out) (hm : 0 < m) (i : Nat) : Lt m (markH out i) := by
  unfold markH; split; (exact h.set _ _ (by omega) (by omega)); (exact h)
theorem stepH_lt {ta tb : List (List Int)} {la lb : List S37} {n : Nat} (ok : OkH ta tb la lb n) {out : List Int} (h : Lt ta.length out) (hl : out.length = n) (i : Nat) (hi : i < n) : Lt ta.length (stepH ta tb la lb out i) := by
  have hm := markH_lt h (by have := ok.fp; omega) i; have hp := ok.fp; unfold stepH; split; (exact hm)
  · rename_i hc
    have := hm.at_ i (by omega) (by rw [markH_len, hl]; omega)
    refine putK_lt hm (fun q q0 q1 => ?_) _
    have := (ok.kf _ (by omega) (by omega)).2 q q0 q1
    exact ⟨this.1, this.2.2⟩
theorem goH_lt {ta tb : List (List Int)} {la lb : List S37} {n : Nat} (ok : OkH ta tb la lb n) : ∀ h, h ≤ n → Lt ta.length (goH ta tb la lb n h)
  | 0, _ => fun v hv => by
    have := ok.fp
    have := List.eq_of_mem_replicate hv
    omega
  | h + 1, hh => stepH_lt ok (goH_lt ok h (by omega)) (goH_len _ _ _ _ _ _) h (by omega)
/-- The index of the first so many of some handles. -/
noncomputable def idx (la : List S37) (ks : List Int) (i : Nat) : S37 → Option Int := fun x => fndL la (ks.take i) x
theorem idx_step (la : List S37) (ks : List Int) (i : Nat) (hi : i < ks.length) : idx la ks (i + 1) = putD (idx la ks i) (rd_T37 la (rd ks i - 1)) (rd ks i) := by
  have e : ks.take (i + 1) = ks.take i ++ [rd ks i] := by
    rw [List.take_succ_eq_append_getElem hi]; unfold rd; rw [Int.toNat_natCast, List.getD_eq_getElem?_getD, List.getElem?_eq_getElem hi]; rfl
  funext x
  unfold putD idx fndL; rw [e, List.find?_append]
  by_cases hx : eqL (rd_T37 la (rd ks i - 1)) x = true
  · have hx2 := (eqL_iff _ _).1 hx
    subst hx2
    cases hf : (ks.take i).find? (fun k => eqL (rd_T37 la (k - 1)) (rd_T37 la (rd ks i - 1))) with
    | none => simp [hx, upd_same]
    | some n => simp [hf]
  · have hx2 : x ≠ rd_T37 la (rd ks i - 1) := fun q => hx ((eqL_iff _ _).2 q.symm)
    have hs : [rd ks i].find? (fun k => eqL (rd_T37 la (k - 1)) x) = none := by simp [hx]
    rw [hs, Option.or_none]
    split
    · rw [upd_other _ _ hx2]
    · rfl
/-- flat.Lists tells nil where it tells nothing. -/
theorem lists_l0_len : ∀ (k : Nat) (x3 : List (List Int)) (x13 : List S32) (x14 x15 : Int) (r : List (List Int)), flat_Lists.l0 k x3 x13 x14 x15 = some r → r.length = x3.length
  | 0, _, _, _, _, _, h => by simp [flat_Lists.l0] at h
  | k + 1, x3, x13, x14, x15, r, h => by
    unfold flat_Lists.l0 at h
    split at h
    · split at h
      · split at h
        · split at h
          · split at h
            · split at h
              · have := lists_l0_len k _ _ _ _ _ h
                rw [this]; simp
              · cases h
            · cases h
          · cases h
        · cases h
      · cases h
    · cases h; rfl
set_option maxHeartbeats 4000000 in
set_option maxRecDepth 100000 in
theorem Lists_nil (k : Nat) (A0 : Option Addr) (c0 : Nat) (l0 : List S32) (w : World) (hr0 : Kd.C k32 w A0 l0.length l0) (hc0 : l0.length ≤ c0) (h : flat_Lists.f k l0 = some []) :
    Calls Try.prog 21 #[.slice A0 l0.length c0] w fun e w' => e = .returned (.slice none 0 0) ∧ Below w.heap.size w w' := by
  obtain ⟨t, h1, h2⟩ := Option.bind_eq_some_iff.1 h
  have ht : ¬ t = 0 := by
    intro e; have hC := Kd.C_max hr0; rw [if_pos e] at h2; split at h2
    · rename_i hw0
      split at h2
      · have := lists_l0_len _ _ _ _ _ _ h2
        simp only [List.length_nil, List.length_replicate] at this
        unfold wrap64 at this hw0
        omega
      · cases h2
    · cases h2
  have hb : (t == 0) = false := by simp [ht]
  have hb2 : (t != 0) = true := by simp [ht]
  have HR := Aside0.mk (flat_Check.calls k A0 c0 l0 t w hr0 hc0 h1); clear hr0 hc0 h h1 h2 ht
  go_enter Try.func21, Try.ntmps21
  go_wp2_with (go_at_call 29; refine HR.out.mono ?_; rintro e w1 ⟨rfl, hb⟩; have B1 := Aside0.mk hb; clear hb)
  refine bodyPost_ret (results_tmp rfl _ _ _) rfl ?_; exact ⟨rfl, B1.out⟩
theorem Lists_any (k : Nat) (A0 : Option Addr) (c0 : Nat) (l0 : List S32) (r : List (List Int)) (w : World) (hr0 : Kd.C k32 w A0 l0.length l0) (hc0 : l0.length ≤ c0) (h : flat_Lists.f k l0 = some r) :
    Calls Try.prog 21 #[.slice A0 l0.length c0] w fun e w' => ∃ A c, e = .returned (.slice A r.length c) ∧ r.length ≤ c ∧ Kd.C (Kd.slice 3 (Kd.int .i64)) w' A r.length r ∧ Below w.heap.size w w' ∧ (r.length = 0 ∧ A = none ∧ c = 0 ∨ 0 < r.length ∧ ∃ ad, A = some ad) := by
  by_cases hr : r = []
  · subst hr
    refine (Lists_nil k A0 c0 l0 w hr0 hc0 h).mono ?_; rintro e w' ⟨he, hb⟩; exact ⟨none, 0, he, Nat.le_refl _, Kd.C_nil _ _, hb, .inl ⟨rfl, rfl, rfl⟩⟩
  · refine (flat_Lists.calls k A0 c0 l0 r w hr0 hc0 h).mono ?_
    rintro e w' ⟨v0, he, hS, hb⟩
    obtain ⟨A, c, rfl, hl, hC⟩ := Kd.R_reads (Kd.S_R hS)
    have hp : 0 < r.length := by
      cases r with
      | nil => exact absurd rfl hr
      | cons x xs => simp
    obtain ⟨ad, _, _, e1, _⟩ := at_L7 hC 0 (by omega) (by omega)
    exact ⟨A, c, he, hl, hC, hb, .inr ⟨hp, ad, e1⟩⟩
/-- A row of numbers in a block. -/
def IB (W : World) (g n c : Nat) (xs : List Int) : Prop := Kd.R (Kd.int .i64) 3 W g (fun k => k = g) (.slice (some ⟨g, 0, none⟩) n c) xs
theorem IB.len {W : World} {g n c : Nat} {xs : List Int} (h : IB W g n c xs) : n = xs.length := (Kd.R_reads' h).1
theorem IB.cell {W : World} {g n c : Nat} {xs : List Int} (h : IB W g n c xs) (i : Int) (h0 : 0 ≤ i) (hi : i < n) : W.cell? ⟨g, i.toNat, none⟩ = some (.int .i64 (rd xs i)) ∧ W.frozen? ⟨g, i.toNat, none⟩ = false := Kd.R_celln 0 h i h0 hi
theorem IB.set {W : World} {g n c : Nat} {xs : List Int} (h : IB W g n c xs) (i : Int) (v : Int) : IB (W.setCell ⟨g, i.toNat, none⟩ (.int .i64 v)) g n c (xs.set i.toNat v) := Kd.R_putn h i v
theorem IB.move {W W1 : World} {g n c : Nat} {xs : List Int} (h : IB W g n c xs) (hm : W1.heap[g]? = W.heap[g]?) : IB W1 g n c xs := Kd.R_move h (fun k hk => by subst hk; exact hm)
theorem IB.lt {W : World} {g n c : Nat} {xs : List Int} (h : IB W g n c xs) : g < W.heap.size := Kd.R_lt h g (by simp [Value.ownBlock])
theorem IB.of {W : World} {base g n c : Nat} {ok : Nat → Prop} {xs : List Int} (h : Kd.R (Kd.int .i64) 3 W base ok (.slice (some ⟨g, 0, none⟩) n c) xs) : IB W g n c xs := by
  have h1 := Kd.R_tight (d := Kd.int .i64) rfl h; have h2 : Kd.R (Kd.int .i64) 3 W g (fun k => some k = (Value.slice (some ⟨g, 0, none⟩) n c).ownBlock) (.slice (some ⟨g, 0, none⟩) n c) xs := Kd.R_raise (b := base) (b' := g) (fun _ _ _ _ h => h) h1 (fun k hk => Nat.le_of_eq (by simpa [Value.ownBlock] using hk)); exact Kd.R_mono h2 (fun k hk => by simpa [Value.ownBlock] using hk)
/-- What a round of match.pairs leaves. -/
structure PI (w w5 W : World) (g n c : Nat) (xs : List Int) : Prop where
  b : Below w.heap.size w W
  b5 : Below w5.heap.size w5 W
  le : w.heap.size ≤ w5.heap.size
  ge : w5.heap.size ≤ g
  o : IB W g n c xs
theorem PI.set {w w5 W : World} {g n c : Nat} {xs : List Int} (h : PI w w5 W g n c xs) (i v : Int) : PI w w5 (W.setCell ⟨g, i.toNat, none⟩ (.int .i64 v)) g n c (xs.set i.toNat v) :=
  ⟨h.b.setCell (p := ⟨g, i.toNat, none⟩) (Nat.le_trans h.le h.ge) _, h.b5.setCell (p := ⟨g, i.toNat, none⟩) h.ge _, h.le, h.ge, h.o.set i v⟩
theorem PI.below {w w5 W W1 : World} {g n c b : Nat} {xs : List Int} (h : PI w w5 W g n c xs) (hb : Below b W W1) (hgb : g < b) : PI w w5 W1 g n c xs :=
  ⟨h.b.trans (hb.mono (by have := h.le; have := h.ge; omega)), h.b5.trans (hb.mono (by have := h.ge; omega)), h.le, h.ge, h.o.move (hb.block g hgb)⟩
/-- Lists, where it tells something. -/
theorem Lists_pos (k : Nat) (A0 : Option Addr) (c0 : Nat) (l0 : List S32) (r : List (List Int)) (w : World) (hr0 : Kd.C k32 w A0 l0.length l0) (hc0 : l0.length ≤ c0) (h : flat_Lists.f k l0 = some r) (hp : r.length ≠ 0) :
    Calls Try.prog 21 #[.slice A0 l0.length c0] w fun e w' => ∃ ad c, e = .returned (.slice (some ad) r.length c) ∧ r.length ≤ c ∧ Kd.C (Kd.slice 3 (Kd.int .i64)) w' (some ad) r.length r ∧ Below w.heap.size w w' := by
  refine (Lists_any k A0 c0 l0 r w hr0 hc0 h).mono ?_; rintro e w' ⟨A, c, he, hl, hC, hb, ⟨h0, _⟩ | ⟨_, ad, rfl⟩⟩; (exact absurd h0 hp); (exact ⟨ad, c, he, hl, hC, hb⟩)
theorem IX.set {W : World} {base p n : Nat} {D : S37 → Option Int} (h : IX W base p n D) {a : Addr} (ha : a.block < base) (v : Value) : IX (W.setCell a v) base p n D := by
  obtain ⟨g, S, u, ht⟩ := h; exact ⟨g, S, u, ⟨zG ht.tw.bp (by have := ht.tw.hp; omega) v, zG ht.tw.bg (by have := ht.tw.hg; omega) v, ht.tw.hp, ht.tw.hg⟩, ht.ok, ht.le⟩
def PairsPost (w : World) (r : List Int) (e : Ending) (w' : World) : Prop :=
  ∃ v, e = .returned v ∧ Kd.R (Kd.int .i64) 3 w' w.heap.size (fun _ => True) v r ∧ Below w.heap.size w w' ∧ (r.length = 0 ∧ v = .slice none 0 0 ∨ 0 < r.length ∧ ∃ g c, v = .slice (some ⟨g, 0, none⟩) r.length c)
theorem PI.post {w w5 W : World} {g n c : Nat} {xs : List Int} (h : PI w w5 W g n c xs) (hn : 0 < n) (hl : xs.length = n) : PairsPost w xs (.returned (.slice (some ⟨g, 0, none⟩) n c)) W := by
  subst hl; have h1 : Kd.R (Kd.int .i64) 3 W w.heap.size (fun k => k = g) (.slice (some ⟨g, 0, none⟩) xs.length c) xs := Kd.R_lower h.o (Nat.le_trans h.le h.ge); exact ⟨_, rfl, Kd.R_mono h1 (fun _ _ => trivial), h.b, .inr ⟨hn, g, c, rfl⟩⟩
set_option maxHeartbeats 4000000 in
set_option maxRecDepth 100000 in
theorem pairs_any (k : Nat) (A0 : Option Addr) (c0 : Nat) (l0 : List S32) (A1 : Option Addr) (c1 : Nat) (l1 : List S32) (r : List Int) (w : World) (hr0 : Kd.C k32 w A0 l0.length l0) (hc0 : l0.length ≤ c0) (hr1 : Kd.C k32 w A1 l1.length l1) (hc1 : l1.length ≤ c1) (h : match_pairs.f k l0 l1 = some r) :
    Calls Try.prog 19 #[.slice A0 l0.length c0, .slice A1 l1.length c1] w (PairsPost w r) := by
  obtain ⟨fr, e1, h⟩ := Option.bind_eq_some_iff.1 h; obtain ⟨tb, e2, h⟩ := Option.bind_eq_some_iff.1 h; have HR0 := Aside0.mk hr0; have HR1 := Aside0.mk hr1; have HC0 := Aside0.mk hc0; have HC1 := Aside0.mk hc1; have E1 := Aside0.mk e1; have E2 := Aside0.mk e2
  have hq0 : ∀ W, (binOp .eql 42 (.slice none 0 0) (.slice none 0 0)).run Try.prog W = .ok (.bool true) W := fun _ => rfl
  have hq1 : ∀ W ad n c, (binOp .eql 42 (.slice (some ad) n c) (.slice none 0 0)).run Try.prog W = .ok (.bool false) W := fun _ _ _ _ => rfl
  clear hr0 hr1 hc0 hc1 e1 e2
  by_cases hf : fr.length = 0
  · rw [if_pos (.inl hf)] at h
    obtain rfl := Option.some.inj h
    obtain rfl : fr = [] := List.length_eq_zero_iff.1 hf
    clear h hf
    have LA := Aside0.mk (Lists_nil k A0 c0 l0 w HR0.out HC0.out E1.out)
    have LB := Aside0.mk (fun (w1 : World) (hb : Below w.heap.size w w1) => Lists_any k A1 c1 l1 tb w1 (Kd.C_below HR1.out hb) HC1.out E2.out)
    go_enter Try.func19, Try.ntmps19
    go_wp2_with (first | (go_at_call 21; (with_reducible refine (LA.out).mono ?_); rintro e w1 ⟨rfl, hb⟩; have B1 := Aside0.mk hb; clear hb LA) | (go_at_call 21; refine (LB.out _ B1.out).mono ?_; rintro e w2 ⟨A2, c2, rfl, hl2, hC2, hb, hA2⟩; have B2 := Aside0.mk (B1.out.trans (hb.mono B1.out.size)); clear hb LB hl2 hC2 hA2))
    refine bodyPost_ret (results_tmp rfl _ _ _) rfl ?_
    exact ⟨_, rfl, Kd.R_nil _ _ _ _ _, B2.out, .inl ⟨rfl, rfl⟩⟩
  have LA := Aside0.mk (Lists_pos k A0 c0 l0 fr w HR0.out HC0.out E1.out hf)
  by_cases ht : tb.length = 0
  · rw [if_pos (.inr ht)] at h
    obtain rfl := Option.some.inj h
    obtain rfl : tb = [] := List.length_eq_zero_iff.1 ht
    clear h hf ht
    have LB := Aside0.mk (fun (w1 : World) (hb : Below w.heap.size w w1) => Lists_nil k A1 c1 l1 w1 (Kd.C_below HR1.out hb) HC1.out E2.out)
    go_enter Try.func19, Try.ntmps19
    go_wp2_with (first | (go_at_call 21; (with_reducible refine (LA.out).mono ?_); rintro e w1 ⟨ad1, c1', rfl, hl1, hC1, hb⟩; have B1 := Aside0.mk hb; clear hb LA hl1 hC1) | (go_at_call 21; refine (LB.out _ B1.out).mono ?_; rintro e w2 ⟨rfl, hb⟩; have B2 := Aside0.mk (B1.out.trans (hb.mono B1.out.size)); clear hb LB))
    refine bodyPost_ret (results_tmp rfl _ _ _) rfl ?_
    exact ⟨_, rfl, Kd.R_nil _ _ _ _ _, B2.out, .inl ⟨rfl, rfl⟩⟩
  rw [if_neg (fun q => q.elim hf ht)] at h; obtain ⟨la, e3, h⟩ := Option.bind_eq_some_iff.1 h; obtain ⟨lb, e4, h⟩ := Option.bind_eq_some_iff.1 h; split at h
  case isFalse => cases h
  rename_i hok
  obtain rfl := Option.some.inj h; have OK_ := Aside0.mk (OkH.of hok); have E3 := Aside0.mk e3; have E4 := Aside0.mk e4; have LB := Aside0.mk (fun (w1 : World) (hb : Below w.heap.size w w1) => Lists_pos k A1 c1 l1 tb w1 (Kd.C_below HR1.out hb) HC1.out E2.out ht); have LM := Aside0.mk (fun (w1 : World) (hb : Below w.heap.size w w1) (ad : Addr) (c : Nat) (hl : fr.length ≤ c) (hC : Kd.C (Kd.slice 3 (Kd.int .i64)) w1 (some ad) fr.length fr) => match_labels.calls k A0 c0 l0 (some ad) c fr la w1 (Kd.C_below HR0.out hb) HC0.out hC hl E3.out); have LN := Aside0.mk (fun (w1 : World) (hb : Below w.heap.size w w1) (ad : Addr) (c : Nat) (hl : tb.length ≤ c) (hC : Kd.C (Kd.slice 3 (Kd.int .i64)) w1 (some ad) tb.length tb) => match_labels.calls k A1 c1 l1 (some ad) c tb lb w1 (Kd.C_below HR1.out hb) HC1.out hC hl E4.out); clear h hf ht hok e3 e4
  go_enter Try.func19, Try.ntmps19
  go_upto_region 5 with (first
    | (go_at_call 21; (with_reducible refine (LA.out).mono ?_); rintro e w1 ⟨fa, fc, rfl, hl1, hC1, hb⟩; have B1 := Aside0.mk hb; have CF1 := Aside0.mk (And.intro hl1 hC1); clear hb LA hl1 hC1)
    | (go_at_call 21; refine (LB.out _ B1.out).mono ?_; rintro e w2 ⟨ta, tc, rfl, hl2, hC2, hb⟩; have B2 := Aside0.mk (B1.out.trans (hb.mono B1.out.size)); have CF2 := Aside0.mk (And.intro CF1.out.1 (Kd.C_below CF1.out.2 hb)); have CT2 := Aside0.mk (And.intro hl2 hC2); clear hb LB hl2 hC2 CF1)
    | (go_at_call 22; refine (LM.out _ B2.out _ _ CF2.out.1 CF2.out.2).mono ?_; rintro e w3 ⟨v3, rfl, hR3, hb⟩; have B3 := Aside0.mk (B2.out.trans (hb.mono B2.out.size)); have CF3 := Aside0.mk (And.intro CF2.out.1 (Kd.C_below CF2.out.2 hb)); have CT3 := Aside0.mk (And.intro CT2.out.1 (Kd.C_below CT2.out.2 hb)); have R3 := Aside0.mk hR3; clear hb LM hR3 CF2 CT2)
    | (go_at_call 22; refine (LN.out _ B3.out _ _ CT3.out.1 CT3.out.2).mono ?_; rintro e w4 ⟨v4, rfl, hR4, hb⟩; have B4 := Aside0.mk (B3.out.trans (hb.mono B3.out.size)); have CF4 := Aside0.mk (And.intro CF3.out.1 (Kd.C_below CF3.out.2 hb)); have CT4 := Aside0.mk (And.intro CT3.out.1 (Kd.C_below CT3.out.2 hb)); have R4 := Aside0.mk hR4; have R34 := Aside0.mk (Kd.R_below R3.out hb); clear hb LN hR4 CF3 CT3 R3))
  obtain ⟨n, hn⟩ : ∃ n, l1.length + 1 = n := ⟨_, rfl⟩; rw [hn] at OK_ ⊢
  have hnw : wrap64 ((l1.length : Int) + 1) = (n : Int) := by have := OK_.out.nl; unfold wrap64; omega
  have HN := Aside0.mk (And.intro hn hnw); clear hn hnw; obtain ⟨A3, c3, rfl⟩ := Kd.R_slice R34.out; obtain ⟨A4, c4, rfl⟩ := Kd.R_slice R4.out; have CL := Aside0.mk (Kd.R_reads' R34.out).2.2; have CM := Aside0.mk (Kd.R_reads' R4.out).2.2; clear R34 R4; obtain ⟨nf, hnf⟩ : ∃ nf, fr.length = nf := ⟨_, rfl⟩; obtain ⟨nl, hnl⟩ : ∃ nl, la.length = nl := ⟨_, rfl⟩; obtain ⟨nm, hnm⟩ : ∃ nm, lb.length = nm := ⟨_, rfl⟩; have HLN := Aside0.mk (And.intro hnf (And.intro hnl (And.intro hnm OK_.out.tn))); rw [OK_.out.tn] at CT4 ⊢; rw [hnf] at CF4 ⊢; rw [hnl] at CL ⊢; rw [hnm] at CM ⊢; clear hnf hnl hnm
  go_upto_block 0 with ((with_reducible refine zgd (N := 37) rfl ?_); refine Kd.R_make (Kd.int .i64) (w0 := w4) w4.heap.size 3 rfl (N := 37) rfl 25 _ _ rfl (wrap64 ((l1.length : Int) + 1)) rfl rfl Try.underlying25 (.int .i64 0) 8 info3 rfl (by decide) (by omega) 0 (ok := fun _ => True) (okp := fun _ => True) rfl (fun _ hk => hk) trivial (by rw [HN.out.2]; omega) (by rw [HN.out.2]; have := OK_.out.nl; omega) (Below.refl _ _) (Nat.le_refl _) ?_; intro v5 w5 hR5 hB5 hg5 _; rw [HN.out.2, Int.toNat_natCast] at hR5; obtain ⟨g9, c9, e9, hge9, _⟩ := Kd.R_form hR5 (by have := HN.out.1; simp; omega); rw [List.length_replicate] at e9; subst e9; have P5 := Aside0.mk (show PI w w4 w5 g9 n c9 (List.replicate n 0) from ⟨B4.out.trans (hB5.mono B4.out.size), hB5, B4.out.size, hge9, IB.of hR5⟩); clear hR5 hB5 hg5 hge9)
  go_wp2_with fail
  go_loopg [40] n (fun kq v40 W => ∃ h : Nat, v40 = .int .i64 (h : Int) ∧ Aside0 (h + kq = n) ∧ Aside0 (PI w w4 W g9 n c9 (goH fr tb la lb n h)))
  case atStart => exact ⟨0, rfl, ⟨by omega⟩, P5⟩
  case round =>
  clear P5; obtain ⟨h, rfl, HI, HP⟩ := hrel
  cases gk with
  | zero =>
    have hltN : decide (h < n) = false := decide_eq_false (by have := HI.out; omega)
    go_wp2_with fail
    refine bodyPost_ret (results_tmp rfl _ _ _) rfl ?_
    have e : h = n := by have := HI.out; omega
    have hp := HP.out; rw [e] at hp
    have hq : PairsPost w (goH fr tb la lb (l1.length + 1) (l1.length + 1)) (.returned (.slice (some ⟨g9, 0, none⟩) n c9)) wr := by
      rw [HN.out.1]; exact hp.post (by have := HN.out.1; omega) (goH_len _ _ _ _ _ _)
    exact hq
  | succ k1 =>
  have HH := Aside0.mk (show h < n by have := HI.out; omega); obtain ⟨xs, hxs⟩ : ∃ xs, goH fr tb la lb n h = xs := ⟨_, rfl⟩; have HXS := Aside0.mk (show goH fr tb la lb n h = xs ∧ xs.length = n ∧ Lt fr.length xs from ⟨hxs, by rw [← hxs]; exact goH_len fr tb la lb n h, by rw [← hxs]; exact goH_lt OK_.out h (Nat.le_of_lt HH.out)⟩); rw [hxs] at HP; clear hxs; have hil : h < n := HH.out; have hwi : Aside0 (wrap64 ((h : Int) + 1) = ((h + 1 : Nat) : Int)) := ⟨by have := OK_.out.nl; have := HH.out; unfold wrap64; omega⟩
  go_upto_region 9 with fail
  obtain ⟨hc9, hz9⟩ := HP.out.o.cell (h : Int) (by omega) (by have := HH.out; omega); rw [Int.toNat_natCast] at hc9 hz9; obtain ⟨x, hx⟩ : ∃ x, rd xs h = x := ⟨_, rfl⟩; rw [hx] at hc9; have HX := Aside0.mk hx; clear hx; obtain ⟨B1, hB1⟩ : ∃ B1 : Bool, (decide (0 < (h : Int)) && (x == 0)) = B1 := ⟨_, rfl⟩; have HB1 := Aside0.mk hB1; clear hB1
  go_cut [51] from 43 to 51 (fun v51 w' => v51 = .bool B1 ∧ w' = wr)
  case first =>
    by_cases h0 : 0 < (h : Int)
    · have h0b : decide (0 < (h : Int)) = true := decide_eq_true h0
      have h0c : decide (0 < h) = true := decide_eq_true (by omega)
      have HX1 := Aside0.mk (show (x == 0) = B1 by rw [← HB1.out, h0b, Bool.true_and])
      clear h0
      go_wp2_with fail
      go_meet
      case rel => exact ⟨by rw [HX1.out], rfl⟩
    · have h0b : decide (0 < (h : Int)) = false := decide_eq_false h0
      have h0c : decide (0 < h) = false := decide_eq_false (by omega)
      have HX1 := Aside0.mk (show false = B1 by rw [← HB1.out, h0b, Bool.false_and])
      clear h0
      go_wp2_with fail
      go_meet
      case rel => exact ⟨by rw [HX1.out], rfl⟩
  case rest =>
  obtain ⟨rfl, rfl⟩ := hcut
  go_upto_if 51 with fail
  go_cut [] from 52 to 54 (fun w' => Aside0 (PI w w4 w' g9 n c9 (markH xs h)))
  case first =>
    cases B1 with
    | true =>
      go_wp2_with fail
      go_meet
      case rel =>
        have e : markH xs h = xs.set h (-1) := by
          have hb := HB1.out; simp only [Bool.and_eq_true, decide_eq_true_eq, beq_iff_eq] at hb; unfold markH; rw [if_pos ⟨by omega, by rw [HX.out]; exact hb.2⟩]
        rw [e]; have := HP.out.set (h : Int) (-1); rw [Int.toNat_natCast] at this; exact ⟨this⟩
    | false =>
      go_wp2_with fail
      go_meet
      case rel =>
        have e : markH xs h = xs := by
          have hb := HB1.out; unfold markH; rw [if_neg (fun q => by rw [HX.out] at q; have : decide (0 < (h : Int)) = true := decide_eq_true (by omega); rw [this, q.2] at hb; simp at hb)]
        rw [e]; exact HP
  case rest =>
  clear hc9 hz9 HP HB1 HX; have HP := hcut; clear hcut; obtain ⟨ys, hys⟩ : ∃ ys, markH xs h = ys := ⟨_, rfl⟩; rw [hys] at HP; have HYS := Aside0.mk (show markH xs h = ys ∧ ys.length = n ∧ Lt fr.length ys from ⟨hys, by rw [← hys, markH_len]; exact HXS.out.2.1, by rw [← hys]; exact markH_lt HXS.out.2.2 (by have := OK_.out.fp; omega) h⟩); clear hys
  go_upto_region 11 with fail
  obtain ⟨hc9, hz9⟩ := HP.out.o.cell (h : Int) (by omega) (by have := HH.out; omega); rw [Int.toNat_natCast] at hc9 hz9; obtain ⟨z, hz⟩ : ∃ z, rd ys h = z := ⟨_, rfl⟩; rw [hz] at hc9; have HZ := Aside0.mk (show rd ys h = z ∧ -1 ≤ z ∧ z < fr.length from ⟨hz, hz ▸ HYS.out.2.2.at_ h (by omega) (by rw [HYS.out.2.1]; have := HH.out; omega)⟩); clear hz; obtain ⟨at0, Ah, ch, eat, hct, hlh, hCh⟩ := at_L7 CT4.out.2 (h : Int) (by omega) (by have := HLN.out.2.2.2; have := HH.out; omega); obtain rfl := Option.some.inj eat; clear eat; rw [Int.toNat_natCast] at hct; obtain ⟨tk, htk⟩ : ∃ tk, rd_L7 tb h = tk := ⟨_, rfl⟩; rw [htk] at hct hlh hCh; have HTK := Aside0.mk (show rd_L7 tb h = tk ∧ tk.length ≤ 1000000 ∧ ∀ i : Int, 0 ≤ i → i < tk.length → 1 ≤ rd tk i ∧ rd tk i ≤ lb.length ∧ rd tk i < n from ⟨htk, htk ▸ OK_.out.kt h (by omega) (by have := OK_.out.tn; have := HH.out; omega)⟩); obtain ⟨mh, hmh⟩ : ∃ mh, tk.length = mh := ⟨_, rfl⟩; rw [hmh] at hct hlh hCh; have HMH := Aside0.mk hmh; have CH := Aside0.mk hCh; have HCT := Aside0.mk hct; replace hct := (HP.out.b5.cell (World.block_lt_of_cell? _ _ hct)).trans hct; clear htk hmh hCh hlh
  by_cases hz0 : z < 0
  · have hz0b : decide (z < 0) = true := decide_eq_true hz0
    have HES := Aside0.mk (show goH fr tb la lb n (h + 1) = ys by
      rw [goH, HXS.out.1]; unfold stepH
      rw [HYS.out.1, HZ.out.1, if_pos (.inl hz0)])
    clear hz0
    go_wp2_with fail
    go_roundg k1
    case measure => omega
    case rel => exact ⟨h + 1, by rw [hwi.out], ⟨by have := HI.out; omega⟩, by rw [HES.out]; exact HP⟩
  have hz0b : decide (z < 0) = false := decide_eq_false hz0
  have hz0p : 0 ≤ z := by omega
  by_cases hm0 : mh = 0
  · have hm0b : ((mh : Int) == 0) = true := by simp [hm0]
    have hm0c : (mh == 0) = true := by simp [hm0]
    have HES := Aside0.mk (show goH fr tb la lb n (h + 1) = ys by
      rw [goH, HXS.out.1]; unfold stepH
      rw [HYS.out.1, HZ.out.1, if_pos (.inr (.inl (by rw [HTK.out.1, HMH.out]; exact hm0)))])
    clear hz0 hm0
    go_wp2_with fail
    go_roundg k1
    case measure => omega
    case rel => exact ⟨h + 1, by rw [hwi.out], ⟨by have := HI.out; omega⟩, by rw [HES.out]; exact HP⟩
  have hm0b : ((mh : Int) == 0) = false := by simp [hm0]
  have hm0c : (mh == 0) = false := by simp [hm0]
  obtain ⟨af0, Az, cz, eaf, hcf, hlz, hCz⟩ := at_L7 CF4.out.2 z (by omega) (by have := HLN.out.1; have := HZ.out.2.2; omega); obtain rfl := Option.some.inj eaf; clear eaf; obtain ⟨fk, hfk⟩ : ∃ fk, rd_L7 fr z = fk := ⟨_, rfl⟩; rw [hfk] at hcf hlz hCz; have HFK := Aside0.mk (show rd_L7 fr z = fk ∧ fk.length ≤ 1000000 ∧ ∀ i : Int, 0 ≤ i → i < fk.length → 1 ≤ rd fk i ∧ rd fk i ≤ la.length ∧ rd fk i < fr.length from ⟨hfk, hfk ▸ OK_.out.kf z (by omega) HZ.out.2.2⟩); obtain ⟨mz, hmz⟩ : ∃ mz, fk.length = mz := ⟨_, rfl⟩; rw [hmz] at hcf hlz hCz; have HMZ := Aside0.mk hmz; have CZ := Aside0.mk hCz; replace hcf := (HP.out.b5.cell (World.block_lt_of_cell? _ _ hcf)).trans hcf
  have hznf : z < nf := by have := HLN.out.1; have := HZ.out.2.2; omega
  clear hfk hmz hCz hlz hz0
  by_cases hf0 : mz = 0
  · have hf0b : ((mz : Int) == 0) = true := by simp [hf0]
    have hf0c : (mz == 0) = true := by simp [hf0]
    have HES := Aside0.mk (show goH fr tb la lb n (h + 1) = ys by
      rw [goH, HXS.out.1]; unfold stepH
      rw [HYS.out.1, HZ.out.1, if_pos (.inr (.inr (by rw [HFK.out.1, HMZ.out]; exact hf0)))])
    clear hm0 hf0
    go_wp2_with fail
    go_roundg k1
    case measure => omega
    case rel => exact ⟨h + 1, by rw [hwi.out], ⟨by have := HI.out; omega⟩, by rw [HES.out]; exact HP⟩
  have hf0b : ((mz : Int) == 0) = false := by simp [hf0]
  have hf0c : (mz == 0) = false := by simp [hf0]
  have HES := Aside0.mk (show goH fr tb la lb n (h + 1) = putK la lb fk tk ys mh by
    rw [goH, HXS.out.1]; unfold stepH
    rw [HYS.out.1, HZ.out.1, HTK.out.1, HFK.out.1, if_neg (by rintro (q | q | q); exact absurd q (by omega); exact hm0 (by rw [← HMH.out]; exact q); exact hf0 (by rw [← HMZ.out]; exact q)), HMH.out])
  clear hm0 hf0
  go_upto_block 2 with (go_at_call 23; refine (New _ _).mono ?_; rintro e w7 ⟨pI, rfl, hb, hix⟩; have P7 := Aside0.mk (HP.out.below hb HP.out.o.lt); obtain ⟨b7, hb7⟩ : ∃ b7, wc.heap.size = b7 := ⟨_, rfl⟩; have B7 := Aside0.mk (hb7 ▸ HP.out.o.lt : g9 < b7); have I7 := Aside0.mk (hb7 ▸ hix : IX w7 b7 pI 0 (fun _ => none)); clear hb7; have hc9 := (P7.out.o.cell (h : Int) (by omega) (by have := HH.out; omega)).1; rw [Int.toNat_natCast, HZ.out.1] at hc9; have hcf := (hb.cell (World.block_lt_of_cell? _ _ hcf)).trans hcf; clear hb hix)
  go_wp2_with fail
  go_loopg [96] mz (fun kq v96 W2 => ∃ i : Nat, v96 = .int .i64 (i : Int) ∧ Aside0 (i + kq = mz) ∧ Aside0 (PI w w4 W2 g9 n c9 ys) ∧ Aside0 (∃ m, m ≤ i ∧ IX W2 b7 pI m (idx la fk i)))
  case atStart => exact ⟨0, rfl, ⟨by omega⟩, P7, ⟨0, Nat.le_refl _, I7.out⟩⟩
  case round =>
  clear P7 I7 HP hc9 hz9 hct hcf; obtain ⟨i, rfl, HI1, HP1, HX1⟩ := hrel
  cases gk with
  | succ k2 =>
    have hi1 : i < mz := by have := HI1.out; omega
    have HI1b := Aside0.mk hi1; have hwj : Aside0 (wrap64 ((i : Int) + 1) = ((i + 1 : Nat) : Int)) := ⟨by have := HI1b.out; have := HMZ.out; have := HFK.out.2.1; unfold wrap64; omega⟩; obtain ⟨adz, eaz, hxz⟩ := Kd.at_int (Kd.C_below CZ.out HP1.out.b5) (i : Int) (by omega) (by omega); subst eaz; rw [Int.toNat_natCast] at hxz; obtain ⟨kk, hkk⟩ : ∃ kk, rd fk i = kk := ⟨_, rfl⟩; rw [hkk] at hxz; have HKK := Aside0.mk (show rd fk i = kk ∧ 1 ≤ kk ∧ kk ≤ la.length ∧ kk < fr.length from ⟨hkk, hkk ▸ HFK.out.2.2 i (by omega) (by have := HMZ.out; omega)⟩); obtain ⟨q, hq⟩ : ∃ q : Int, kk - 1 = q := ⟨_, rfl⟩; have HQ := Aside0.mk hq
    have hwq : wrap64 (kk - 1) = q := by have := HKK.out.2; have := OK_.out.fl; unfold wrap64; omega
    have hq0 : 0 ≤ q := by have := HKK.out.2.1; omega
    have hqn : q < nl := by have := HKK.out.2.2.1; have := HLN.out.2.1; omega
    obtain ⟨al, eal, y0, y1, y2⟩ := at_T37 (Kd.C_below CL.out HP1.out.b5) q hq0 (by omega); subst eal; obtain ⟨key, hkey⟩ : ∃ key, rd_T37 la q = key := ⟨_, rfl⟩; rw [hkey] at y0 y1 y2; have HKEY := Aside0.mk (show rd_T37 la (kk - 1) = key ∧ Fit key from ⟨by rw [hq]; exact hkey, by rw [← hkey, ← hq]; exact OK_.out.fa kk HKK.out.2.1 HKK.out.2.2.1⟩); clear hkk hq hkey; obtain ⟨m, hm, hix⟩ := HX1.out; have HPUT := Aside0.mk (Index_Put wr b7 pI m (idx la fk i) key kk HKEY.out.2 (by have := HI1b.out; have := HMZ.out; have := HFK.out.2.1; omega) (Nat.le_trans (by obtain ⟨g, S, u, ht⟩ := hix; exact ht.tw.hp) (Nat.le_of_lt (by obtain ⟨g, S, u, ht⟩ := hix; exact blk_lt ht.tw.bp))) hix); have HM := Aside0.mk hm; clear hm hix HX1
    go_wp2_with (go_at_call 24; refine HPUT.out.mono ?_; rintro e w8 ⟨rfl, hb, hi⟩; have P8 := Aside0.mk (HP1.out.below hb B7.out); have I8 := Aside0.mk hi; clear hb hi)
    go_roundg k2
    case measure => omega
    case rel =>
      refine ⟨i + 1, by rw [hwj.out], ⟨by have := HI1.out; omega⟩, P8, ⟨_, ?_, by rw [idx_step la fk i (by have := HI1b.out; have := HMZ.out; omega), HKK.out.1, HKEY.out.1]; exact I8.out⟩⟩; have := HM.out; split <;> omega
  | zero =>
  have hiN : ¬ i < mz := by have := HI1.out; omega
  have HX2 := Aside0.mk (show ∃ m, IX wr b7 pI m (idx la fk mz) from by
    obtain ⟨m, _, h⟩ := HX1.out; rw [show i = mz by have := HI1.out; omega] at h
    exact ⟨m, h⟩)
  clear HX1; have hct : wr.cell? (ta.add h) = some (.slice Ah mh ch) := (HP1.out.b5.cell (World.block_lt_of_cell? _ _ HCT.out)).trans HCT.out
  go_wp2_with fail
  go_loopg [114] mh (fun kq v114 W2 => ∃ j : Nat, v114 = .int .i64 (j : Int) ∧ Aside0 (j + kq = mh) ∧ Aside0 (PI w w4 W2 g9 n c9 (putK la lb fk tk ys j)) ∧ Aside0 (∃ m, IX W2 b7 pI m (idx la fk mz)))
  case atStart => exact ⟨0, rfl, ⟨by omega⟩, HP1, HX2⟩
  case round =>
  clear HP1 HX2 hct HI1 hiN; obtain ⟨j, rfl, HJ, HP2, HX3⟩ := hrel
  cases gk with
  | zero =>
    have hjN : ¬ j < mh := by have := HJ.out; omega
    go_wp2_with fail
    go_roundg k1
    case measure => omega
    case rel =>
      refine ⟨h + 1, by rw [hwi.out], ⟨by have := HI.out; omega⟩, ?_⟩; rw [HES.out]; have := HP2; rw [show j = mh by have := HJ.out; omega] at this; exact this
  | succ k3 =>
    have hj1 : j < mh := by have := HJ.out; omega
    have HJ1 := Aside0.mk hj1; have hwj : Aside0 (wrap64 ((j : Int) + 1) = ((j + 1 : Nat) : Int)) := ⟨by have := HJ1.out; have := HMH.out; have := HTK.out.2.1; unfold wrap64; omega⟩; obtain ⟨adz, eaz, hxz⟩ := Kd.at_int (Kd.C_below CH.out HP2.out.b5) (j : Int) (by omega) (by omega); subst eaz; rw [Int.toNat_natCast] at hxz; obtain ⟨kk, hkk⟩ : ∃ kk, rd tk j = kk := ⟨_, rfl⟩; rw [hkk] at hxz; have HKK := Aside0.mk (show rd tk j = kk ∧ 1 ≤ kk ∧ kk ≤ lb.length ∧ kk < n from ⟨hkk, hkk ▸ HTK.out.2.2 j (by omega) (by have := HMH.out; omega)⟩); obtain ⟨q, hq⟩ : ∃ q : Int, kk - 1 = q := ⟨_, rfl⟩; have HQ := Aside0.mk hq
    have hwq : wrap64 (kk - 1) = q := by have := HKK.out.2; have := OK_.out.nl; unfold wrap64; omega
    have hq0 : 0 ≤ q := by have := HKK.out.2.1; omega
    have hqn : q < nm := by have := HKK.out.2.2.1; have := HLN.out.2.2.1; omega
    have hkn : kk < n := HKK.out.2.2.2
    have hk0 : 0 ≤ kk := by have := HKK.out.2.1; omega
    obtain ⟨al, eal, y0, y1, y2⟩ := at_T37 (Kd.C_below CM.out HP2.out.b5) q hq0 (by omega); subst eal; obtain ⟨key, hkey⟩ : ∃ key, rd_T37 lb q = key := ⟨_, rfl⟩; rw [hkey] at y0 y1 y2; have HKEY := Aside0.mk (show rd_T37 lb (kk - 1) = key ∧ Fit key from ⟨by rw [hq]; exact hkey, by rw [← hkey, ← hq]; exact OK_.out.fb kk HKK.out.2.1 HKK.out.2.2.1⟩); clear hkk hq hkey; obtain ⟨m, hix⟩ := HX3.out; have HIX := Aside0.mk hix; have HGET := Aside0.mk (Index_Get wr b7 pI m (idx la fk mz) key HKEY.out.2 hix); obtain ⟨g, hg⟩ : ∃ g, idx la fk mz key = g := ⟨_, rfl⟩; rw [hg] at HGET
    have HG := Aside0.mk (show fndL la fk (rd_T37 lb (kk - 1)) = g by
      rw [HKEY.out.1, ← hg]; unfold idx
      rw [List.take_of_length_le (by have := HMZ.out; omega)])
    clear hix HX3 hg
    cases g with
    | none =>
      have HE := Aside0.mk (show putK la lb fk tk ys (j + 1) = putK la lb fk tk ys j by
        rw [putK, HKK.out.1]; unfold put1
        rw [HG.out])
      simp only [Option.getD_none, Option.isSome_none] at HGET
      go_wp2_with (go_at_call 25; refine HGET.out.mono ?_; rintro e w8 ⟨rfl, hb⟩; have P8 := Aside0.mk (HP2.out.below hb HP2.out.o.lt); have I8 := Aside0.mk (HIX.out.below hb); clear hb)
      go_roundg k3
      case measure => omega
      case rel => exact ⟨j + 1, by rw [hwj.out], ⟨by have := HJ.out; omega⟩, by rw [HE.out]; exact P8, ⟨m, I8.out⟩⟩
    | some gv =>
      have HE := Aside0.mk (show putK la lb fk tk ys (j + 1) = (putK la lb fk tk ys j).set kk.toNat gv by
        rw [putK, HKK.out.1]; unfold put1
        rw [HG.out])
      simp only [Option.getD_some, Option.isSome_some] at HGET
      go_wp2_with (go_at_call 25; refine HGET.out.mono ?_; rintro e w8 ⟨rfl, hb⟩; have P8 := Aside0.mk (HP2.out.below hb HP2.out.o.lt); have I8 := Aside0.mk (HIX.out.below hb); obtain ⟨hc8, hz8⟩ := P8.out.o.cell kk (by omega) (by omega); clear hb)
      go_roundg k3
      case measure => omega
      case rel => exact ⟨j + 1, by rw [hwj.out], ⟨by have := HJ.out; omega⟩, by rw [HE.out]; exact ⟨P8.out.set kk gv⟩, ⟨m, I8.out.set (a := ⟨g9, kk.toNat, none⟩) B7.out _⟩⟩
theorem match_pairs.calls (k : Nat) (A0 : Option Addr) (c0 : Nat) (l0 : List (S32)) (A1 : Option Addr) (c1 : Nat) (l1 : List (S32)) (r : List Int) (w : World) (hr0 : Kd.C k32 w A0 l0.length l0) (hc0 : l0.length ≤ c0) (hr1 : Kd.C k32 w A1 l1.length l1) (hc1 : l1.length ≤ c1) (h : match_pairs.f k l0 l1 = some r) :
    Calls Try.prog 19 #[.slice A0 l0.length c0, .slice A1 l1.length c1] w fun e w' => ∃ v0_ : Value, e = .returned (v0_) ∧ Kd.R (Kd.int .i64) 3 w' w.heap.size (fun _ => True) v0_ r ∧ Below w.heap.size w w' := by
  refine (pairs_any k A0 c0 l0 A1 c1 l1 r w hr0 hc0 hr1 hc1 h).mono ?_; rintro e w' ⟨v, h1, h2, h3, _⟩; exact ⟨v, h1, h2, h3⟩
end Go.Proofs.Ytelacebdmmanhaa.G
namespace Go.Proofs.Ytelacebdmmanhaa.G
open Go.RowKit Go.Proofs.YtelacebdmmanhaaW.PrintWords Go.Proofs.YtelacebdmmanhaaW.PrintLast Go.Proofs.YtelacebdmmanhaaW.PrintMore
set_option linter.unusedVariables false
set_option linter.unusedSimpArgs false
attribute [local go_sem] max2_int min2_int max_two min_two
/-- A handle, or 0. -/
def pos0 (v : Int) : Int := if v < 0 then 0 else v
def match_Pairs.f (k : Nat) (l0 l1 : List S32) : Option (List Int) := (match_pairs.f k l0 l1).bind fun p => if p.length = 0 then some [] else if p.length ≤ 1000000 ∧ l1.length ≤ 1000000 then some ((p.drop 1).map pos0) else none
theorem match_Pairs.mono : ∀ a0 a1 k, LeO (match_Pairs.f k a0 a1) (match_Pairs.f (k + 1) a0 a1) := by
  intro a0 a1 k; unfold match_Pairs.f; exact LeO.bind (match_pairs.mono _ _ _) (fun ks => LeO.refl _)
set_option maxHeartbeats 4000000 in
set_option maxRecDepth 100000 in
theorem match_Pairs.calls (k : Nat) (A0 : Option Addr) (c0 : Nat) (l0 : List (S32)) (A1 : Option Addr) (c1 : Nat) (l1 : List (S32)) (r : List Int) (w : World) (hr0 : Kd.C k32 w A0 l0.length l0) (hc0 : l0.length ≤ c0) (hr1 : Kd.C k32 w A1 l1.length l1) (hc1 : l1.length ≤ c1) (h : match_Pairs.f k l0 l1 = some r) :
    Calls Try.prog 8 #[.slice A0 l0.length c0, .slice A1 l1.length c1] w fun e w' => ∃ v0_ : Value, e = .returned (v0_) ∧ Kd.R (Kd.int .i64) 3 w' w.heap.size (fun _ => True) v0_ r ∧ Below w.heap.size w w' := by
  obtain ⟨p, e1, h⟩ := Option.bind_eq_some_iff.1 h; have HPP := Aside0.mk (pairs_any k A0 c0 l0 A1 c1 l1 p w hr0 hc0 hr1 hc1 e1)
  have hq0 : ∀ W, (binOp .eql 25 (.slice none 0 0) (.slice none 0 0)).run Try.prog W = .ok (.bool true) W := fun _ => rfl
  have hq1 : ∀ W ad n c, (binOp .eql 25 (.slice (some ad) n c) (.slice none 0 0)).run Try.prog W = .ok (.bool false) W := fun _ _ _ _ => rfl
  clear hr0 hc0 hr1 hc1 e1
  by_cases hp : p.length = 0
  · rw [if_pos hp] at h
    obtain rfl := Option.some.inj h
    have HZ := Aside0.mk hp
    clear h hp
    go_enter Try.func8, Try.ntmps8
    go_wp2_with (go_at_call 19; (with_reducible refine (HPP.out).mono ?_); rintro e w1 ⟨v, rfl, hR, hb, hor⟩; obtain rfl : v = .slice none 0 0 := (by rcases hor with ⟨_, e⟩ | ⟨e, _⟩; exact e; have := HZ.out; omega); have B1 := Aside0.mk hb; clear hb HPP hR hor)
    refine bodyPost_ret (results_tmp rfl _ _ _) rfl ?_
    exact ⟨_, rfl, Kd.R_nil _ _ _ _ _, B1.out⟩
  rw [if_neg hp] at h; split at h
  case isFalse => cases h
  rename_i hlen
  obtain rfl := Option.some.inj h; have HL := Aside0.mk (And.intro hlen (show 0 < p.length by omega)); clear h hp hlen
  go_enter Try.func8, Try.ntmps8
  go_upto_region 5 with (first
    | (go_at_call 19; (with_reducible refine (HPP.out).mono ?_); rintro e w1 ⟨v, rfl, hR, hb, hor⟩; obtain ⟨g, c, rfl⟩ : ∃ g c, v = .slice (some ⟨g, 0, none⟩) p.length c := (by rcases hor with ⟨e, _⟩ | ⟨_, e⟩; have := HL.out.2; omega; exact e); have B1 := Aside0.mk hb; have IP := Aside0.mk (IB.of hR); clear hb HPP hR hor)
    | ((with_reducible refine zgd (N := 16) rfl ?_); refine Kd.R_makec (Kd.int .i64) (w0 := w) w.heap.size 3 rfl (N := 16) rfl 25 _ _ rfl (l1.length : Int) rfl rfl Try.underlying25 (.int .i64 0) 8 info3 rfl (by decide) (by omega) 0 (ok := fun k => k ≠ g) (okp := fun _ => False) rfl (fun _ hk => hk.elim) (by have := IP.out.lt; omega) (by omega) (by have := HL.out.1.2; omega) B1.out B1.out.size ?_; intro v5 w5 hR5 hB5 hg5 _; have R5 := Aside0.mk hR5; have B5 := Aside0.mk hB5; have IP5 := Aside0.mk (IP.out.move (hg5.block g IP.out.lt (by simp))); clear hR5 hB5 hg5 IP))
  obtain ⟨n, hn⟩ : ∃ n, p.length = n := ⟨_, rfl⟩; have HN := Aside0.mk hn; rw [hn] at IP5 ⊢
  have hn1 : 1 ≤ n := by have := HL.out.2; omega
  have hnc : n ≤ c := (Kd.R_reads' IP5.out).2.1; clear hn
  by_cases hc : c = 1
  · obtain rfl : n = 1 := by omega
    subst hc
    go_wp2_with fail
    go_loopg [6, 20] 0 (fun kq v6 v20 W => v6 = v5 ∧ v20 = .int .i64 0 ∧ W = w5)
    case atStart => exact ⟨rfl, rfl, rfl⟩
    case round =>
    obtain ⟨rfl, rfl, rfl⟩ := hrel
    go_wp2_with fail
    refine bodyPost_ret (results_tmp rfl _ _ _) rfl ?_
    rw [show (p.drop 1).map pos0 = [] by rw [List.drop_of_length_le (by rw [HN.out]; exact Nat.le_refl _)]; rfl]
    exact ⟨_, rfl, Kd.R_mono R5.out (fun _ _ => trivial), B5.out⟩
  · obtain ⟨m, hm⟩ : ∃ m, n - 1 = m := ⟨_, rfl⟩
    have HM := Aside0.mk (show n = m + 1 by omega)
    have HC := Aside0.mk (And.intro hn1 hnc)
    go_wp2_with fail
    clear hm hn1 hnc
    go_loopg [6, 20] m (fun kq v6 v20 W => ∃ j : Nat, v20 = .int .i64 (j : Int) ∧ Aside0 (j + kq = m) ∧ Aside0 (Kd.R (Kd.int .i64) 3 W w.heap.size (fun k => k ≠ g) v6 (((p.drop 1).take j).map pos0)) ∧ Aside0 (IB W g n c p) ∧ Aside0 (Below w.heap.size w W))
    case atStart => exact ⟨0, rfl, ⟨by omega⟩, R5, IP5, B5⟩
    case round =>
    clear R5 IP5 B5
    obtain ⟨j, rfl, HJ, HR, HI, HB⟩ := hrel
    obtain ⟨A6, c6, rfl⟩ := Kd.R_slice HR.out
    obtain ⟨n6, hn6⟩ : ∃ n6, (((p.drop 1).take j).map pos0).length = n6 := ⟨_, rfl⟩
    rw [hn6] at HR ⊢
    have HN6 := Aside0.mk (show (((p.drop 1).take j).map pos0).length ≤ 1000000 by have := HL.out.1.1; simp; omega)
    clear hn6
    cases gk with
    | zero =>
      have hjN : ¬ j < m := by have := HJ.out; omega
      go_wp2_with fail
      refine bodyPost_ret (results_tmp rfl _ _ _) rfl ?_; have h := HR.out; rw [List.take_of_length_le (by rw [List.length_drop, HN.out]; have := HM.out; have := HJ.out; omega)] at h; exact ⟨_, rfl, Kd.R_mono h (fun _ _ => trivial), HB.out⟩
    | succ k1 =>
      have hjm : j < m := by have := HJ.out; omega
      have HJM := Aside0.mk hjm; have hwj : Aside0 (wrap64 ((j : Int) + 1) = ((j + 1 : Nat) : Int)) := ⟨by have := HJM.out; have := HL.out.1.1; have := HN.out; have := HM.out; unfold wrap64; omega⟩; obtain ⟨hcj, _⟩ := HI.out.cell (1 + j : Nat) (by omega) (by have := HM.out; omega); rw [Int.toNat_natCast] at hcj; obtain ⟨x, hx⟩ : ∃ x, rd p ((1 + j : Nat) : Int) = x := ⟨_, rfl⟩; rw [hx] at hcj
      have HTK := Aside0.mk (show ((p.drop 1).take (j + 1)).map pos0 = ((p.drop 1).take j).map pos0 ++ [pos0 x] by
        have hj2 : j < (p.drop 1).length := by rw [List.length_drop, HN.out]; have := HM.out; omega
        rw [List.take_succ_eq_append_getElem hj2, List.map_append, List.map_cons, List.map_nil]
        congr 3
        rw [← hx, List.getElem_drop]; unfold rd; rw [Int.toNat_natCast, List.getD_eq_getElem?_getD, List.getElem?_eq_getElem (by rw [List.length_drop] at hj2; omega)]
        rfl)
      clear hx; obtain ⟨y, hy⟩ : ∃ y, pos0 x = y := ⟨_, rfl⟩; rw [hy] at HTK; have hmx : (if x < 0 then (0 : Int) else x) = y := hy; clear hy
      go_upto_region 8 with fail
      go_wp2_with ((with_reducible refine zgn (b := .append) (xs := #[.tmp 24, .tmp 27]) rfl ?_); at_builtin; refine Kd.R_append (Kd.int .i64) (w0 := w) w.heap.size rfl (.tmp 24) (.tmp 27) 25 3 (.int .i64 0) 8 rfl Try.underlying25 info3 rfl (by decide) (by omega) (.slice A6 n6 c6) (((p.drop 1).take j).map pos0) y [.int .i64 y] (fun k => k ≠ g) (fun _ => False) rfl rfl rfl (fun _ h => h.elim) ?aF ?aO ?aB ?aS ?aL ?_; (case aO => exact (by (with_reducible repeat (first | apply Kd.R_alloc | apply Kd.R_drewN | apply Kd.R_drew)); exact HR.out)); (case aB => exact (by repeat (first | (with_reducible first | exact HB.out | apply zA) | exact HB.out))); (case aS => exact (zq (by repeat (first | (with_reducible first | exact HB.out | apply zA) | exact HB.out)))); (case aF => intro k hk; have := HI.out.lt; (try simp at hk); omega); (case aL => have := HN6.out; omega); intro v9 w9 ho hb hg hat; have R9 := Aside0.mk ho; have B9 := Aside0.mk hb; have G9 := Aside0.mk hg; clear ho hb hg hat)
      have I9 := Aside0.mk (HI.out.move ((G9.out.block g (by have := HI.out.lt; simp; omega) (fun e => Kd.R_away HR.out (fun k hk => hk) e)).trans (by simp [HI.out.lt])))
      go_roundg k1
      case measure => omega
      case rel => exact ⟨j + 1, by rw [hwj.out], ⟨by have := HJ.out; omega⟩, ⟨by rw [HTK.out]; exact R9.out⟩, I9, B9⟩
/-- A row of truths in a block. -/
def BB (W : World) (g n c : Nat) (xs : List Bool) : Prop := Kd.R Kd.bool 4 W g (fun k => k = g) (.slice (some ⟨g, 0, none⟩) n c) xs
theorem BB.cell {W : World} {g n c : Nat} {xs : List Bool} (h : BB W g n c xs) (i : Int) (h0 : 0 ≤ i) (hi : i < n) : W.cell? ⟨g, i.toNat, none⟩ = some (.bool (rdOf false xs i)) ∧ W.frozen? ⟨g, i.toNat, none⟩ = false := Kd.R_celln false h i h0 hi
theorem BB.set {W : World} {g n c : Nat} {xs : List Bool} (h : BB W g n c xs) (i : Int) (v : Bool) : BB (W.setCell ⟨g, i.toNat, none⟩ (.bool v)) g n c (xs.set i.toNat v) := Kd.R_putn h i v
theorem BB.move {W W1 : World} {g n c : Nat} {xs : List Bool} (h : BB W g n c xs) (hm : W1.heap[g]? = W.heap[g]?) : BB W1 g n c xs := Kd.R_move h (fun k hk => by subst hk; exact hm)
theorem BB.lt {W : World} {g n c : Nat} {xs : List Bool} (h : BB W g n c xs) : g < W.heap.size := Kd.R_lt h g (by simp [Value.ownBlock])
theorem BB.of {W : World} {base g n c : Nat} {ok : Nat → Prop} {xs : List Bool} (h : Kd.R Kd.bool 4 W base ok (.slice (some ⟨g, 0, none⟩) n c) xs) : BB W g n c xs := by
  have h1 := Kd.R_tight (d := Kd.bool) rfl h; have h2 : Kd.R Kd.bool 4 W g (fun k => some k = (Value.slice (some ⟨g, 0, none⟩) n c).ownBlock) (.slice (some ⟨g, 0, none⟩) n c) xs := Kd.R_raise (b := base) (b' := g) (fun _ _ _ _ h => h) h1 (fun k hk => Nat.le_of_eq (by simpa [Value.ownBlock] using hk)); exact Kd.R_mono h2 (fun k hk => by simpa [Value.ownBlock] using hk)
def setM (m : List Bool) (v : Int) : List Bool := if 0 ≤ v then m.set v.toNat true else m
def metN (n : Nat) (p : List Int) : Nat → List Bool
  | 0 => List.replicate n false
  | i + 1 => setM (metN n p i) (rd p i)
theorem metN_len (n : Nat) (p : List Int) : ∀ i, (metN n p i).length = n
  | 0 => by simp [metN]
  | i + 1 => by
    unfold metN setM
    split
    · rw [List.length_set, metN_len n p i]
    · exact metN_len n p i
def goneN (a : List S32) (m : List Bool) : Nat → List Int
  | 0 => []
  | i + 1 => if (!rdOf false m (i + 1 : Nat) && rdOf false m (rd_T32 a i).f1) = true then goneN a m i ++ [((i + 1 : Nat) : Int)] else goneN a m i
theorem goneN_len (a : List S32) (m : List Bool) : ∀ i, (goneN a m i).length ≤ i
  | 0 => Nat.le_refl _
  | i + 1 => by
    have := goneN_len a m i
    unfold goneN
    split
    · simp; omega
    · omega
def okG (a : List S32) (p : List Int) : Bool := decide (p.length ≤ 1000000) && decide (a.length ≤ 1000000) && (p.all fun v => decide (v ≤ a.length)) && (a.all fun x => decide (0 ≤ x.f1) && decide (x.f1 ≤ a.length))
structure OkG (a : List S32) (p : List Int) : Prop where
  pl : p.length ≤ 1000000
  al : a.length ≤ 1000000
  pv : ∀ i : Int, 0 ≤ i → i < p.length → rd p i ≤ a.length
  av : ∀ i : Int, 0 ≤ i → i < a.length → 0 ≤ (rd_T32 a i).f1 ∧ (rd_T32 a i).f1 ≤ a.length
theorem OkG.of {a : List S32} {p : List Int} (h : okG a p = true) : OkG a p := by
  unfold okG at h; simp only [Bool.and_eq_true, decide_eq_true_eq] at h; obtain ⟨⟨⟨h1, h2⟩, h3⟩, h4⟩ := h; refine ⟨h1, h2, fun i i0 i1 => ?_, fun i i0 i1 => ?_⟩; (have := List.all_eq_true.1 h3 _ (getD_mem' p 0 i i0 i1); exact of_decide_eq_true this); (have := List.all_eq_true.1 h4 _ (getD_mem' a z32 i i0 i1); simp only [Bool.and_eq_true, decide_eq_true_eq] at this; exact this)
def match_Gone.f (k : Nat) (l0 l1 : List S32) : Option (List Int) := (match_pairs.f k l0 l1).bind fun p => if p.length = 0 then some [] else if okG l0 p = true then some (goneN l0 (metN (l0.length + 1) p p.length) l0.length) else none
theorem match_Gone.mono : ∀ a0 a1 k, LeO (match_Gone.f k a0 a1) (match_Gone.f (k + 1) a0 a1) := by
  intro a0 a1 k; unfold match_Gone.f; exact LeO.bind (match_pairs.mono _ _ _) (fun ks => LeO.refl _)
theorem info4b : (Try.prog.info? 4).map (fun i => (i.zero, i.size, i.bytes)) = some (some (.bool false), 1, 1) := by kernel_rfl
set_option maxHeartbeats 4000000 in
set_option maxRecDepth 100000 in
theorem match_Gone.calls (k : Nat) (A0 : Option Addr) (c0 : Nat) (l0 : List (S32)) (A1 : Option Addr) (c1 : Nat) (l1 : List (S32)) (r : List Int) (w : World) (hr0 : Kd.C k32 w A0 l0.length l0) (hc0 : l0.length ≤ c0) (hr1 : Kd.C k32 w A1 l1.length l1) (hc1 : l1.length ≤ c1) (h : match_Gone.f k l0 l1 = some r) :
    Calls Try.prog 9 #[.slice A0 l0.length c0, .slice A1 l1.length c1] w fun e w' => ∃ v0_ : Value, e = .returned (v0_) ∧ Kd.R (Kd.int .i64) 3 w' w.heap.size (fun _ => True) v0_ r ∧ Below w.heap.size w w' := by
  obtain ⟨p, e1, h⟩ := Option.bind_eq_some_iff.1 h; have HPP := Aside0.mk (pairs_any k A0 c0 l0 A1 c1 l1 p w hr0 hc0 hr1 hc1 e1); have HR0 := Aside0.mk hr0
  have hq0 : ∀ W, (binOp .eql 25 (.slice none 0 0) (.slice none 0 0)).run Try.prog W = .ok (.bool true) W := fun _ => rfl
  have hq1 : ∀ W ad n c, (binOp .eql 25 (.slice (some ad) n c) (.slice none 0 0)).run Try.prog W = .ok (.bool false) W := fun _ _ _ _ => rfl
  clear hr0 hc0 hr1 hc1 e1
  by_cases hp : p.length = 0
  · rw [if_pos hp] at h
    obtain rfl := Option.some.inj h
    have HZ := Aside0.mk hp
    clear h hp
    go_enter Try.func9, Try.ntmps9
    go_wp2_with (go_at_call 19; (with_reducible refine (HPP.out).mono ?_); rintro e w1 ⟨v, rfl, hR, hb, hor⟩; obtain rfl : v = .slice none 0 0 := (by rcases hor with ⟨_, e⟩ | ⟨e, _⟩; exact e; have := HZ.out; omega); have B1 := Aside0.mk hb; clear hb HPP hR hor)
    refine bodyPost_ret (results_tmp rfl _ _ _) rfl ?_
    exact ⟨_, rfl, Kd.R_nil _ _ _ _ _, B1.out⟩
  rw [if_neg hp] at h; split at h
  case isFalse => cases h
  rename_i hok
  obtain rfl := Option.some.inj h; have OK_ := Aside0.mk (OkG.of hok); have HPL := Aside0.mk (show 0 < p.length by omega); obtain ⟨na, hna⟩ : ∃ na, l0.length = na := ⟨_, rfl⟩
  have hwn : wrap64 ((na : Int) + 1) = ((na + 1 : Nat) : Int) := by have := OK_.out.al; unfold wrap64; omega
  have HNA := Aside0.mk (And.intro hna hwn); have HR0' := Aside0.mk (show Kd.C k32 w A0 na l0 from hna ▸ HR0.out); rw [hna]; rw [hna] at HPP; clear h hp hok hna hwn HR0
  go_enter Try.func9, Try.ntmps9
  go_upto_region 5 with (first
    | (go_at_call 19; (with_reducible refine (HPP.out).mono ?_); rintro e w1 ⟨v, rfl, hR, hb, hor⟩; obtain ⟨g, c, rfl⟩ : ∃ g c, v = .slice (some ⟨g, 0, none⟩) p.length c := (by rcases hor with ⟨e, _⟩ | ⟨_, e⟩; have := HPL.out; omega; exact e); have B1 := Aside0.mk hb; have IP := Aside0.mk (IB.of hR); clear hb HPP hR hor)
    | ((with_reducible refine zgd (N := 20) rfl ?_); refine Kd.R_make Kd.bool (w0 := w) w.heap.size 4 rfl (N := 20) rfl 40 _ _ rfl (wrap64 ((na : Int) + 1)) rfl rfl Try.underlying40 (.bool false) 1 info4b rfl (by decide) (by omega) false (ok := fun _ => True) (okp := fun _ => False) rfl (fun _ hk => hk.elim) trivial (by rw [HNA.out.2]; omega) (by rw [HNA.out.2]; have := OK_.out.al; have := HNA.out.1; omega) B1.out B1.out.size ?_; intro v5 w5 hR5 hB5 hg5 hat5; rw [HNA.out.2, Int.toNat_natCast] at hR5; obtain ⟨g5, c5, e5, _⟩ := Kd.R_form hR5 (by simp); rw [List.length_replicate] at e5; subst e5; have HG5 := Aside0.mk (show w1.heap.size ≤ g5 from by obtain ⟨b, e, h⟩ := hat5; simp [Value.ownBlock] at e; omega); have M5 := Aside0.mk (BB.of hR5); have B5 := Aside0.mk hB5; have IP5 := Aside0.mk (IP.out.move (hg5.block g IP.out.lt (by simp))); have HGL := Aside0.mk IP.out.lt; clear hR5 hB5 hg5 IP hat5))
  obtain ⟨n, hn⟩ : ∃ n, p.length = n := ⟨_, rfl⟩; have HN := Aside0.mk hn; rw [hn] at IP5 ⊢; clear hn
  go_wp2_with fail
  go_loopg [23] n (fun kq v23 W => ∃ i : Nat, v23 = .int .i64 (i : Int) ∧ Aside0 (i + kq = n) ∧ Aside0 (BB W g5 (na + 1) c5 (metN (na + 1) p i)) ∧ Aside0 (IB W g n c p) ∧ Aside0 (Below w.heap.size w W))
  case atStart => exact ⟨0, rfl, ⟨by omega⟩, M5, IP5, B5⟩
  case round =>
  have HW5 := Aside0.mk B5.out.size; clear M5 IP5 B5; obtain ⟨i, rfl, HI, HM, HP, HB⟩ := hrel
  cases gk with
  | succ k1 =>
    have hin : i < n := by have := HI.out; omega
    have HIN := Aside0.mk hin; have hwi : Aside0 (wrap64 ((i : Int) + 1) = ((i + 1 : Nat) : Int)) := ⟨by have := HIN.out; have := HN.out; have := OK_.out.pl; unfold wrap64; omega⟩; obtain ⟨hcx, _⟩ := HP.out.cell (i : Int) (by omega) (by omega); rw [Int.toNat_natCast] at hcx; obtain ⟨x, hx⟩ : ∃ x, rd p (i : Int) = x := ⟨_, rfl⟩; rw [hx] at hcx; have HX := Aside0.mk (show rd p (i : Int) = x ∧ x ≤ na from ⟨hx, by rw [← hx, ← HNA.out.1]; exact OK_.out.pv i (by omega) (by rw [HN.out]; omega)⟩); clear hx
    by_cases hx0 : 0 ≤ x
    · have hxb : decide (0 ≤ x) = true := decide_eq_true hx0
      have hxn : x < ((na + 1 : Nat) : Int) := by have := HX.out.2; omega
      have hxn2 : x < (na : Int) + 1 := by have := HX.out.2; omega
      obtain ⟨hm, hz⟩ := HM.out.cell x hx0 hxn
      have HS := Aside0.mk (show metN (na + 1) p (i + 1) = (metN (na + 1) p i).set x.toNat true by
        rw [metN, HX.out.1]; unfold setM
        rw [if_pos hx0])
      have HNE := Aside0.mk (show g ≠ g5 from by have := HGL.out; have := HG5.out; omega)
      go_wp2_with fail
      go_roundg k1
      case measure => omega
      case rel => exact ⟨i + 1, by rw [hwi.out], ⟨by have := HI.out; omega⟩, by rw [HS.out]; exact ⟨HM.out.set x true⟩, ⟨HP.out.move (Below.heap_setCell _ ⟨g5, x.toNat, none⟩ _ g HNE.out)⟩, ⟨HB.out.setCell (p := ⟨g5, x.toNat, none⟩) (by have := HG5.out; have := B1.out.size; show w.heap.size ≤ g5; omega) _⟩⟩
    · have hxb : decide (0 ≤ x) = false := decide_eq_false hx0
      have HS := Aside0.mk (show metN (na + 1) p (i + 1) = metN (na + 1) p i by
        rw [metN, HX.out.1]; unfold setM
        rw [if_neg hx0])
      go_wp2_with fail
      go_roundg k1
      case measure => omega
      case rel => exact ⟨i + 1, by rw [hwi.out], ⟨by have := HI.out; omega⟩, by rw [HS.out]; exact HM, HP, HB⟩
  | zero =>
  have hiN : ¬ i < n := by have := HI.out; omega
  obtain ⟨M, hM⟩ : ∃ M, metN (na + 1) p n = M := ⟨_, rfl⟩; have HMM := Aside0.mk (show metN (na + 1) p n = M from hM)
  have HM2 := Aside0.mk (show BB wr g5 (na + 1) c5 M by
    have h := HM.out; rw [show i = n by have := HI.out; omega, hM] at h
    exact h)
  clear HM HP hM
  go_wp2_with fail
  clear hiN HI
  go_loopg [9, 35] na (fun kq v9 v35 W => ∃ j : Nat, v35 = .int .i64 (j : Int) ∧ Aside0 (j + kq = na) ∧ Aside0 (Kd.R (Kd.int .i64) 3 W w.heap.size (fun k => k ≠ g5) v9 (goneN l0 M j)) ∧ Aside0 (BB W g5 (na + 1) c5 M) ∧ Aside0 (Below w.heap.size w W))
  case atStart => exact ⟨0, rfl, ⟨by omega⟩, ⟨Kd.R_nil _ _ _ _ _⟩, HM2, HB⟩
  case round =>
  clear HM2 HB; obtain ⟨j, rfl, HJ, HR, HM, HB⟩ := hrel; obtain ⟨A6, c6, rfl⟩ := Kd.R_slice HR.out; obtain ⟨n6, hn6⟩ : ∃ n6, (goneN l0 M j).length = n6 := ⟨_, rfl⟩; have HN6 := Aside0.mk (goneN_len l0 M j); rw [hn6] at HR ⊢; clear hn6
  cases gk with
  | zero =>
    have hjN : ¬ j < na := by have := HJ.out; omega
    go_wp2_with fail
    refine bodyPost_ret (results_tmp rfl _ _ _) rfl ?_; have h := HR.out; rw [show j = na by have := HJ.out; omega] at h
    have hq : ∃ v0_ : Value, Ending.returned (Value.slice A6 n6 c6) = .returned v0_ ∧ Kd.R (Kd.int .i64) 3 wr w.heap.size (fun _ => True) v0_ (goneN l0 (metN (na + 1) p p.length) na) ∧ Below w.heap.size w wr := by
      rw [HN.out, HMM.out]; exact ⟨_, rfl, Kd.R_mono h (fun _ _ => trivial), HB.out⟩
    exact hq
  | succ k1 =>
    have hjm : j < na := by have := HJ.out; omega
    have HJM := Aside0.mk hjm
    have hwj : wrap64 ((j : Int) + 1) = ((j + 1 : Nat) : Int) := by have := HJM.out; have := OK_.out.al; have := HNA.out.1; unfold wrap64; omega
    obtain ⟨ad, A5, c5', ead, y0, y1, y2, y3, y4, y5, _⟩ := at_T32 (Kd.C_below HR0'.out HB.out) (j : Int) (by omega) (by omega); subst ead; rw [Int.toNat_natCast] at y0 y1 y2 y3 y4 y5; obtain ⟨x, hx⟩ : ∃ x, rd_T32 l0 (j : Int) = x := ⟨_, rfl⟩; rw [hx] at y0 y1 y2 y3 y4 y5; obtain ⟨z5, hz5⟩ : ∃ z, x.f5.length = z := ⟨_, rfl⟩; rw [hz5] at y5; obtain ⟨u, hu⟩ : ∃ u, x.f1 = u := ⟨_, rfl⟩; rw [hu] at y1
    have HX := Aside0.mk (show (rd_T32 l0 (j : Int)).f1 = u ∧ 0 ≤ u ∧ u ≤ na from by
      have := OK_.out.av j (by omega) (by have := HNA.out.1; omega); rw [hx, hu, HNA.out.1] at this
      exact ⟨by rw [hx, hu], this.1, this.2⟩)
    have hu0 : 0 ≤ u := HX.out.2.1
    have hun : u < ((na + 1 : Nat) : Int) := by have := HX.out.2.2; omega
    have hun2 : u < (na : Int) + 1 := by have := HX.out.2.2; omega
    clear hx hz5 hu; obtain ⟨hm1, _⟩ := HM.out.cell ((j + 1 : Nat) : Int) (by omega) (by omega); obtain ⟨hm2, _⟩ := HM.out.cell u hu0 hun; rw [Int.toNat_natCast] at hm1; obtain ⟨b1, hb1⟩ : ∃ b, rdOf false M ((j + 1 : Nat) : Int) = b := ⟨_, rfl⟩; obtain ⟨b2, hb2⟩ : ∃ b, rdOf false M u = b := ⟨_, rfl⟩; rw [hb1] at hm1; rw [hb2] at hm2
    have HS := Aside0.mk (show goneN l0 M (j + 1) = if (!b1 && b2) = true then goneN l0 M j ++ [((j + 1 : Nat) : Int)] else goneN l0 M j by
      rw [goneN, HX.out.1, hb1, hb2])
    clear hb1 hb2
    go_upto_region 15 with fail
    obtain ⟨W2, hW2⟩ : ∃ W2, wr.alloc (.cells #[.int .i64 x.f0, .int .i64 u, .string x.f2, .string x.f3, .string x.f4, .slice A5 z5 c5'] 32) = W2 := ⟨_, rfl⟩; rw [hW2]; have HB2 := Aside0.mk (show Below wr.heap.size wr W2 from hW2 ▸ zA (Below.refl _ wr) _)
    have hbx : W2.cell? ⟨wr.heap.size, 1, none⟩ = some (.int .i64 u) := by rw [← hW2]; exact (zC (blk_new wr _) 1).trans rfl
    replace hm1 := (HB2.out.cell (World.block_lt_of_cell? _ _ hm1)).trans hm1; replace hm2 := (HB2.out.cell (World.block_lt_of_cell? _ _ hm2)).trans hm2; replace HR := Aside0.mk (Kd.R_below HR.out HB2.out); replace HM := Aside0.mk (HM.out.move (HB2.out.block g5 HM.out.lt)); replace HB := Aside0.mk (HB.out.trans (HB2.out.mono HB.out.size)); clear hW2 y0 y1 y2 y3 y4 y5
    cases b1 with
    | true =>
      have HE := Aside0.mk (show goneN l0 M (j + 1) = goneN l0 M j by rw [HS.out]; simp); clear HS
      go_wp2_with fail
      go_roundg k1
      case measure => omega
      case rel => exact ⟨j + 1, by rw [hwj], ⟨by have := HJ.out; omega⟩, ⟨by rw [HE.out]; exact HR.out⟩, HM, HB⟩
    | false =>
      cases b2 with
      | false =>
        have HE := Aside0.mk (show goneN l0 M (j + 1) = goneN l0 M j by rw [HS.out]; simp); clear HS
        go_wp2_with fail
        go_roundg k1
        case measure => omega
        case rel => exact ⟨j + 1, by rw [hwj], ⟨by have := HJ.out; omega⟩, ⟨by rw [HE.out]; exact HR.out⟩, HM, HB⟩
      | true =>
        have HE := Aside0.mk (show goneN l0 M (j + 1) = goneN l0 M j ++ [((j + 1 : Nat) : Int)] by rw [HS.out]; simp); clear HS
        go_wp2_with ((with_reducible refine zgn (b := .append) (xs := #[.tmp 53, .tmp 56]) rfl ?_); at_builtin; refine Kd.R_append (Kd.int .i64) (w0 := w) w.heap.size rfl (.tmp 53) (.tmp 56) 25 3 (.int .i64 0) 8 rfl Try.underlying25 info3 rfl (by decide) (by omega) (.slice A6 n6 c6) (goneN l0 M j) ((j + 1 : Nat) : Int) [.int .i64 ((j + 1 : Nat) : Int)] (fun k => k ≠ g5) (fun _ => False) rfl rfl rfl (fun _ h => h.elim) ?aF ?aO ?aB ?aS ?aL ?_; (case aO => exact (by (with_reducible repeat (first | apply Kd.R_alloc | apply Kd.R_drewN | apply Kd.R_drew)); exact HR.out)); (case aB => exact (by repeat (first | (with_reducible first | exact HB.out | apply zA) | exact HB.out))); (case aS => exact (zq (by repeat (first | (with_reducible first | exact HB.out | apply zA) | exact HB.out)))); (case aF => intro k hk; have := HM.out.lt; (try simp at hk); omega); (case aL => have := HN6.out; have := HJM.out; have := OK_.out.al; have := HNA.out.1; omega); intro v9 w9 ho hb hg hat; have R9 := Aside0.mk ho; have B9 := Aside0.mk hb; have G9 := Aside0.mk hg; clear ho hb hg hat)
        have M9 := Aside0.mk (HM.out.move ((G9.out.block g5 (by have := HM.out.lt; simp; omega) (fun e => Kd.R_away HR.out (fun k hk => hk) e)).trans (by simp [HM.out.lt])))
        go_roundg k1
        case measure => omega
        case rel => exact ⟨j + 1, by rw [hwj], ⟨by have := HJ.out; omega⟩, ⟨by rw [HE.out]; exact R9.out⟩, M9, B9⟩
def match_Fresh.l0 : Nat → List Int → List Int → Int → Int → Option (List Int)
  | 0, _, _, _, _ => none
  | k + 1, x5, x10, x11, x12 => if x12 < x11 then (if 0 ≤ x12 then (if x12 < (x10.length : Int) then (if (rd x10 x12) < 0 then (if x5.length < 17592186044416 then (match_Fresh.l0 k (x5 ++ [x12]) x10 x11 (wrap64 (x12 + 1))) else (none)) else (match_Fresh.l0 k x5 x10 x11 (wrap64 (x12 + 1)))) else (none)) else (none)) else (some x5)
def match_Fresh.f (k : Nat) (l0 : List (S32)) (l1 : List (S32)) : Option (List Int) := (match_pairs.f k l0 l1).bind fun t252 => (match_Fresh.l0 k ([] : List Int) t252 (t252.length : Int) 0)
theorem match_Fresh.mono_l : ∀ k, (∀ y0 y1 y2 y3, LeO (match_Fresh.l0 k y0 y1 y2 y3) (match_Fresh.l0 (k + 1) y0 y1 y2 y3))
  | 0 => fun _ _ _ _ r h => by simp [match_Fresh.l0] at h
  | k + 1 => by
    have ih0 := match_Fresh.mono_l k
    · intro y0 y1 y2 y3
      unfold match_Fresh.l0
      repeat' first
      | (with_reducible exact ih0 _ _ _ _)
      | (with_reducible exact match_pairs.mono _ _ _)
      | (with_reducible exact LeO.refl _)
      | (with_reducible exact LeO.none _)
      | (with_reducible refine LeO.ite ?_ ?_)
      | (with_reducible refine LeO.bind ?_ (fun _ => ?_))
      | exact ih0 _ _ _ _
      | exact match_pairs.mono _ _ _
      | exact LeO.none _
      | refine LeO.ite ?_ ?_
      | refine LeO.bind ?_ (fun _ => ?_)
theorem match_Fresh.mono : ∀ a0 a1 k, LeO (match_Fresh.f k a0 a1) (match_Fresh.f (k + 1) a0 a1) := by
  intro a0 a1 k; have ih0 := match_Fresh.mono_l k; unfold match_Fresh.f
  repeat' first
      | (with_reducible exact ih0 _ _ _ _)
      | (with_reducible exact match_pairs.mono _ _ _)
      | (with_reducible exact LeO.refl _)
      | (with_reducible exact LeO.none _)
      | (with_reducible refine LeO.ite ?_ ?_)
      | (with_reducible refine LeO.bind ?_ (fun _ => ?_))
      | exact ih0 _ _ _ _
      | exact match_pairs.mono _ _ _
      | exact LeO.none _
      | refine LeO.ite ?_ ?_
      | refine LeO.bind ?_ (fun _ => ?_)
set_option maxHeartbeats 8000000 in
set_option maxRecDepth 100000 in
theorem match_Fresh.calls (k : Nat) (A0 : Option Addr) (c0 : Nat) (l0 : List (S32)) (A1 : Option Addr) (c1 : Nat) (l1 : List (S32)) (r : List Int) (w : World) (hr0 : Kd.C k32 w A0 l0.length l0) (hc0 : l0.length ≤ c0) (hr1 : Kd.C k32 w A1 l1.length l1) (hc1 : l1.length ≤ c1) (h : match_Fresh.f k l0 l1 = some r) :
    Calls Try.prog 10 #[.slice A0 l0.length c0, .slice A1 l1.length c1] w fun e w' => ∃ v0_ : Value, e = .returned (v0_) ∧ Kd.R (Kd.int .i64) 3 w' w.heap.size (fun _ => True) v0_ r ∧ Below w.heap.size w w' := by
  have HR0 := Aside0.mk hr0; have HC0 := Aside0.mk hc0; clear hr0 hc0; have HR1 := Aside0.mk hr1; have HC1 := Aside0.mk hc1; clear hr1 hc1; have HB := Aside0.mk (Below.refl w.heap.size w); have H : ((match_pairs.f k l0 l1).bind fun t252 => (match_Fresh.l0 k ([] : List Int) t252 (t252.length : Int) 0)) = some r := h; clear h; replace H := Option.bind_eq_some_iff.mp H; obtain ⟨t252, A30, H⟩ := H; replace H : (match_Fresh.l0 k ([] : List Int) t252 (t252.length : Int) 0) = some r := H; have A3 := Aside0.mk A30; clear A30; have H' := Aside0.mk H; clear H
  go_enter Try.func10, Try.ntmps10
  go_wp2_with (first | ((with_reducible refine zgk (f := 19) rfl ?_); refine zgl (some 10) rfl rfl Try.func19 (by kernel_rfl) rfl #[.slice A0 l0.length c0, .slice A1 l1.length c1] rfl (by (try simp only [List.map_toArray, List.map_cons, List.map_nil]); first | done | rfl | (simp only [List.length_drop, List.length_take]; rfl)) ?_; (with_reducible refine (match_pairs.calls k _ _ l0 _ _ l1 t252 _ ?side1 ?side2 ?side3 ?side4 A3.out).mono ?_); (case side1 => repeat (first | exact HR0.out | (with_reducible refine Kd.C_alloc ?_ _) | (with_reducible refine Kd.C_drewN ?_ _) | (with_reducible refine Kd.C_drew ?_))); (case side2 => exact HC0.out); (case side3 => repeat (first | exact HR1.out | (with_reducible refine Kd.C_alloc ?_ _) | (with_reducible refine Kd.C_drewN ?_ _) | (with_reducible refine Kd.C_drew ?_))); (case side4 => exact HC1.out); rintro e w4 ⟨v253, rfl, ho0, hb⟩; refine ⟨_, rfl, ?_⟩; have n0_ := Aside0.mk (Kd.R_lower ho0 (zq (by repeat (first | (with_reducible first | exact HB.out | apply zA | apply zN | apply zD) | exact HB.out)))); have n1_ := Aside0.mk (zs (by repeat (first | (with_reducible first | exact HB.out | apply zA | apply zN | apply zD) | exact HB.out)) hb); clear HB; have HO254 := n0_; have HB := n1_; clear n0_ n1_; (try clear hb); (try clear hb2); (try clear hk); (try clear hi); (try clear ho0); obtain ⟨Ao5, co5, eo5⟩ := Kd.R_slice HO254.out; subst eo5))
  go_loopg [5, 12] k (fun kq v5 v12 w' => ∃ (x5_1 : List Int) (x12_1 : Int), v12 = .int .i64 x12_1 ∧ Aside0 (match_Fresh.l0 kq x5_1 t252 (t252.length : Int) x12_1 = some r) ∧ Aside0 (kq ≤ k) ∧ Aside0 (Kd.R (Kd.int .i64) 3 w' w.heap.size (fun k_ => some k_ ≠ ((.slice Ao5 t252.length co5) : Value).ownBlock) v5 x5_1) ∧ Aside0 (Kd.R (Kd.int .i64) 3 w' w.heap.size (fun k_ => some k_ ≠ (v5 : Value).ownBlock) (.slice Ao5 t252.length co5) t252) ∧ Aside0 (Below w.heap.size w w'))
  case atStart => exact ⟨(([] : List Int)), (0), (by first | rfl | (simp; done) | (simp [*]; done)), H', ⟨Nat.le_refl _⟩, ⟨by first | exact Kd.R_nil _ _ _ _ _ | exact Kd.N_nil _ _ _ _ _ | exact Kd.V_nil _ _ _ _ _ | exact Kd.Q_nil _ _ _ _ _ | exact Kd.S_nil _ _ _ _ _⟩, ⟨by (with_reducible repeat (first | apply Kd.R_alloc | apply Kd.R_drewN | apply Kd.R_drew)); exact Kd.R_mono HO254.out (fun _ hk => (by simp [Value.ownBlock]))⟩, ⟨by repeat (first | (with_reducible first | exact HB.out | apply zA | apply zN | apply zD) | exact HB.out)⟩⟩
  case round =>
    clear H'; (try clear c1); (try clear p2); obtain ⟨x5_1, x12_1, rfl, HA, HK1, HO_5, HO_10, HB⟩ := hrel
    cases gk with
    | zero => exact absurd HA.out (by simp [match_Fresh.l0])
    | succ k1 =>
      have H := HA.out; clear HA; simp only [match_Fresh.l0] at H
      by_cases c6 : x12_1 < (t252.length : Int)
      · rw [if_pos c6] at H
        have c6b0 : decide (x12_1 < (t252.length : Int)) = true := decide_eq_true c6
        clear c6
        by_cases c7 : 0 ≤ x12_1
        · rw [if_pos c7] at H
          have c7b0 : decide (0 ≤ x12_1) = true := decide_eq_true c7
          clear c7
          by_cases c8 : x12_1 < (t252.length : Int)
          · rw [if_pos c8] at H
            have c8b0 : decide (x12_1 < (t252.length : Int)) = true := decide_eq_true c8
            clear c8
            by_cases c9 : (rd t252 x12_1) < 0
            · rw [if_pos c9] at H
              have c9b0 : decide ((rd t252 x12_1) < 0) = true := decide_eq_true c9
              clear c9
              by_cases c10 : x5_1.length < 17592186044416
              · rw [if_pos c10] at H
                have LMc10 := Aside0.mk c10
                clear c10
                obtain ⟨y256, hy256⟩ : ∃ y_ : List Int, y_ = (x5_1 ++ [x12_1]) := ⟨_, rfl⟩
                replace H : (match_Fresh.l0 k1 y256 t252 (t252.length : Int) (wrap64 (x12_1 + 1))) = some r := by first | (rw [hy256]; with_reducible exact H) | (have H2_ := (Option.bind_some _ _).symm.trans H; rw [hy256]; with_reducible exact H2_) | (have H2_ := (Option.bind_some _ _).symm.trans H; with_reducible exact H2_) | with_reducible exact H | (rw [hy256]; exact H) | exact H
                have Ny256 := Aside0.mk hy256
                clear hy256
                have H' := Aside0.mk H
                clear H
                have p255 : 0 ≤ (x12_1 : Int) := of_decide_eq_true (by first | (with_reducible assumption) | assumption)
                have q255 : x12_1 < (t252.length : Int) := of_decide_eq_true (by first | (with_reducible assumption) | assumption)
                obtain ⟨ad255, e255, hx255_0⟩ := Kd.at_int (Kd.R_reads' HO_10.out).2.2 x12_1 p255 q255
                cases e255
                replace p255 := eq_true p255
                replace q255 := eq_true q255
                go_wp2_with (first | ((with_reducible refine zgn (b := .append) (xs := #[.tmp 19, .tmp 21]) rfl ?_); at_builtin; refine Kd.R_append (Kd.int .i64) (w0 := w) w.heap.size rfl (.tmp 19) (.tmp 21) 25 3 (.int .i64 0) 8 rfl Try.underlying25 info3 rfl (by decide) (by omega) u5 x5_1 x12_1 [.int .i64 x12_1] (fun k_ => some k_ ≠ (.slice (some ad255) t252.length co5 : Value).ownBlock) (fun _ => False) rfl rfl ?aP (fun _ hk => hk.elim) ?aF ?aO ?aB ?aS ?aL ?_; (case aP => exact rfl); (case aB => exact (by repeat (first | (with_reducible first | exact HB.out | apply zA | apply zN | apply zD) | exact HB.out))); (case aF => exact (fun k_ hk => Kd.fresh' (Kd.R_lt (by (with_reducible repeat (first | apply Kd.R_alloc | apply Kd.R_drewN | apply Kd.R_drew)); exact HO_10.out)) k_ hk)); (case aO => exact (by (with_reducible repeat (first | apply Kd.R_alloc | apply Kd.R_drewN | apply Kd.R_drew)); exact HO_5.out)); (case aS => exact (zq (by repeat (first | (with_reducible first | exact HB.out | apply zA | apply zN | apply zD) | exact HB.out)))); (case aL => have := LMc10.out; omega); intro v257 w11 ho hb hg hat; rw [← Ny256.out] at ho; have n0_ := Aside0.mk (Kd.R_after (ok := (fun _ => True)) (by (with_reducible repeat (first | apply Kd.R_alloc | apply Kd.R_drewN | apply Kd.R_drew)); exact Kd.R_mono HO_10.out (fun _ hk => ⟨trivial, hk⟩)) hg hat); have n1_ := Aside0.mk (hb); have n2_ := Aside0.mk (ho); clear HO_10; clear HB; clear HO_5; have HO_10 := n0_; have HB := n1_; have HO258 := n2_; clear n0_ n1_ n2_; clear ho hb hg hat))
                go_roundg k1
                case measure => have := HK1.out; omega
                case rel => exact ⟨(y256), (wrap64 (x12_1 + 1)), (by first | rfl | (simp; done) | (simp [*]; done)), H', ⟨by have := HK1.out; omega⟩, ⟨by (with_reducible repeat (first | apply Kd.R_alloc | apply Kd.R_drewN | apply Kd.R_drew)); exact HO258.out⟩, ⟨by (with_reducible repeat (first | apply Kd.R_alloc | apply Kd.R_drewN | apply Kd.R_drew)); exact Kd.R_mono HO_10.out (fun _ hk => hk.2)⟩, ⟨by repeat (first | (with_reducible first | exact HB.out | apply zA | apply zN | apply zD) | exact HB.out)⟩⟩
              · rw [if_neg c10] at H
                exact absurd H (by simp)
            · rw [if_neg c9] at H
              have c9b0 : decide ((rd t252 x12_1) < 0) = false := decide_eq_false c9
              clear c9
              have H' := Aside0.mk H
              clear H
              have p255 : 0 ≤ (x12_1 : Int) := of_decide_eq_true (by first | (with_reducible assumption) | assumption)
              have q255 : x12_1 < (t252.length : Int) := of_decide_eq_true (by first | (with_reducible assumption) | assumption)
              obtain ⟨ad255, e255, hx255_0⟩ := Kd.at_int (Kd.R_reads' HO_10.out).2.2 x12_1 p255 q255
              cases e255
              replace p255 := eq_true p255
              replace q255 := eq_true q255
              go_wp2
              go_roundg k1
              case measure => have := HK1.out; omega
              case rel => exact ⟨(x5_1), (wrap64 (x12_1 + 1)), (by first | rfl | (simp; done) | (simp [*]; done)), H', ⟨by have := HK1.out; omega⟩, ⟨by (with_reducible repeat (first | apply Kd.R_alloc | apply Kd.R_drewN | apply Kd.R_drew)); exact HO_5.out⟩, ⟨by (with_reducible repeat (first | apply Kd.R_alloc | apply Kd.R_drewN | apply Kd.R_drew)); exact HO_10.out⟩, ⟨by repeat (first | (with_reducible first | exact HB.out | apply zA | apply zN | apply zD) | exact HB.out)⟩⟩
          · rw [if_neg c8] at H
            exact absurd H (by simp)
        · rw [if_neg c7] at H
          exact absurd H (by simp)
      · rw [if_neg c6] at H
        have c6b0 : decide (x12_1 < (t252.length : Int)) = false := decide_eq_false c6; clear c6; obtain rfl := Option.some.inj H; go_wp2; go_ret; exact ⟨_, by first | rfl | (simp [wN, wS] <;> rfl) | (simp [*, wN, wS] <;> rfl), by (with_reducible repeat (first | apply Kd.R_alloc | apply Kd.R_drewN | apply Kd.R_drew)); exact Kd.R_mono HO_5.out (fun _ hk => trivial), by repeat (first | (with_reducible first | exact HB.out | apply zA | apply zN | apply zD) | exact HB.out)⟩
end Go.Proofs.Ytelacebdmmanhaa.G
namespace Go.Proofs.Ytelacebdmmanhaa.G
open Go.RowKit Go.Proofs.YtelacebdmmanhaaW.PrintWords Go.Proofs.YtelacebdmmanhaaW.PrintLast Go.Proofs.YtelacebdmmanhaaW.PrintMore
attribute [local go_sem] max2_int min2_int max_two min_two max_three min_three max_four min_four
set_option linter.unusedVariables false
set_option linter.unusedSimpArgs false
def pl_Ints.l0 : Nat → List Int → List Int → Int → Int → Option (Bool)
  | 0, _, _, _, _ => none
  | k + 1, x0, x1, x12, x13 => if x13 < x12 then (if 0 ≤ x13 then (if x13 < (x0.length : Int) then (if x13 < (x1.length : Int) then (if (rd x0 x13) = (rd x1 x13) then (pl_Ints.l0 k x0 x1 x12 (wrap64 (x13 + 1))) else (some false)) else (none)) else (none)) else (none)) else (some true)
def pl_Ints.f (k : Nat) (l0 : List Int) (l1 : List Int) : Option (Bool) := if (l0.length : Int) = (l1.length : Int) then (pl_Ints.l0 k l0 l1 (l0.length : Int) 0) else (some false)
theorem pl_Ints.mono_l : ∀ k, (∀ y0 y1 y2 y3, LeO (pl_Ints.l0 k y0 y1 y2 y3) (pl_Ints.l0 (k + 1) y0 y1 y2 y3))
  | 0 => fun _ _ _ _ r h => by simp [pl_Ints.l0] at h
  | k + 1 => by
    have ih0 := pl_Ints.mono_l k
    · intro y0 y1 y2 y3
      unfold pl_Ints.l0
      with_reducible repeat' first | exact ih0 _ _ _ _ | exact LeO.refl _ | exact LeO.none _ | refine LeO.ite ?_ ?_ | refine LeO.bind ?_ (fun _ => ?_)
theorem pl_Ints.mono : ∀ a0 a1 k, LeO (pl_Ints.f k a0 a1) (pl_Ints.f (k + 1) a0 a1) := by
  intro a0 a1 k; have ih0 := pl_Ints.mono_l k; unfold pl_Ints.f
  with_reducible repeat' first | exact ih0 _ _ _ _ | exact LeO.refl _ | exact LeO.none _ | refine LeO.ite ?_ ?_ | refine LeO.bind ?_ (fun _ => ?_)
set_option maxHeartbeats 8000000 in
set_option maxRecDepth 100000 in
theorem pl_Ints.calls (k : Nat) (A0 : Option Addr) (c0 : Nat) (l0 : List Int) (A1 : Option Addr) (c1 : Nat) (l1 : List Int) (r : Bool) (w : World) (hr0 : Kd.C (Kd.int .i64) w A0 l0.length l0) (hc0 : l0.length ≤ c0) (hr1 : Kd.C (Kd.int .i64) w A1 l1.length l1) (hc1 : l1.length ≤ c1) (h : pl_Ints.f k l0 l1 = some r) :
    Calls Try.prog 12 #[.slice A0 l0.length c0, .slice A1 l1.length c1] w fun e w' => e = .returned (.bool r) ∧ Drawn0 w w' := by
  have HR0 := zk hr0; have HC0 := zk hc0; clear hr0 hc0; have HR1 := zk hr1; have HC1 := zk hc1; clear hr1 hc1; have H : (if (l0.length : Int) = (l1.length : Int) then (pl_Ints.l0 k l0 l1 (l0.length : Int) 0) else (some false)) = some r := h; clear h
  by_cases c3 : (l0.length : Int) = (l1.length : Int)
  · rw [if_pos c3] at H
    have c3b0 : ((l0.length : Int) == (l1.length : Int)) = true := beq_iff_eq.mpr c3
    have c3b1 : ((l0.length : Int) != (l1.length : Int)) = false := bne_eq_false_iff_eq.mpr c3
    have c3b2 : (l0.length == l1.length) = true := by first | simpa using c3 | (simp at c3 ⊢; omega)
    clear c3
    have H' := zk H
    clear H
    go_enter Try.func12, Try.ntmps12
    go_wp2
    repeat (go_quiet (fail); try go_wp2)
    go_loopg [13] k (fun kq v13 w' => ∃ (x13_1 : Int), v13 = .int .i64 x13_1 ∧ Aside0 (pl_Ints.l0 kq l0 l1 (l0.length : Int) x13_1 = some r) ∧ Aside0 (kq ≤ k) ∧ Drawn0 w w')
    case atStart => exact ⟨(0), (by first | rfl | (simp; done) | (simp [*]; done)), H', ⟨Nat.le_refl _⟩, by repeat (first | exact Drawn0.refl _ | apply Drawn0.step)⟩
    case round =>
      clear H'; (try clear c1); (try clear p2); (try clear c3); (try clear c3b0); (try clear c3b1); (try clear c3b2); obtain ⟨x13_1, rfl, HA, HK1, ⟨m1, rfl⟩⟩ := hrel
      cases gk with
      | zero => exact absurd HA.out (by simp [pl_Ints.l0])
      | succ k1 =>
        have H := HA.out; clear HA; simp only [pl_Ints.l0] at H
        by_cases c4 : x13_1 < (l0.length : Int)
        · rw [if_pos c4] at H
          have c4b0 : decide (x13_1 < (l0.length : Int)) = true := decide_eq_true c4
          clear c4
          by_cases c5 : 0 ≤ x13_1
          · rw [if_pos c5] at H
            have c5b0 : decide (0 ≤ x13_1) = true := decide_eq_true c5
            clear c5
            by_cases c6 : x13_1 < (l0.length : Int)
            · rw [if_pos c6] at H
              have c6b0 : decide (x13_1 < (l0.length : Int)) = true := decide_eq_true c6
              clear c6
              by_cases c7 : x13_1 < (l1.length : Int)
              · rw [if_pos c7] at H
                have c7b0 : decide (x13_1 < (l1.length : Int)) = true := decide_eq_true c7
                clear c7
                by_cases c8 : (rd l0 x13_1) = (rd l1 x13_1)
                · rw [if_pos c8] at H
                  have c8b0 : ((rd l0 x13_1) == (rd l1 x13_1)) = true := beq_iff_eq.mpr c8
                  have c8b1 : ((rd l0 x13_1) != (rd l1 x13_1)) = false := bne_eq_false_iff_eq.mpr c8
                  clear c8
                  have H' := zk H
                  clear H
                  have p252 : 0 ≤ (x13_1 : Int) := zo (by assumption)
                  have q252 : x13_1 < (l0.length : Int) := zo (by assumption)
                  obtain ⟨ad252, e252, hx252_0⟩ := Kd.at_int HR0.out x13_1 p252 q252
                  cases e252
                  replace p252 := eq_true p252
                  replace q252 := eq_true q252
                  have p253 : 0 ≤ (x13_1 : Int) := zo (by assumption)
                  have q253 : x13_1 < (l1.length : Int) := zo (by assumption)
                  obtain ⟨ad253, e253, hx253_0⟩ := Kd.at_int HR1.out x13_1 p253 q253
                  cases e253
                  replace p253 := eq_true p253
                  replace q253 := eq_true q253
                  go_wp2
                  repeat (go_quiet (fail); try go_wp2)
                  go_roundg k1
                  case measure => have := HK1.out; omega
                  case rel => exact ⟨(wrap64 (x13_1 + 1)), (by first | rfl | (simp; done) | (simp [*]; done)), H', ⟨by have := HK1.out; omega⟩, by repeat (first | exact Drawn0.refl _ | apply Drawn0.step)⟩
                · rw [if_neg c8] at H
                  have c8b0 : ((rd l0 x13_1) == (rd l1 x13_1)) = false := beq_eq_false_iff_ne.mpr c8
                  have c8b1 : ((rd l0 x13_1) != (rd l1 x13_1)) = true := bne_iff_ne.mpr c8
                  obtain rfl := Option.some.inj H
                  have p252 : 0 ≤ (x13_1 : Int) := zo (by assumption)
                  have q252 : x13_1 < (l0.length : Int) := zo (by assumption)
                  obtain ⟨ad252, e252, hx252_0⟩ := Kd.at_int HR0.out x13_1 p252 q252
                  cases e252
                  replace p252 := eq_true p252
                  replace q252 := eq_true q252
                  have p253 : 0 ≤ (x13_1 : Int) := zo (by assumption)
                  have q253 : x13_1 < (l1.length : Int) := zo (by assumption)
                  obtain ⟨ad253, e253, hx253_0⟩ := Kd.at_int HR1.out x13_1 p253 q253
                  cases e253
                  replace p253 := eq_true p253
                  replace q253 := eq_true q253
                  go_wp2
                  repeat (go_quiet (fail); try go_wp2)
                  go_ret
                  exact ⟨by first | rfl | (simp; done) | (simp [*]; done), by repeat (first | exact Drawn0.refl _ | apply Drawn0.step)⟩
              · rw [if_neg c7] at H
                exact absurd H (by simp)
            · rw [if_neg c6] at H
              exact absurd H (by simp)
          · rw [if_neg c5] at H
            exact absurd H (by simp)
        · rw [if_neg c4] at H
          have c4b0 : decide (x13_1 < (l0.length : Int)) = false := decide_eq_false c4
          clear c4
          obtain rfl := Option.some.inj H
          go_wp2
          repeat (go_quiet (fail); try go_wp2)
          go_ret
          exact ⟨by first | rfl | (simp; done) | (simp [*]; done), by repeat (first | exact Drawn0.refl _ | apply Drawn0.step)⟩
  · rw [if_neg c3] at H
    have c3b0 : ((l0.length : Int) == (l1.length : Int)) = false := beq_eq_false_iff_ne.mpr c3
    have c3b1 : ((l0.length : Int) != (l1.length : Int)) = true := bne_iff_ne.mpr c3
    have c3b2 : (l0.length == l1.length) = false := by first | simpa using c3 | (simp at c3 ⊢; omega)
    obtain rfl := Option.some.inj H
    go_enter Try.func12, Try.ntmps12
    go_wp2
    repeat (go_quiet (fail); try go_wp2)
    go_ret
    exact ⟨by first | rfl | (simp; done) | (simp [*]; done), by repeat (first | exact Drawn0.refl _ | apply Drawn0.step)⟩
def lw_same.f0 (k : Nat)  : Option (Bool) := (some (([(⟨0, 0, (⟨#[112]⟩ : ByteArray), (⟨#[]⟩ : ByteArray), (⟨#[]⟩ : ByteArray), ([] : List (S39))⟩ : S32), (⟨0, 1, (⟨#[108, 105]⟩ : ByteArray), (⟨#[]⟩ : ByteArray), (⟨#[]⟩ : ByteArray), ([] : List (S39))⟩ : S32), (⟨0, 1, (⟨#[108, 105]⟩ : ByteArray), (⟨#[]⟩ : ByteArray), (⟨#[]⟩ : ByteArray), ([] : List (S39))⟩ : S32)] : List (S32)) : List (S32))).bind fun y254 => ((some (([(⟨0, 0, (⟨#[112]⟩ : ByteArray), (⟨#[]⟩ : ByteArray), (⟨#[]⟩ : ByteArray), ([] : List (S39))⟩ : S32), (⟨0, 1, (⟨#[108, 105]⟩ : ByteArray), (⟨#[]⟩ : ByteArray), (⟨#[]⟩ : ByteArray), ([] : List (S39))⟩ : S32), (⟨0, 1, (⟨#[117, 108]⟩ : ByteArray), (⟨#[]⟩ : ByteArray), (⟨#[]⟩ : ByteArray), ([] : List (S39))⟩ : S32), (⟨0, 1, (⟨#[108, 105]⟩ : ByteArray), (⟨#[]⟩ : ByteArray), (⟨#[]⟩ : ByteArray), ([] : List (S39))⟩ : S32), (⟨0, 1, (⟨#[108, 105]⟩ : ByteArray), (⟨#[]⟩ : ByteArray), (⟨#[]⟩ : ByteArray), ([] : List (S39))⟩ : S32)] : List (S32)) : List (S32))).bind fun y257 => ((match_Pairs.f k y254 y257).bind fun t260 => ((pl_Ints.f k t260 (([1, 2, 0, 3, 0] : List Int))).bind fun t266 => (if t266 = true then ((match_Fresh.f k y254 y257).bind fun t267 => ((pl_Ints.f k t267 (([3, 5] : List Int))).bind fun t273 => (if t273 = true then ((match_Gone.f k y257 y254).bind fun t274 => ((pl_Ints.f k t274 (([3, 5] : List Int))).bind fun t280 => (some t280))) else (some false)))) else (some false)))))
theorem lw_same.mono0 : ∀ k, LeO (lw_same.f0 k ) (lw_same.f0 (k + 1) ) := by
 intro  k
 unfold lw_same.f0
 with_reducible repeat' first | exact match_Fresh.mono _ _ _ | exact match_Gone.mono _ _ _ | exact match_Pairs.mono _ _ _ | exact pl_Ints.mono _ _ _ | exact LeO.refl _ | exact LeO.none _ | refine LeO.ite ?_ ?_ | refine LeO.bind ?_ (fun _ => ?_)
def lw_same.f (k : Nat) : Option Bool := (lw_same.f0 k).bind fun b => if b = true then some true else none
theorem lw_same.mono : ∀ k, LeO (lw_same.f k ) (lw_same.f (k + 1) ) := by
  intro  k; unfold lw_same.f; exact LeO.bind (lw_same.mono0  k) (fun _ => LeO.refl _)
set_option maxHeartbeats 8000000 in
set_option maxRecDepth 100000 in
theorem lw_same.calls (k : Nat)  (r : Bool) (w : World) (h : lw_same.f k  = some r) :
  Calls Try.prog 7 #[] w fun e w' => e = .returned (.bool r) ∧ Below w.heap.size w w' := by
 obtain ⟨b_, hb_, hr_⟩ := Option.bind_eq_some_iff.1 h
 split at hr_
 case isFalse => cases hr_
 rename_i hbt_
 subst hbt_
 obtain rfl := Option.some.inj hr_
 obtain ⟨r, hr2_⟩ : ∃ r : Bool, r = true := ⟨_, rfl⟩
 rw [← hr2_] at hb_ ⊢
 have HR_ := zk hr2_
 clear hr_ hr2_ h
 have h := hb_
 clear hb_
 have hu32 := Try.underlying32
 have HB := zk (Below.refl w.heap.size w)
 have H : ((some (([(⟨0, 0, (⟨#[112]⟩ : ByteArray), (⟨#[]⟩ : ByteArray), (⟨#[]⟩ : ByteArray), ([] : List (S39))⟩ : S32), (⟨0, 1, (⟨#[108, 105]⟩ : ByteArray), (⟨#[]⟩ : ByteArray), (⟨#[]⟩ : ByteArray), ([] : List (S39))⟩ : S32), (⟨0, 1, (⟨#[108, 105]⟩ : ByteArray), (⟨#[]⟩ : ByteArray), (⟨#[]⟩ : ByteArray), ([] : List (S39))⟩ : S32)] : List (S32)) : List (S32))).bind fun y254 => ((some (([(⟨0, 0, (⟨#[112]⟩ : ByteArray), (⟨#[]⟩ : ByteArray), (⟨#[]⟩ : ByteArray), ([] : List (S39))⟩ : S32), (⟨0, 1, (⟨#[108, 105]⟩ : ByteArray), (⟨#[]⟩ : ByteArray), (⟨#[]⟩ : ByteArray), ([] : List (S39))⟩ : S32), (⟨0, 1, (⟨#[117, 108]⟩ : ByteArray), (⟨#[]⟩ : ByteArray), (⟨#[]⟩ : ByteArray), ([] : List (S39))⟩ : S32), (⟨0, 1, (⟨#[108, 105]⟩ : ByteArray), (⟨#[]⟩ : ByteArray), (⟨#[]⟩ : ByteArray), ([] : List (S39))⟩ : S32), (⟨0, 1, (⟨#[108, 105]⟩ : ByteArray), (⟨#[]⟩ : ByteArray), (⟨#[]⟩ : ByteArray), ([] : List (S39))⟩ : S32)] : List (S32)) : List (S32))).bind fun y257 => ((match_Pairs.f k y254 y257).bind fun t260 => ((pl_Ints.f k t260 (([1, 2, 0, 3, 0] : List Int))).bind fun t266 => (if t266 = true then ((match_Fresh.f k y254 y257).bind fun t267 => ((pl_Ints.f k t267 (([3, 5] : List Int))).bind fun t273 => (if t273 = true then ((match_Gone.f k y257 y254).bind fun t274 => ((pl_Ints.f k t274 (([3, 5] : List Int))).bind fun t280 => (some t280))) else (some false)))) else (some false)))))) = some r := h
 clear h
 obtain ⟨y254, hy254⟩ : ∃ y_ : List (S32), y_ = (([(⟨0, 0, (⟨#[112]⟩ : ByteArray), (⟨#[]⟩ : ByteArray), (⟨#[]⟩ : ByteArray), ([] : List (S39))⟩ : S32), (⟨0, 1, (⟨#[108, 105]⟩ : ByteArray), (⟨#[]⟩ : ByteArray), (⟨#[]⟩ : ByteArray), ([] : List (S39))⟩ : S32), (⟨0, 1, (⟨#[108, 105]⟩ : ByteArray), (⟨#[]⟩ : ByteArray), (⟨#[]⟩ : ByteArray), ([] : List (S39))⟩ : S32)] : List (S32))) := ⟨_, rfl⟩
 replace H : ((some (([(⟨0, 0, (⟨#[112]⟩ : ByteArray), (⟨#[]⟩ : ByteArray), (⟨#[]⟩ : ByteArray), ([] : List (S39))⟩ : S32), (⟨0, 1, (⟨#[108, 105]⟩ : ByteArray), (⟨#[]⟩ : ByteArray), (⟨#[]⟩ : ByteArray), ([] : List (S39))⟩ : S32), (⟨0, 1, (⟨#[117, 108]⟩ : ByteArray), (⟨#[]⟩ : ByteArray), (⟨#[]⟩ : ByteArray), ([] : List (S39))⟩ : S32), (⟨0, 1, (⟨#[108, 105]⟩ : ByteArray), (⟨#[]⟩ : ByteArray), (⟨#[]⟩ : ByteArray), ([] : List (S39))⟩ : S32), (⟨0, 1, (⟨#[108, 105]⟩ : ByteArray), (⟨#[]⟩ : ByteArray), (⟨#[]⟩ : ByteArray), ([] : List (S39))⟩ : S32)] : List (S32)) : List (S32))).bind fun y257 => ((match_Pairs.f k y254 y257).bind fun t260 => ((pl_Ints.f k t260 (([1, 2, 0, 3, 0] : List Int))).bind fun t266 => (if t266 = true then ((match_Fresh.f k y254 y257).bind fun t267 => ((pl_Ints.f k t267 (([3, 5] : List Int))).bind fun t273 => (if t273 = true then ((match_Gone.f k y257 y254).bind fun t274 => ((pl_Ints.f k t274 (([3, 5] : List Int))).bind fun t280 => (some t280))) else (some false)))) else (some false))))) = some r := by first | (rw [hy254]; with_reducible exact H) | (have H2_ := (Option.bind_some _ _).symm.trans H; rw [hy254]; with_reducible exact H2_) | (have H2_ := (Option.bind_some _ _).symm.trans H; with_reducible exact H2_) | with_reducible exact H | (rw [hy254]; exact H) | exact H
 have Ny254 := zk hy254
 clear hy254
 obtain ⟨y257, hy257⟩ : ∃ y_ : List (S32), y_ = (([(⟨0, 0, (⟨#[112]⟩ : ByteArray), (⟨#[]⟩ : ByteArray), (⟨#[]⟩ : ByteArray), ([] : List (S39))⟩ : S32), (⟨0, 1, (⟨#[108, 105]⟩ : ByteArray), (⟨#[]⟩ : ByteArray), (⟨#[]⟩ : ByteArray), ([] : List (S39))⟩ : S32), (⟨0, 1, (⟨#[117, 108]⟩ : ByteArray), (⟨#[]⟩ : ByteArray), (⟨#[]⟩ : ByteArray), ([] : List (S39))⟩ : S32), (⟨0, 1, (⟨#[108, 105]⟩ : ByteArray), (⟨#[]⟩ : ByteArray), (⟨#[]⟩ : ByteArray), ([] : List (S39))⟩ : S32), (⟨0, 1, (⟨#[108, 105]⟩ : ByteArray), (⟨#[]⟩ : ByteArray), (⟨#[]⟩ : ByteArray), ([] : List (S39))⟩ : S32)] : List (S32))) := ⟨_, rfl⟩
 replace H : ((match_Pairs.f k y254 y257).bind fun t260 => ((pl_Ints.f k t260 (([1, 2, 0, 3, 0] : List Int))).bind fun t266 => (if t266 = true then ((match_Fresh.f k y254 y257).bind fun t267 => ((pl_Ints.f k t267 (([3, 5] : List Int))).bind fun t273 => (if t273 = true then ((match_Gone.f k y257 y254).bind fun t274 => ((pl_Ints.f k t274 (([3, 5] : List Int))).bind fun t280 => (some t280))) else (some false)))) else (some false)))) = some r := by first | (rw [hy257]; with_reducible exact H) | (have H2_ := (Option.bind_some _ _).symm.trans H; rw [hy257]; with_reducible exact H2_) | (have H2_ := (Option.bind_some _ _).symm.trans H; with_reducible exact H2_) | with_reducible exact H | (rw [hy257]; exact H) | exact H
 have Ny257 := zk hy257
 clear hy257
 replace H := Option.bind_eq_some_iff.mp H
 obtain ⟨t260, A10, H⟩ := H
 replace H : ((pl_Ints.f k t260 (([1, 2, 0, 3, 0] : List Int))).bind fun t266 => (if t266 = true then ((match_Fresh.f k y254 y257).bind fun t267 => ((pl_Ints.f k t267 (([3, 5] : List Int))).bind fun t273 => (if t273 = true then ((match_Gone.f k y257 y254).bind fun t274 => ((pl_Ints.f k t274 (([3, 5] : List Int))).bind fun t280 => (some t280))) else (some false)))) else (some false))) = some r := H
 have A1 := zk A10
 clear A10
 obtain ⟨y263, hy263⟩ : ∃ y_ : List Int, y_ = (([1, 2, 0, 3, 0] : List Int)) := ⟨_, rfl⟩
 replace H : ((pl_Ints.f k t260 y263).bind fun t266 => (if t266 = true then ((match_Fresh.f k y254 y257).bind fun t267 => ((pl_Ints.f k t267 (([3, 5] : List Int))).bind fun t273 => (if t273 = true then ((match_Gone.f k y257 y254).bind fun t274 => ((pl_Ints.f k t274 (([3, 5] : List Int))).bind fun t280 => (some t280))) else (some false)))) else (some false))) = some r := by first | (rw [hy263]; with_reducible exact H) | (have H2_ := (Option.bind_some _ _).symm.trans H; rw [hy263]; with_reducible exact H2_) | (have H2_ := (Option.bind_some _ _).symm.trans H; with_reducible exact H2_) | with_reducible exact H | (rw [hy263]; exact H) | exact H
 have Ny263 := zk hy263
 clear hy263
 replace H := Option.bind_eq_some_iff.mp H
 obtain ⟨t266, A20, H⟩ := H
 replace H : (if t266 = true then ((match_Fresh.f k y254 y257).bind fun t267 => ((pl_Ints.f k t267 (([3, 5] : List Int))).bind fun t273 => (if t273 = true then ((match_Gone.f k y257 y254).bind fun t274 => ((pl_Ints.f k t274 (([3, 5] : List Int))).bind fun t280 => (some t280))) else (some false)))) else (some false)) = some r := H
 have A2 := zk A20
 clear A20
 by_cases c3 : t266 = true
 ·
  subst c3
  have H1 : ((match_Fresh.f k y254 y257).bind fun t267 => ((pl_Ints.f k t267 (([3, 5] : List Int))).bind fun t273 => (if t273 = true then ((match_Gone.f k y257 y254).bind fun t274 => ((pl_Ints.f k t274 (([3, 5] : List Int))).bind fun t280 => (some t280))) else (some false)))) = some r := by rw [if_pos rfl] at H; exact H
  clear H; have H := H1; clear H1; replace H := Option.bind_eq_some_iff.mp H; obtain ⟨t267, A40, H⟩ := H; replace H : ((pl_Ints.f k t267 (([3, 5] : List Int))).bind fun t273 => (if t273 = true then ((match_Gone.f k y257 y254).bind fun t274 => ((pl_Ints.f k t274 (([3, 5] : List Int))).bind fun t280 => (some t280))) else (some false))) = some r := H; have A4 := zk A40; clear A40; obtain ⟨y270, hy270⟩ : ∃ y_ : List Int, y_ = (([3, 5] : List Int)) := ⟨_, rfl⟩
  replace H : ((pl_Ints.f k t267 y270).bind fun t273 => (if t273 = true then ((match_Gone.f k y257 y254).bind fun t274 => ((pl_Ints.f k t274 (([3, 5] : List Int))).bind fun t280 => (some t280))) else (some false))) = some r := by first | (rw [hy270]; with_reducible exact H) | (have H2_ := (Option.bind_some _ _).symm.trans H; rw [hy270]; with_reducible exact H2_) | (have H2_ := (Option.bind_some _ _).symm.trans H; with_reducible exact H2_) | with_reducible exact H | (rw [hy270]; exact H) | exact H
  have Ny270 := zk hy270; clear hy270; replace H := Option.bind_eq_some_iff.mp H; obtain ⟨t273, A50, H⟩ := H; replace H : (if t273 = true then ((match_Gone.f k y257 y254).bind fun t274 => ((pl_Ints.f k t274 (([3, 5] : List Int))).bind fun t280 => (some t280))) else (some false)) = some r := H; have A5 := zk A50; clear A50
  by_cases c6 : t273 = true
  ·
   subst c6
   have H1 : ((match_Gone.f k y257 y254).bind fun t274 => ((pl_Ints.f k t274 (([3, 5] : List Int))).bind fun t280 => (some t280))) = some r := by rw [if_pos rfl] at H; exact H
   clear H; have H := H1; clear H1; replace H := Option.bind_eq_some_iff.mp H; obtain ⟨t274, A70, H⟩ := H; replace H : ((pl_Ints.f k t274 (([3, 5] : List Int))).bind fun t280 => (some t280)) = some r := H; have A7 := zk A70; clear A70; obtain ⟨y277, hy277⟩ : ∃ y_ : List Int, y_ = (([3, 5] : List Int)) := ⟨_, rfl⟩
   replace H : ((pl_Ints.f k t274 y277).bind fun t280 => (some t280)) = some r := by first | (rw [hy277]; with_reducible exact H) | (have H2_ := (Option.bind_some _ _).symm.trans H; rw [hy277]; with_reducible exact H2_) | (have H2_ := (Option.bind_some _ _).symm.trans H; with_reducible exact H2_) | with_reducible exact H | (rw [hy277]; exact H) | exact H
   have Ny277 := zk hy277; clear hy277; replace H := Option.bind_eq_some_iff.mp H; obtain ⟨t280, A80, H⟩ := H; replace H : (some t280) = some r := H; have A8 := zk A80; clear A80; obtain rfl := Option.some.inj H
   go_enter Try.func7, Try.ntmps7
   go_wp2_with (first | ((with_reducible refine zgd (N := 6) rfl ?_); (try (refine zgg (by rfl) ?_; dsimp only)); refine Kd.S_lit k32 _ 32 ?hg (N := 6) ?hd (xs := ([(⟨0, 0, (⟨#[112]⟩ : ByteArray), (⟨#[]⟩ : ByteArray), (⟨#[]⟩ : ByteArray), ([] : List (S39))⟩ : S32), (⟨0, 1, (⟨#[108, 105]⟩ : ByteArray), (⟨#[]⟩ : ByteArray), (⟨#[]⟩ : ByteArray), ([] : List (S39))⟩ : S32), (⟨0, 1, (⟨#[108, 105]⟩ : ByteArray), (⟨#[]⟩ : ByteArray), (⟨#[]⟩ : ByteArray), ([] : List (S39))⟩ : S32)] : List (S32))) (inner := [.int .i64 0, .int .i64 0, .string (⟨#[112]⟩ : ByteArray), .string ⟨#[]⟩, .string ⟨#[]⟩, .slice none 0 0, .int .i64 0, .int .i64 1, .string (⟨#[108, 105]⟩ : ByteArray), .string ⟨#[]⟩, .string ⟨#[]⟩, .slice none 0 0, .int .i64 0, .int .i64 1, .string (⟨#[108, 105]⟩ : ByteArray), .string ⟨#[]⟩, .string ⟨#[]⟩, .slice none 0 0]) (ok := fun _ => True) (okp := fun _ => True) ?hr ?hp (fun _ hk => hk) trivial (Below.refl _ _) (Nat.le_refl _) (by simp) ?_; (case hd => rfl); (case hg => rfl); (case hr => go_simp; first | done | rfl); (case hp => exact (Reps.c6 (show Kd.M k32 _ _ _ (⟨0, 0, (⟨#[112]⟩ : ByteArray), (⟨#[]⟩ : ByteArray), (⟨#[]⟩ : ByteArray), ([] : List (S39))⟩ : S32) [.int .i64 0, .int .i64 0, .string (⟨#[112]⟩ : ByteArray), .string ⟨#[]⟩, .string ⟨#[]⟩, .slice none 0 0] from (k32_mkM _ _ _ (⟨0, 0, (⟨#[112]⟩ : ByteArray), (⟨#[]⟩ : ByteArray), (⟨#[]⟩ : ByteArray), ([] : List (S39))⟩ : S32) (Kd.R_nil _ _ _ _ _))) (Reps.c6 (show Kd.M k32 _ _ _ (⟨0, 1, (⟨#[108, 105]⟩ : ByteArray), (⟨#[]⟩ : ByteArray), (⟨#[]⟩ : ByteArray), ([] : List (S39))⟩ : S32) [.int .i64 0, .int .i64 1, .string (⟨#[108, 105]⟩ : ByteArray), .string ⟨#[]⟩, .string ⟨#[]⟩, .slice none 0 0] from (k32_mkM _ _ _ (⟨0, 1, (⟨#[108, 105]⟩ : ByteArray), (⟨#[]⟩ : ByteArray), (⟨#[]⟩ : ByteArray), ([] : List (S39))⟩ : S32) (Kd.R_nil _ _ _ _ _))) (Reps.c6 (show Kd.M k32 _ _ _ (⟨0, 1, (⟨#[108, 105]⟩ : ByteArray), (⟨#[]⟩ : ByteArray), (⟨#[]⟩ : ByteArray), ([] : List (S39))⟩ : S32) [.int .i64 0, .int .i64 1, .string (⟨#[108, 105]⟩ : ByteArray), .string ⟨#[]⟩, .string ⟨#[]⟩, .slice none 0 0] from (k32_mkM _ _ _ (⟨0, 1, (⟨#[108, 105]⟩ : ByteArray), (⟨#[]⟩ : ByteArray), (⟨#[]⟩ : ByteArray), ([] : List (S39))⟩ : S32) (Kd.R_nil _ _ _ _ _))) (Reps.none _ _))))); intro v255 w9 ho10 hb hg_ hnew_; clear hg_ hnew_; (first | rw [← Ny254.out] at ho10 | (simp only [Int.reduceToNat] at ho10; rw [← Ny254.out] at ho10)); have n0_ := zk (Kd.S_lower ho10 (zq (by with_reducible repeat first | exact HB.out | apply zA | apply zN | apply zD))); have n1_ := zk (zs (by with_reducible repeat first | exact HB.out | apply zA | apply zN | apply zD) hb); clear HB; have HO256 := n0_; have HB := n1_; clear n0_ n1_; clear hb ho10) | ((with_reducible refine zgd (N := 12) rfl ?_); (try (refine zgg (by rfl) ?_; dsimp only)); refine Kd.S_lit k32 _ 32 ?hg (N := 12) ?hd (xs := ([(⟨0, 0, (⟨#[112]⟩ : ByteArray), (⟨#[]⟩ : ByteArray), (⟨#[]⟩ : ByteArray), ([] : List (S39))⟩ : S32), (⟨0, 1, (⟨#[108, 105]⟩ : ByteArray), (⟨#[]⟩ : ByteArray), (⟨#[]⟩ : ByteArray), ([] : List (S39))⟩ : S32), (⟨0, 1, (⟨#[117, 108]⟩ : ByteArray), (⟨#[]⟩ : ByteArray), (⟨#[]⟩ : ByteArray), ([] : List (S39))⟩ : S32), (⟨0, 1, (⟨#[108, 105]⟩ : ByteArray), (⟨#[]⟩ : ByteArray), (⟨#[]⟩ : ByteArray), ([] : List (S39))⟩ : S32), (⟨0, 1, (⟨#[108, 105]⟩ : ByteArray), (⟨#[]⟩ : ByteArray), (⟨#[]⟩ : ByteArray), ([] : List (S39))⟩ : S32)] : List (S32))) (inner := [.int .i64 0, .int .i64 0, .string (⟨#[112]⟩ : ByteArray), .string ⟨#[]⟩, .string ⟨#[]⟩, .slice none 0 0, .int .i64 0, .int .i64 1, .string (⟨#[108, 105]⟩ : ByteArray), .string ⟨#[]⟩, .string ⟨#[]⟩, .slice none 0 0, .int .i64 0, .int .i64 1, .string (⟨#[117, 108]⟩ : ByteArray), .string ⟨#[]⟩, .string ⟨#[]⟩, .slice none 0 0, .int .i64 0, .int .i64 1, .string (⟨#[108, 105]⟩ : ByteArray), .string ⟨#[]⟩, .string ⟨#[]⟩, .slice none 0 0, .int .i64 0, .int .i64 1, .string (⟨#[108, 105]⟩ : ByteArray), .string ⟨#[]⟩, .string ⟨#[]⟩, .slice none 0 0]) (ok := fun _ => True) (okp := fun _ => True) ?hr ?hp (fun _ hk => hk) trivial (Below.refl _ _) (Nat.le_refl _) (by simp) ?_; (case hd => rfl); (case hg => rfl); (case hr => go_simp; first | done | rfl); (case hp => exact (Reps.c6 (show Kd.M k32 _ _ _ (⟨0, 0, (⟨#[112]⟩ : ByteArray), (⟨#[]⟩ : ByteArray), (⟨#[]⟩ : ByteArray), ([] : List (S39))⟩ : S32) [.int .i64 0, .int .i64 0, .string (⟨#[112]⟩ : ByteArray), .string ⟨#[]⟩, .string ⟨#[]⟩, .slice none 0 0] from (k32_mkM _ _ _ (⟨0, 0, (⟨#[112]⟩ : ByteArray), (⟨#[]⟩ : ByteArray), (⟨#[]⟩ : ByteArray), ([] : List (S39))⟩ : S32) (Kd.R_nil _ _ _ _ _))) (Reps.c6 (show Kd.M k32 _ _ _ (⟨0, 1, (⟨#[108, 105]⟩ : ByteArray), (⟨#[]⟩ : ByteArray), (⟨#[]⟩ : ByteArray), ([] : List (S39))⟩ : S32) [.int .i64 0, .int .i64 1, .string (⟨#[108, 105]⟩ : ByteArray), .string ⟨#[]⟩, .string ⟨#[]⟩, .slice none 0 0] from (k32_mkM _ _ _ (⟨0, 1, (⟨#[108, 105]⟩ : ByteArray), (⟨#[]⟩ : ByteArray), (⟨#[]⟩ : ByteArray), ([] : List (S39))⟩ : S32) (Kd.R_nil _ _ _ _ _))) (Reps.c6 (show Kd.M k32 _ _ _ (⟨0, 1, (⟨#[117, 108]⟩ : ByteArray), (⟨#[]⟩ : ByteArray), (⟨#[]⟩ : ByteArray), ([] : List (S39))⟩ : S32) [.int .i64 0, .int .i64 1, .string (⟨#[117, 108]⟩ : ByteArray), .string ⟨#[]⟩, .string ⟨#[]⟩, .slice none 0 0] from (k32_mkM _ _ _ (⟨0, 1, (⟨#[117, 108]⟩ : ByteArray), (⟨#[]⟩ : ByteArray), (⟨#[]⟩ : ByteArray), ([] : List (S39))⟩ : S32) (Kd.R_nil _ _ _ _ _))) (Reps.c6 (show Kd.M k32 _ _ _ (⟨0, 1, (⟨#[108, 105]⟩ : ByteArray), (⟨#[]⟩ : ByteArray), (⟨#[]⟩ : ByteArray), ([] : List (S39))⟩ : S32) [.int .i64 0, .int .i64 1, .string (⟨#[108, 105]⟩ : ByteArray), .string ⟨#[]⟩, .string ⟨#[]⟩, .slice none 0 0] from (k32_mkM _ _ _ (⟨0, 1, (⟨#[108, 105]⟩ : ByteArray), (⟨#[]⟩ : ByteArray), (⟨#[]⟩ : ByteArray), ([] : List (S39))⟩ : S32) (Kd.R_nil _ _ _ _ _))) (Reps.c6 (show Kd.M k32 _ _ _ (⟨0, 1, (⟨#[108, 105]⟩ : ByteArray), (⟨#[]⟩ : ByteArray), (⟨#[]⟩ : ByteArray), ([] : List (S39))⟩ : S32) [.int .i64 0, .int .i64 1, .string (⟨#[108, 105]⟩ : ByteArray), .string ⟨#[]⟩, .string ⟨#[]⟩, .slice none 0 0] from (k32_mkM _ _ _ (⟨0, 1, (⟨#[108, 105]⟩ : ByteArray), (⟨#[]⟩ : ByteArray), (⟨#[]⟩ : ByteArray), ([] : List (S39))⟩ : S32) (Kd.R_nil _ _ _ _ _))) (Reps.none _ _))))))); intro v258 w11 ho12 hb hg_ hnew_; clear hg_ hnew_; (first | rw [← Ny257.out] at ho12 | (simp only [Int.reduceToNat] at ho12; rw [← Ny257.out] at ho12)); have n0_ := zk (Kd.S_elder' (by (with_reducible repeat (first | apply Kd.S_alloc | apply Kd.S_drewN | apply Kd.S_drew)); exact HO256.out) (Kd.S_base ho12) hb); have n1_ := zk (Kd.S_lower (Kd.S_new' ho12 (Kd.S_lt (by (with_reducible repeat (first | apply Kd.S_alloc | apply Kd.S_drewN | apply Kd.S_drew)); exact HO256.out))) (zq (by with_reducible repeat first | exact HB.out | apply zA | apply zN | apply zD))); have n2_ := zk (zs (by with_reducible repeat first | exact HB.out | apply zA | apply zN | apply zD) hb); clear HO256; clear HB; have HO256 := n0_; have HO259 := n1_; have HB := n2_; clear n0_ n1_ n2_; clear hb ho12; obtain ⟨Ao13, co13, eo13⟩ := Kd.S_slice HO256.out; subst eo13; obtain ⟨Ao14, co14, eo14⟩ := Kd.S_slice HO259.out; subst eo14) | ((with_reducible refine zgk (f := 8) rfl ?_); refine zgl (some 15) rfl rfl Try.func8 (by kernel_rfl) rfl #[.slice Ao13 y254.length co13, .slice Ao14 y257.length co14] rfl (by (try simp only [List.map_toArray, List.map_cons, List.map_nil]); first | done | rfl | (simp only [List.length_drop, List.length_take]; rfl)) ?_; (with_reducible refine (match_Pairs.calls k _ _ y254 _ _ y257 t260 _ ?side1 ?side2 ?side3 ?side4 A1.out).mono ?_); (case side1 => repeat (first | exact (Kd.S_reads' HO256.out).2.2 | (with_reducible refine Kd.C_alloc ?_ _) | (with_reducible refine Kd.C_drewN ?_ _) | (with_reducible refine Kd.C_drew ?_))); (case side2 => exact (Kd.S_reads' HO256.out).2.1); (case side3 => repeat (first | exact (Kd.S_reads' HO259.out).2.2 | (with_reducible refine Kd.C_alloc ?_ _) | (with_reducible refine Kd.C_drewN ?_ _) | (with_reducible refine Kd.C_drew ?_))); (case side4 => exact (Kd.S_reads' HO259.out).2.1); rintro e w15 ⟨v261, rfl, ho0, hb⟩; refine ⟨_, rfl, ?_⟩; have n0_ := zk (Kd.S_below (by (with_reducible repeat (first | apply Kd.S_alloc | apply Kd.S_drewN | apply Kd.S_drew)); exact HO256.out) hb); have n1_ := zk (Kd.S_below (by (with_reducible repeat (first | apply Kd.S_alloc | apply Kd.S_drewN | apply Kd.S_drew)); exact HO259.out) hb); have n2_ := zk (Kd.R_lower ho0 (zq (by with_reducible repeat first | exact HB.out | apply zA | apply zN | apply zD))); have n3_ := zk (zs (by with_reducible repeat first | exact HB.out | apply zA | apply zN | apply zD) hb); clear HO256; clear HO259; clear HB; have HO256 := n0_; have HO259 := n1_; have HO262 := n2_; have HB := n3_; clear n0_ n1_ n2_ n3_; (try clear hb); (try clear hb2); (try clear hk); (try clear hi); (try clear ho0)) | ((with_reducible refine zgd (N := 16) rfl ?_); (try (refine zgg (by rfl) ?_; dsimp only)); refine Kd.R_lit (Kd.int .i64) _ 3 ?hg (N := 16) ?hd (xs := ([1, 2, 0, 3, 0] : List Int)) (inner := [.int .i64 1, .int .i64 2, .int .i64 0, .int .i64 3, .int .i64 0]) (ok := fun _ => True) (okp := fun _ => True) ?hr ?hp (fun _ hk => hk) trivial (Below.refl _ _) (Nat.le_refl _) (by simp) ?_; (case hd => rfl); (case hg => rfl); (case hr => go_simp; first | done | rfl); (case hp => exact (Reps.one (show Kd.M (Kd.int .i64) _ _ _ 1 [.int .i64 1] from rfl) (Reps.one (show Kd.M (Kd.int .i64) _ _ _ 2 [.int .i64 2] from rfl) (Reps.one (show Kd.M (Kd.int .i64) _ _ _ 0 [.int .i64 0] from rfl) (Reps.one (show Kd.M (Kd.int .i64) _ _ _ 3 [.int .i64 3] from rfl) (Reps.one (show Kd.M (Kd.int .i64) _ _ _ 0 [.int .i64 0] from rfl) (Reps.none _ _))))))); intro v264 w16 ho17 hb hg_ hnew_; clear hg_ hnew_; (first | rw [← Ny263.out] at ho17 | (simp only [Int.reduceToNat] at ho17; rw [← Ny263.out] at ho17)); have n0_ := zk (Kd.S_below (by (with_reducible repeat (first | apply Kd.S_alloc | apply Kd.S_drewN | apply Kd.S_drew)); exact HO256.out) hb); have n1_ := zk (Kd.S_below (by (with_reducible repeat (first | apply Kd.S_alloc | apply Kd.S_drewN | apply Kd.S_drew)); exact HO259.out) hb); have n2_ := zk (Kd.R_elder' (by (with_reducible repeat (first | apply Kd.R_alloc | apply Kd.R_drewN | apply Kd.R_drew)); exact HO262.out) (Kd.R_base ho17) hb); have n3_ := zk (Kd.R_lower (Kd.R_new' ho17 (Kd.R_lt (by (with_reducible repeat (first | apply Kd.R_alloc | apply Kd.R_drewN | apply Kd.R_drew)); exact HO262.out))) (zq (by with_reducible repeat first | exact HB.out | apply zA | apply zN | apply zD))); have n4_ := zk (zs (by with_reducible repeat first | exact HB.out | apply zA | apply zN | apply zD) hb); clear HO256; clear HO259; clear HO262; clear HB; have HO256 := n0_; have HO259 := n1_; have HO262 := n2_; have HO265 := n3_; have HB := n4_; clear n0_ n1_ n2_ n3_ n4_; clear hb ho17; obtain ⟨Ao18, co18, eo18⟩ := Kd.R_slice HO262.out; subst eo18; obtain ⟨Ao19, co19, eo19⟩ := Kd.R_slice HO265.out; subst eo19) | ((with_reducible refine zgk (f := 12) rfl ?_); refine zgl (some 17) rfl rfl Try.func12 (by kernel_rfl) rfl #[.slice Ao18 t260.length co18, .slice Ao19 y263.length co19] rfl (by (try simp only [List.map_toArray, List.map_cons, List.map_nil]); first | done | rfl | (simp only [List.length_drop, List.length_take]; rfl)) ?_; (with_reducible refine (pl_Ints.calls k _ _ t260 _ _ y263 true _ ?side1 ?side2 ?side3 ?side4 A2.out).mono ?_); (case side1 => repeat (first | exact (Kd.R_reads' HO262.out).2.2 | (with_reducible refine Kd.C_alloc ?_ _) | (with_reducible refine Kd.C_drewN ?_ _) | (with_reducible refine Kd.C_drew ?_))); (case side2 => exact (Kd.R_reads' HO262.out).2.1); (case side3 => repeat (first | exact (Kd.R_reads' HO265.out).2.2 | (with_reducible refine Kd.C_alloc ?_ _) | (with_reducible refine Kd.C_drewN ?_ _) | (with_reducible refine Kd.C_drew ?_))); (case side4 => exact (Kd.R_reads' HO265.out).2.1); rintro e w' ⟨rfl, ⟨nd, rfl⟩⟩; refine ⟨_, rfl, ?_⟩) | (go_at_call 10; (with_reducible refine (match_Fresh.calls k _ _ y254 _ _ y257 t267 _ ?side1 ?side2 ?side3 ?side4 A4.out).mono ?_); (case side1 => repeat (first | exact (Kd.S_reads' HO256.out).2.2 | (with_reducible refine Kd.C_alloc ?_ _) | (with_reducible refine Kd.C_drewN ?_ _) | (with_reducible refine Kd.C_drew ?_))); (case side2 => exact (Kd.S_reads' HO256.out).2.1); (case side3 => repeat (first | exact (Kd.S_reads' HO259.out).2.2 | (with_reducible refine Kd.C_alloc ?_ _) | (with_reducible refine Kd.C_drewN ?_ _) | (with_reducible refine Kd.C_drew ?_))); (case side4 => exact (Kd.S_reads' HO259.out).2.1); rintro e w20 ⟨v268, rfl, ho0, hb⟩; have n0_ := zk (Kd.S_below (by (with_reducible repeat (first | apply Kd.S_alloc | apply Kd.S_drewN | apply Kd.S_drew)); exact HO256.out) hb); have n1_ := zk (Kd.S_below (by (with_reducible repeat (first | apply Kd.S_alloc | apply Kd.S_drewN | apply Kd.S_drew)); exact HO259.out) hb); have n2_ := zk (Kd.R_elder' (by (with_reducible repeat (first | apply Kd.R_alloc | apply Kd.R_drewN | apply Kd.R_drew)); exact HO262.out) (Kd.R_base ho0) hb); have n3_ := zk (Kd.R_elder' (by (with_reducible repeat (first | apply Kd.R_alloc | apply Kd.R_drewN | apply Kd.R_drew)); exact HO265.out) (Kd.R_base ho0) hb); have n4_ := zk (Kd.R_lower (Kd.R_new' (Kd.R_new' ho0 (Kd.R_lt (by (with_reducible repeat (first | apply Kd.R_alloc | apply Kd.R_drewN | apply Kd.R_drew)); exact HO262.out))) (Kd.R_lt (by (with_reducible repeat (first | apply Kd.R_alloc | apply Kd.R_drewN | apply Kd.R_drew)); exact HO265.out))) (zq (by with_reducible repeat first | exact HB.out | apply zA | apply zN | apply zD))); have n5_ := zk (zs (by with_reducible repeat first | exact HB.out | apply zA | apply zN | apply zD) hb); clear HO256; clear HO259; clear HO262; clear HO265; clear HB; have HO256 := n0_; have HO259 := n1_; have HO262 := n2_; have HO265 := n3_; have HO269 := n4_; have HB := n5_; clear n0_ n1_ n2_ n3_ n4_ n5_; (try clear hb); (try clear hb2); (try clear hk); (try clear hi); (try clear ho0)) | ((with_reducible refine zgd (N := 22) rfl ?_); (try (refine zgg (by rfl) ?_; dsimp only)); refine Kd.R_lit (Kd.int .i64) _ 3 ?hg (N := 22) ?hd (xs := ([3, 5] : List Int)) (inner := [.int .i64 3, .int .i64 5]) (ok := fun _ => True) (okp := fun _ => True) ?hr ?hp (fun _ hk => hk) trivial (Below.refl _ _) (Nat.le_refl _) (by simp) ?_; (case hd => rfl); (case hg => rfl); (case hr => go_simp; first | done | rfl); (case hp => exact (Reps.one (show Kd.M (Kd.int .i64) _ _ _ 3 [.int .i64 3] from rfl) (Reps.one (show Kd.M (Kd.int .i64) _ _ _ 5 [.int .i64 5] from rfl) (Reps.none _ _)))); intro v271 w21 ho22 hb hg_ hnew_; clear hg_ hnew_; (first | rw [← Ny270.out] at ho22 | (simp only [Int.reduceToNat] at ho22; rw [← Ny270.out] at ho22)); have n0_ := zk (Kd.S_below (by (with_reducible repeat (first | apply Kd.S_alloc | apply Kd.S_drewN | apply Kd.S_drew)); exact HO256.out) hb); have n1_ := zk (Kd.S_below (by (with_reducible repeat (first | apply Kd.S_alloc | apply Kd.S_drewN | apply Kd.S_drew)); exact HO259.out) hb); have n2_ := zk (Kd.R_elder' (by (with_reducible repeat (first | apply Kd.R_alloc | apply Kd.R_drewN | apply Kd.R_drew)); exact HO262.out) (Kd.R_base ho22) hb); have n3_ := zk (Kd.R_elder' (by (with_reducible repeat (first | apply Kd.R_alloc | apply Kd.R_drewN | apply Kd.R_drew)); exact HO265.out) (Kd.R_base ho22) hb); have n4_ := zk (Kd.R_elder' (by (with_reducible repeat (first | apply Kd.R_alloc | apply Kd.R_drewN | apply Kd.R_drew)); exact HO269.out) (Kd.R_base ho22) hb); have n5_ := zk (Kd.R_lower (Kd.R_new' (Kd.R_new' (Kd.R_new' ho22 (Kd.R_lt (by (with_reducible repeat (first | apply Kd.R_alloc | apply Kd.R_drewN | apply Kd.R_drew)); exact HO262.out))) (Kd.R_lt (by (with_reducible repeat (first | apply Kd.R_alloc | apply Kd.R_drewN | apply Kd.R_drew)); exact HO265.out))) (Kd.R_lt (by (with_reducible repeat (first | apply Kd.R_alloc | apply Kd.R_drewN | apply Kd.R_drew)); exact HO269.out))) (zq (by with_reducible repeat first | exact HB.out | apply zA | apply zN | apply zD))); have n6_ := zk (zs (by with_reducible repeat first | exact HB.out | apply zA | apply zN | apply zD) hb); clear HO256; clear HO259; clear HO262; clear HO265; clear HO269; clear HB; have HO256 := n0_; have HO259 := n1_; have HO262 := n2_; have HO265 := n3_; have HO269 := n4_; have HO272 := n5_; have HB := n6_; clear n0_ n1_ n2_ n3_ n4_ n5_ n6_; clear hb ho22; obtain ⟨Ao23, co23, eo23⟩ := Kd.R_slice HO269.out; subst eo23; obtain ⟨Ao24, co24, eo24⟩ := Kd.R_slice HO272.out; subst eo24) | (go_at_call 12; (with_reducible refine (pl_Ints.calls k _ _ t267 _ _ y270 true _ ?side1 ?side2 ?side3 ?side4 A5.out).mono ?_); (case side1 => repeat (first | exact (Kd.R_reads' HO269.out).2.2 | (with_reducible refine Kd.C_alloc ?_ _) | (with_reducible refine Kd.C_drewN ?_ _) | (with_reducible refine Kd.C_drew ?_))); (case side2 => exact (Kd.R_reads' HO269.out).2.1); (case side3 => repeat (first | exact (Kd.R_reads' HO272.out).2.2 | (with_reducible refine Kd.C_alloc ?_ _) | (with_reducible refine Kd.C_drewN ?_ _) | (with_reducible refine Kd.C_drew ?_))); (case side4 => exact (Kd.R_reads' HO272.out).2.1); rintro e w' ⟨rfl, ⟨nd, rfl⟩⟩) | (go_at_call 9; (with_reducible refine (match_Gone.calls k _ _ y257 _ _ y254 t274 _ ?side1 ?side2 ?side3 ?side4 A7.out).mono ?_); (case side1 => repeat (first | exact (Kd.S_reads' HO259.out).2.2 | (with_reducible refine Kd.C_alloc ?_ _) | (with_reducible refine Kd.C_drewN ?_ _) | (with_reducible refine Kd.C_drew ?_))); (case side2 => exact (Kd.S_reads' HO259.out).2.1); (case side3 => repeat (first | exact (Kd.S_reads' HO256.out).2.2 | (with_reducible refine Kd.C_alloc ?_ _) | (with_reducible refine Kd.C_drewN ?_ _) | (with_reducible refine Kd.C_drew ?_))); (case side4 => exact (Kd.S_reads' HO256.out).2.1); rintro e w25 ⟨v275, rfl, ho0, hb⟩; have n0_ := zk (Kd.S_below (by (with_reducible repeat (first | apply Kd.S_alloc | apply Kd.S_drewN | apply Kd.S_drew)); exact HO256.out) hb); have n1_ := zk (Kd.S_below (by (with_reducible repeat (first | apply Kd.S_alloc | apply Kd.S_drewN | apply Kd.S_drew)); exact HO259.out) hb); have n2_ := zk (Kd.R_elder' (by (with_reducible repeat (first | apply Kd.R_alloc | apply Kd.R_drewN | apply Kd.R_drew)); exact HO262.out) (Kd.R_base ho0) hb); have n3_ := zk (Kd.R_elder' (by (with_reducible repeat (first | apply Kd.R_alloc | apply Kd.R_drewN | apply Kd.R_drew)); exact HO265.out) (Kd.R_base ho0) hb); have n4_ := zk (Kd.R_elder' (by (with_reducible repeat (first | apply Kd.R_alloc | apply Kd.R_drewN | apply Kd.R_drew)); exact HO269.out) (Kd.R_base ho0) hb); have n5_ := zk (Kd.R_elder' (by (with_reducible repeat (first | apply Kd.R_alloc | apply Kd.R_drewN | apply Kd.R_drew)); exact HO272.out) (Kd.R_base ho0) hb); have n6_ := zk (Kd.R_lower (Kd.R_new' (Kd.R_new' (Kd.R_new' (Kd.R_new' ho0 (Kd.R_lt (by (with_reducible repeat (first | apply Kd.R_alloc | apply Kd.R_drewN | apply Kd.R_drew)); exact HO262.out))) (Kd.R_lt (by (with_reducible repeat (first | apply Kd.R_alloc | apply Kd.R_drewN | apply Kd.R_drew)); exact HO265.out))) (Kd.R_lt (by (with_reducible repeat (first | apply Kd.R_alloc | apply Kd.R_drewN | apply Kd.R_drew)); exact HO269.out))) (Kd.R_lt (by (with_reducible repeat (first | apply Kd.R_alloc | apply Kd.R_drewN | apply Kd.R_drew)); exact HO272.out))) (zq (by with_reducible repeat first | exact HB.out | apply zA | apply zN | apply zD))); have n7_ := zk (zs (by with_reducible repeat first | exact HB.out | apply zA | apply zN | apply zD) hb); clear HO256; clear HO259; clear HO262; clear HO265; clear HO269; clear HO272; clear HB; have HO256 := n0_; have HO259 := n1_; have HO262 := n2_; have HO265 := n3_; have HO269 := n4_; have HO272 := n5_; have HO276 := n6_; have HB := n7_; clear n0_ n1_ n2_ n3_ n4_ n5_ n6_ n7_; (try clear hb); (try clear hb2); (try clear hk); (try clear hi); (try clear ho0)) | ((with_reducible refine zgd (N := 29) rfl ?_); (try (refine zgg (by rfl) ?_; dsimp only)); refine Kd.R_lit (Kd.int .i64) _ 3 ?hg (N := 29) ?hd (xs := ([3, 5] : List Int)) (inner := [.int .i64 3, .int .i64 5]) (ok := fun _ => True) (okp := fun _ => True) ?hr ?hp (fun _ hk => hk) trivial (Below.refl _ _) (Nat.le_refl _) (by simp) ?_; (case hd => rfl); (case hg => rfl); (case hr => go_simp; first | done | rfl); (case hp => exact (Reps.one (show Kd.M (Kd.int .i64) _ _ _ 3 [.int .i64 3] from rfl) (Reps.one (show Kd.M (Kd.int .i64) _ _ _ 5 [.int .i64 5] from rfl) (Reps.none _ _)))); intro v278 w26 ho27 hb hg_ hnew_; clear hg_ hnew_; (first | rw [← Ny277.out] at ho27 | (simp only [Int.reduceToNat] at ho27; rw [← Ny277.out] at ho27)); have n0_ := zk (Kd.S_below (by (with_reducible repeat (first | apply Kd.S_alloc | apply Kd.S_drewN | apply Kd.S_drew)); exact HO256.out) hb); have n1_ := zk (Kd.S_below (by (with_reducible repeat (first | apply Kd.S_alloc | apply Kd.S_drewN | apply Kd.S_drew)); exact HO259.out) hb); have n2_ := zk (Kd.R_elder' (by (with_reducible repeat (first | apply Kd.R_alloc | apply Kd.R_drewN | apply Kd.R_drew)); exact HO262.out) (Kd.R_base ho27) hb); have n3_ := zk (Kd.R_elder' (by (with_reducible repeat (first | apply Kd.R_alloc | apply Kd.R_drewN | apply Kd.R_drew)); exact HO265.out) (Kd.R_base ho27) hb); have n4_ := zk (Kd.R_elder' (by (with_reducible repeat (first | apply Kd.R_alloc | apply Kd.R_drewN | apply Kd.R_drew)); exact HO269.out) (Kd.R_base ho27) hb); have n5_ := zk (Kd.R_elder' (by (with_reducible repeat (first | apply Kd.R_alloc | apply Kd.R_drewN | apply Kd.R_drew)); exact HO272.out) (Kd.R_base ho27) hb); have n6_ := zk (Kd.R_elder' (by (with_reducible repeat (first | apply Kd.R_alloc | apply Kd.R_drewN | apply Kd.R_drew)); exact HO276.out) (Kd.R_base ho27) hb); have n7_ := zk (Kd.R_lower (Kd.R_new' (Kd.R_new' (Kd.R_new' (Kd.R_new' (Kd.R_new' ho27 (Kd.R_lt (by (with_reducible repeat (first | apply Kd.R_alloc | apply Kd.R_drewN | apply Kd.R_drew)); exact HO262.out))) (Kd.R_lt (by (with_reducible repeat (first | apply Kd.R_alloc | apply Kd.R_drewN | apply Kd.R_drew)); exact HO265.out))) (Kd.R_lt (by (with_reducible repeat (first | apply Kd.R_alloc | apply Kd.R_drewN | apply Kd.R_drew)); exact HO269.out))) (Kd.R_lt (by (with_reducible repeat (first | apply Kd.R_alloc | apply Kd.R_drewN | apply Kd.R_drew)); exact HO272.out))) (Kd.R_lt (by (with_reducible repeat (first | apply Kd.R_alloc | apply Kd.R_drewN | apply Kd.R_drew)); exact HO276.out))) (zq (by with_reducible repeat first | exact HB.out | apply zA | apply zN | apply zD))); have n8_ := zk (zs (by with_reducible repeat first | exact HB.out | apply zA | apply zN | apply zD) hb); clear HO256; clear HO259; clear HO262; clear HO265; clear HO269; clear HO272; clear HO276; clear HB; have HO256 := n0_; have HO259 := n1_; have HO262 := n2_; have HO265 := n3_; have HO269 := n4_; have HO272 := n5_; have HO276 := n6_; have HO279 := n7_; have HB := n8_; clear n0_ n1_ n2_ n3_ n4_ n5_ n6_ n7_ n8_; clear hb ho27; obtain ⟨Ao28, co28, eo28⟩ := Kd.R_slice HO276.out; subst eo28; obtain ⟨Ao29, co29, eo29⟩ := Kd.R_slice HO279.out; subst eo29) | (go_at_call 12; (with_reducible refine (pl_Ints.calls k _ _ t274 _ _ y277 t280 _ ?side1 ?side2 ?side3 ?side4 A8.out).mono ?_); (case side1 => repeat (first | exact (Kd.R_reads' HO276.out).2.2 | (with_reducible refine Kd.C_alloc ?_ _) | (with_reducible refine Kd.C_drewN ?_ _) | (with_reducible refine Kd.C_drew ?_))); (case side2 => exact (Kd.R_reads' HO276.out).2.1); (case side3 => repeat (first | exact (Kd.R_reads' HO279.out).2.2 | (with_reducible refine Kd.C_alloc ?_ _) | (with_reducible refine Kd.C_drewN ?_ _) | (with_reducible refine Kd.C_drew ?_))); (case side4 => exact (Kd.R_reads' HO279.out).2.1); rintro e w' ⟨rfl, ⟨nd, rfl⟩⟩))
   go_ret; exact ⟨by first | rfl | (simp [wN, wS] <;> rfl) | (simp [*, wN, wS] <;> rfl), by with_reducible repeat first | exact HB.out | apply zA | apply zN | apply zD⟩
  ·
   replace c6 := Bool.eq_false_iff.mpr c6; subst c6
   have H1 : (some false) = some r := by rw [if_neg (show ¬ (false = true) by decide)] at H; exact H
   clear H; have H := H1; clear H1; exact absurd ((Option.some.inj H).trans HR_.out) (by decide)
 ·
  replace c3 := Bool.eq_false_iff.mpr c3; subst c3
  have H1 : (some false) = some r := by rw [if_neg (show ¬ (false = true) by decide)] at H; exact H
  clear H; have H := H1; clear H1; exact absurd ((Option.some.inj H).trans HR_.out) (by decide)
def r13_Above.l0 : Nat → List (S32) → Int → Int → Option (Bool)
  | 0, _, _, _ => none
  | k + 1, x0, x2, x7 => if x7 > 0 then (if x7 = x2 then (some true) else (if 0 ≤ (wrap64 (x7 - 1)) then (if (wrap64 (x7 - 1)) < (x0.length : Int) then (r13_Above.l0 k x0 x2 ((rd_T32 x0 (wrap64 (x7 - 1))).f1)) else (none)) else (none))) else (some false)
def r13_Above.f (k : Nat) (l0 : List (S32)) (a1 : Int) (a2 : Int) : Option (Bool) := r13_Above.l0 k l0 a2 a1
set_option maxHeartbeats 8000000 in
set_option maxRecDepth 100000 in
theorem r13_Above.calls (k : Nat) (A0 : Option Addr) (c0 : Nat) (l0 : List (S32)) (a1 : Int) (a2 : Int) (r : Bool) (w : World) (hr0 : Kd.C k32 w A0 l0.length l0) (hc0 : l0.length ≤ c0) (h : r13_Above.f k l0 a1 a2 = some r) :
    Calls Try.prog 33 #[.slice A0 l0.length c0, .int .i64 a1, .int .i64 a2] w fun e w' => e = .returned (.bool r) ∧ Drawn0 w w' := by
  have HR0 := zk hr0; have HC0 := zk hc0; clear hr0 hc0; have H : (r13_Above.l0 k l0 a2 a1) = some r := h; clear h; have H' := zk H; clear H
  go_enter Try.func33, Try.ntmps33
  go_wp2
  go_loopg [7] k (fun kq v7 w' => ∃ (x7_1 : Int), v7 = .int .i64 x7_1 ∧ Aside0 (r13_Above.l0 kq l0 a2 x7_1 = some r) ∧ Aside0 (kq ≤ k) ∧ Drawn0 w w')
  case atStart => exact ⟨(a1), (by first | rfl | (simp; done) | (simp [*]; done)), H', ⟨Nat.le_refl _⟩, by repeat (first | exact Drawn0.refl _ | apply Drawn0.step)⟩
  case round =>
    clear H'; (try clear p2); (try clear c3); obtain ⟨x7_1, rfl, HA, HK1, ⟨m1, rfl⟩⟩ := hrel
    cases gk with
    | zero => exact absurd HA.out (by simp [r13_Above.l0])
    | succ k1 =>
      have H := HA.out; clear HA; simp only [r13_Above.l0] at H
      by_cases c4 : x7_1 > 0
      · rw [if_pos c4] at H
        have c4b0 : decide (0 < x7_1) = true := decide_eq_true c4
        clear c4
        by_cases c5 : x7_1 = a2
        · rw [if_pos c5] at H
          have c5b0 : (x7_1 == a2) = true := beq_iff_eq.mpr c5
          have c5b1 : (x7_1 != a2) = false := bne_eq_false_iff_eq.mpr c5
          clear c5
          obtain rfl := Option.some.inj H
          go_wp2
          go_ret
          exact ⟨by first | rfl | (simp; done) | (simp [*]; done), by repeat (first | exact Drawn0.refl _ | apply Drawn0.step)⟩
        · rw [if_neg c5] at H
          have c5b0 : (x7_1 == a2) = false := beq_eq_false_iff_ne.mpr c5
          have c5b1 : (x7_1 != a2) = true := bne_iff_ne.mpr c5
          obtain ⟨ji6, hji6⟩ : ∃ j_ : Int, (wrap64 (x7_1 - 1)) = j_ := ⟨_, rfl⟩
          replace H : (if 0 ≤ (ji6) then (if (ji6) < (l0.length : Int) then (r13_Above.l0 k1 l0 a2 ((rd_T32 l0 (ji6)).f1)) else (none)) else (none)) = some r := by first | (rw [hji6] at H; exact H) | (simp only [hji6] at H ⊢; exact H)
          have hji6w : (IntKind.i64.wrap (x7_1 - 1)) = ji6 := (i64_w _).trans hji6
          by_cases c7 : 0 ≤ (ji6)
          · rw [if_pos c7] at H
            have c7b0 : decide (0 ≤ (ji6)) = true := decide_eq_true c7
            clear c7
            by_cases c8 : (ji6) < (l0.length : Int)
            · rw [if_pos c8] at H
              have c8b0 : decide ((ji6) < (l0.length : Int)) = true := decide_eq_true c8
              clear c8
              have H' := zk H
              clear H
              have p281 : 0 ≤ ((ji6) : Int) := zo (by assumption)
              have q281 : (ji6) < (l0.length : Int) := zo (by assumption)
              obtain ⟨ad281, A281_5, c281_5, e281, hx281_0, hx281_1, hx281_2, hx281_3, hx281_4, hx281_5, hl281_5, hi281_5⟩ := at_T32 HR0.out (ji6) p281 q281
              cases e281
              have HR281_5 := zk hi281_5
              have HC281_5 := zk hl281_5
              clear hi281_5 hl281_5
              replace p281 := eq_true p281
              replace q281 := eq_true q281
              go_wp2
              go_roundg k1
              case measure => have := HK1.out; omega
              case rel => exact ⟨((rd_T32 l0 (ji6)).f1), (by first | rfl | (simp; done) | (simp only [← hji6] <;> (first | rfl | simp)) | (simp [*]; done)), H', ⟨by have := HK1.out; omega⟩, by repeat (first | exact Drawn0.refl _ | apply Drawn0.step)⟩
            · rw [if_neg c8] at H
              exact absurd H (by simp)
          · rw [if_neg c7] at H
            exact absurd H (by simp)
      · rw [if_neg c4] at H
        have c4b0 : decide (0 < x7_1) = false := decide_eq_false c4; clear c4; obtain rfl := Option.some.inj H; go_wp2; go_ret; exact ⟨by first | rfl | (simp; done) | (simp [*]; done), by repeat (first | exact Drawn0.refl _ | apply Drawn0.step)⟩
def r13_Formed.l0 : Nat → List (S32) → Int → Int → Option (Bool)
 | 0, _, _, _ => none
 | k + 1, x0, x5, x6 => if x6 < x5 then (if x6 = 0 then (if 0 ≤ x6 then (if x6 < (x0.length : Int) then (if ((rd_T32 x0 x6).f1) = 0 then (if x6 > 0 then (if ((rd_T32 x0 x6).f1) < 1 then (some false) else ((r13_Above.f k x0 x6 ((rd_T32 x0 x6).f1)).bind fun t285 => (if t285 = true then (r13_Formed.l0 k x0 x5 (wrap64 (x6 + 1))) else (some false)))) else (r13_Formed.l0 k x0 x5 (wrap64 (x6 + 1)))) else (some false)) else (none)) else (none)) else (if x6 > 0 then (if 0 ≤ x6 then (if x6 < (x0.length : Int) then (if ((rd_T32 x0 x6).f1) < 1 then (some false) else ((r13_Above.f k x0 x6 ((rd_T32 x0 x6).f1)).bind fun t288 => (if t288 = true then (r13_Formed.l0 k x0 x5 (wrap64 (x6 + 1))) else (some false)))) else (none)) else (none)) else (r13_Formed.l0 k x0 x5 (wrap64 (x6 + 1))))) else (some true)
def r13_Formed.f (k : Nat) (l0 : List (S32)) : Option (Bool) := r13_Formed.l0 k l0 (l0.length : Int) 0
set_option maxHeartbeats 8000000 in
set_option maxRecDepth 100000 in
theorem r13_Formed.calls (k : Nat) (A0 : Option Addr) (c0 : Nat) (l0 : List (S32)) (r : Bool) (w : World) (hr0 : Kd.C k32 w A0 l0.length l0) (hc0 : l0.length ≤ c0) (h : r13_Formed.f k l0 = some r) :
  Calls Try.prog 26 #[.slice A0 l0.length c0] w fun e w' => e = .returned (.bool r) ∧ Drawn0 w w' := by
 have HR0 := zk hr0
 have HC0 := zk hc0
 clear hr0 hc0
 have H : (r13_Formed.l0 k l0 (l0.length : Int) 0) = some r := h
 clear h
 have H' := zk H
 clear H
 go_enter Try.func26, Try.ntmps26
 go_wp2
 go_loopg [6] k (fun kq v6 w' => ∃ (x6_1 : Int), v6 = .int .i64 x6_1 ∧ Aside0 (r13_Formed.l0 kq l0 (l0.length : Int) x6_1 = some r) ∧ Aside0 (kq ≤ k) ∧ Drawn0 w w')
 case atStart => exact ⟨(0), (by first | rfl | (simp; done) | (simp [*]; done)), H', ⟨Nat.le_refl _⟩, by repeat (first | exact Drawn0.refl _ | apply Drawn0.step)⟩
 case round =>
  clear H'; obtain ⟨x6_1, rfl, HA, HK1, ⟨m1, rfl⟩⟩ := hrel
  cases gk with
  | zero => exact absurd HA.out (by simp [r13_Formed.l0])
  | succ k1 =>
   have H := HA.out; clear HA; simp only [r13_Formed.l0] at H
   by_cases c2 : x6_1 < (l0.length : Int)
   ·
    rw [if_pos c2] at H; have c2b0 := decide_eq_true c2; clear c2
    by_cases c3 : x6_1 = 0
    ·
     rw [if_pos c3] at H; have c3b0 : (x6_1 == 0) = true := beq_iff_eq.mpr c3; have c3b1 : (x6_1 != 0) = false := bne_eq_false_iff_eq.mpr c3; clear c3
     by_cases c4 : 0 ≤ x6_1
     ·
      rw [if_pos c4] at H; have c4b0 : decide (0 ≤ x6_1) = true := decide_eq_true c4; clear c4
      by_cases c5 : x6_1 < (l0.length : Int)
      ·
       rw [if_pos c5] at H; have c5b0 : decide (x6_1 < (l0.length : Int)) = true := decide_eq_true c5; clear c5
       by_cases c6 : ((rd_T32 l0 x6_1).f1) = 0
       ·
        rw [if_pos c6] at H; have c6b0 : (((rd_T32 l0 x6_1).f1) == 0) = true := beq_iff_eq.mpr c6; have c6b1 : (((rd_T32 l0 x6_1).f1) != 0) = false := bne_eq_false_iff_eq.mpr c6; clear c6
        by_cases c7 : x6_1 > 0
        ·
         rw [if_pos c7] at H; have c7b0 : decide (0 < x6_1) = true := decide_eq_true c7; clear c7
         by_cases c8 : ((rd_T32 l0 x6_1).f1) < 1
         ·
          rw [if_pos c8] at H; have c8b0 : decide (((rd_T32 l0 x6_1).f1) < 1) = true := decide_eq_true c8; clear c8; obtain rfl := Option.some.inj H; have p282 : 0 ≤ (x6_1 : Int) := zo (by assumption); have q282 : x6_1 < (l0.length : Int) := zo (by assumption); obtain ⟨ad282, A282_5, c282_5, e282, hx282_0, hx282_1, hx282_2, hx282_3, hx282_4, hx282_5, hl282_5, hi282_5⟩ := at_T32 HR0.out x6_1 p282 q282; cases e282; have HR282_5 := zk hi282_5; have HC282_5 := zk hl282_5; clear hi282_5 hl282_5; replace p282 := eq_true p282; replace q282 := eq_true q282; have p283 : 0 ≤ (x6_1 : Int) := zo (by assumption); have q283 : x6_1 < (l0.length : Int) := zo (by assumption); obtain ⟨ad283, A283_5, c283_5, e283, hx283_0, hx283_1, hx283_2, hx283_3, hx283_4, hx283_5, hl283_5, hi283_5⟩ := at_T32 HR0.out x6_1 p283 q283; obtain rfl : ad282 = ad283 := (by injection e283); have HR283_5 := zk hi283_5; have HC283_5 := zk hl283_5; clear hi283_5 hl283_5; replace p283 := eq_true p283; replace q283 := eq_true q283; have ea_ := Option.some.inj (hx282_5.symm.trans hx283_5); injection ea_ with ea_ en_ ec_; subst ea_; subst ec_; clear en_; go_wp2; go_ret; exact ⟨by first | rfl | (simp; done) | (simp [*]; done), by repeat (first | exact Drawn0.refl _ | apply Drawn0.step)⟩
         ·
          rw [if_neg c8] at H; have c8b0 : decide (((rd_T32 l0 x6_1).f1) < 1) = false := decide_eq_false c8; clear c8; replace H := Option.bind_eq_some_iff.mp H; obtain ⟨t285, A90, H⟩ := H; replace H : (if t285 = true then (r13_Formed.l0 k1 l0 (l0.length : Int) (wrap64 (x6_1 + 1))) else (some false)) = some r := H; have A9 := zk A90; clear A90
          by_cases c10 : t285 = true
          ·
           subst c10
           have H1 : (r13_Formed.l0 k1 l0 (l0.length : Int) (wrap64 (x6_1 + 1))) = some r := by rw [if_pos rfl] at H; exact H
           clear H; have H := H1; clear H1; have H' := zk H; clear H; have p282 : 0 ≤ (x6_1 : Int) := zo (by assumption); have q282 : x6_1 < (l0.length : Int) := zo (by assumption); obtain ⟨ad282, A282_5, c282_5, e282, hx282_0, hx282_1, hx282_2, hx282_3, hx282_4, hx282_5, hl282_5, hi282_5⟩ := at_T32 HR0.out x6_1 p282 q282; cases e282; have HR282_5 := zk hi282_5; have HC282_5 := zk hl282_5; clear hi282_5 hl282_5; replace p282 := eq_true p282; replace q282 := eq_true q282; have p283 : 0 ≤ (x6_1 : Int) := zo (by assumption); have q283 : x6_1 < (l0.length : Int) := zo (by assumption); obtain ⟨ad283, A283_5, c283_5, e283, hx283_0, hx283_1, hx283_2, hx283_3, hx283_4, hx283_5, hl283_5, hi283_5⟩ := at_T32 HR0.out x6_1 p283 q283; obtain rfl : ad282 = ad283 := (by injection e283); have HR283_5 := zk hi283_5; have HC283_5 := zk hl283_5; clear hi283_5 hl283_5; replace p283 := eq_true p283; replace q283 := eq_true q283; have ea_ := Option.some.inj (hx282_5.symm.trans hx283_5); injection ea_ with ea_ en_ ec_; subst ea_; subst ec_; clear en_; have p284 : 0 ≤ (x6_1 : Int) := zo (by assumption); have q284 : x6_1 < (l0.length : Int) := zo (by assumption); obtain ⟨ad284, A284_5, c284_5, e284, hx284_0, hx284_1, hx284_2, hx284_3, hx284_4, hx284_5, hl284_5, hi284_5⟩ := at_T32 HR0.out x6_1 p284 q284; obtain rfl : ad282 = ad284 := (by injection e284); have HR284_5 := zk hi284_5; have HC284_5 := zk hl284_5; clear hi284_5 hl284_5; replace p284 := eq_true p284; replace q284 := eq_true q284; have ea_ := Option.some.inj (hx282_5.symm.trans hx284_5); injection ea_ with ea_ en_ ec_; subst ea_; subst ec_; clear en_
           go_wp2_with (first | (go_at_call 33; (with_reducible refine (r13_Above.calls k1 _ _ l0 x6_1 ((rd_T32 l0 x6_1).f1) true _ ?side1 ?side2 A9.out).mono ?_); (case side1 => repeat (first | exact HR0.out | (with_reducible refine Kd.C_alloc ?_ _) | (with_reducible refine Kd.C_drewN ?_ _) | (with_reducible refine Kd.C_drew ?_))); (case side2 => exact HC0.out); rintro e w' ⟨rfl, ⟨nd, rfl⟩⟩))
           go_roundg k1
           case measure => have := HK1.out; omega
           case rel => exact ⟨(wrap64 (x6_1 + 1)), (by first | rfl | (simp; done) | (simp [*]; done)), H', ⟨by have := HK1.out; omega⟩, by repeat (first | exact Drawn0.refl _ | apply Drawn0.step)⟩
          ·
           replace c10 := Bool.eq_false_iff.mpr c10; subst c10
           have H1 : (some false) = some r := by rw [if_neg (show ¬ (false = true) by decide)] at H; exact H
           clear H; have H := H1; clear H1; obtain rfl := Option.some.inj H; have p282 : 0 ≤ (x6_1 : Int) := zo (by assumption); have q282 : x6_1 < (l0.length : Int) := zo (by assumption); obtain ⟨ad282, A282_5, c282_5, e282, hx282_0, hx282_1, hx282_2, hx282_3, hx282_4, hx282_5, hl282_5, hi282_5⟩ := at_T32 HR0.out x6_1 p282 q282; cases e282; have HR282_5 := zk hi282_5; have HC282_5 := zk hl282_5; clear hi282_5 hl282_5; replace p282 := eq_true p282; replace q282 := eq_true q282; have p283 : 0 ≤ (x6_1 : Int) := zo (by assumption); have q283 : x6_1 < (l0.length : Int) := zo (by assumption); obtain ⟨ad283, A283_5, c283_5, e283, hx283_0, hx283_1, hx283_2, hx283_3, hx283_4, hx283_5, hl283_5, hi283_5⟩ := at_T32 HR0.out x6_1 p283 q283; obtain rfl : ad282 = ad283 := (by injection e283); have HR283_5 := zk hi283_5; have HC283_5 := zk hl283_5; clear hi283_5 hl283_5; replace p283 := eq_true p283; replace q283 := eq_true q283; have ea_ := Option.some.inj (hx282_5.symm.trans hx283_5); injection ea_ with ea_ en_ ec_; subst ea_; subst ec_; clear en_; have p284 : 0 ≤ (x6_1 : Int) := zo (by assumption); have q284 : x6_1 < (l0.length : Int) := zo (by assumption); obtain ⟨ad284, A284_5, c284_5, e284, hx284_0, hx284_1, hx284_2, hx284_3, hx284_4, hx284_5, hl284_5, hi284_5⟩ := at_T32 HR0.out x6_1 p284 q284; obtain rfl : ad282 = ad284 := (by injection e284); have HR284_5 := zk hi284_5; have HC284_5 := zk hl284_5; clear hi284_5 hl284_5; replace p284 := eq_true p284; replace q284 := eq_true q284; have ea_ := Option.some.inj (hx282_5.symm.trans hx284_5); injection ea_ with ea_ en_ ec_; subst ea_; subst ec_; clear en_
           go_wp2_with (first | (go_at_call 33; (with_reducible refine (r13_Above.calls k1 _ _ l0 x6_1 ((rd_T32 l0 x6_1).f1) false _ ?side1 ?side2 A9.out).mono ?_); (case side1 => repeat (first | exact HR0.out | (with_reducible refine Kd.C_alloc ?_ _) | (with_reducible refine Kd.C_drewN ?_ _) | (with_reducible refine Kd.C_drew ?_))); (case side2 => exact HC0.out); rintro e w' ⟨rfl, ⟨nd, rfl⟩⟩))
           go_ret; exact ⟨by first | rfl | (simp; done) | (simp [*]; done), by repeat (first | exact Drawn0.refl _ | apply Drawn0.step)⟩
        ·
         rw [if_neg c7] at H; have c7b0 : decide (0 < x6_1) = false := decide_eq_false c7; clear c7; have H' := zk H; clear H; have p282 : 0 ≤ (x6_1 : Int) := zo (by assumption); have q282 : x6_1 < (l0.length : Int) := zo (by assumption); obtain ⟨ad282, A282_5, c282_5, e282, hx282_0, hx282_1, hx282_2, hx282_3, hx282_4, hx282_5, hl282_5, hi282_5⟩ := at_T32 HR0.out x6_1 p282 q282; cases e282; have HR282_5 := zk hi282_5; have HC282_5 := zk hl282_5; clear hi282_5 hl282_5; replace p282 := eq_true p282; replace q282 := eq_true q282; go_wp2
         go_roundg k1
         case measure => have := HK1.out; omega
         case rel => exact ⟨(wrap64 (x6_1 + 1)), (by first | rfl | (simp; done) | (simp [*]; done)), H', ⟨by have := HK1.out; omega⟩, by repeat (first | exact Drawn0.refl _ | apply Drawn0.step)⟩
       ·
        rw [if_neg c6] at H; have c6b0 : (((rd_T32 l0 x6_1).f1) == 0) = false := beq_eq_false_iff_ne.mpr c6; have c6b1 : (((rd_T32 l0 x6_1).f1) != 0) = true := bne_iff_ne.mpr c6; obtain rfl := Option.some.inj H; have p282 : 0 ≤ (x6_1 : Int) := zo (by assumption); have q282 : x6_1 < (l0.length : Int) := zo (by assumption); obtain ⟨ad282, A282_5, c282_5, e282, hx282_0, hx282_1, hx282_2, hx282_3, hx282_4, hx282_5, hl282_5, hi282_5⟩ := at_T32 HR0.out x6_1 p282 q282; cases e282; have HR282_5 := zk hi282_5; have HC282_5 := zk hl282_5; clear hi282_5 hl282_5; replace p282 := eq_true p282; replace q282 := eq_true q282; go_wp2; go_ret; exact ⟨by first | rfl | (simp; done) | (simp [*]; done), by repeat (first | exact Drawn0.refl _ | apply Drawn0.step)⟩
      ·
       rw [if_neg c5] at H; exact absurd H (by simp)
     ·
      rw [if_neg c4] at H; exact absurd H (by simp)
    ·
     rw [if_neg c3] at H; have c3b0 : (x6_1 == 0) = false := beq_eq_false_iff_ne.mpr c3; have c3b1 : (x6_1 != 0) = true := bne_iff_ne.mpr c3
     by_cases c11 : x6_1 > 0
     ·
      rw [if_pos c11] at H; have c11b0 : decide (0 < x6_1) = true := decide_eq_true c11; clear c11
      by_cases c12 : 0 ≤ x6_1
      ·
       rw [if_pos c12] at H; have c12b0 := decide_eq_true c12; clear c12
       by_cases c13 : x6_1 < (l0.length : Int)
       ·
        rw [if_pos c13] at H; have c13b0 := decide_eq_true c13; clear c13
        by_cases c14 : ((rd_T32 l0 x6_1).f1) < 1
        ·
         rw [if_pos c14] at H; have c14b0 := decide_eq_true c14; clear c14; obtain rfl := Option.some.inj H; have p286 : 0 ≤ (x6_1 : Int) := zo (by assumption); have q286 : x6_1 < (l0.length : Int) := zo (by assumption); obtain ⟨ad286, A286_5, c286_5, e286, hx286_0, hx286_1, hx286_2, hx286_3, hx286_4, hx286_5, hl286_5, hi286_5⟩ := at_T32 HR0.out x6_1 p286 q286; cases e286; have HR286_5 := zk hi286_5; have HC286_5 := zk hl286_5; clear hi286_5 hl286_5; replace p286 := eq_true p286; replace q286 := eq_true q286; go_wp2; go_ret; exact ⟨by first | rfl | (simp; done) | (simp [*]; done), by repeat (first | exact Drawn0.refl _ | apply Drawn0.step)⟩
        ·
         rw [if_neg c14] at H; have c14b0 := decide_eq_false c14; clear c14; replace H := Option.bind_eq_some_iff.mp H; obtain ⟨t288, A150, H⟩ := H; replace H : (if t288 = true then (r13_Formed.l0 k1 l0 (l0.length : Int) (wrap64 (x6_1 + 1))) else (some false)) = some r := H; have A15 := zk A150; clear A150
         by_cases c16 : t288 = true
         ·
          subst c16
          have H1 : (r13_Formed.l0 k1 l0 (l0.length : Int) (wrap64 (x6_1 + 1))) = some r := by rw [if_pos rfl] at H; exact H
          clear H; have H := H1; clear H1; have H' := zk H; clear H; have p286 : 0 ≤ (x6_1 : Int) := zo (by assumption); have q286 : x6_1 < (l0.length : Int) := zo (by assumption); obtain ⟨ad286, A286_5, c286_5, e286, hx286_0, hx286_1, hx286_2, hx286_3, hx286_4, hx286_5, hl286_5, hi286_5⟩ := at_T32 HR0.out x6_1 p286 q286; cases e286; have HR286_5 := zk hi286_5; have HC286_5 := zk hl286_5; clear hi286_5 hl286_5; replace p286 := eq_true p286; replace q286 := eq_true q286; have p287 : 0 ≤ (x6_1 : Int) := zo (by assumption); have q287 : x6_1 < (l0.length : Int) := zo (by assumption); obtain ⟨ad287, A287_5, c287_5, e287, hx287_0, hx287_1, hx287_2, hx287_3, hx287_4, hx287_5, hl287_5, hi287_5⟩ := at_T32 HR0.out x6_1 p287 q287; obtain rfl : ad286 = ad287 := (by injection e287); have HR287_5 := zk hi287_5; have HC287_5 := zk hl287_5; clear hi287_5 hl287_5; replace p287 := eq_true p287; replace q287 := eq_true q287; have ea_ := Option.some.inj (hx286_5.symm.trans hx287_5); injection ea_ with ea_ en_ ec_; subst ea_; subst ec_; clear en_
          go_wp2_with (first | (go_at_call 33; (with_reducible refine (r13_Above.calls k1 _ _ l0 x6_1 ((rd_T32 l0 x6_1).f1) true _ ?side1 ?side2 A15.out).mono ?_); (case side1 => repeat (first | exact HR0.out | (with_reducible refine Kd.C_alloc ?_ _) | (with_reducible refine Kd.C_drewN ?_ _) | (with_reducible refine Kd.C_drew ?_))); (case side2 => exact HC0.out); rintro e w' ⟨rfl, ⟨nd, rfl⟩⟩))
          go_roundg k1
          case measure => have := HK1.out; omega
          case rel => exact ⟨(wrap64 (x6_1 + 1)), (by first | rfl | (simp; done) | (simp [*]; done)), H', ⟨by have := HK1.out; omega⟩, by repeat (first | exact Drawn0.refl _ | apply Drawn0.step)⟩
         ·
          replace c16 := Bool.eq_false_iff.mpr c16; subst c16
          have H1 : (some false) = some r := by rw [if_neg (show ¬ (false = true) by decide)] at H; exact H
          clear H; have H := H1; clear H1; obtain rfl := Option.some.inj H; have p286 : 0 ≤ (x6_1 : Int) := zo (by assumption); have q286 : x6_1 < (l0.length : Int) := zo (by assumption); obtain ⟨ad286, A286_5, c286_5, e286, hx286_0, hx286_1, hx286_2, hx286_3, hx286_4, hx286_5, hl286_5, hi286_5⟩ := at_T32 HR0.out x6_1 p286 q286; cases e286; have HR286_5 := zk hi286_5; have HC286_5 := zk hl286_5; clear hi286_5 hl286_5; replace p286 := eq_true p286; replace q286 := eq_true q286; have p287 : 0 ≤ (x6_1 : Int) := zo (by assumption); have q287 : x6_1 < (l0.length : Int) := zo (by assumption); obtain ⟨ad287, A287_5, c287_5, e287, hx287_0, hx287_1, hx287_2, hx287_3, hx287_4, hx287_5, hl287_5, hi287_5⟩ := at_T32 HR0.out x6_1 p287 q287; obtain rfl : ad286 = ad287 := (by injection e287); have HR287_5 := zk hi287_5; have HC287_5 := zk hl287_5; clear hi287_5 hl287_5; replace p287 := eq_true p287; replace q287 := eq_true q287; have ea_ := Option.some.inj (hx286_5.symm.trans hx287_5); injection ea_ with ea_ en_ ec_; subst ea_; subst ec_; clear en_
          go_wp2_with (first | (go_at_call 33; (with_reducible refine (r13_Above.calls k1 _ _ l0 x6_1 ((rd_T32 l0 x6_1).f1) false _ ?side1 ?side2 A15.out).mono ?_); (case side1 => repeat (first | exact HR0.out | (with_reducible refine Kd.C_alloc ?_ _) | (with_reducible refine Kd.C_drewN ?_ _) | (with_reducible refine Kd.C_drew ?_))); (case side2 => exact HC0.out); rintro e w' ⟨rfl, ⟨nd, rfl⟩⟩))
          go_ret; exact ⟨by first | rfl | (simp; done) | (simp [*]; done), by repeat (first | exact Drawn0.refl _ | apply Drawn0.step)⟩
       ·
        rw [if_neg c13] at H; exact absurd H (by simp)
      ·
       rw [if_neg c12] at H; exact absurd H (by simp)
     ·
      rw [if_neg c11] at H; have c11b0 : decide (0 < x6_1) = false := decide_eq_false c11; clear c11; have H' := zk H; clear H; go_wp2
      go_roundg k1
      case measure => have := HK1.out; omega
      case rel => exact ⟨(wrap64 (x6_1 + 1)), (by first | rfl | (simp; done) | (simp [*]; done)), H', ⟨by have := HK1.out; omega⟩, by repeat (first | exact Drawn0.refl _ | apply Drawn0.step)⟩
   ·
    rw [if_neg c2] at H; have c2b0 := decide_eq_false c2; clear c2; obtain rfl := Option.some.inj H; go_wp2; go_ret; exact ⟨by first | rfl | (simp; done) | (simp [*]; done), by repeat (first | exact Drawn0.refl _ | apply Drawn0.step)⟩
end Go.Proofs.Ytelacebdmmanhaa.G
namespace Go.Proofs.Ytelacebdmmanhaa.G
open Go.RowKit Go.Proofs.YtelacebdmmanhaaW.PrintWords Go.Proofs.YtelacebdmmanhaaW.PrintLast Go.Proofs.YtelacebdmmanhaaW.PrintMore
set_option linter.unusedVariables false
set_option linter.unusedSimpArgs false
mutual
def r13_Check.l0 : Nat → List (S32) → Int → Int → Option (Int)
 | 0, _, _, _ => none
 | k + 1, x0, x10, x11 => if x11 < x10 then (if x11 = 4096 then (some 12) else ((r13_Depth.f k x0 (wrap64 (x11 + 1))).bind fun t304 => (if t304 > 64 then (some 11) else (if 0 ≤ x11 then (if x11 < (x0.length : Int) then ((r11_Alone.f k ((rd_T32 x0 x11).f2) ((rd_T32 x0 x11).f3) ((rd_T32 x0 x11).f4) ((rd_T32 x0 x11).f5) ([] : List (S54))).bind fun t309 => (if t309 = 0 then (r13_Check.l1 k x0 x11 x10 x11 x11 0) else (some t309))) else (none)) else (none))))) else (some 0)
def r13_Check.l1 : Nat → List (S32) → Int → Int → Int → Int → Int → Option (Int)
 | 0, _, _, _, _, _, _ => none
 | k + 1, x0, x3, x10, x11, x46, x47 => if x47 < x46 then (if 0 ≤ x3 then (if x3 < (x0.length : Int) then (if ((rd_T32 x0 x3).f3).toList = ([] : List UInt8) then (r13_Check.l1 k x0 x3 x10 x11 x46 (wrap64 (x47 + 1))) else (if 0 ≤ x47 then (if x47 < (x0.length : Int) then (if ((rd_T32 x0 x47).f1) = ((rd_T32 x0 x3).f1) then (if ((rd_T32 x0 x47).f3).toList = ((rd_T32 x0 x3).f3).toList then (some 10) else (r13_Check.l1 k x0 x3 x10 x11 x46 (wrap64 (x47 + 1)))) else (r13_Check.l1 k x0 x3 x10 x11 x46 (wrap64 (x47 + 1)))) else (none)) else (none))) else (none)) else (none)) else (r13_Check.l0 k x0 x10 (wrap64 (x11 + 1)))
end
def r13_Check.f (k : Nat) (l0 : List (S32)) : Option (Int) := (r13_Formed.f k l0).bind fun t303 => (if t303 = true then (r13_Check.l0 k l0 (l0.length : Int) 0) else (some 2))
set_option maxHeartbeats 4000000 in
set_option maxRecDepth 100000 in
theorem r13_Check.calls (k : Nat) (A0 : Option Addr) (c0 : Nat) (l0 : List (S32)) (r : Int) (w : World) (hr0 : Kd.C k32 w A0 l0.length l0) (hc0 : l0.length ≤ c0) (h : r13_Check.f k l0 = some r) :
    Calls Try.prog 20 #[.slice A0 l0.length c0] w fun e w' => e = .returned (.int .i64 r) ∧ Below w.heap.size w w' := by
  obtain ⟨t, h1, h2⟩ := Option.bind_eq_some_iff.1 h; have HC := Aside0.mk (And.intro hr0 hc0); have LF := Aside0.mk (r13_Formed.calls k A0 c0 l0 t w hr0 hc0 h1); have HM := Aside0.mk (Kd.C_max hr0); clear h hr0 hc0 h1
  cases t with
  | false =>
    rw [if_neg (by decide)] at h2; obtain rfl := Option.some.inj h2
    go_enter Try.func20, Try.ntmps20
    go_wp2_with (go_at_call 26; refine (LF.out).mono ?_; rintro e w1 ⟨rfl, ⟨m1, hb⟩⟩; have B1 := Aside0.mk (show Below w.heap.size w w1 from hb ▸ zN (Below.refl _ _) m1); clear hb LF)
    refine bodyPost_ret (results_tmp rfl _ _ _) rfl ?_; exact ⟨rfl, B1.out⟩
  | true =>
  rw [if_pos rfl] at h2; have H2 := Aside0.mk h2; obtain ⟨n, hn⟩ : ∃ n, l0.length = n := ⟨_, rfl⟩; have HN := Aside0.mk hn; rw [hn] at LF HM H2 ⊢; clear h2 hn
  go_enter Try.func20, Try.ntmps20
  go_upto_block 0 with (go_at_call 26; refine (LF.out).mono ?_; rintro e w1 ⟨rfl, ⟨m1, hb⟩⟩; have B1 := Aside0.mk (show Below w.heap.size w w1 from hb ▸ zN (Below.refl _ _) m1); clear hb LF)
  go_wp2_with fail
  go_loopg [11] k (fun kq v11 W => ∃ i : Nat, v11 = .int .i64 (i : Int) ∧ Aside0 (i ≤ n) ∧ Aside0 (r13_Check.l0 kq l0 n i = some r) ∧ Aside0 (kq ≤ k) ∧ Aside0 (Below w.heap.size w W))
  case atStart => exact ⟨0, rfl, ⟨Nat.zero_le _⟩, H2, ⟨Nat.le_refl _⟩, B1⟩
  case round =>
  clear H2 B1; obtain ⟨i, rfl, HI, H, HK, HB⟩ := hrel
  cases gk with
  | zero => exact absurd H.out (by simp [r13_Check.l0])
  | succ k1 =>
  have h := H.out; clear H; rw [r13_Check.l0] at h
  by_cases hin : i < n
  case neg =>
    rw [if_neg (by omega)] at h; obtain rfl := Option.some.inj h
    go_wp2_with fail
    refine bodyPost_ret (results_tmp rfl _ _ _) rfl ?_; exact ⟨rfl, HB.out⟩
  have HIN := Aside0.mk hin; rw [if_pos (by omega)] at h
  have hwi : wrap64 ((i : Int) + 1) = ((i + 1 : Nat) : Int) := by have := HM.out; unfold wrap64; omega
  by_cases c1 : (i : Int) = 4096
  · rw [if_pos c1] at h
    obtain rfl := Option.some.inj h
    have c1b : ((i : Int) == 4096) = true := by simp [c1]
    have c1c : (i == 4096) = true := by simp; omega
    clear c1
    go_wp2_with fail
    refine bodyPost_ret (results_tmp rfl _ _ _) rfl ?_
    exact ⟨rfl, HB.out⟩
  rw [if_neg c1] at h
  have c1b : ((i : Int) == 4096) = false := by simp [c1]
  have c1c : (i == 4096) = false := by simp; omega
  obtain ⟨dp, h3, h⟩ := Option.bind_eq_some_iff.1 h; have LD := Aside0.mk (r13_Depth.calls k1 A0 c0 l0 _ dp wr (Kd.C_below HC.out.1 HB.out) HC.out.2 h3); rw [HN.out, hwi] at LD; clear h3 c1
  by_cases c2 : dp > 64
  · rw [if_pos c2] at h
    obtain rfl := Option.some.inj h
    have c2b : decide (64 < dp) = true := decide_eq_true c2
    clear c2
    go_wp2_with (go_at_call 27; refine (LD.out).mono ?_; rintro e w2 ⟨rfl, ⟨m2, hb⟩⟩; have B2 := Aside0.mk (show Below w.heap.size w w2 from hb ▸ zN HB.out m2); clear hb LD)
    refine bodyPost_ret (results_tmp rfl _ _ _) rfl ?_
    exact ⟨rfl, B2.out⟩
  rw [if_neg c2, if_pos (by omega), if_pos (by rw [HN.out]; omega)] at h; have c2b : decide (64 < dp) = false := decide_eq_false c2; obtain ⟨ea, h4, h⟩ := Option.bind_eq_some_iff.1 h; have H := Aside0.mk h; clear h c2
  go_upto_region 10 with (go_at_call 27; refine (LD.out).mono ?_; rintro e w2 ⟨rfl, ⟨m2, hb⟩⟩; have B2 := Aside0.mk (show Below w.heap.size w w2 from hb ▸ zN HB.out m2); clear hb LD)
  clear HB; obtain ⟨ad, A5, c5, ead, z0, z1, z2, z3, z4, z5, hl5, hi5⟩ := at_T32 HC.out.1 (i : Int) (by omega) (by rw [HN.out]; omega); subst ead; rw [Int.toNat_natCast] at z0 z1 z2 z3 z4 z5; have Z1 := Aside0.mk z1; have Z3 := Aside0.mk z3; have y2 := (B2.out.cell (World.block_lt_of_cell? _ _ z2)).trans z2; have y3 := (B2.out.cell (World.block_lt_of_cell? _ _ z3)).trans z3; have y4 := (B2.out.cell (World.block_lt_of_cell? _ _ z4)).trans z4; have y5 := (B2.out.cell (World.block_lt_of_cell? _ _ z5)).trans z5; have Y := Aside0.mk (And.intro z2 (And.intro z3 (And.intro z4 z5))); have LA := Aside0.mk (fun (W : World) (hb : Below w.heap.size w W) => r11_Alone.calls k1 _ _ _ A5 c5 _ none 0 ([] : List S54) ea W (Kd.C_below hi5 hb) hl5 (Kd.C_nil _ _) (Nat.le_refl _) h4); clear z0 z1 z2 z3 z4 z5 hl5 hi5 h4; obtain ⟨x, hx⟩ : ∃ x, rd_T32 l0 (i : Int) = x := ⟨_, rfl⟩; rw [hx] at y2 y3 y4 y5 Y LA Z1 Z3; have HX := Aside0.mk hx; clear hx; obtain ⟨m5, hm5⟩ : ∃ m, x.f5.length = m := ⟨_, rfl⟩; rw [hm5] at y5 Y LA; clear hm5; refine start_ (n := 23) (S := (fun w' => w'.cell? ⟨(ad.add (i * 6)).block, (ad.add (i * 6)).off + 2, none⟩ = some (.string x.f2) ∧ w'.cell? ⟨(ad.add (i * 6)).block, (ad.add (i * 6)).off + 3, none⟩ = some (.string x.f3) ∧ w'.cell? ⟨(ad.add (i * 6)).block, (ad.add (i * 6)).off + 4, none⟩ = some (.string x.f4) ∧ w'.cell? ⟨(ad.add (i * 6)).block, (ad.add (i * 6)).off + 5, none⟩ = some (.slice A5 m5 c5))) (ds := []) #[false, false, false, false, false, false, false, false, false, false, false, false, false, false, false, false, false, false, false, false, false, false, false] (by kernel_rfl) rfl rfl ?_ ?_; (exact ⟨y2, y3, y4, y5⟩); intro hHeld; refine pure_ (i := 0) (N := some 21) (v := ?_) (a' := ?_) #[true, false, false, false, false, false, false, false, false, false, false, false, false, false, false, false, false, false, false, false, false, false, false] rfl rfl (by kernel_rfl) (fun _ _ _ h => h) (Or.inl ⟨by rfl, ?_⟩) ?_ ?_; rotate_left; (intro w'; go_simp; (with_reducible rfl)); rotate_left; (simp only [Act.put, List.setIfInBounds_toArray, List.set_cons_zero, List.set_cons_succ, i64_w, i32_w]; rfl); refine pure_ (i := 1) (N := some 22) (v := ?_) (a' := ?_) #[true, true, false, false, false, false, false, false, false, false, false, false, false, false, false, false, false, false, false, false, false, false, false] rfl rfl (by kernel_rfl) (fun _ _ _ h => h) (Or.inl ⟨by rfl, ?_⟩) ?_ ?_; rotate_left; (intro w'; go_simp; (with_reducible rfl)); rotate_left; (simp only [Act.put, List.setIfInBounds_toArray, List.set_cons_zero, List.set_cons_succ, i64_w, i32_w]; rfl); refine pure_ (i := 2) (N := some 23) (v := ?_) (a' := ?_) #[true, true, true, false, false, false, false, false, false, false, false, false, false, false, false, false, false, false, false, false, false, false, false] rfl rfl (by kernel_rfl) (fun _ _ _ h => h) (Or.inl ⟨by rfl, ?_⟩) ?_ ?_; rotate_left; (intro w'; go_simp; (with_reducible rfl)); rotate_left; (simp only [Act.put, List.setIfInBounds_toArray, List.set_cons_zero, List.set_cons_succ, i64_w, i32_w]; rfl); refine pure_ (i := 3) (N := some 24) (v := ?_) (a' := ?_) #[true, true, true, true, false, false, false, false, false, false, false, false, false, false, false, false, false, false, false, false, false, false, false] rfl rfl (by kernel_rfl) (fun _ _ _ h => h) (Or.inl ⟨by rfl, ?_⟩) ?_ ?_; rotate_left; (intro w'; go_simp; (with_reducible rfl)); rotate_left; (simp only [Act.put, List.setIfInBounds_toArray, List.set_cons_zero, List.set_cons_succ, i64_w, i32_w]; rfl); refine pure_ (i := 5) (N := some 26) (v := ?_) (a' := ?_) #[true, true, true, true, false, true, false, false, false, false, false, false, false, false, false, false, false, false, false, false, false, false, false] rfl rfl (by kernel_rfl) (fun _ _ _ h => h) (Or.inl ⟨by rfl, ?_⟩) ?_ ?_; rotate_left; (intro w'; go_simp; (with_reducible rfl)); rotate_left; (simp only [Act.put, List.setIfInBounds_toArray, List.set_cons_zero, List.set_cons_succ, i64_w, i32_w]; rfl); refine pure_ (i := 6) (N := some 27) (v := ?_) (a' := ?_) #[true, true, true, true, false, true, true, false, false, false, false, false, false, false, false, false, false, false, false, false, false, false, false] rfl rfl (by kernel_rfl) (fun _ _ _ h => h) (Or.inl ⟨by rfl, ?_⟩) ?_ ?_; rotate_left; (intro w'; go_simp; (with_reducible rfl)); rotate_left; (simp only [Act.put, List.setIfInBounds_toArray, List.set_cons_zero, List.set_cons_succ, i64_w, i32_w]; rfl); refine pure_ (i := 7) (N := some 28) (v := ?_) (a' := ?_) #[true, true, true, true, false, true, true, true, false, false, false, false, false, false, false, false, false, false, false, false, false, false, false] rfl rfl (by kernel_rfl) (fun _ _ _ h => h) (Or.inl ⟨by rfl, ?_⟩) ?_ ?_; rotate_left; (intro w'; go_simp; (with_reducible rfl)); rotate_left; (simp only [Act.put, List.setIfInBounds_toArray, List.set_cons_zero, List.set_cons_succ, i64_w, i32_w]; rfl); refine pure_ (i := 8) (N := some 29) (v := ?_) (a' := ?_) #[true, true, true, true, false, true, true, true, true, false, false, false, false, false, false, false, false, false, false, false, false, false, false] rfl rfl (by kernel_rfl) (fun _ _ _ h => h) (Or.inl ⟨by rfl, ?_⟩) ?_ ?_; rotate_left; (intro w'; go_simp; (with_reducible rfl)); rotate_left; (simp only [Act.put, List.setIfInBounds_toArray, List.set_cons_zero, List.set_cons_succ, i64_w, i32_w]; rfl); refine pure_ (i := 10) (N := some 31) (v := ?_) (a' := ?_) #[true, true, true, true, false, true, true, true, true, false, true, false, false, false, false, false, false, false, false, false, false, false, false] rfl rfl (by kernel_rfl) (fun _ _ _ h => h) (Or.inl ⟨by rfl, ?_⟩) ?_ ?_; rotate_left; (intro w'; go_simp; (with_reducible rfl)); rotate_left; (simp only [Act.put, List.setIfInBounds_toArray, List.set_cons_zero, List.set_cons_succ, i64_w, i32_w]; rfl); refine pure_ (i := 11) (N := some 32) (v := ?_) (a' := ?_) #[true, true, true, true, false, true, true, true, true, false, true, true, false, false, false, false, false, false, false, false, false, false, false] rfl rfl (by kernel_rfl) (fun _ _ _ h => h) (Or.inl ⟨by rfl, ?_⟩) ?_ ?_; rotate_left; (intro w'; go_simp; (with_reducible rfl)); rotate_left; (simp only [Act.put, List.setIfInBounds_toArray, List.set_cons_zero, List.set_cons_succ, i64_w, i32_w]; rfl); refine pure_ (i := 12) (N := some 33) (v := ?_) (a' := ?_) #[true, true, true, true, false, true, true, true, true, false, true, true, true, false, false, false, false, false, false, false, false, false, false] rfl rfl (by kernel_rfl) (fun _ _ _ h => h) (Or.inl ⟨by rfl, ?_⟩) ?_ ?_; rotate_left; (intro w'; go_simp; (with_reducible rfl)); rotate_left; (simp only [Act.put, List.setIfInBounds_toArray, List.set_cons_zero, List.set_cons_succ, i64_w, i32_w]; rfl); refine pure_ (i := 13) (N := some 34) (v := ?_) (a' := ?_) #[true, true, true, true, false, true, true, true, true, false, true, true, true, true, false, false, false, false, false, false, false, false, false] rfl rfl (by kernel_rfl) (fun _ _ _ h => h) (Or.inl ⟨by rfl, ?_⟩) ?_ ?_; rotate_left; (intro w'; go_simp; (with_reducible rfl)); rotate_left; (simp only [Act.put, List.setIfInBounds_toArray, List.set_cons_zero, List.set_cons_succ, i64_w, i32_w]; rfl); refine pure_ (i := 15) (N := some 36) (v := ?_) (a' := ?_) #[true, true, true, true, false, true, true, true, true, false, true, true, true, true, false, true, false, false, false, false, false, false, false] rfl rfl (by kernel_rfl) (fun _ _ _ h => h) (Or.inl ⟨by rfl, ?_⟩) ?_ ?_; rotate_left; (intro w'; go_simp; (with_reducible rfl)); rotate_left; (simp only [Act.put, List.setIfInBounds_toArray, List.set_cons_zero, List.set_cons_succ, i64_w, i32_w]; rfl); refine pure_ (i := 16) (N := some 37) (v := ?_) (a' := ?_) #[true, true, true, true, false, true, true, true, true, false, true, true, true, true, false, true, true, false, false, false, false, false, false] rfl rfl (by kernel_rfl) (fun _ _ _ h => h) (Or.inl ⟨by rfl, ?_⟩) ?_ ?_; rotate_left; (intro w'; go_simp; (with_reducible rfl)); rotate_left; (simp only [Act.put, List.setIfInBounds_toArray, List.set_cons_zero, List.set_cons_succ, i64_w, i32_w]; rfl); refine pure_ (i := 17) (N := some 38) (v := ?_) (a' := ?_) #[true, true, true, true, false, true, true, true, true, false, true, true, true, true, false, true, true, true, false, false, false, false, false] rfl rfl (by kernel_rfl) (fun _ _ _ h => h) (Or.inl ⟨by rfl, ?_⟩) ?_ ?_; rotate_left; (intro w'; go_simp; (with_reducible rfl)); rotate_left; (simp only [Act.put, List.setIfInBounds_toArray, List.set_cons_zero, List.set_cons_succ, i64_w, i32_w]; rfl); refine pure_ (i := 18) (N := some 39) (v := ?_) (a' := ?_) #[true, true, true, true, false, true, true, true, true, false, true, true, true, true, false, true, true, true, true, false, false, false, false] rfl rfl (by kernel_rfl) (fun _ _ _ h => h) (Or.inl ⟨by rfl, ?_⟩) ?_ ?_; rotate_left; (intro w'; go_simp; (with_reducible rfl)); rotate_left; (simp only [Act.put, List.setIfInBounds_toArray, List.set_cons_zero, List.set_cons_succ, i64_w, i32_w]; rfl); refine take_ (i := 4) (N := some 25) (v := ?_) (a' := ?_) #[true, true, true, true, true, true, true, true, true, false, true, true, true, true, false, true, true, true, true, false, false, false, false] rfl rfl (by kernel_rfl) (fun _ _ _ h => h) (Or.inl ⟨by rfl, ?_⟩) hHeld ?_ ?_; rotate_left; (rintro w' ⟨s0, s1, s2, s3⟩; go_simp; (with_reducible rfl)); rotate_left; (simp only [Act.put, List.setIfInBounds_toArray, List.set_cons_zero, List.set_cons_succ, i64_w, i32_w]; rfl); refine take_ (i := 9) (N := some 30) (v := ?_) (a' := ?_) #[true, true, true, true, true, true, true, true, true, true, true, true, true, true, false, true, true, true, true, false, false, false, false] rfl rfl (by kernel_rfl) (fun _ _ _ h => h) (Or.inl ⟨by rfl, ?_⟩) hHeld ?_ ?_; rotate_left; (rintro w' ⟨s0, s1, s2, s3⟩; go_simp; (with_reducible rfl)); rotate_left; (simp only [Act.put, List.setIfInBounds_toArray, List.set_cons_zero, List.set_cons_succ, i64_w, i32_w]; rfl); refine take_ (i := 14) (N := some 35) (v := ?_) (a' := ?_) #[true, true, true, true, true, true, true, true, true, true, true, true, true, true, true, true, true, true, true, false, false, false, false] rfl rfl (by kernel_rfl) (fun _ _ _ h => h) (Or.inl ⟨by rfl, ?_⟩) hHeld ?_ ?_; rotate_left; (rintro w' ⟨s0, s1, s2, s3⟩; go_simp; (with_reducible rfl)); rotate_left; (simp only [Act.put, List.setIfInBounds_toArray, List.set_cons_zero, List.set_cons_succ, i64_w, i32_w]; rfl); refine take_ (i := 19) (N := some 40) (v := ?_) (a' := ?_) #[true, true, true, true, true, true, true, true, true, true, true, true, true, true, true, true, true, true, true, true, false, false, false] rfl rfl (by kernel_rfl) (fun _ _ _ h => h) (Or.inl ⟨by rfl, ?_⟩) hHeld ?_ ?_; rotate_left; (rintro w' ⟨s0, s1, s2, s3⟩; go_simp; (with_reducible rfl)); rotate_left; (simp only [Act.put, List.setIfInBounds_toArray, List.set_cons_zero, List.set_cons_succ, i64_w, i32_w]; rfl); refine pure_ (i := 20) (N := some 41) (v := ?_) (a' := ?_) #[true, true, true, true, true, true, true, true, true, true, true, true, true, true, true, true, true, true, true, true, true, false, false] rfl rfl (by kernel_rfl) (fun _ _ _ h => h) (Or.inl ⟨by rfl, ?_⟩) ?_ ?_; rotate_left; (intro w'; go_simp; (with_reducible rfl)); rotate_left; (simp only [Act.put, List.setIfInBounds_toArray, List.set_cons_zero, List.set_cons_succ, i64_w, i32_w]; rfl); refine one_ (i := 21) (N := some 42) #[true, true, true, true, true, true, true, true, true, true, true, true, true, true, true, true, true, true, true, true, true, true, false] rfl rfl (by kernel_rfl) (by decide) (fun K hK => ?_); refine goes_ Try.func28 (by kernel_rfl) rfl #[.agg #[.string x.f2, .string x.f3, .string x.f4, .slice A5 m5 c5, .slice none 0 0]] (by rfl) rfl rfl (by (try simp only [List.map_toArray, List.map_cons, List.map_nil]); first | done | rfl) ?_; refine (LA.out _ B2.out.drew).mono ?_; rintro e w3 ⟨rfl, hb⟩; refine ⟨_, rfl, ?_⟩; have B3 := Aside0.mk (B2.out.drew.trans (hb.mono B2.out.drew.size)); clear hb; refine hK.out _ _ ⟨(B3.out.cell (World.block_lt_of_cell? _ _ Y.out.1)).trans Y.out.1, (B3.out.cell (World.block_lt_of_cell? _ _ Y.out.2.1)).trans Y.out.2.1, (B3.out.cell (World.block_lt_of_cell? _ _ Y.out.2.2.1)).trans Y.out.2.2.1, (B3.out.cell (World.block_lt_of_cell? _ _ Y.out.2.2.2)).trans Y.out.2.2.2⟩ (fun hHeld => ?_); clear hK K; refine norm_ (a' := ?_) ?_ ?_; rotate_left
  · show Act.put _ (some 42) _ = _
    simp only [Act.put, List.setIfInBounds_toArray, List.set_cons_zero, List.set_cons_succ, i64_w, i32_w]
    rfl
  refine pure_ (i := 22) (N := some 4) (v := ?_) (a' := ?_) #[true, true, true, true, true, true, true, true, true, true, true, true, true, true, true, true, true, true, true, true, true, true, true] rfl rfl (by kernel_rfl) (fun _ _ _ h => h) (Or.inl ⟨by rfl, ?_⟩) ?_ ?_; rotate_left; (intro w'; go_simp; (with_reducible rfl)); rotate_left; (simp only [Act.put, List.setIfInBounds_toArray, List.set_cons_zero, List.set_cons_succ, i64_w, i32_w]; rfl); refine done_ (by kernel_rfl) ?_; clear hHeld y2 y3 y4 y5 B2 LA
  by_cases c3 : ea = 0
  case neg =>
    have h := H.out; rw [if_neg c3] at h; obtain rfl := Option.some.inj h
    have c3b : (ea != 0) = true := by simp [c3]
    clear c3 h
    go_wp2_with fail
    refine bodyPost_ret (results_tmp rfl _ _ _) rfl ?_; exact ⟨rfl, B3.out⟩
  subst c3; replace H := Aside0.mk (show r13_Check.l1 k1 l0 i n i i ((0 : Nat) : Int) = some r from (if_pos rfl).symm.trans H.out)
  go_wp2_with fail
  go_loopg [47] k1 (fun kq v47 W => ∃ j : Nat, v47 = .int .i64 (j : Int) ∧ Aside0 (j ≤ i) ∧ Aside0 (r13_Check.l1 kq l0 i n i i j = some r) ∧ Aside0 (kq ≤ k1) ∧ Aside0 (Below w.heap.size w W))
  case atStart => exact ⟨0, rfl, ⟨Nat.zero_le _⟩, H, ⟨Nat.le_refl _⟩, B3⟩
  case round =>
  clear H B3; obtain ⟨j, rfl, HJ, H, HK2, HB⟩ := hrel
  cases gk with
  | zero => exact absurd H.out (by simp [r13_Check.l1])
  | succ k2 =>
  have h := H.out; clear H; rw [r13_Check.l1] at h
  by_cases hji : j < i
  case neg =>
    rw [if_neg (by omega), hwi] at h; have H := Aside0.mk h; clear h
    go_wp2_with fail
    go_roundg k2
    case measure => have := HK.out; have := HK2.out; omega
    case rel => exact ⟨i + 1, by rw [hwi], ⟨by have := HIN.out; omega⟩, H, ⟨by have := HK.out; have := HK2.out; omega⟩, HB⟩
  have HJI := Aside0.mk hji
  have hwj : wrap64 ((j : Int) + 1) = ((j + 1 : Nat) : Int) := by have := HM.out; unfold wrap64; omega
  rw [if_pos (by omega), if_pos (by omega), if_pos (by rw [HN.out]; omega), HX.out] at h; have y3 := (HB.out.cell (World.block_lt_of_cell? _ _ Z3.out)).trans Z3.out
  by_cases c4 : x.f3.toList = []
  · rw [if_pos c4, hwj] at h
    have H := Aside0.mk h
    have c4b : (x.f3.toList == ([] : List UInt8)) = true := by simp [c4]
    have c4c : x.f3.toList.isEmpty = true := by simp [c4]
    clear c4 h
    go_wp2_with fail
    go_quiet (fail)
    go_wp2_with fail
    go_roundg k2
    case measure => have := HK2.out; omega
    case rel => exact ⟨j + 1, by rw [hwj], ⟨by have := HJI.out; omega⟩, H, ⟨by have := HK2.out; omega⟩, ⟨zN HB.out _⟩⟩
  have c4b : (x.f3.toList == ([] : List UInt8)) = false := by simp [c4]
  have c4c : x.f3.toList.isEmpty = false := by simp [c4]
  rw [if_neg c4, if_pos (by omega), if_pos (by rw [HN.out]; omega)] at h; obtain ⟨ad', A5', c5', ead', z0, z1, z2, z3, z4, z5, hl5, hi5⟩ := at_T32 HC.out.1 (j : Int) (by omega) (by rw [HN.out]; omega); obtain rfl := Option.some.inj ead'; rw [Int.toNat_natCast] at z0 z1 z2 z3 z4 z5; have y1 := (HB.out.cell (World.block_lt_of_cell? _ _ Z1.out)).trans Z1.out; replace z1 := (HB.out.cell (World.block_lt_of_cell? _ _ z1)).trans z1; replace z3 := (HB.out.cell (World.block_lt_of_cell? _ _ z3)).trans z3; obtain ⟨u, hu⟩ : ∃ u, (rd_T32 l0 (j : Int)).f1 = u := ⟨_, rfl⟩; obtain ⟨s, hs⟩ : ∃ s, (rd_T32 l0 (j : Int)).f3 = s := ⟨_, rfl⟩; obtain ⟨v, hv⟩ : ∃ v, x.f1 = v := ⟨_, rfl⟩; obtain ⟨q, hq⟩ : ∃ q, x.f3 = q := ⟨_, rfl⟩; rw [hu] at z1 h; rw [hs] at z3 h; rw [hv] at y1 h; rw [hq] at y3 h c4b c4c; clear z0 z2 z4 z5 hl5 hi5 hu hs hv hq ead' c4
  by_cases c5 : u = v
  · rw [if_pos c5] at h
    have c5b : (u == v) = true := by simp [c5]
    by_cases c6 : s.toList = q.toList
    · rw [if_pos c6] at h
      obtain rfl := Option.some.inj h
      have c6b : (s.toList == q.toList) = true := by simp [c6]
      clear c5 c6 h
      go_wp2_with fail
      go_quiet (fail)
      go_wp2_with fail
      refine bodyPost_ret (results_tmp rfl _ _ _) rfl ?_
      exact ⟨rfl, zN HB.out _⟩
    · rw [if_neg c6, hwj] at h
      have H := Aside0.mk h
      have c6b : (s.toList == q.toList) = false := by simp [c6]
      clear c5 c6 h
      go_wp2_with fail
      go_quiet (fail)
      go_wp2_with fail
      go_roundg k2
      case measure => have := HK2.out; omega
      case rel => exact ⟨j + 1, by rw [hwj], ⟨by have := HJI.out; omega⟩, H, ⟨by have := HK2.out; omega⟩, ⟨zN HB.out _⟩⟩
  · rw [if_neg c5, hwj] at h
    have H := Aside0.mk h
    have c5b : (u == v) = false := by simp [c5]
    clear c5 h
    go_wp2_with fail
    go_quiet (fail)
    go_wp2_with fail
    go_roundg k2
    case measure => have := HK2.out; omega
    case rel => exact ⟨j + 1, by rw [hwj], ⟨by have := HJI.out; omega⟩, H, ⟨by have := HK2.out; omega⟩, ⟨zN HB.out _⟩⟩
end Go.Proofs.Ytelacebdmmanhaa.G
namespace Go.Proofs.Ytelacebdmmanhaa.G
open Go.RowKit Go.Proofs.YtelacebdmmanhaaW.PrintWords Go.Proofs.YtelacebdmmanhaaW.PrintLast Go.Proofs.YtelacebdmmanhaaW.PrintMore
attribute [local go_sem] max2_int min2_int max_two min_two max_three min_three max_four min_four
set_option linter.unusedVariables false
set_option linter.unusedSimpArgs false
attribute [local go_sem high] eqA37
def lw_right.f (k : Nat) (l0 : List (S32)) : Option (Bool) := (pl_FewRows.f k l0 200).bind fun t303 => (if t303 = true then ((r13_Check.f k l0).bind fun t304 => (some (t304 == 0))) else (some false))
set_option maxHeartbeats 8000000 in
set_option maxRecDepth 100000 in
theorem lw_right.calls (k : Nat) (A0 : Option Addr) (c0 : Nat) (l0 : List (S32)) (r : Bool) (w : World) (hr0 : Kd.C k32 w A0 l0.length l0) (hc0 : l0.length ≤ c0) (h : lw_right.f k l0 = some r) :
    Calls Try.prog 11 #[.slice A0 l0.length c0] w fun e w' => e = .returned (.bool r) ∧ Below w.heap.size w w' := by
  have HR0 := zk hr0; have HC0 := zk hc0; clear hr0 hc0; have HB := zk (Below.refl w.heap.size w); have H : ((pl_FewRows.f k l0 200).bind fun t303 => (if t303 = true then ((r13_Check.f k l0).bind fun t304 => (some (t304 == 0))) else (some false))) = some r := h; clear h; replace H := Option.bind_eq_some_iff.mp H; obtain ⟨t303, A20, H⟩ := H; replace H : (if t303 = true then ((r13_Check.f k l0).bind fun t304 => (some (t304 == 0))) else (some false)) = some r := H; have A2 := zk A20; clear A20
  by_cases c3 : t303 = true
  · subst c3
    have H1 : ((r13_Check.f k l0).bind fun t304 => (some (t304 == 0))) = some r := by rw [if_pos rfl] at H; exact H
    clear H
    have H := H1
    clear H1
    replace H := Option.bind_eq_some_iff.mp H
    obtain ⟨t304, A40, H⟩ := H
    replace H : (some (t304 == 0)) = some r := H
    have A4 := zk A40
    clear A40
    obtain rfl := Option.some.inj H
    go_enter Try.func11, Try.ntmps11
    go_wp2_with (first | ((with_reducible refine zgk (f := 6) rfl ?_); refine zgl (some 4) rfl rfl Try.func6 (by kernel_rfl) rfl #[.slice A0 l0.length c0, .int .i64 200] rfl (by (try simp only [List.map_toArray, List.map_cons, List.map_nil]); first | done | rfl | (simp only [List.length_drop, List.length_take]; rfl)) ?_; (with_reducible refine (pl_FewRows.calls k _ _ l0 200 true _ ?side1 ?side2 A2.out).mono ?_); (case side1 => repeat (first | exact HR0.out | (with_reducible refine Kd.C_alloc ?_ _) | (with_reducible refine Kd.C_drewN ?_ _) | (with_reducible refine Kd.C_drew ?_))); (case side2 => exact HC0.out); rintro e w' ⟨rfl, ⟨nd, rfl⟩⟩; refine ⟨_, rfl, ?_⟩) | (go_at_call 20; (with_reducible refine (r13_Check.calls k _ _ l0 t304 _ ?side1 ?side2 A4.out).mono ?_); (case side1 => repeat (first | exact HR0.out | (with_reducible refine Kd.C_alloc ?_ _) | (with_reducible refine Kd.C_drewN ?_ _) | (with_reducible refine Kd.C_drew ?_))); (case side2 => exact HC0.out); rintro e w5 ⟨rfl, hb⟩; have n0_ := zk (zs (by with_reducible repeat first | exact HB.out | apply zA | apply zN | apply zD) hb); clear HB; have HB := n0_; clear n0_; (try clear hb); (try clear hb2); (try clear hk); (try clear hi)))
    go_ret
    exact ⟨by first | rfl | (simp [wN, wS] <;> rfl) | (simp [*, wN, wS] <;> rfl), by with_reducible repeat first | exact HB.out | apply zA | apply zN | apply zD⟩
  · replace c3 := Bool.eq_false_iff.mpr c3
    subst c3
    have H1 : (some false) = some r := by rw [if_neg (show ¬ (false = true) by decide)] at H; exact H
    clear H
    have H := H1
    clear H1
    obtain rfl := Option.some.inj H
    go_enter Try.func11, Try.ntmps11
    go_wp2_with (first | ((with_reducible refine zgk (f := 6) rfl ?_); refine zgl (some 4) rfl rfl Try.func6 (by kernel_rfl) rfl #[.slice A0 l0.length c0, .int .i64 200] rfl (by (try simp only [List.map_toArray, List.map_cons, List.map_nil]); first | done | rfl | (simp only [List.length_drop, List.length_take]; rfl)) ?_; (with_reducible refine (pl_FewRows.calls k _ _ l0 200 false _ ?side1 ?side2 A2.out).mono ?_); (case side1 => repeat (first | exact HR0.out | (with_reducible refine Kd.C_alloc ?_ _) | (with_reducible refine Kd.C_drewN ?_ _) | (with_reducible refine Kd.C_drew ?_))); (case side2 => exact HC0.out); rintro e w' ⟨rfl, ⟨nd, rfl⟩⟩; refine ⟨_, rfl, ?_⟩))
    go_ret
    exact ⟨by first | rfl | (simp [wN, wS] <;> rfl) | (simp [*, wN, wS] <;> rfl), by with_reducible repeat first | exact HB.out | apply zA | apply zN | apply zD⟩
end Go.Proofs.Ytelacebdmmanhaa.G
namespace Go.Proofs.Ytelacebdmmanhaa.G
open Go.RowKit Go.Proofs.YtelacebdmmanhaaW.PrintWords Go.Proofs.YtelacebdmmanhaaW.PrintLast Go.Proofs.YtelacebdmmanhaaW.PrintMore
attribute [local go_sem] max2_int min2_int max_two min_two max_three min_three max_four min_four
set_option linter.unusedVariables false
set_option linter.unusedSimpArgs false
end Go.Proofs.Ytelacebdmmanhaa.G
namespace Go.Proofs.Ytelacebdmmanhaa.G
open Go.RowKit Go.Proofs.YtelacebdmmanhaaW.PrintWords Go.Proofs.YtelacebdmmanhaaW.PrintLast Go.Proofs.YtelacebdmmanhaaW.PrintMore
set_option linter.unusedVariables false
set_option linter.unusedSimpArgs false
/-- What the law asks of a row that is matched. -/
structure TwR (a b : List S32) (R S : List Int) (i : Nat) : Prop where
  rng : 0 ≤ rd R i ∧ rd R i ≤ a.length
  up0 : 0 ≤ (rd_T32 b i).f1 ∧ (rd_T32 b i).f1 ≤ i
  back : 0 < rd R i → rd S (rd R i - 1) = ((i + 1 : Nat) : Int)
  tag : 0 < rd R i → (rd_T32 a (rd R i - 1)).f2 = (rd_T32 b i).f2
  key : 0 < rd R i → (rd_T32 a (rd R i - 1)).f3 = (rd_T32 b i).f3
  root : 0 < rd R i → (rd_T32 b i).f1 = 0 → (rd_T32 a (rd R i - 1)).f1 = 0
  up : 0 < rd R i → 0 < (rd_T32 b i).f1 → rd R ((rd_T32 b i).f1 - 1) = (rd_T32 a (rd R i - 1)).f1
/-- What the law's calls come to. -/
inductive TwC (k : Nat) (a b : List S32) : Prop
  | notA (h : lw_right.f k a = some false) (hs : lw_same.f k = some true)
  | notB (h : lw_right.f k a = some true) (h2 : lw_right.f k b = some false) (hs : lw_same.f k = some true)
  | both (h : lw_right.f k a = some true) (h2 : lw_right.f k b = some true) (hs : lw_same.f k = some true) (R S O : List Int)
      (hR : match_Pairs.f k a b = some R) (hS : match_Pairs.f k b a = some S) (hO : match_Pairs.f k a a = some O) (hF : match_Fresh.f k a a = some []) (hG : match_Gone.f k a a = some [])
      (la : a.length ≤ 1000000) (lb : b.length ≤ 1000000) (hRl : R.length = b.length) (hSl : S.length = a.length) (hOl : O.length = a.length)
      (tw : ∀ i : Nat, i < b.length → TwR a b R S i) (own : ∀ i : Nat, i < a.length → rd O i = ((i + 1 : Nat) : Int))
set_option maxHeartbeats 8000000 in
set_option maxRecDepth 100000 in
theorem twice_walk (k : Nat) (A0 : Option Addr) (c0 : Nat) (a : List S32) (A1 : Option Addr) (c1 : Nat) (b : List S32) (w : World) (hr0 : Kd.C k32 w A0 a.length a) (hc0 : a.length ≤ c0) (hr1 : Kd.C k32 w A1 b.length b) (hc1 : b.length ≤ c1) (h : TwC k a b) :
    Calls Try.prog 4 #[.slice A0 a.length c0, .slice A1 b.length c1] w fun e w' => e = .returned (.bool true) ∧ Below w.heap.size w w' := by
  have HC := Aside0.mk (And.intro hr0 (And.intro hc0 (And.intro hr1 hc1))); clear hr0 hc0 hr1 hc1
  cases h with
  | notA h hs =>
    have L1 := Aside0.mk (lw_right.calls k A0 c0 a false w HC.out.1 HC.out.2.1 h); have L2 := Aside0.mk (fun w1 => lw_same.calls k true w1 hs); clear h hs
    go_enter Try.func4, Try.ntmps4
    go_wp2_with (first
      | (go_at_call 11; (with_reducible refine (L1.out).mono ?_); rintro e w1 ⟨rfl, hb⟩; have B1 := Aside0.mk hb; clear hb L1)
      | (go_at_call 7; refine (L2.out _).mono ?_; rintro e w2 ⟨rfl, hb⟩; have B2 := Aside0.mk (B1.out.trans (hb.mono B1.out.size)); clear hb))
    refine bodyPost_ret (results_tmp rfl _ _ _) rfl ?_; exact ⟨rfl, B2.out⟩
  | notB h h2 hs =>
    have L1 := Aside0.mk (lw_right.calls k A0 c0 a true w HC.out.1 HC.out.2.1 h); have L1b := Aside0.mk (fun w1 (hb : Below w.heap.size w w1) => lw_right.calls k A1 c1 b false w1 (Kd.C_below HC.out.2.2.1 hb) HC.out.2.2.2 h2); have L2 := Aside0.mk (fun w1 => lw_same.calls k true w1 hs); clear h hs h2
    go_enter Try.func4, Try.ntmps4
    go_wp2_with (first
      | (go_at_call 11; (with_reducible refine (L1.out).mono ?_); rintro e w1 ⟨rfl, hb⟩; have B1 := Aside0.mk hb; clear hb L1)
      | (go_at_call 11; refine (L1b.out _ B1.out).mono ?_; rintro e w1 ⟨rfl, hb⟩; have B1b := Aside0.mk (B1.out.trans (hb.mono B1.out.size)); clear hb L1b)
      | (go_at_call 7; refine (L2.out _).mono ?_; rintro e w2 ⟨rfl, hb⟩; have B2 := Aside0.mk (B1b.out.trans (hb.mono B1b.out.size)); clear hb))
    refine bodyPost_ret (results_tmp rfl _ _ _) rfl ?_; exact ⟨rfl, B2.out⟩
  | both h h2 hs R S O hR hS hO hF hG la lb hRl hSl hOl tw own =>
    have L1 := Aside0.mk (lw_right.calls k A0 c0 a true w HC.out.1 HC.out.2.1 h); have L2 := Aside0.mk (fun w1 (hb : Below w.heap.size w w1) => lw_right.calls k A1 c1 b true w1 (Kd.C_below HC.out.2.2.1 hb) HC.out.2.2.2 h2); have L3 := Aside0.mk (fun w1 (hb : Below w.heap.size w w1) => match_Pairs.calls k A0 c0 a A1 c1 b R w1 (Kd.C_below HC.out.1 hb) HC.out.2.1 (Kd.C_below HC.out.2.2.1 hb) HC.out.2.2.2 hR); have L4 := Aside0.mk (fun w1 (hb : Below w.heap.size w w1) => match_Pairs.calls k A1 c1 b A0 c0 a S w1 (Kd.C_below HC.out.2.2.1 hb) HC.out.2.2.2 (Kd.C_below HC.out.1 hb) HC.out.2.1 hS); have L5 := Aside0.mk (fun w1 (hb : Below w.heap.size w w1) => match_Pairs.calls k A0 c0 a A0 c0 a O w1 (Kd.C_below HC.out.1 hb) HC.out.2.1 (Kd.C_below HC.out.1 hb) HC.out.2.1 hO); have L6 := Aside0.mk (fun w1 (hb : Below w.heap.size w w1) => match_Fresh.calls k A0 c0 a A0 c0 a [] w1 (Kd.C_below HC.out.1 hb) HC.out.2.1 (Kd.C_below HC.out.1 hb) HC.out.2.1 hF); have L7 := Aside0.mk (fun w1 (hb : Below w.heap.size w w1) => match_Gone.calls k A0 c0 a A0 c0 a [] w1 (Kd.C_below HC.out.1 hb) HC.out.2.1 (Kd.C_below HC.out.1 hb) HC.out.2.1 hG); have L8 := Aside0.mk (fun w1 => lw_same.calls k true w1 hs); have TW := Aside0.mk (And.intro tw own); obtain ⟨na, hna⟩ : ∃ n, a.length = n := ⟨_, rfl⟩; obtain ⟨nb, hnb⟩ : ∃ n, b.length = n := ⟨_, rfl⟩; have HN := Aside0.mk (show a.length = na ∧ b.length = nb ∧ na ≤ 1000000 ∧ nb ≤ 1000000 ∧ R.length = nb ∧ S.length = na ∧ O.length = na from ⟨hna, hnb, hna ▸ la, hnb ▸ lb, hRl.trans hnb, hSl.trans hna, hOl.trans hna⟩); rw [hna] at L1 L3 L4 L5 L6 L7; rw [hnb] at L2 L3 L4; have CA := Aside0.mk (show Kd.C k32 w A0 na a from hna ▸ HC.out.1); have CB := Aside0.mk (show Kd.C k32 w A1 nb b from hnb ▸ HC.out.2.2.1); rw [hna, hnb]; clear h h2 hs hR hS hO hF hG la lb hRl hSl hOl tw own hna hnb HC
    go_enter Try.func4, Try.ntmps4
    go_upto_block 0 with (first
      | (go_at_call 11; (with_reducible refine (L1.out).mono ?_); rintro e w1 ⟨rfl, hb⟩; have B1 := Aside0.mk hb; clear hb L1)
      | (go_at_call 11; refine (L2.out _ B1.out).mono ?_; rintro e w2 ⟨rfl, hb⟩; have B2 := Aside0.mk (B1.out.trans (hb.mono B1.out.size)); clear hb L2)
      | (go_at_call 8; refine (L3.out _ B2.out).mono ?_; rintro e w3 ⟨v3, rfl, hR3, hb⟩; have B3 := Aside0.mk (B2.out.trans (hb.mono B2.out.size)); obtain ⟨A3, c3, rfl⟩ := Kd.R_slice hR3; have R3 := Aside0.mk (show Kd.C (Kd.int .i64) w3 A3 nb R from HN.out.2.2.2.2.1 ▸ (Kd.R_reads' hR3).2.2); rw [HN.out.2.2.2.2.1]; clear hb L3 hR3)
      | (go_at_call 8; refine (L4.out _ B3.out).mono ?_; rintro e w4 ⟨v4, rfl, hR4, hb⟩; have B4 := Aside0.mk (B3.out.trans (hb.mono B3.out.size)); obtain ⟨A4, c4, rfl⟩ := Kd.R_slice hR4; have R4 := Aside0.mk (show Kd.C (Kd.int .i64) w4 A4 na S from HN.out.2.2.2.2.2.1 ▸ (Kd.R_reads' hR4).2.2); have R34 := Aside0.mk (Kd.C_below R3.out hb); rw [HN.out.2.2.2.2.2.1]; clear hb L4 hR4))
    go_wp2_with fail
    go_loopg [41] nb (fun kq v41 W => ∃ i : Nat, v41 = .int .i64 (i : Int) ∧ Aside0 (i + kq = nb) ∧ Aside0 (Below w.heap.size w W) ∧ Aside0 (Below w4.heap.size w4 W))
    case atStart => exact ⟨0, rfl, ⟨by omega⟩, B4, ⟨Below.refl _ _⟩⟩
    case round =>
    obtain ⟨i, rfl, HI, HB, HB4⟩ := hrel
    cases gk with
    | succ k1 =>
      have hib : i < nb := by have := HI.out; omega
      have HIB := Aside0.mk hib
      have hwi : wrap64 ((i : Int) + 1) = ((i + 1 : Nat) : Int) := by have := HN.out.2.2.2.1; unfold wrap64; omega
      obtain ⟨ad3, e3, hx⟩ := Kd.at_int (Kd.C_below R34.out HB4.out) (i : Int) (by omega) (by omega); subst e3; rw [Int.toNat_natCast] at hx; have T := Aside0.mk (TW.out.1 i (by rw [HN.out.2.1]; exact hib)); obtain ⟨x, hxx⟩ : ∃ x, rd R (i : Int) = x := ⟨_, rfl⟩; have HX := Aside0.mk hxx; rw [hxx] at hx; have hx0b : decide (x < 0) = false := decide_eq_false (by have := T.out.rng; omega); have hxnb : decide ((na : Int) < x) = false := decide_eq_false (by have := T.out.rng; have := HN.out.1; omega); clear hxx
      by_cases hx0 : x = 0
      · have hxb : (x == 0) = true := by simp [hx0]
        clear hx0
        go_wp2_with fail
        go_roundg k1
        case measure => omega
        case rel => exact ⟨i + 1, by rw [hwi], ⟨by have := HI.out; omega⟩, HB, HB4⟩
      have hxb : (x == 0) = false := by simp [hx0]
      have hxp : 0 < rd R (i : Int) := by have := T.out.rng; have := HX.out; omega
      obtain ⟨q, hq⟩ : ∃ q : Int, x - 1 = q := ⟨_, rfl⟩; have HQ := Aside0.mk (show rd R (i : Int) - 1 = q from by rw [HX.out]; exact hq)
      have hq0 : 0 ≤ q := by have := HX.out; omega
      have hqn : q < na := by have := T.out.rng; have := HN.out.1; have := HX.out; omega
      have hwq : wrap64 (x - 1) = q := by have := HN.out.2.2.1; unfold wrap64; omega
      have HT := Aside0.mk (show rd S q = ((i + 1 : Nat) : Int) ∧ (rd_T32 a q).f2 = (rd_T32 b i).f2 ∧ (rd_T32 a q).f3 = (rd_T32 b i).f3 ∧ ((rd_T32 b i).f1 = 0 → (rd_T32 a q).f1 = 0) ∧ (0 < (rd_T32 b i).f1 → rd R ((rd_T32 b i).f1 - 1) = (rd_T32 a q).f1) ∧ 0 ≤ (rd_T32 b i).f1 ∧ (rd_T32 b i).f1 ≤ i from by
        have h1 := T.out.back hxp; have h2 := T.out.tag hxp; have h3 := T.out.key hxp; have h4 := T.out.root hxp; have h5 := T.out.up hxp; rw [HQ.out] at h1 h2 h3 h4 h5
        exact ⟨h1, h2, h3, h4, h5, T.out.up0.1, T.out.up0.2⟩)
      clear hq hx0 hxp; obtain ⟨ad4, e4, hs⟩ := Kd.at_int (Kd.C_below R4.out HB4.out) q hq0 hqn; subst e4; rw [HT.out.1] at hs; obtain ⟨ada, A5, c5, ea, a0, a1, a2, a3, a4, a5, _⟩ := at_T32 (Kd.C_below CA.out HB.out) q hq0 hqn; subst ea; obtain ⟨adb, A6, c6, eb, b0, b1, b2, b3, b4, b5, _⟩ := at_T32 (Kd.C_below CB.out HB.out) (i : Int) (by omega) (by omega); subst eb; rw [Int.toNat_natCast] at b0 b1 b2 b3 b4 b5; rw [HT.out.2.1] at a2; rw [HT.out.2.2.1] at a3; obtain ⟨s2, hs2⟩ : ∃ s, (rd_T32 b (i : Int)).f2 = s := ⟨_, rfl⟩; obtain ⟨s3, hs3⟩ : ∃ s, (rd_T32 b (i : Int)).f3 = s := ⟨_, rfl⟩; obtain ⟨u, hu⟩ : ∃ s, (rd_T32 b (i : Int)).f1 = s := ⟨_, rfl⟩; obtain ⟨v, hv⟩ : ∃ s, (rd_T32 a q).f1 = s := ⟨_, rfl⟩; obtain ⟨y0, hy0⟩ : ∃ s, (rd_T32 a q).f0 = s := ⟨_, rfl⟩; obtain ⟨y4, hy4⟩ : ∃ s, (rd_T32 a q).f4 = s := ⟨_, rfl⟩; obtain ⟨y5, hy5⟩ : ∃ s, (rd_T32 a q).f5.length = s := ⟨_, rfl⟩; rw [hs2] at a2 b2; rw [hs3] at a3 b3; rw [hu] at b1; rw [hv] at a1; rw [hy0] at a0; rw [hy4] at a4; rw [hy5] at a5
      have HU := Aside0.mk (show (u = 0 → v = 0) ∧ (0 < u → rd R (u - 1) = v) ∧ 0 ≤ u ∧ u ≤ i from by
        have h := HT.out.2.2.2; rw [hu, hv] at h
        exact h)
      clear hs2 hs3 hu hv hy0 hy4 hy5 b0 b4 b5
      go_upto_region 14 with fail
      obtain ⟨g, hg⟩ : ∃ g, wr.heap.size = g := ⟨_, rfl⟩; obtain ⟨W2, hW2⟩ : ∃ W2, wr.alloc (.cells #[.int .i64 y0, .int .i64 v, .string s2, .string s3, .string y4, .slice A5 y5 c5] 32) = W2 := ⟨_, rfl⟩; rw [hW2, hg]; have X2 := Aside0.mk (show W2.heap[g]? = some (.cells #[.int .i64 y0, .int .i64 v, .string s2, .string s3, .string y4, .slice A5 y5 c5] 32 (0, 0)) from by rw [← hW2, ← hg]; exact blk_new wr _); have HW := Aside0.mk (show Below wr.heap.size wr W2 from hW2 ▸ zA (Below.refl _ wr) _); have B2 := Aside0.mk (HB.out.trans (HW.out.mono HB.out.size)); have C2 := Aside0.mk (HB4.out.trans (HW.out.mono HB4.out.size)); have g1 : W2.cell? ⟨g, 1, none⟩ = some (.int .i64 v) := (zC X2.out 1).trans rfl; have g2 : W2.cell? ⟨g, 2, none⟩ = some (.string s2) := (zC X2.out 2).trans rfl; have g3 : W2.cell? ⟨g, 3, none⟩ = some (.string s3) := (zC X2.out 3).trans rfl; replace hx := (HW.out.cell (World.block_lt_of_cell? _ _ hx)).trans hx; replace hs := (HW.out.cell (World.block_lt_of_cell? _ _ hs)).trans hs; replace b1 := (HW.out.cell (World.block_lt_of_cell? _ _ b1)).trans b1; replace b2 := (HW.out.cell (World.block_lt_of_cell? _ _ b2)).trans b2; replace b3 := (HW.out.cell (World.block_lt_of_cell? _ _ b3)).trans b3; clear hW2 hg a0 a1 a2 a3 a4 a5
      go_upto_region 15 with fail
      by_cases hu0 : u = 0
      · obtain rfl : v = 0 := HU.out.1 hu0
        subst hu0
        refine start_ (n := 54) (S := (fun w' => w'.cell? (ad3.add i) = some (.int .i64 x) ∧ w'.cell? (ad4.add q.toNat) = some (.int .i64 ((i + 1 : Nat) : Int)) ∧ w'.cell? ⟨g, 1, none⟩ = some (.int .i64 0) ∧ w'.cell? ⟨g, 2, none⟩ = some (.string s2) ∧ w'.cell? ⟨g, 3, none⟩ = some (.string s3) ∧ w'.cell? ⟨(adb.add (i * 6)).block, (adb.add (i * 6)).off + 2, none⟩ = some (.string s2) ∧ w'.cell? ⟨(adb.add (i * 6)).block, (adb.add (i * 6)).off + 3, none⟩ = some (.string s3))) (ds := []) #[false, false, false, false, false, false, false, false, false, false, false, false, false, false, false, false, false, false, false, false, false, false, false, false, false, false, false, false, false, false, false, false, false, false, false, false, false, false, false, false, false, false, false, false, false, false, false, false, false, false, false, false, false, false] (by kernel_rfl) rfl rfl ?_ ?_
        · exact ⟨hx, hs, g1, g2, g3, b2, b3⟩
        intro hHeld
        refine pure_ (i := 0) (N := some 76) (v := ?_) (a' := ?_) #[true, false, false, false, false, false, false, false, false, false, false, false, false, false, false, false, false, false, false, false, false, false, false, false, false, false, false, false, false, false, false, false, false, false, false, false, false, false, false, false, false, false, false, false, false, false, false, false, false, false, false, false, false, false] rfl rfl (by kernel_rfl) (fun _ _ _ h => h) (Or.inl ⟨by rfl, ?_⟩) ?_ ?_
        rotate_left
        · intro w'
          go_simp
          with_reducible rfl
        rotate_left
        · simp only [Act.put, List.setIfInBounds_toArray, List.set_cons_zero, List.set_cons_succ, i64_w, i32_w]
          rfl
        refine pure_ (i := 1) (N := some 77) (v := ?_) (a' := ?_) #[true, true, false, false, false, false, false, false, false, false, false, false, false, false, false, false, false, false, false, false, false, false, false, false, false, false, false, false, false, false, false, false, false, false, false, false, false, false, false, false, false, false, false, false, false, false, false, false, false, false, false, false, false, false] rfl rfl (by kernel_rfl) (fun _ _ _ h => h) (Or.inl ⟨by rfl, ?_⟩) ?_ ?_
        rotate_left
        · intro w'
          go_simp
          with_reducible rfl
        rotate_left
        · simp only [Act.put, List.setIfInBounds_toArray, List.set_cons_zero, List.set_cons_succ, i64_w, i32_w]
          rfl
        refine pure_ (i := 2) (N := some 78) (v := ?_) (a' := ?_) #[true, true, true, false, false, false, false, false, false, false, false, false, false, false, false, false, false, false, false, false, false, false, false, false, false, false, false, false, false, false, false, false, false, false, false, false, false, false, false, false, false, false, false, false, false, false, false, false, false, false, false, false, false, false] rfl rfl (by kernel_rfl) (fun _ _ _ h => h) (Or.inl ⟨by rfl, ?_⟩) ?_ ?_
        rotate_left
        · intro w'
          go_simp
          with_reducible rfl
        rotate_left
        · simp only [Act.put, List.setIfInBounds_toArray, List.set_cons_zero, List.set_cons_succ, i64_w, i32_w]
          rfl
        refine pure_ (i := 3) (N := some 79) (v := ?_) (a' := ?_) #[true, true, true, true, false, false, false, false, false, false, false, false, false, false, false, false, false, false, false, false, false, false, false, false, false, false, false, false, false, false, false, false, false, false, false, false, false, false, false, false, false, false, false, false, false, false, false, false, false, false, false, false, false, false] rfl rfl (by kernel_rfl) (fun _ _ _ h => h) (Or.inl ⟨by rfl, ?_⟩) ?_ ?_
        rotate_left
        · intro w'
          go_simp
          with_reducible rfl
        rotate_left
        · simp only [Act.put, List.setIfInBounds_toArray, List.set_cons_zero, List.set_cons_succ, i64_w, i32_w]
          rfl
        refine pure_ (i := 8) (N := some 84) (v := ?_) (a' := ?_) #[true, true, true, true, false, false, false, false, true, false, false, false, false, false, false, false, false, false, false, false, false, false, false, false, false, false, false, false, false, false, false, false, false, false, false, false, false, false, false, false, false, false, false, false, false, false, false, false, false, false, false, false, false, false] rfl rfl (by kernel_rfl) (fun _ _ _ h => h) (Or.inl ⟨by rfl, ?_⟩) ?_ ?_
        rotate_left
        · intro w'
          go_simp
          with_reducible rfl
        rotate_left
        · simp only [Act.put, List.setIfInBounds_toArray, List.set_cons_zero, List.set_cons_succ, i64_w, i32_w]
          rfl
        refine pure_ (i := 9) (N := some 85) (v := ?_) (a' := ?_) #[true, true, true, true, false, false, false, false, true, true, false, false, false, false, false, false, false, false, false, false, false, false, false, false, false, false, false, false, false, false, false, false, false, false, false, false, false, false, false, false, false, false, false, false, false, false, false, false, false, false, false, false, false, false] rfl rfl (by kernel_rfl) (fun _ _ _ h => h) (Or.inl ⟨by rfl, ?_⟩) ?_ ?_
        rotate_left
        · intro w'
          go_simp
          with_reducible rfl
        rotate_left
        · simp only [Act.put, List.setIfInBounds_toArray, List.set_cons_zero, List.set_cons_succ, i64_w, i32_w]
          rfl
        refine take_ (i := 4) (N := some 80) (v := ?_) (a' := ?_) #[true, true, true, true, true, false, false, false, true, true, false, false, false, false, false, false, false, false, false, false, false, false, false, false, false, false, false, false, false, false, false, false, false, false, false, false, false, false, false, false, false, false, false, false, false, false, false, false, false, false, false, false, false, false] rfl rfl (by kernel_rfl) (fun _ _ _ h => h) (Or.inl ⟨by rfl, ?_⟩) hHeld ?_ ?_
        rotate_left
        · rintro w' ⟨s0, s1, s2, s3, s4, s5, s6⟩
          go_simp
          with_reducible rfl
        rotate_left
        · simp only [Act.put, List.setIfInBounds_toArray, List.set_cons_zero, List.set_cons_succ, i64_w, i32_w]
          rfl
        refine pure_ (i := 5) (N := some 81) (v := ?_) (a' := ?_) #[true, true, true, true, true, true, false, false, true, true, false, false, false, false, false, false, false, false, false, false, false, false, false, false, false, false, false, false, false, false, false, false, false, false, false, false, false, false, false, false, false, false, false, false, false, false, false, false, false, false, false, false, false, false] rfl rfl (by kernel_rfl) (fun _ _ _ h => h) (Or.inl ⟨by rfl, ?_⟩) ?_ ?_
        rotate_left
        · intro w'
          go_simp
          with_reducible rfl
        rotate_left
        · simp only [Act.put, List.setIfInBounds_toArray, List.set_cons_zero, List.set_cons_succ, i64_w, i32_w]
          rfl
        refine pure_ (i := 6) (N := some 82) (v := ?_) (a' := ?_) #[true, true, true, true, true, true, true, false, true, true, false, false, false, false, false, false, false, false, false, false, false, false, false, false, false, false, false, false, false, false, false, false, false, false, false, false, false, false, false, false, false, false, false, false, false, false, false, false, false, false, false, false, false, false] rfl rfl (by kernel_rfl) (fun _ _ _ h => h) (Or.inl ⟨by rfl, ?_⟩) ?_ ?_
        rotate_left
        · intro w'
          go_simp
          with_reducible rfl
        rotate_left
        · simp only [Act.put, List.setIfInBounds_toArray, List.set_cons_zero, List.set_cons_succ, i64_w, i32_w]
          rfl
        refine take_ (i := 7) (N := some 83) (v := ?_) (a' := ?_) #[true, true, true, true, true, true, true, true, true, true, false, false, false, false, false, false, false, false, false, false, false, false, false, false, false, false, false, false, false, false, false, false, false, false, false, false, false, false, false, false, false, false, false, false, false, false, false, false, false, false, false, false, false, false] rfl rfl (by kernel_rfl) (fun _ _ _ h => h) (Or.inl ⟨by rfl, ?_⟩) hHeld ?_ ?_
        rotate_left
        · rintro w' ⟨s0, s1, s2, s3, s4, s5, s6⟩
          go_simp
          with_reducible rfl
        rotate_left
        · simp only [Act.put, List.setIfInBounds_toArray, List.set_cons_zero, List.set_cons_succ, i64_w, i32_w]
          rfl
        refine pure_ (i := 10) (N := some 86) (v := ?_) (a' := ?_) #[true, true, true, true, true, true, true, true, true, true, true, false, false, false, false, false, false, false, false, false, false, false, false, false, false, false, false, false, false, false, false, false, false, false, false, false, false, false, false, false, false, false, false, false, false, false, false, false, false, false, false, false, false, false] rfl rfl (by kernel_rfl) (fun _ _ _ h => h) (Or.inl ⟨by rfl, ?_⟩) ?_ ?_
        rotate_left
        · intro w'
          go_simp
          with_reducible rfl
        rotate_left
        · simp only [Act.put, List.setIfInBounds_toArray, List.set_cons_zero, List.set_cons_succ, i64_w, i32_w]
          rfl
        refine pure_ (i := 11) (N := some 87) (v := ?_) (a' := ?_) #[true, true, true, true, true, true, true, true, true, true, true, true, false, false, false, false, false, false, false, false, false, false, false, false, false, false, false, false, false, false, false, false, false, false, false, false, false, false, false, false, false, false, false, false, false, false, false, false, false, false, false, false, false, false] rfl rfl (by kernel_rfl) (fun _ _ _ h => h) (Or.inl ⟨by rfl, ?_⟩) ?_ ?_
        rotate_left
        · intro w'
          go_simp
          with_reducible rfl
        rotate_left
        · simp only [Act.put, List.setIfInBounds_toArray, List.set_cons_zero, List.set_cons_succ, i64_w, i32_w]
          rfl
        refine pure_ (i := 12) (N := some 88) (v := ?_) (a' := ?_) #[true, true, true, true, true, true, true, true, true, true, true, true, true, false, false, false, false, false, false, false, false, false, false, false, false, false, false, false, false, false, false, false, false, false, false, false, false, false, false, false, false, false, false, false, false, false, false, false, false, false, false, false, false, false] rfl rfl (by kernel_rfl) (fun _ _ _ h => h) (Or.inl ⟨by rfl, ?_⟩) ?_ ?_
        rotate_left
        · intro w'
          go_simp
          with_reducible rfl
        rotate_left
        · simp only [Act.put, List.setIfInBounds_toArray, List.set_cons_zero, List.set_cons_succ, i64_w, i32_w]
          rfl
        refine pure_ (i := 14) (N := some 90) (v := ?_) (a' := ?_) #[true, true, true, true, true, true, true, true, true, true, true, true, true, false, true, false, false, false, false, false, false, false, false, false, false, false, false, false, false, false, false, false, false, false, false, false, false, false, false, false, false, false, false, false, false, false, false, false, false, false, false, false, false, false] rfl rfl (by kernel_rfl) (fun _ _ _ h => h) (Or.inl ⟨by rfl, ?_⟩) ?_ ?_
        rotate_left
        · intro w'
          go_simp
          with_reducible rfl
        rotate_left
        · simp only [Act.put, List.setIfInBounds_toArray, List.set_cons_zero, List.set_cons_succ, i64_w, i32_w]
          rfl
        refine pure_ (i := 15) (N := some 91) (v := ?_) (a' := ?_) #[true, true, true, true, true, true, true, true, true, true, true, true, true, false, true, true, false, false, false, false, false, false, false, false, false, false, false, false, false, false, false, false, false, false, false, false, false, false, false, false, false, false, false, false, false, false, false, false, false, false, false, false, false, false] rfl rfl (by kernel_rfl) (fun _ _ _ h => h) (Or.inl ⟨by rfl, ?_⟩) ?_ ?_
        rotate_left
        · intro w'
          go_simp
          with_reducible rfl
        rotate_left
        · simp only [Act.put, List.setIfInBounds_toArray, List.set_cons_zero, List.set_cons_succ, i64_w, i32_w]
          rfl
        refine pure_ (i := 16) (N := some 92) (v := ?_) (a' := ?_) #[true, true, true, true, true, true, true, true, true, true, true, true, true, false, true, true, true, false, false, false, false, false, false, false, false, false, false, false, false, false, false, false, false, false, false, false, false, false, false, false, false, false, false, false, false, false, false, false, false, false, false, false, false, false] rfl rfl (by kernel_rfl) (fun _ _ _ h => h) (Or.inl ⟨by rfl, ?_⟩) ?_ ?_
        rotate_left
        · intro w'
          go_simp
          with_reducible rfl
        rotate_left
        · simp only [Act.put, List.setIfInBounds_toArray, List.set_cons_zero, List.set_cons_succ, i64_w, i32_w]
          rfl
        refine pure_ (i := 17) (N := some 93) (v := ?_) (a' := ?_) #[true, true, true, true, true, true, true, true, true, true, true, true, true, false, true, true, true, true, false, false, false, false, false, false, false, false, false, false, false, false, false, false, false, false, false, false, false, false, false, false, false, false, false, false, false, false, false, false, false, false, false, false, false, false] rfl rfl (by kernel_rfl) (fun _ _ _ h => h) (Or.inl ⟨by rfl, ?_⟩) ?_ ?_
        rotate_left
        · intro w'
          go_simp
          with_reducible rfl
        rotate_left
        · simp only [Act.put, List.setIfInBounds_toArray, List.set_cons_zero, List.set_cons_succ, i64_w, i32_w]
          rfl
        refine take_ (i := 13) (N := some 89) (v := ?_) (a' := ?_) #[true, true, true, true, true, true, true, true, true, true, true, true, true, true, true, true, true, true, false, false, false, false, false, false, false, false, false, false, false, false, false, false, false, false, false, false, false, false, false, false, false, false, false, false, false, false, false, false, false, false, false, false, false, false] rfl rfl (by kernel_rfl) (fun _ _ _ h => h) (Or.inl ⟨by rfl, ?_⟩) hHeld ?_ ?_
        rotate_left
        · rintro w' ⟨s0, s1, s2, s3, s4, s5, s6⟩
          go_simp
          with_reducible rfl
        rotate_left
        · simp only [Act.put, List.setIfInBounds_toArray, List.set_cons_zero, List.set_cons_succ, i64_w, i32_w]
          rfl
        refine take_ (i := 18) (N := some 94) (v := ?_) (a' := ?_) #[true, true, true, true, true, true, true, true, true, true, true, true, true, true, true, true, true, true, true, false, false, false, false, false, false, false, false, false, false, false, false, false, false, false, false, false, false, false, false, false, false, false, false, false, false, false, false, false, false, false, false, false, false, false] rfl rfl (by kernel_rfl) (fun _ _ _ h => h) (Or.inl ⟨by rfl, ?_⟩) hHeld ?_ ?_
        rotate_left
        · rintro w' ⟨s0, s1, s2, s3, s4, s5, s6⟩
          go_simp
          with_reducible rfl
        rotate_left
        · simp only [Act.put, List.setIfInBounds_toArray, List.set_cons_zero, List.set_cons_succ, i64_w, i32_w]
          rfl
        refine pure_ (i := 19) (N := some 95) (v := ?_) (a' := ?_) #[true, true, true, true, true, true, true, true, true, true, true, true, true, true, true, true, true, true, true, true, false, false, false, false, false, false, false, false, false, false, false, false, false, false, false, false, false, false, false, false, false, false, false, false, false, false, false, false, false, false, false, false, false, false] rfl rfl (by kernel_rfl) (fun _ _ _ h => h) (Or.inl ⟨by rfl, ?_⟩) ?_ ?_
        rotate_left
        · intro w'
          go_simp
          with_reducible rfl
        rotate_left
        · simp only [Act.put, List.setIfInBounds_toArray, List.set_cons_zero, List.set_cons_succ, i64_w, i32_w]
          rfl
        refine pure_ (i := 20) (N := some 96) (v := ?_) (a' := ?_) #[true, true, true, true, true, true, true, true, true, true, true, true, true, true, true, true, true, true, true, true, true, false, false, false, false, false, false, false, false, false, false, false, false, false, false, false, false, false, false, false, false, false, false, false, false, false, false, false, false, false, false, false, false, false] rfl rfl (by kernel_rfl) (fun _ _ _ h => h) (Or.inl ⟨by rfl, ?_⟩) ?_ ?_
        rotate_left
        · intro w'
          go_simp
          with_reducible rfl
        rotate_left
        · simp only [Act.put, List.setIfInBounds_toArray, List.set_cons_zero, List.set_cons_succ, i64_w, i32_w]
          rfl
        refine pure_ (i := 21) (N := some 97) (v := ?_) (a' := ?_) #[true, true, true, true, true, true, true, true, true, true, true, true, true, true, true, true, true, true, true, true, true, true, false, false, false, false, false, false, false, false, false, false, false, false, false, false, false, false, false, false, false, false, false, false, false, false, false, false, false, false, false, false, false, false] rfl rfl (by kernel_rfl) (fun _ _ _ h => h) (Or.inl ⟨by rfl, ?_⟩) ?_ ?_
        rotate_left
        · intro w'
          go_simp
          with_reducible rfl
        rotate_left
        · simp only [Act.put, List.setIfInBounds_toArray, List.set_cons_zero, List.set_cons_succ, i64_w, i32_w]
          rfl
        refine pure_ (i := 22) (N := some 98) (v := ?_) (a' := ?_) #[true, true, true, true, true, true, true, true, true, true, true, true, true, true, true, true, true, true, true, true, true, true, true, false, false, false, false, false, false, false, false, false, false, false, false, false, false, false, false, false, false, false, false, false, false, false, false, false, false, false, false, false, false, false] rfl rfl (by kernel_rfl) (fun _ _ _ h => h) (Or.inl ⟨by rfl, ?_⟩) ?_ ?_
        rotate_left
        · intro w'
          go_simp
          with_reducible rfl
        rotate_left
        · simp only [Act.put, List.setIfInBounds_toArray, List.set_cons_zero, List.set_cons_succ, i64_w, i32_w]
          rfl
        refine pure_ (i := 24) (N := some 100) (v := ?_) (a' := ?_) #[true, true, true, true, true, true, true, true, true, true, true, true, true, true, true, true, true, true, true, true, true, true, true, false, true, false, false, false, false, false, false, false, false, false, false, false, false, false, false, false, false, false, false, false, false, false, false, false, false, false, false, false, false, false] rfl rfl (by kernel_rfl) (fun _ _ _ h => h) (Or.inl ⟨by rfl, ?_⟩) ?_ ?_
        rotate_left
        · intro w'
          go_simp
          with_reducible rfl
        rotate_left
        · simp only [Act.put, List.setIfInBounds_toArray, List.set_cons_zero, List.set_cons_succ, i64_w, i32_w]
          rfl
        refine pure_ (i := 25) (N := some 101) (v := ?_) (a' := ?_) #[true, true, true, true, true, true, true, true, true, true, true, true, true, true, true, true, true, true, true, true, true, true, true, false, true, true, false, false, false, false, false, false, false, false, false, false, false, false, false, false, false, false, false, false, false, false, false, false, false, false, false, false, false, false] rfl rfl (by kernel_rfl) (fun _ _ _ h => h) (Or.inl ⟨by rfl, ?_⟩) ?_ ?_
        rotate_left
        · intro w'
          go_simp
          with_reducible rfl
        rotate_left
        · simp only [Act.put, List.setIfInBounds_toArray, List.set_cons_zero, List.set_cons_succ, i64_w, i32_w]
          rfl
        refine pure_ (i := 26) (N := some 102) (v := ?_) (a' := ?_) #[true, true, true, true, true, true, true, true, true, true, true, true, true, true, true, true, true, true, true, true, true, true, true, false, true, true, true, false, false, false, false, false, false, false, false, false, false, false, false, false, false, false, false, false, false, false, false, false, false, false, false, false, false, false] rfl rfl (by kernel_rfl) (fun _ _ _ h => h) (Or.inl ⟨by rfl, ?_⟩) ?_ ?_
        rotate_left
        · intro w'
          go_simp
          with_reducible rfl
        rotate_left
        · simp only [Act.put, List.setIfInBounds_toArray, List.set_cons_zero, List.set_cons_succ, i64_w, i32_w]
          rfl
        refine pure_ (i := 27) (N := some 103) (v := ?_) (a' := ?_) #[true, true, true, true, true, true, true, true, true, true, true, true, true, true, true, true, true, true, true, true, true, true, true, false, true, true, true, true, false, false, false, false, false, false, false, false, false, false, false, false, false, false, false, false, false, false, false, false, false, false, false, false, false, false] rfl rfl (by kernel_rfl) (fun _ _ _ h => h) (Or.inl ⟨by rfl, ?_⟩) ?_ ?_
        rotate_left
        · intro w'
          go_simp
          with_reducible rfl
        rotate_left
        · simp only [Act.put, List.setIfInBounds_toArray, List.set_cons_zero, List.set_cons_succ, i64_w, i32_w]
          rfl
        refine take_ (i := 23) (N := some 99) (v := ?_) (a' := ?_) #[true, true, true, true, true, true, true, true, true, true, true, true, true, true, true, true, true, true, true, true, true, true, true, true, true, true, true, true, false, false, false, false, false, false, false, false, false, false, false, false, false, false, false, false, false, false, false, false, false, false, false, false, false, false] rfl rfl (by kernel_rfl) (fun _ _ _ h => h) (Or.inl ⟨by rfl, ?_⟩) hHeld ?_ ?_
        rotate_left
        · rintro w' ⟨s0, s1, s2, s3, s4, s5, s6⟩
          go_simp
          with_reducible rfl
        rotate_left
        · simp only [Act.put, List.setIfInBounds_toArray, List.set_cons_zero, List.set_cons_succ, i64_w, i32_w]
          rfl
        refine take_ (i := 28) (N := some 104) (v := ?_) (a' := ?_) #[true, true, true, true, true, true, true, true, true, true, true, true, true, true, true, true, true, true, true, true, true, true, true, true, true, true, true, true, true, false, false, false, false, false, false, false, false, false, false, false, false, false, false, false, false, false, false, false, false, false, false, false, false, false] rfl rfl (by kernel_rfl) (fun _ _ _ h => h) (Or.inl ⟨by rfl, ?_⟩) hHeld ?_ ?_
        rotate_left
        · rintro w' ⟨s0, s1, s2, s3, s4, s5, s6⟩
          go_simp
          with_reducible rfl
        rotate_left
        · simp only [Act.put, List.setIfInBounds_toArray, List.set_cons_zero, List.set_cons_succ, i64_w, i32_w]
          rfl
        refine pure_ (i := 29) (N := some 105) (v := ?_) (a' := ?_) #[true, true, true, true, true, true, true, true, true, true, true, true, true, true, true, true, true, true, true, true, true, true, true, true, true, true, true, true, true, true, false, false, false, false, false, false, false, false, false, false, false, false, false, false, false, false, false, false, false, false, false, false, false, false] rfl rfl (by kernel_rfl) (fun _ _ _ h => h) (Or.inl ⟨by rfl, ?_⟩) ?_ ?_
        rotate_left
        · intro w'
          go_simp
          with_reducible rfl
        rotate_left
        · simp only [Act.put, List.setIfInBounds_toArray, List.set_cons_zero, List.set_cons_succ, i64_w, i32_w]
          rfl
        refine pure_ (i := 30) (N := some 106) (v := ?_) (a' := ?_) #[true, true, true, true, true, true, true, true, true, true, true, true, true, true, true, true, true, true, true, true, true, true, true, true, true, true, true, true, true, true, true, false, false, false, false, false, false, false, false, false, false, false, false, false, false, false, false, false, false, false, false, false, false, false] rfl rfl (by kernel_rfl) (fun _ _ _ h => h) (Or.inl ⟨by rfl, ?_⟩) ?_ ?_
        rotate_left
        · intro w'
          go_simp
          with_reducible rfl
        rotate_left
        · simp only [Act.put, List.setIfInBounds_toArray, List.set_cons_zero, List.set_cons_succ, i64_w, i32_w]
          rfl
        refine pure_ (i := 31) (N := some 107) (v := ?_) (a' := ?_) #[true, true, true, true, true, true, true, true, true, true, true, true, true, true, true, true, true, true, true, true, true, true, true, true, true, true, true, true, true, true, true, true, false, false, false, false, false, false, false, false, false, false, false, false, false, false, false, false, false, false, false, false, false, false] rfl rfl (by kernel_rfl) (fun _ _ _ h => h) (Or.inl ⟨by rfl, ?_⟩) ?_ ?_
        rotate_left
        · intro w'
          go_simp
          with_reducible rfl
        rotate_left
        · simp only [Act.put, List.setIfInBounds_toArray, List.set_cons_zero, List.set_cons_succ, i64_w, i32_w]
          rfl
        refine pure_ (i := 32) (N := some 108) (v := ?_) (a' := ?_) #[true, true, true, true, true, true, true, true, true, true, true, true, true, true, true, true, true, true, true, true, true, true, true, true, true, true, true, true, true, true, true, true, true, false, false, false, false, false, false, false, false, false, false, false, false, false, false, false, false, false, false, false, false, false] rfl rfl (by kernel_rfl) (fun _ _ _ h => h) (Or.inl ⟨by rfl, ?_⟩) ?_ ?_
        rotate_left
        · intro w'
          go_simp
          with_reducible rfl
        rotate_left
        · simp only [Act.put, List.setIfInBounds_toArray, List.set_cons_zero, List.set_cons_succ, i64_w, i32_w]
          rfl
        refine pure_ (i := 33) (N := some 109) (v := ?_) (a' := ?_) #[true, true, true, true, true, true, true, true, true, true, true, true, true, true, true, true, true, true, true, true, true, true, true, true, true, true, true, true, true, true, true, true, true, true, false, false, false, false, false, false, false, false, false, false, false, false, false, false, false, false, false, false, false, false] rfl rfl (by kernel_rfl) (fun _ _ _ h => h) (Or.inl ⟨by rfl, ?_⟩) ?_ ?_
        rotate_left
        · intro w'
          go_simp
          with_reducible rfl
        rotate_left
        · simp only [Act.put, List.setIfInBounds_toArray, List.set_cons_zero, List.set_cons_succ, i64_w, i32_w]
          rfl
        refine pure_ (i := 34) (N := some 110) (v := ?_) (a' := ?_) #[true, true, true, true, true, true, true, true, true, true, true, true, true, true, true, true, true, true, true, true, true, true, true, true, true, true, true, true, true, true, true, true, true, true, true, false, false, false, false, false, false, false, false, false, false, false, false, false, false, false, false, false, false, false] rfl rfl (by kernel_rfl) (fun _ _ _ h => h) (Or.inl ⟨by rfl, ?_⟩) ?_ ?_
        rotate_left
        · intro w'
          go_simp
          with_reducible rfl
        rotate_left
        · simp only [Act.put, List.setIfInBounds_toArray, List.set_cons_zero, List.set_cons_succ, i64_w, i32_w]
          rfl
        refine pure_ (i := 35) (N := some 111) (v := ?_) (a' := ?_) #[true, true, true, true, true, true, true, true, true, true, true, true, true, true, true, true, true, true, true, true, true, true, true, true, true, true, true, true, true, true, true, true, true, true, true, true, false, false, false, false, false, false, false, false, false, false, false, false, false, false, false, false, false, false] rfl rfl (by kernel_rfl) (fun _ _ _ h => h) (Or.inl ⟨by rfl, ?_⟩) ?_ ?_
        rotate_left
        · intro w'
          go_simp
          with_reducible rfl
        rotate_left
        · simp only [Act.put, List.setIfInBounds_toArray, List.set_cons_zero, List.set_cons_succ, i64_w, i32_w]
          rfl
        refine take_ (i := 36) (N := some 112) (v := ?_) (a' := ?_) #[true, true, true, true, true, true, true, true, true, true, true, true, true, true, true, true, true, true, true, true, true, true, true, true, true, true, true, true, true, true, true, true, true, true, true, true, true, false, false, false, false, false, false, false, false, false, false, false, false, false, false, false, false, false] rfl rfl (by kernel_rfl) (fun _ _ _ h => h) (Or.inl ⟨by rfl, ?_⟩) hHeld ?_ ?_
        rotate_left
        · rintro w' ⟨s0, s1, s2, s3, s4, s5, s6⟩
          go_simp
          with_reducible rfl
        rotate_left
        · simp only [Act.put, List.setIfInBounds_toArray, List.set_cons_zero, List.set_cons_succ, i64_w, i32_w]
          rfl
        refine pure_ (i := 37) (N := some 113) (v := ?_) (a' := ?_) #[true, true, true, true, true, true, true, true, true, true, true, true, true, true, true, true, true, true, true, true, true, true, true, true, true, true, true, true, true, true, true, true, true, true, true, true, true, true, false, false, false, false, false, false, false, false, false, false, false, false, false, false, false, false] rfl rfl (by kernel_rfl) (fun _ _ _ h => h) (Or.inl ⟨by rfl, ?_⟩) ?_ ?_
        rotate_left
        · intro w'
          go_simp
          with_reducible rfl
        rotate_left
        · simp only [Act.put, List.setIfInBounds_toArray, List.set_cons_zero, List.set_cons_succ, i64_w, i32_w]
          rfl
        refine pure_ (i := 38) (N := some 114) (v := ?_) (a' := ?_) #[true, true, true, true, true, true, true, true, true, true, true, true, true, true, true, true, true, true, true, true, true, true, true, true, true, true, true, true, true, true, true, true, true, true, true, true, true, true, true, false, false, false, false, false, false, false, false, false, false, false, false, false, false, false] rfl rfl (by kernel_rfl) (fun _ _ _ h => h) (Or.inl ⟨by rfl, ?_⟩) ?_ ?_
        rotate_left
        · intro w'
          go_simp
          with_reducible rfl
        rotate_left
        · simp only [Act.put, List.setIfInBounds_toArray, List.set_cons_zero, List.set_cons_succ, i64_w, i32_w]
          rfl
        refine pure_ (i := 39) (N := some 115) (v := ?_) (a' := ?_) #[true, true, true, true, true, true, true, true, true, true, true, true, true, true, true, true, true, true, true, true, true, true, true, true, true, true, true, true, true, true, true, true, true, true, true, true, true, true, true, true, false, false, false, false, false, false, false, false, false, false, false, false, false, false] rfl rfl (by kernel_rfl) (fun _ _ _ h => h) (Or.inl ⟨by rfl, ?_⟩) ?_ ?_
        rotate_left
        · intro w'
          go_simp
          with_reducible rfl
        rotate_left
        · simp only [Act.put, List.setIfInBounds_toArray, List.set_cons_zero, List.set_cons_succ, i64_w, i32_w]
          rfl
        refine pure_ (i := 40) (N := some 116) (v := ?_) (a' := ?_) #[true, true, true, true, true, true, true, true, true, true, true, true, true, true, true, true, true, true, true, true, true, true, true, true, true, true, true, true, true, true, true, true, true, true, true, true, true, true, true, true, true, false, false, false, false, false, false, false, false, false, false, false, false, false] rfl rfl (by kernel_rfl) (fun _ _ _ h => h) (Or.inl ⟨by rfl, ?_⟩) ?_ ?_
        rotate_left
        · intro w'
          go_simp
          with_reducible rfl
        rotate_left
        · simp only [Act.put, List.setIfInBounds_toArray, List.set_cons_zero, List.set_cons_succ, i64_w, i32_w]
          rfl
        refine pure_ (i := 41) (N := some 117) (v := ?_) (a' := ?_) #[true, true, true, true, true, true, true, true, true, true, true, true, true, true, true, true, true, true, true, true, true, true, true, true, true, true, true, true, true, true, true, true, true, true, true, true, true, true, true, true, true, true, false, false, false, false, false, false, false, false, false, false, false, false] rfl rfl (by kernel_rfl) (fun _ _ _ h => h) (Or.inl ⟨by rfl, ?_⟩) ?_ ?_
        rotate_left
        · intro w'
          go_simp
          with_reducible rfl
        rotate_left
        · simp only [Act.put, List.setIfInBounds_toArray, List.set_cons_zero, List.set_cons_succ, i64_w, i32_w]
          rfl
        refine pure_ (i := 42) (N := some 118) (v := ?_) (a' := ?_) #[true, true, true, true, true, true, true, true, true, true, true, true, true, true, true, true, true, true, true, true, true, true, true, true, true, true, true, true, true, true, true, true, true, true, true, true, true, true, true, true, true, true, true, false, false, false, false, false, false, false, false, false, false, false] rfl rfl (by kernel_rfl) (fun _ _ _ h => h) (Or.inl ⟨by rfl, ?_⟩) ?_ ?_
        rotate_left
        · intro w'
          go_simp
          with_reducible rfl
        rotate_left
        · simp only [Act.put, List.setIfInBounds_toArray, List.set_cons_zero, List.set_cons_succ, i64_w, i32_w]
          rfl
        refine pure_ (i := 43) (N := some 119) (v := ?_) (a' := ?_) #[true, true, true, true, true, true, true, true, true, true, true, true, true, true, true, true, true, true, true, true, true, true, true, true, true, true, true, true, true, true, true, true, true, true, true, true, true, true, true, true, true, true, true, true, false, false, false, false, false, false, false, false, false, false] rfl rfl (by kernel_rfl) (fun _ _ _ h => h) (Or.inl ⟨by rfl, ?_⟩) ?_ ?_
        rotate_left
        · intro w'
          go_simp
          with_reducible rfl
        rotate_left
        · simp only [Act.put, List.setIfInBounds_toArray, List.set_cons_zero, List.set_cons_succ, i64_w, i32_w]
          rfl
        refine pure_ (i := 44) (N := some 120) (v := undef) (a' := ?_) #[true, true, true, true, true, true, true, true, true, true, true, true, true, true, true, true, true, true, true, true, true, true, true, true, true, true, true, true, true, true, true, true, true, true, true, true, true, true, true, true, true, true, true, true, true, false, false, false, false, false, false, false, false, false] rfl rfl (by kernel_rfl) (fun _ _ _ h => h) (Or.inr ⟨by rfl, rfl⟩) ?_ ?_
        rotate_left
        · simp only [Act.put, List.setIfInBounds_toArray, List.set_cons_zero, List.set_cons_succ, i64_w, i32_w]
          rfl
        refine pure_ (i := 45) (N := some 121) (v := undef) (a' := ?_) #[true, true, true, true, true, true, true, true, true, true, true, true, true, true, true, true, true, true, true, true, true, true, true, true, true, true, true, true, true, true, true, true, true, true, true, true, true, true, true, true, true, true, true, true, true, true, false, false, false, false, false, false, false, false] rfl rfl (by kernel_rfl) (fun _ _ _ h => h) (Or.inr ⟨by rfl, rfl⟩) ?_ ?_
        rotate_left
        · simp only [Act.put, List.setIfInBounds_toArray, List.set_cons_zero, List.set_cons_succ, i64_w, i32_w]
          rfl
        refine pure_ (i := 46) (N := some 122) (v := undef) (a' := ?_) #[true, true, true, true, true, true, true, true, true, true, true, true, true, true, true, true, true, true, true, true, true, true, true, true, true, true, true, true, true, true, true, true, true, true, true, true, true, true, true, true, true, true, true, true, true, true, true, false, false, false, false, false, false, false] rfl rfl (by kernel_rfl) (fun _ _ _ h => h) (Or.inr ⟨by rfl, rfl⟩) ?_ ?_
        rotate_left
        · simp only [Act.put, List.setIfInBounds_toArray, List.set_cons_zero, List.set_cons_succ, i64_w, i32_w]
          rfl
        refine pure_ (i := 47) (N := some 123) (v := undef) (a' := ?_) #[true, true, true, true, true, true, true, true, true, true, true, true, true, true, true, true, true, true, true, true, true, true, true, true, true, true, true, true, true, true, true, true, true, true, true, true, true, true, true, true, true, true, true, true, true, true, true, true, false, false, false, false, false, false] rfl rfl (by kernel_rfl) (fun _ _ _ h => h) (Or.inr ⟨by rfl, rfl⟩) ?_ ?_
        rotate_left
        · simp only [Act.put, List.setIfInBounds_toArray, List.set_cons_zero, List.set_cons_succ, i64_w, i32_w]
          rfl
        refine pure_ (i := 49) (N := some 125) (v := undef) (a' := ?_) #[true, true, true, true, true, true, true, true, true, true, true, true, true, true, true, true, true, true, true, true, true, true, true, true, true, true, true, true, true, true, true, true, true, true, true, true, true, true, true, true, true, true, true, true, true, true, true, true, false, true, false, false, false, false] rfl rfl (by kernel_rfl) (fun _ _ _ h => h) (Or.inr ⟨by rfl, rfl⟩) ?_ ?_
        rotate_left
        · simp only [Act.put, List.setIfInBounds_toArray, List.set_cons_zero, List.set_cons_succ, i64_w, i32_w]
          rfl
        refine pure_ (i := 48) (N := some 124) (v := undef) (a' := ?_) #[true, true, true, true, true, true, true, true, true, true, true, true, true, true, true, true, true, true, true, true, true, true, true, true, true, true, true, true, true, true, true, true, true, true, true, true, true, true, true, true, true, true, true, true, true, true, true, true, true, true, false, false, false, false] rfl rfl (by kernel_rfl) (fun _ _ _ h => h) (Or.inr ⟨by rfl, rfl⟩) ?_ ?_
        rotate_left
        · simp only [Act.put, List.setIfInBounds_toArray, List.set_cons_zero, List.set_cons_succ, i64_w, i32_w]
          rfl
        refine pure_ (i := 50) (N := some 126) (v := undef) (a' := ?_) #[true, true, true, true, true, true, true, true, true, true, true, true, true, true, true, true, true, true, true, true, true, true, true, true, true, true, true, true, true, true, true, true, true, true, true, true, true, true, true, true, true, true, true, true, true, true, true, true, true, true, true, false, false, false] rfl rfl (by kernel_rfl) (fun _ _ _ h => h) (Or.inr ⟨by rfl, rfl⟩) ?_ ?_
        rotate_left
        · simp only [Act.put, List.setIfInBounds_toArray, List.set_cons_zero, List.set_cons_succ, i64_w, i32_w]
          rfl
        refine pure_ (i := 51) (N := some 127) (v := undef) (a' := ?_) #[true, true, true, true, true, true, true, true, true, true, true, true, true, true, true, true, true, true, true, true, true, true, true, true, true, true, true, true, true, true, true, true, true, true, true, true, true, true, true, true, true, true, true, true, true, true, true, true, true, true, true, true, false, false] rfl rfl (by kernel_rfl) (fun _ _ _ h => h) (Or.inr ⟨by rfl, rfl⟩) ?_ ?_
        rotate_left
        · simp only [Act.put, List.setIfInBounds_toArray, List.set_cons_zero, List.set_cons_succ, i64_w, i32_w]
          rfl
        refine pure_ (i := 52) (N := some 128) (v := ?_) (a' := ?_) #[true, true, true, true, true, true, true, true, true, true, true, true, true, true, true, true, true, true, true, true, true, true, true, true, true, true, true, true, true, true, true, true, true, true, true, true, true, true, true, true, true, true, true, true, true, true, true, true, true, true, true, true, true, false] rfl rfl (by kernel_rfl) (fun _ _ _ h => h) (Or.inl ⟨by rfl, ?_⟩) ?_ ?_
        rotate_left
        · intro w'
          go_simp
          with_reducible rfl
        rotate_left
        · simp only [Act.put, List.setIfInBounds_toArray, List.set_cons_zero, List.set_cons_succ, i64_w, i32_w]
          rfl
        refine pure_ (i := 53) (N := some 129) (v := ?_) (a' := ?_) #[true, true, true, true, true, true, true, true, true, true, true, true, true, true, true, true, true, true, true, true, true, true, true, true, true, true, true, true, true, true, true, true, true, true, true, true, true, true, true, true, true, true, true, true, true, true, true, true, true, true, true, true, true, true] rfl rfl (by kernel_rfl) (fun _ _ _ h => h) (Or.inl ⟨by rfl, ?_⟩) ?_ ?_
        rotate_left
        · intro w'
          go_simp
          with_reducible rfl
        rotate_left
        · simp only [Act.put, List.setIfInBounds_toArray, List.set_cons_zero, List.set_cons_succ, i64_w, i32_w]
          rfl
        refine done_ (by kernel_rfl) ?_
        go_wp2_with fail
        go_roundg k1
        case measure => omega
        case rel => exact ⟨i + 1, by first | rw [hwi] | rfl, ⟨by have := HI.out; omega⟩, ⟨B2.out.drew⟩, ⟨C2.out.drew⟩⟩
      · have hu0b : (u == 0) = false := by simp [hu0]
        have hupb : decide (0 < u) = true := decide_eq_true (by have := HU.out.2.2.1; omega)
        obtain ⟨p, hp⟩ : ∃ p : Int, u - 1 = p := ⟨_, rfl⟩
        have hp0 : 0 ≤ p := by have := HU.out.2.2; omega
        have hpn : p < nb := by have := HU.out.2.2; omega
        have hwp : wrap64 (u - 1) = p := by have := HN.out.2.2.2.1; have := HU.out.2.2; unfold wrap64; omega
        obtain ⟨ad5, e5, hr⟩ := Kd.at_int (Kd.C_below R34.out C2.out) p hp0 hpn
        obtain rfl := Option.some.inj e5
        rw [← hp, HU.out.2.1 (by have := HU.out.2.2.1; omega), hp] at hr
        clear hu0 hp
        refine start_ (n := 54) (S := (fun w' => w'.cell? (ad3.add i) = some (.int .i64 x) ∧ w'.cell? (ad4.add q.toNat) = some (.int .i64 ((i + 1 : Nat) : Int)) ∧ w'.cell? ⟨g, 1, none⟩ = some (.int .i64 v) ∧ w'.cell? ⟨g, 2, none⟩ = some (.string s2) ∧ w'.cell? ⟨g, 3, none⟩ = some (.string s3) ∧ w'.cell? ⟨(adb.add (i * 6)).block, (adb.add (i * 6)).off + 2, none⟩ = some (.string s2) ∧ w'.cell? ⟨(adb.add (i * 6)).block, (adb.add (i * 6)).off + 3, none⟩ = some (.string s3) ∧ w'.cell? (ad3.add p.toNat) = some (.int .i64 v))) (ds := []) #[false, false, false, false, false, false, false, false, false, false, false, false, false, false, false, false, false, false, false, false, false, false, false, false, false, false, false, false, false, false, false, false, false, false, false, false, false, false, false, false, false, false, false, false, false, false, false, false, false, false, false, false, false, false] (by kernel_rfl) rfl rfl ?_ ?_
        · exact ⟨hx, hs, g1, g2, g3, b2, b3, hr⟩
        intro hHeld
        refine pure_ (i := 0) (N := some 76) (v := ?_) (a' := ?_) #[true, false, false, false, false, false, false, false, false, false, false, false, false, false, false, false, false, false, false, false, false, false, false, false, false, false, false, false, false, false, false, false, false, false, false, false, false, false, false, false, false, false, false, false, false, false, false, false, false, false, false, false, false, false] rfl rfl (by kernel_rfl) (fun _ _ _ h => h) (Or.inl ⟨by rfl, ?_⟩) ?_ ?_
        rotate_left
        · intro w'
          go_simp
          with_reducible rfl
        rotate_left
        · simp only [Act.put, List.setIfInBounds_toArray, List.set_cons_zero, List.set_cons_succ, i64_w, i32_w]
          rfl
        refine pure_ (i := 1) (N := some 77) (v := ?_) (a' := ?_) #[true, true, false, false, false, false, false, false, false, false, false, false, false, false, false, false, false, false, false, false, false, false, false, false, false, false, false, false, false, false, false, false, false, false, false, false, false, false, false, false, false, false, false, false, false, false, false, false, false, false, false, false, false, false] rfl rfl (by kernel_rfl) (fun _ _ _ h => h) (Or.inl ⟨by rfl, ?_⟩) ?_ ?_
        rotate_left
        · intro w'
          go_simp
          with_reducible rfl
        rotate_left
        · simp only [Act.put, List.setIfInBounds_toArray, List.set_cons_zero, List.set_cons_succ, i64_w, i32_w]
          rfl
        refine pure_ (i := 2) (N := some 78) (v := ?_) (a' := ?_) #[true, true, true, false, false, false, false, false, false, false, false, false, false, false, false, false, false, false, false, false, false, false, false, false, false, false, false, false, false, false, false, false, false, false, false, false, false, false, false, false, false, false, false, false, false, false, false, false, false, false, false, false, false, false] rfl rfl (by kernel_rfl) (fun _ _ _ h => h) (Or.inl ⟨by rfl, ?_⟩) ?_ ?_
        rotate_left
        · intro w'
          go_simp
          with_reducible rfl
        rotate_left
        · simp only [Act.put, List.setIfInBounds_toArray, List.set_cons_zero, List.set_cons_succ, i64_w, i32_w]
          rfl
        refine pure_ (i := 3) (N := some 79) (v := ?_) (a' := ?_) #[true, true, true, true, false, false, false, false, false, false, false, false, false, false, false, false, false, false, false, false, false, false, false, false, false, false, false, false, false, false, false, false, false, false, false, false, false, false, false, false, false, false, false, false, false, false, false, false, false, false, false, false, false, false] rfl rfl (by kernel_rfl) (fun _ _ _ h => h) (Or.inl ⟨by rfl, ?_⟩) ?_ ?_
        rotate_left
        · intro w'
          go_simp
          with_reducible rfl
        rotate_left
        · simp only [Act.put, List.setIfInBounds_toArray, List.set_cons_zero, List.set_cons_succ, i64_w, i32_w]
          rfl
        refine pure_ (i := 8) (N := some 84) (v := ?_) (a' := ?_) #[true, true, true, true, false, false, false, false, true, false, false, false, false, false, false, false, false, false, false, false, false, false, false, false, false, false, false, false, false, false, false, false, false, false, false, false, false, false, false, false, false, false, false, false, false, false, false, false, false, false, false, false, false, false] rfl rfl (by kernel_rfl) (fun _ _ _ h => h) (Or.inl ⟨by rfl, ?_⟩) ?_ ?_
        rotate_left
        · intro w'
          go_simp
          with_reducible rfl
        rotate_left
        · simp only [Act.put, List.setIfInBounds_toArray, List.set_cons_zero, List.set_cons_succ, i64_w, i32_w]
          rfl
        refine pure_ (i := 9) (N := some 85) (v := ?_) (a' := ?_) #[true, true, true, true, false, false, false, false, true, true, false, false, false, false, false, false, false, false, false, false, false, false, false, false, false, false, false, false, false, false, false, false, false, false, false, false, false, false, false, false, false, false, false, false, false, false, false, false, false, false, false, false, false, false] rfl rfl (by kernel_rfl) (fun _ _ _ h => h) (Or.inl ⟨by rfl, ?_⟩) ?_ ?_
        rotate_left
        · intro w'
          go_simp
          with_reducible rfl
        rotate_left
        · simp only [Act.put, List.setIfInBounds_toArray, List.set_cons_zero, List.set_cons_succ, i64_w, i32_w]
          rfl
        refine take_ (i := 4) (N := some 80) (v := ?_) (a' := ?_) #[true, true, true, true, true, false, false, false, true, true, false, false, false, false, false, false, false, false, false, false, false, false, false, false, false, false, false, false, false, false, false, false, false, false, false, false, false, false, false, false, false, false, false, false, false, false, false, false, false, false, false, false, false, false] rfl rfl (by kernel_rfl) (fun _ _ _ h => h) (Or.inl ⟨by rfl, ?_⟩) hHeld ?_ ?_
        rotate_left
        · rintro w' ⟨s0, s1, s2, s3, s4, s5, s6, s7⟩
          go_simp
          with_reducible rfl
        rotate_left
        · simp only [Act.put, List.setIfInBounds_toArray, List.set_cons_zero, List.set_cons_succ, i64_w, i32_w]
          rfl
        refine pure_ (i := 5) (N := some 81) (v := ?_) (a' := ?_) #[true, true, true, true, true, true, false, false, true, true, false, false, false, false, false, false, false, false, false, false, false, false, false, false, false, false, false, false, false, false, false, false, false, false, false, false, false, false, false, false, false, false, false, false, false, false, false, false, false, false, false, false, false, false] rfl rfl (by kernel_rfl) (fun _ _ _ h => h) (Or.inl ⟨by rfl, ?_⟩) ?_ ?_
        rotate_left
        · intro w'
          go_simp
          with_reducible rfl
        rotate_left
        · simp only [Act.put, List.setIfInBounds_toArray, List.set_cons_zero, List.set_cons_succ, i64_w, i32_w]
          rfl
        refine pure_ (i := 6) (N := some 82) (v := ?_) (a' := ?_) #[true, true, true, true, true, true, true, false, true, true, false, false, false, false, false, false, false, false, false, false, false, false, false, false, false, false, false, false, false, false, false, false, false, false, false, false, false, false, false, false, false, false, false, false, false, false, false, false, false, false, false, false, false, false] rfl rfl (by kernel_rfl) (fun _ _ _ h => h) (Or.inl ⟨by rfl, ?_⟩) ?_ ?_
        rotate_left
        · intro w'
          go_simp
          with_reducible rfl
        rotate_left
        · simp only [Act.put, List.setIfInBounds_toArray, List.set_cons_zero, List.set_cons_succ, i64_w, i32_w]
          rfl
        refine take_ (i := 7) (N := some 83) (v := ?_) (a' := ?_) #[true, true, true, true, true, true, true, true, true, true, false, false, false, false, false, false, false, false, false, false, false, false, false, false, false, false, false, false, false, false, false, false, false, false, false, false, false, false, false, false, false, false, false, false, false, false, false, false, false, false, false, false, false, false] rfl rfl (by kernel_rfl) (fun _ _ _ h => h) (Or.inl ⟨by rfl, ?_⟩) hHeld ?_ ?_
        rotate_left
        · rintro w' ⟨s0, s1, s2, s3, s4, s5, s6, s7⟩
          go_simp
          with_reducible rfl
        rotate_left
        · simp only [Act.put, List.setIfInBounds_toArray, List.set_cons_zero, List.set_cons_succ, i64_w, i32_w]
          rfl
        refine pure_ (i := 10) (N := some 86) (v := ?_) (a' := ?_) #[true, true, true, true, true, true, true, true, true, true, true, false, false, false, false, false, false, false, false, false, false, false, false, false, false, false, false, false, false, false, false, false, false, false, false, false, false, false, false, false, false, false, false, false, false, false, false, false, false, false, false, false, false, false] rfl rfl (by kernel_rfl) (fun _ _ _ h => h) (Or.inl ⟨by rfl, ?_⟩) ?_ ?_
        rotate_left
        · intro w'
          go_simp
          with_reducible rfl
        rotate_left
        · simp only [Act.put, List.setIfInBounds_toArray, List.set_cons_zero, List.set_cons_succ, i64_w, i32_w]
          rfl
        refine pure_ (i := 11) (N := some 87) (v := ?_) (a' := ?_) #[true, true, true, true, true, true, true, true, true, true, true, true, false, false, false, false, false, false, false, false, false, false, false, false, false, false, false, false, false, false, false, false, false, false, false, false, false, false, false, false, false, false, false, false, false, false, false, false, false, false, false, false, false, false] rfl rfl (by kernel_rfl) (fun _ _ _ h => h) (Or.inl ⟨by rfl, ?_⟩) ?_ ?_
        rotate_left
        · intro w'
          go_simp
          with_reducible rfl
        rotate_left
        · simp only [Act.put, List.setIfInBounds_toArray, List.set_cons_zero, List.set_cons_succ, i64_w, i32_w]
          rfl
        refine pure_ (i := 12) (N := some 88) (v := ?_) (a' := ?_) #[true, true, true, true, true, true, true, true, true, true, true, true, true, false, false, false, false, false, false, false, false, false, false, false, false, false, false, false, false, false, false, false, false, false, false, false, false, false, false, false, false, false, false, false, false, false, false, false, false, false, false, false, false, false] rfl rfl (by kernel_rfl) (fun _ _ _ h => h) (Or.inl ⟨by rfl, ?_⟩) ?_ ?_
        rotate_left
        · intro w'
          go_simp
          with_reducible rfl
        rotate_left
        · simp only [Act.put, List.setIfInBounds_toArray, List.set_cons_zero, List.set_cons_succ, i64_w, i32_w]
          rfl
        refine pure_ (i := 14) (N := some 90) (v := ?_) (a' := ?_) #[true, true, true, true, true, true, true, true, true, true, true, true, true, false, true, false, false, false, false, false, false, false, false, false, false, false, false, false, false, false, false, false, false, false, false, false, false, false, false, false, false, false, false, false, false, false, false, false, false, false, false, false, false, false] rfl rfl (by kernel_rfl) (fun _ _ _ h => h) (Or.inl ⟨by rfl, ?_⟩) ?_ ?_
        rotate_left
        · intro w'
          go_simp
          with_reducible rfl
        rotate_left
        · simp only [Act.put, List.setIfInBounds_toArray, List.set_cons_zero, List.set_cons_succ, i64_w, i32_w]
          rfl
        refine pure_ (i := 15) (N := some 91) (v := ?_) (a' := ?_) #[true, true, true, true, true, true, true, true, true, true, true, true, true, false, true, true, false, false, false, false, false, false, false, false, false, false, false, false, false, false, false, false, false, false, false, false, false, false, false, false, false, false, false, false, false, false, false, false, false, false, false, false, false, false] rfl rfl (by kernel_rfl) (fun _ _ _ h => h) (Or.inl ⟨by rfl, ?_⟩) ?_ ?_
        rotate_left
        · intro w'
          go_simp
          with_reducible rfl
        rotate_left
        · simp only [Act.put, List.setIfInBounds_toArray, List.set_cons_zero, List.set_cons_succ, i64_w, i32_w]
          rfl
        refine pure_ (i := 16) (N := some 92) (v := ?_) (a' := ?_) #[true, true, true, true, true, true, true, true, true, true, true, true, true, false, true, true, true, false, false, false, false, false, false, false, false, false, false, false, false, false, false, false, false, false, false, false, false, false, false, false, false, false, false, false, false, false, false, false, false, false, false, false, false, false] rfl rfl (by kernel_rfl) (fun _ _ _ h => h) (Or.inl ⟨by rfl, ?_⟩) ?_ ?_
        rotate_left
        · intro w'
          go_simp
          with_reducible rfl
        rotate_left
        · simp only [Act.put, List.setIfInBounds_toArray, List.set_cons_zero, List.set_cons_succ, i64_w, i32_w]
          rfl
        refine pure_ (i := 17) (N := some 93) (v := ?_) (a' := ?_) #[true, true, true, true, true, true, true, true, true, true, true, true, true, false, true, true, true, true, false, false, false, false, false, false, false, false, false, false, false, false, false, false, false, false, false, false, false, false, false, false, false, false, false, false, false, false, false, false, false, false, false, false, false, false] rfl rfl (by kernel_rfl) (fun _ _ _ h => h) (Or.inl ⟨by rfl, ?_⟩) ?_ ?_
        rotate_left
        · intro w'
          go_simp
          with_reducible rfl
        rotate_left
        · simp only [Act.put, List.setIfInBounds_toArray, List.set_cons_zero, List.set_cons_succ, i64_w, i32_w]
          rfl
        refine take_ (i := 13) (N := some 89) (v := ?_) (a' := ?_) #[true, true, true, true, true, true, true, true, true, true, true, true, true, true, true, true, true, true, false, false, false, false, false, false, false, false, false, false, false, false, false, false, false, false, false, false, false, false, false, false, false, false, false, false, false, false, false, false, false, false, false, false, false, false] rfl rfl (by kernel_rfl) (fun _ _ _ h => h) (Or.inl ⟨by rfl, ?_⟩) hHeld ?_ ?_
        rotate_left
        · rintro w' ⟨s0, s1, s2, s3, s4, s5, s6, s7⟩
          go_simp
          with_reducible rfl
        rotate_left
        · simp only [Act.put, List.setIfInBounds_toArray, List.set_cons_zero, List.set_cons_succ, i64_w, i32_w]
          rfl
        refine take_ (i := 18) (N := some 94) (v := ?_) (a' := ?_) #[true, true, true, true, true, true, true, true, true, true, true, true, true, true, true, true, true, true, true, false, false, false, false, false, false, false, false, false, false, false, false, false, false, false, false, false, false, false, false, false, false, false, false, false, false, false, false, false, false, false, false, false, false, false] rfl rfl (by kernel_rfl) (fun _ _ _ h => h) (Or.inl ⟨by rfl, ?_⟩) hHeld ?_ ?_
        rotate_left
        · rintro w' ⟨s0, s1, s2, s3, s4, s5, s6, s7⟩
          go_simp
          with_reducible rfl
        rotate_left
        · simp only [Act.put, List.setIfInBounds_toArray, List.set_cons_zero, List.set_cons_succ, i64_w, i32_w]
          rfl
        refine pure_ (i := 19) (N := some 95) (v := ?_) (a' := ?_) #[true, true, true, true, true, true, true, true, true, true, true, true, true, true, true, true, true, true, true, true, false, false, false, false, false, false, false, false, false, false, false, false, false, false, false, false, false, false, false, false, false, false, false, false, false, false, false, false, false, false, false, false, false, false] rfl rfl (by kernel_rfl) (fun _ _ _ h => h) (Or.inl ⟨by rfl, ?_⟩) ?_ ?_
        rotate_left
        · intro w'
          go_simp
          with_reducible rfl
        rotate_left
        · simp only [Act.put, List.setIfInBounds_toArray, List.set_cons_zero, List.set_cons_succ, i64_w, i32_w]
          rfl
        refine pure_ (i := 20) (N := some 96) (v := ?_) (a' := ?_) #[true, true, true, true, true, true, true, true, true, true, true, true, true, true, true, true, true, true, true, true, true, false, false, false, false, false, false, false, false, false, false, false, false, false, false, false, false, false, false, false, false, false, false, false, false, false, false, false, false, false, false, false, false, false] rfl rfl (by kernel_rfl) (fun _ _ _ h => h) (Or.inl ⟨by rfl, ?_⟩) ?_ ?_
        rotate_left
        · intro w'
          go_simp
          with_reducible rfl
        rotate_left
        · simp only [Act.put, List.setIfInBounds_toArray, List.set_cons_zero, List.set_cons_succ, i64_w, i32_w]
          rfl
        refine pure_ (i := 21) (N := some 97) (v := ?_) (a' := ?_) #[true, true, true, true, true, true, true, true, true, true, true, true, true, true, true, true, true, true, true, true, true, true, false, false, false, false, false, false, false, false, false, false, false, false, false, false, false, false, false, false, false, false, false, false, false, false, false, false, false, false, false, false, false, false] rfl rfl (by kernel_rfl) (fun _ _ _ h => h) (Or.inl ⟨by rfl, ?_⟩) ?_ ?_
        rotate_left
        · intro w'
          go_simp
          with_reducible rfl
        rotate_left
        · simp only [Act.put, List.setIfInBounds_toArray, List.set_cons_zero, List.set_cons_succ, i64_w, i32_w]
          rfl
        refine pure_ (i := 22) (N := some 98) (v := ?_) (a' := ?_) #[true, true, true, true, true, true, true, true, true, true, true, true, true, true, true, true, true, true, true, true, true, true, true, false, false, false, false, false, false, false, false, false, false, false, false, false, false, false, false, false, false, false, false, false, false, false, false, false, false, false, false, false, false, false] rfl rfl (by kernel_rfl) (fun _ _ _ h => h) (Or.inl ⟨by rfl, ?_⟩) ?_ ?_
        rotate_left
        · intro w'
          go_simp
          with_reducible rfl
        rotate_left
        · simp only [Act.put, List.setIfInBounds_toArray, List.set_cons_zero, List.set_cons_succ, i64_w, i32_w]
          rfl
        refine pure_ (i := 24) (N := some 100) (v := ?_) (a' := ?_) #[true, true, true, true, true, true, true, true, true, true, true, true, true, true, true, true, true, true, true, true, true, true, true, false, true, false, false, false, false, false, false, false, false, false, false, false, false, false, false, false, false, false, false, false, false, false, false, false, false, false, false, false, false, false] rfl rfl (by kernel_rfl) (fun _ _ _ h => h) (Or.inl ⟨by rfl, ?_⟩) ?_ ?_
        rotate_left
        · intro w'
          go_simp
          with_reducible rfl
        rotate_left
        · simp only [Act.put, List.setIfInBounds_toArray, List.set_cons_zero, List.set_cons_succ, i64_w, i32_w]
          rfl
        refine pure_ (i := 25) (N := some 101) (v := ?_) (a' := ?_) #[true, true, true, true, true, true, true, true, true, true, true, true, true, true, true, true, true, true, true, true, true, true, true, false, true, true, false, false, false, false, false, false, false, false, false, false, false, false, false, false, false, false, false, false, false, false, false, false, false, false, false, false, false, false] rfl rfl (by kernel_rfl) (fun _ _ _ h => h) (Or.inl ⟨by rfl, ?_⟩) ?_ ?_
        rotate_left
        · intro w'
          go_simp
          with_reducible rfl
        rotate_left
        · simp only [Act.put, List.setIfInBounds_toArray, List.set_cons_zero, List.set_cons_succ, i64_w, i32_w]
          rfl
        refine pure_ (i := 26) (N := some 102) (v := ?_) (a' := ?_) #[true, true, true, true, true, true, true, true, true, true, true, true, true, true, true, true, true, true, true, true, true, true, true, false, true, true, true, false, false, false, false, false, false, false, false, false, false, false, false, false, false, false, false, false, false, false, false, false, false, false, false, false, false, false] rfl rfl (by kernel_rfl) (fun _ _ _ h => h) (Or.inl ⟨by rfl, ?_⟩) ?_ ?_
        rotate_left
        · intro w'
          go_simp
          with_reducible rfl
        rotate_left
        · simp only [Act.put, List.setIfInBounds_toArray, List.set_cons_zero, List.set_cons_succ, i64_w, i32_w]
          rfl
        refine pure_ (i := 27) (N := some 103) (v := ?_) (a' := ?_) #[true, true, true, true, true, true, true, true, true, true, true, true, true, true, true, true, true, true, true, true, true, true, true, false, true, true, true, true, false, false, false, false, false, false, false, false, false, false, false, false, false, false, false, false, false, false, false, false, false, false, false, false, false, false] rfl rfl (by kernel_rfl) (fun _ _ _ h => h) (Or.inl ⟨by rfl, ?_⟩) ?_ ?_
        rotate_left
        · intro w'
          go_simp
          with_reducible rfl
        rotate_left
        · simp only [Act.put, List.setIfInBounds_toArray, List.set_cons_zero, List.set_cons_succ, i64_w, i32_w]
          rfl
        refine take_ (i := 23) (N := some 99) (v := ?_) (a' := ?_) #[true, true, true, true, true, true, true, true, true, true, true, true, true, true, true, true, true, true, true, true, true, true, true, true, true, true, true, true, false, false, false, false, false, false, false, false, false, false, false, false, false, false, false, false, false, false, false, false, false, false, false, false, false, false] rfl rfl (by kernel_rfl) (fun _ _ _ h => h) (Or.inl ⟨by rfl, ?_⟩) hHeld ?_ ?_
        rotate_left
        · rintro w' ⟨s0, s1, s2, s3, s4, s5, s6, s7⟩
          go_simp
          with_reducible rfl
        rotate_left
        · simp only [Act.put, List.setIfInBounds_toArray, List.set_cons_zero, List.set_cons_succ, i64_w, i32_w]
          rfl
        refine take_ (i := 28) (N := some 104) (v := ?_) (a' := ?_) #[true, true, true, true, true, true, true, true, true, true, true, true, true, true, true, true, true, true, true, true, true, true, true, true, true, true, true, true, true, false, false, false, false, false, false, false, false, false, false, false, false, false, false, false, false, false, false, false, false, false, false, false, false, false] rfl rfl (by kernel_rfl) (fun _ _ _ h => h) (Or.inl ⟨by rfl, ?_⟩) hHeld ?_ ?_
        rotate_left
        · rintro w' ⟨s0, s1, s2, s3, s4, s5, s6, s7⟩
          go_simp
          with_reducible rfl
        rotate_left
        · simp only [Act.put, List.setIfInBounds_toArray, List.set_cons_zero, List.set_cons_succ, i64_w, i32_w]
          rfl
        refine pure_ (i := 29) (N := some 105) (v := ?_) (a' := ?_) #[true, true, true, true, true, true, true, true, true, true, true, true, true, true, true, true, true, true, true, true, true, true, true, true, true, true, true, true, true, true, false, false, false, false, false, false, false, false, false, false, false, false, false, false, false, false, false, false, false, false, false, false, false, false] rfl rfl (by kernel_rfl) (fun _ _ _ h => h) (Or.inl ⟨by rfl, ?_⟩) ?_ ?_
        rotate_left
        · intro w'
          go_simp
          with_reducible rfl
        rotate_left
        · simp only [Act.put, List.setIfInBounds_toArray, List.set_cons_zero, List.set_cons_succ, i64_w, i32_w]
          rfl
        refine pure_ (i := 30) (N := some 106) (v := ?_) (a' := ?_) #[true, true, true, true, true, true, true, true, true, true, true, true, true, true, true, true, true, true, true, true, true, true, true, true, true, true, true, true, true, true, true, false, false, false, false, false, false, false, false, false, false, false, false, false, false, false, false, false, false, false, false, false, false, false] rfl rfl (by kernel_rfl) (fun _ _ _ h => h) (Or.inl ⟨by rfl, ?_⟩) ?_ ?_
        rotate_left
        · intro w'
          go_simp
          with_reducible rfl
        rotate_left
        · simp only [Act.put, List.setIfInBounds_toArray, List.set_cons_zero, List.set_cons_succ, i64_w, i32_w]
          rfl
        refine pure_ (i := 31) (N := some 107) (v := ?_) (a' := ?_) #[true, true, true, true, true, true, true, true, true, true, true, true, true, true, true, true, true, true, true, true, true, true, true, true, true, true, true, true, true, true, true, true, false, false, false, false, false, false, false, false, false, false, false, false, false, false, false, false, false, false, false, false, false, false] rfl rfl (by kernel_rfl) (fun _ _ _ h => h) (Or.inl ⟨by rfl, ?_⟩) ?_ ?_
        rotate_left
        · intro w'
          go_simp
          with_reducible rfl
        rotate_left
        · simp only [Act.put, List.setIfInBounds_toArray, List.set_cons_zero, List.set_cons_succ, i64_w, i32_w]
          rfl
        refine pure_ (i := 32) (N := some 108) (v := ?_) (a' := ?_) #[true, true, true, true, true, true, true, true, true, true, true, true, true, true, true, true, true, true, true, true, true, true, true, true, true, true, true, true, true, true, true, true, true, false, false, false, false, false, false, false, false, false, false, false, false, false, false, false, false, false, false, false, false, false] rfl rfl (by kernel_rfl) (fun _ _ _ h => h) (Or.inl ⟨by rfl, ?_⟩) ?_ ?_
        rotate_left
        · intro w'
          go_simp
          with_reducible rfl
        rotate_left
        · simp only [Act.put, List.setIfInBounds_toArray, List.set_cons_zero, List.set_cons_succ, i64_w, i32_w]
          rfl
        refine pure_ (i := 33) (N := some 109) (v := ?_) (a' := ?_) #[true, true, true, true, true, true, true, true, true, true, true, true, true, true, true, true, true, true, true, true, true, true, true, true, true, true, true, true, true, true, true, true, true, true, false, false, false, false, false, false, false, false, false, false, false, false, false, false, false, false, false, false, false, false] rfl rfl (by kernel_rfl) (fun _ _ _ h => h) (Or.inl ⟨by rfl, ?_⟩) ?_ ?_
        rotate_left
        · intro w'
          go_simp
          with_reducible rfl
        rotate_left
        · simp only [Act.put, List.setIfInBounds_toArray, List.set_cons_zero, List.set_cons_succ, i64_w, i32_w]
          rfl
        refine pure_ (i := 34) (N := some 110) (v := ?_) (a' := ?_) #[true, true, true, true, true, true, true, true, true, true, true, true, true, true, true, true, true, true, true, true, true, true, true, true, true, true, true, true, true, true, true, true, true, true, true, false, false, false, false, false, false, false, false, false, false, false, false, false, false, false, false, false, false, false] rfl rfl (by kernel_rfl) (fun _ _ _ h => h) (Or.inl ⟨by rfl, ?_⟩) ?_ ?_
        rotate_left
        · intro w'
          go_simp
          with_reducible rfl
        rotate_left
        · simp only [Act.put, List.setIfInBounds_toArray, List.set_cons_zero, List.set_cons_succ, i64_w, i32_w]
          rfl
        refine pure_ (i := 35) (N := some 111) (v := undef) (a' := ?_) #[true, true, true, true, true, true, true, true, true, true, true, true, true, true, true, true, true, true, true, true, true, true, true, true, true, true, true, true, true, true, true, true, true, true, true, true, false, false, false, false, false, false, false, false, false, false, false, false, false, false, false, false, false, false] rfl rfl (by kernel_rfl) (fun _ _ _ h => h) (Or.inr ⟨by rfl, rfl⟩) ?_ ?_
        rotate_left
        · simp only [Act.put, List.setIfInBounds_toArray, List.set_cons_zero, List.set_cons_succ, i64_w, i32_w]
          rfl
        refine pure_ (i := 36) (N := some 112) (v := undef) (a' := ?_) #[true, true, true, true, true, true, true, true, true, true, true, true, true, true, true, true, true, true, true, true, true, true, true, true, true, true, true, true, true, true, true, true, true, true, true, true, true, false, false, false, false, false, false, false, false, false, false, false, false, false, false, false, false, false] rfl rfl (by kernel_rfl) (fun _ _ _ h => h) (Or.inr ⟨by rfl, rfl⟩) ?_ ?_
        rotate_left
        · simp only [Act.put, List.setIfInBounds_toArray, List.set_cons_zero, List.set_cons_succ, i64_w, i32_w]
          rfl
        refine pure_ (i := 37) (N := some 113) (v := undef) (a' := ?_) #[true, true, true, true, true, true, true, true, true, true, true, true, true, true, true, true, true, true, true, true, true, true, true, true, true, true, true, true, true, true, true, true, true, true, true, true, true, true, false, false, false, false, false, false, false, false, false, false, false, false, false, false, false, false] rfl rfl (by kernel_rfl) (fun _ _ _ h => h) (Or.inr ⟨by rfl, rfl⟩) ?_ ?_
        rotate_left
        · simp only [Act.put, List.setIfInBounds_toArray, List.set_cons_zero, List.set_cons_succ, i64_w, i32_w]
          rfl
        refine pure_ (i := 38) (N := some 114) (v := ?_) (a' := ?_) #[true, true, true, true, true, true, true, true, true, true, true, true, true, true, true, true, true, true, true, true, true, true, true, true, true, true, true, true, true, true, true, true, true, true, true, true, true, true, true, false, false, false, false, false, false, false, false, false, false, false, false, false, false, false] rfl rfl (by kernel_rfl) (fun _ _ _ h => h) (Or.inl ⟨by rfl, ?_⟩) ?_ ?_
        rotate_left
        · intro w'
          go_simp
          with_reducible rfl
        rotate_left
        · simp only [Act.put, List.setIfInBounds_toArray, List.set_cons_zero, List.set_cons_succ, i64_w, i32_w]
          rfl
        refine pure_ (i := 39) (N := some 115) (v := ?_) (a' := ?_) #[true, true, true, true, true, true, true, true, true, true, true, true, true, true, true, true, true, true, true, true, true, true, true, true, true, true, true, true, true, true, true, true, true, true, true, true, true, true, true, true, false, false, false, false, false, false, false, false, false, false, false, false, false, false] rfl rfl (by kernel_rfl) (fun _ _ _ h => h) (Or.inl ⟨by rfl, ?_⟩) ?_ ?_
        rotate_left
        · intro w'
          go_simp
          with_reducible rfl
        rotate_left
        · simp only [Act.put, List.setIfInBounds_toArray, List.set_cons_zero, List.set_cons_succ, i64_w, i32_w]
          rfl
        refine pure_ (i := 40) (N := some 116) (v := ?_) (a' := ?_) #[true, true, true, true, true, true, true, true, true, true, true, true, true, true, true, true, true, true, true, true, true, true, true, true, true, true, true, true, true, true, true, true, true, true, true, true, true, true, true, true, true, false, false, false, false, false, false, false, false, false, false, false, false, false] rfl rfl (by kernel_rfl) (fun _ _ _ h => h) (Or.inl ⟨by rfl, ?_⟩) ?_ ?_
        rotate_left
        · intro w'
          go_simp
          with_reducible rfl
        rotate_left
        · simp only [Act.put, List.setIfInBounds_toArray, List.set_cons_zero, List.set_cons_succ, i64_w, i32_w]
          rfl
        refine pure_ (i := 41) (N := some 117) (v := ?_) (a' := ?_) #[true, true, true, true, true, true, true, true, true, true, true, true, true, true, true, true, true, true, true, true, true, true, true, true, true, true, true, true, true, true, true, true, true, true, true, true, true, true, true, true, true, true, false, false, false, false, false, false, false, false, false, false, false, false] rfl rfl (by kernel_rfl) (fun _ _ _ h => h) (Or.inl ⟨by rfl, ?_⟩) ?_ ?_
        rotate_left
        · intro w'
          go_simp
          with_reducible rfl
        rotate_left
        · simp only [Act.put, List.setIfInBounds_toArray, List.set_cons_zero, List.set_cons_succ, i64_w, i32_w]
          rfl
        refine pure_ (i := 42) (N := some 118) (v := ?_) (a' := ?_) #[true, true, true, true, true, true, true, true, true, true, true, true, true, true, true, true, true, true, true, true, true, true, true, true, true, true, true, true, true, true, true, true, true, true, true, true, true, true, true, true, true, true, true, false, false, false, false, false, false, false, false, false, false, false] rfl rfl (by kernel_rfl) (fun _ _ _ h => h) (Or.inl ⟨by rfl, ?_⟩) ?_ ?_
        rotate_left
        · intro w'
          go_simp
          with_reducible rfl
        rotate_left
        · simp only [Act.put, List.setIfInBounds_toArray, List.set_cons_zero, List.set_cons_succ, i64_w, i32_w]
          rfl
        refine pure_ (i := 43) (N := some 119) (v := ?_) (a' := ?_) #[true, true, true, true, true, true, true, true, true, true, true, true, true, true, true, true, true, true, true, true, true, true, true, true, true, true, true, true, true, true, true, true, true, true, true, true, true, true, true, true, true, true, true, true, false, false, false, false, false, false, false, false, false, false] rfl rfl (by kernel_rfl) (fun _ _ _ h => h) (Or.inl ⟨by rfl, ?_⟩) ?_ ?_
        rotate_left
        · intro w'
          go_simp
          with_reducible rfl
        rotate_left
        · simp only [Act.put, List.setIfInBounds_toArray, List.set_cons_zero, List.set_cons_succ, i64_w, i32_w]
          rfl
        refine pure_ (i := 44) (N := some 120) (v := ?_) (a' := ?_) #[true, true, true, true, true, true, true, true, true, true, true, true, true, true, true, true, true, true, true, true, true, true, true, true, true, true, true, true, true, true, true, true, true, true, true, true, true, true, true, true, true, true, true, true, true, false, false, false, false, false, false, false, false, false] rfl rfl (by kernel_rfl) (fun _ _ _ h => h) (Or.inl ⟨by rfl, ?_⟩) ?_ ?_
        rotate_left
        · intro w'
          go_simp
          with_reducible rfl
        rotate_left
        · simp only [Act.put, List.setIfInBounds_toArray, List.set_cons_zero, List.set_cons_succ, i64_w, i32_w]
          rfl
        refine pure_ (i := 45) (N := some 121) (v := ?_) (a' := ?_) #[true, true, true, true, true, true, true, true, true, true, true, true, true, true, true, true, true, true, true, true, true, true, true, true, true, true, true, true, true, true, true, true, true, true, true, true, true, true, true, true, true, true, true, true, true, true, false, false, false, false, false, false, false, false] rfl rfl (by kernel_rfl) (fun _ _ _ h => h) (Or.inl ⟨by rfl, ?_⟩) ?_ ?_
        rotate_left
        · intro w'
          go_simp
          with_reducible rfl
        rotate_left
        · simp only [Act.put, List.setIfInBounds_toArray, List.set_cons_zero, List.set_cons_succ, i64_w, i32_w]
          rfl
        refine pure_ (i := 46) (N := some 122) (v := ?_) (a' := ?_) #[true, true, true, true, true, true, true, true, true, true, true, true, true, true, true, true, true, true, true, true, true, true, true, true, true, true, true, true, true, true, true, true, true, true, true, true, true, true, true, true, true, true, true, true, true, true, true, false, false, false, false, false, false, false] rfl rfl (by kernel_rfl) (fun _ _ _ h => h) (Or.inl ⟨by rfl, ?_⟩) ?_ ?_
        rotate_left
        · intro w'
          go_simp
          with_reducible rfl
        rotate_left
        · simp only [Act.put, List.setIfInBounds_toArray, List.set_cons_zero, List.set_cons_succ, i64_w, i32_w]
          rfl
        refine pure_ (i := 47) (N := some 123) (v := ?_) (a' := ?_) #[true, true, true, true, true, true, true, true, true, true, true, true, true, true, true, true, true, true, true, true, true, true, true, true, true, true, true, true, true, true, true, true, true, true, true, true, true, true, true, true, true, true, true, true, true, true, true, true, false, false, false, false, false, false] rfl rfl (by kernel_rfl) (fun _ _ _ h => h) (Or.inl ⟨by rfl, ?_⟩) ?_ ?_
        rotate_left
        · intro w'
          go_simp
          with_reducible rfl
        rotate_left
        · simp only [Act.put, List.setIfInBounds_toArray, List.set_cons_zero, List.set_cons_succ, i64_w, i32_w]
          rfl
        refine pure_ (i := 49) (N := some 125) (v := ?_) (a' := ?_) #[true, true, true, true, true, true, true, true, true, true, true, true, true, true, true, true, true, true, true, true, true, true, true, true, true, true, true, true, true, true, true, true, true, true, true, true, true, true, true, true, true, true, true, true, true, true, true, true, false, true, false, false, false, false] rfl rfl (by kernel_rfl) (fun _ _ _ h => h) (Or.inl ⟨by rfl, ?_⟩) ?_ ?_
        rotate_left
        · intro w'
          go_simp
          with_reducible rfl
        rotate_left
        · simp only [Act.put, List.setIfInBounds_toArray, List.set_cons_zero, List.set_cons_succ, i64_w, i32_w]
          rfl
        refine take_ (i := 48) (N := some 124) (v := ?_) (a' := ?_) #[true, true, true, true, true, true, true, true, true, true, true, true, true, true, true, true, true, true, true, true, true, true, true, true, true, true, true, true, true, true, true, true, true, true, true, true, true, true, true, true, true, true, true, true, true, true, true, true, true, true, false, false, false, false] rfl rfl (by kernel_rfl) (fun _ _ _ h => h) (Or.inl ⟨by rfl, ?_⟩) hHeld ?_ ?_
        rotate_left
        · rintro w' ⟨s0, s1, s2, s3, s4, s5, s6, s7⟩
          go_simp
          with_reducible rfl
        rotate_left
        · simp only [Act.put, List.setIfInBounds_toArray, List.set_cons_zero, List.set_cons_succ, i64_w, i32_w]
          rfl
        refine take_ (i := 50) (N := some 126) (v := ?_) (a' := ?_) #[true, true, true, true, true, true, true, true, true, true, true, true, true, true, true, true, true, true, true, true, true, true, true, true, true, true, true, true, true, true, true, true, true, true, true, true, true, true, true, true, true, true, true, true, true, true, true, true, true, true, true, false, false, false] rfl rfl (by kernel_rfl) (fun _ _ _ h => h) (Or.inl ⟨by rfl, ?_⟩) hHeld ?_ ?_
        rotate_left
        · rintro w' ⟨s0, s1, s2, s3, s4, s5, s6, s7⟩
          go_simp
          with_reducible rfl
        rotate_left
        · simp only [Act.put, List.setIfInBounds_toArray, List.set_cons_zero, List.set_cons_succ, i64_w, i32_w]
          rfl
        refine pure_ (i := 51) (N := some 127) (v := ?_) (a' := ?_) #[true, true, true, true, true, true, true, true, true, true, true, true, true, true, true, true, true, true, true, true, true, true, true, true, true, true, true, true, true, true, true, true, true, true, true, true, true, true, true, true, true, true, true, true, true, true, true, true, true, true, true, true, false, false] rfl rfl (by kernel_rfl) (fun _ _ _ h => h) (Or.inl ⟨by rfl, ?_⟩) ?_ ?_
        rotate_left
        · intro w'
          go_simp
          with_reducible rfl
        rotate_left
        · simp only [Act.put, List.setIfInBounds_toArray, List.set_cons_zero, List.set_cons_succ, i64_w, i32_w]
          rfl
        refine pure_ (i := 52) (N := some 128) (v := ?_) (a' := ?_) #[true, true, true, true, true, true, true, true, true, true, true, true, true, true, true, true, true, true, true, true, true, true, true, true, true, true, true, true, true, true, true, true, true, true, true, true, true, true, true, true, true, true, true, true, true, true, true, true, true, true, true, true, true, false] rfl rfl (by kernel_rfl) (fun _ _ _ h => h) (Or.inl ⟨by rfl, ?_⟩) ?_ ?_
        rotate_left
        · intro w'
          go_simp
          with_reducible rfl
        rotate_left
        · simp only [Act.put, List.setIfInBounds_toArray, List.set_cons_zero, List.set_cons_succ, i64_w, i32_w]
          rfl
        refine pure_ (i := 53) (N := some 129) (v := ?_) (a' := ?_) #[true, true, true, true, true, true, true, true, true, true, true, true, true, true, true, true, true, true, true, true, true, true, true, true, true, true, true, true, true, true, true, true, true, true, true, true, true, true, true, true, true, true, true, true, true, true, true, true, true, true, true, true, true, true] rfl rfl (by kernel_rfl) (fun _ _ _ h => h) (Or.inl ⟨by rfl, ?_⟩) ?_ ?_
        rotate_left
        · intro w'
          go_simp
          with_reducible rfl
        rotate_left
        · simp only [Act.put, List.setIfInBounds_toArray, List.set_cons_zero, List.set_cons_succ, i64_w, i32_w]
          rfl
        refine done_ (by kernel_rfl) ?_
        go_wp2_with fail
        go_roundg k1
        case measure => omega
        case rel => exact ⟨i + 1, by first | rw [hwi] | rfl, ⟨by have := HI.out; omega⟩, ⟨B2.out.drew⟩, ⟨C2.out.drew⟩⟩
    | zero =>
    have hiN : ¬ i < nb := by have := HI.out; omega
    clear R34 R4
    go_upto_block 2 with (go_at_call 8; refine (L5.out _ HB.out).mono ?_; rintro e w6 ⟨v6, rfl, hR6, hb⟩; have B6 := Aside0.mk (HB.out.trans (hb.mono HB.out.size)); obtain ⟨A7, c7, rfl⟩ := Kd.R_slice hR6; have R6 := Aside0.mk (show Kd.C (Kd.int .i64) w6 A7 na O from HN.out.2.2.2.2.2.2 ▸ (Kd.R_reads' hR6).2.2); rw [HN.out.2.2.2.2.2.2]; clear hb L5 hR6)
    go_wp2_with fail
    clear hiN
    go_loopg [136] na (fun kq v136 W => ∃ j : Nat, v136 = .int .i64 (j : Int) ∧ Aside0 (j + kq = na) ∧ Aside0 (W = w6))
    case atStart => exact ⟨0, rfl, ⟨by omega⟩, ⟨rfl⟩⟩
    case round =>
    obtain ⟨j, rfl, HJ, HW⟩ := hrel; have hw := HW.out; subst hw; clear HW
    cases gk with
    | succ k2 =>
      have hjn : j < na := by have := HJ.out; omega
      have hwj : wrap64 ((j : Int) + 1) = ((j + 1 : Nat) : Int) := by have := HN.out.2.2.1; unfold wrap64; omega
      obtain ⟨ad7, e7, ho⟩ := Kd.at_int R6.out (j : Int) (by omega) (by omega); subst e7; rw [Int.toNat_natCast, TW.out.2 j (by rw [HN.out.1]; exact hjn)] at ho
      go_wp2_with fail
      go_roundg k2
      case measure => omega
      case rel => exact ⟨j + 1, by rw [hwj], ⟨by have := HJ.out; omega⟩, ⟨rfl⟩⟩
    | zero =>
    have hjN : ¬ j < na := by have := HJ.out; omega
    go_wp2_with (first
      | (go_at_call 10; refine (L6.out _ B6.out).mono ?_; rintro e w7 ⟨v7, rfl, hR7, hb⟩; have B7 := Aside0.mk (B6.out.trans (hb.mono B6.out.size)); obtain ⟨A8, c8, rfl⟩ := Kd.R_slice hR7; rw [List.length_nil]; clear hb L6 hR7)
      | (go_at_call 9; refine (L7.out _ B7.out).mono ?_; rintro e w8 ⟨v8, rfl, hR8, hb⟩; have B8 := Aside0.mk (B7.out.trans (hb.mono B7.out.size)); obtain ⟨A9, c9, rfl⟩ := Kd.R_slice hR8; rw [List.length_nil]; clear hb L7 hR8)
      | (go_at_call 7; refine (L8.out _).mono ?_; rintro e w9 ⟨rfl, hb⟩; have B9 := Aside0.mk (B8.out.trans (hb.mono B8.out.size)); clear hb))
    refine bodyPost_ret (results_tmp rfl _ _ _) rfl ?_; exact ⟨rfl, B9.out⟩
end Go.Proofs.Ytelacebdmmanhaa.G
namespace Go.Proofs.Ytelacebdmmanhaa.Pure
open Go.RowKit Go.Proofs.Ytelacebdmmanhaa.G Go.Proofs.YtelacebdmmanhaaW.PrintWords Go.Proofs.YtelacebdmmanhaaW.PrintLast
set_option linter.unusedVariables false
theorem upOf_rd (l : List S32) (i : Int) : upOf l (i + 1) = (rd_T32 l i).f1 := by unfold upOf; rw [show i + 1 - 1 = i by omega]
theorem above_l0 (l : List S32) (hl : (l.length : Int) ≤ 1000000000) (n : Int) (hn : n ≤ l.length) (hg : GoodTo l n) (u : Int) (d : Nat) : ∀ x : Int, x.toNat = d → 0 ≤ x → x ≤ n → ∃ b, Ev (fun k => r13_Above.l0 k l u x) b ∧ (b = true ↔ An l u x) := by
  induction d using Nat.strongRecOn with
  | _ d ih =>
    intro x hd h0 hx
    by_cases c : x = 0
    · subst c
      refine ⟨false, (Ev.pure _).step (fun k => by rw [r13_Above.l0, if_neg (by omega)]), ?_⟩
      constructor
      · intro h; cases h
      · intro h; have := h.pos; omega
    · by_cases c1 : x = u
      · refine ⟨true, (Ev.pure _).step (fun k => by rw [r13_Above.l0, if_pos (by omega), if_pos c1]), ?_⟩
        simp only [true_iff]
        rw [c1]
        exact .self (by omega)
      · have hu := hg.up (x := x) (by omega) hx
        obtain ⟨b, hb, hi⟩ := ih (upOf l x).toNat (by omega) (upOf l x) rfl hu.1 (by omega)
        refine ⟨b, hb.step (fun k => ?_), ?_⟩
        · rw [r13_Above.l0, if_pos (by omega), if_neg c1, wm (by omega) (by omega), if_pos (by omega), if_pos (by omega)]
          rfl
        · rw [hi]
          exact ⟨fun h => .up (by omega) h, fun h => h.step (fun e => c1 e.symm)⟩
theorem above_ev (l : List S32) (hl : (l.length : Int) ≤ 1000000000) (n : Int) (hn : n ≤ l.length) (hg : GoodTo l n) (u x : Int) (h0 : 0 ≤ x) (hx : x ≤ n) : ∃ b, Ev (fun k => r13_Above.f k l x u) b ∧ (b = true ↔ An l u x) := above_l0 l hl n hn hg u x.toNat x rfl h0 hx
theorem Formed_l0 (l : List S32) (hl : (l.length : Int) ≤ 1000000000) (d : Nat) : ∀ i : Int, 0 ≤ i → (l.length : Int) - i = d → GoodTo l i → ∃ b, Ev (fun k => r13_Formed.l0 k l l.length i) b ∧ (b = true ↔ GoodTo l l.length) := by
  induction d with
  | zero =>
    intro i h0 hd hg
    obtain rfl : i = l.length := by omega
    exact ⟨true, (Ev.pure true).step (fun k => by rw [r13_Formed.l0, if_neg (by omega)]), by simp [hg]⟩
  | succ d ih =>
    intro i h0 hd hg
    have hi : i < l.length := by omega
    have hbad : ¬ GoodRow l i → (false = true ↔ GoodTo l l.length) := fun c => by simp; exact fun h => c (h i h0 hi)
    by_cases c0 : i = 0
    · subst c0
      by_cases c1 : (rd_T32 l 0).f1 = 0
      · obtain ⟨b, hb, hbi⟩ := ih (0 + 1) (by omega) (by omega) (hg.succ (.inl ⟨rfl, by rw [upOf_rd]; exact c1⟩))
        exact ⟨b, hb.step (fun k => by rw [r13_Formed.l0, if_pos hi, if_pos rfl, if_pos (by omega), if_pos hi, if_pos c1, if_neg (by omega), w1 (by omega) (by omega)]), hbi⟩
      · refine ⟨false, (Ev.pure false).step (fun k => by rw [r13_Formed.l0, if_pos hi, if_pos rfl, if_pos (by omega), if_pos hi, if_neg c1]), hbad ?_⟩
        rintro (⟨_, h⟩ | ⟨h, _⟩)
        · rw [upOf_rd] at h; exact c1 h
        · omega
    · by_cases c1 : (rd_T32 l i).f1 < 1
      · refine ⟨false, (Ev.pure false).step (fun k => by rw [r13_Formed.l0, if_pos hi, if_neg c0, if_pos (by omega), if_pos h0, if_pos hi, if_pos c1]), hbad ?_⟩
        rintro (⟨h, _⟩ | ⟨_, h⟩)
        · omega
        · have := h.pos; rw [upOf_rd] at this; omega
      · obtain ⟨a, ha, hai⟩ := above_ev l hl i (by omega) hg (rd_T32 l i).f1 i h0 (Int.le_refl _)
        cases a with
        | true =>
          obtain ⟨b, hb, hbi⟩ := ih (i + 1) (by omega) (by omega) (hg.succ (.inr ⟨by omega, by rw [upOf_rd]; exact hai.1 rfl⟩)); exact ⟨b, ha.via hb (fun k hk => by rw [r13_Formed.l0, if_pos hi, if_neg c0, if_pos (by omega), if_pos h0, if_pos hi, if_neg c1, hk, Option.bind_some, if_pos rfl, w1 (by omega) (by omega)]), hbi⟩
        | false =>
          refine ⟨false, ha.via (Ev.pure false) (fun k hk => by rw [r13_Formed.l0, if_pos hi, if_neg c0, if_pos (by omega), if_pos h0, if_pos hi, if_neg c1, hk, Option.bind_some, if_neg (by decide)]), hbad ?_⟩; rintro (⟨h, _⟩ | ⟨_, h⟩); (omega); (rw [upOf_rd] at h; have := hai.2 h; cases this)
theorem Formed_ev (l : List S32) (hl : (l.length : Int) ≤ 1000000000) : ∃ b, Ev (fun k => r13_Formed.f k l) b ∧ (b = true ↔ GoodTo l l.length) := by
  obtain ⟨b, hb, hi⟩ := Formed_l0 l hl l.length 0 (by omega) (by omega) (fun i h0 h1 => by omega); exact ⟨b, hb, hi⟩
theorem Dp.le {l : List S32} {x d : Int} (h : Dp l x d) {n : Int} (hg : GoodTo l n) (hx : x ≤ n) : d ≤ x := by
  obtain ⟨e, he, hle⟩ := Dp.ex hg x.toNat x rfl h.nn.1 hx; rw [h.uniq he]; exact hle
theorem depth_l0 (l : List S32) (hl : (l.length : Int) ≤ 1000000000) (n : Int) (hn : n ≤ l.length) (hg : GoodTo l n) (m : Nat) : ∀ (y e : Int), y.toNat = m → Dp l y e → y ≤ n → ∀ a : Int, 0 ≤ a → a ≤ 3000000000 - y → Ev (fun k => r13_Depth.l0 k l y a) (a + e) := by
  induction m using Nat.strongRecOn with
  | _ m ihm =>
    intro y e hm he hy a a0 a1
    cases he with
    | zero => exact (Ev.pure _).step (fun k => by rw [r13_Depth.l0, if_neg (by omega), Int.add_zero])
    | @up _ e h0 he =>
      have hu := hg.up h0 hy; have h := ihm (upOf l y).toNat (by omega) (upOf l y) e rfl he (by omega) (a + 1) (by omega) (by omega); rw [show a + (e + 1) = a + 1 + e by omega]; refine h.step (fun k => ?_); rw [r13_Depth.l0, if_pos (by omega), wm (by omega) (by omega), if_pos (by omega), if_pos (by omega), w1 (by omega) (by omega)]; rfl
theorem Depth_ev (l : List S32) (hl : (l.length : Int) ≤ 1000000000) (hg : GoodTo l l.length) {x d : Int} (h : Dp l x d) (hx : x ≤ l.length) : Ev (fun k => r13_Depth.f k l x) d := by
  have := depth_l0 l hl l.length (Int.le_refl _) hg _ x d rfl h hx 0 (by omega) (by omega); rw [Int.zero_add] at this; exact this
theorem cut_l0 (l : List S32) (hl : (l.length : Int) ≤ 4096) (hg : GoodTo l l.length) (d : Nat) : ∀ (i : Int) (arr : List Int), 0 ≤ i → (l.length : Int) - i = d → (arr.length : Int) = l.length + 1 →
    (∀ j, 0 ≤ j → j ≤ i → Dp l j (rd arr j)) → (∀ j e, 0 ≤ j → j ≤ i → Dp l j e → e ≤ 64) →
    ∃ m : Int, Ev (fun k => flat_cut.l0 k l arr l l.length i) (l.take m.toNat) ∧ i ≤ m ∧ m ≤ l.length ∧ (∀ j e, 0 ≤ j → j < m → Dp l j e → e ≤ 64) ∧ (∀ e, Dp l m e → e ≤ 65) ∧ ((∀ e, Dp l m e → e ≤ 64) → m = l.length) := by
  induction d with
  | zero =>
    intro i arr h0 hd ha hdp hsm
    obtain rfl : i = l.length := by omega
    refine ⟨l.length, (Ev.pure _).step (fun k => by rw [flat_cut.l0, if_neg (by omega)]; simp), Int.le_refl _, Int.le_refl _, fun j e a b c => hsm j e a (by omega) c, fun e h => ?_, fun _ => rfl⟩; have := hsm _ e (by omega) (Int.le_refl _) h; omega
  | succ d ih =>
    intro i arr h0 hd ha hdp hsm
    have hi : i < l.length := by omega
    have hu := hg.up (x := i + 1) (by omega) (by omega); have hup := upOf_rd l i; rw [hup] at hu; have hDu := hdp _ hu.1 (by omega); have hnn := hDu.nn; have hee := hDu.le hg (by omega); have h64 := hsm _ _ hu.1 (by omega) hDu; have hDi : Dp l (i + 1) (rd arr (rd_T32 l i).f1 + 1) := .up (by omega) (by rw [hup]; exact hDu); have hw : wrap64 (rd arr (rd_T32 l i).f1 + 1) = rd arr (rd_T32 l i).f1 + 1 := w1 (by omega) (by omega)
    have hrd : rd (arr.set (i + 1).toNat (rd arr (rd_T32 l i).f1 + 1)) (i + 1) = rd arr (rd_T32 l i).f1 + 1 := by
      unfold rd; rw [List.getD_eq_getElem?_getD, List.getElem?_set_self (by omega)]; rfl
    have e : ∀ k, flat_cut.l0 (k + 1) l arr l l.length i = if rd arr (rd_T32 l i).f1 + 1 > 64 then some (l.take (i + 1).toNat) else flat_cut.l0 k l (arr.set (i + 1).toNat (rd arr (rd_T32 l i).f1 + 1)) l l.length (i + 1) := by
      intro k; rw [flat_cut.l0, if_pos hi, if_pos h0, if_pos hi, if_pos hu.1, if_pos (by omega), w1 (by omega) (by omega), if_pos (by omega), if_pos (by omega), hw, Option.bind_some, hrd, if_pos (show i + 1 ≤ (l.length : Int) by omega), if_neg (show ¬ i = 4096 by omega)]
    by_cases c : rd arr (rd_T32 l i).f1 + 1 > 64
    · refine ⟨i + 1, (Ev.pure _).step (fun k => by rw [e, if_pos c]), by omega, by omega, fun j e a b hh => hsm j e a (by omega) hh, fun e he => ?_, fun h => ?_⟩
      · have := hDi.uniq he; omega
      · have := h _ hDi; omega
    · obtain ⟨m, hm, m1, m2, m3, m4, m5⟩ := ih (i + 1) (arr.set (i + 1).toNat (rd arr (rd_T32 l i).f1 + 1)) (by omega) (by omega) (by rw [List.length_set]; exact ha)
        (fun j j0 j1 => by
          rcases Int.lt_or_eq_of_le j1 with j2 | rfl
          · have : rd (arr.set (i + 1).toNat (rd arr (rd_T32 l i).f1 + 1)) j = rd arr j := by
              unfold rd
              rw [List.getD_eq_getElem?_getD, List.getElem?_set_ne (by omega), ← List.getD_eq_getElem?_getD]
            rw [this]
            exact hdp j j0 (by omega)
          · rw [hrd]
            exact hDi)
        (fun j e j0 j1 he => by
          rcases Int.lt_or_eq_of_le j1 with j2 | rfl
          · exact hsm j e j0 (by omega) he
          · have := hDi.uniq he; omega)
      exact ⟨m, hm.step (fun k => by rw [e, if_neg c]), by omega, m2, m3, m4, m5⟩
theorem cut_ev (l : List S32) (hl : (l.length : Int) ≤ 4096) (hg : GoodTo l l.length) (hp : 0 < l.length) : ∃ m : Int, Ev (fun k => flat_cut.f k l) (l.take m.toNat) ∧ 0 < m ∧ m ≤ l.length ∧ (∀ j e, 0 ≤ j → j < m → Dp l j e → e ≤ 64) ∧ (∀ e, Dp l m e → e ≤ 65) ∧ ((∀ e, Dp l m e → e ≤ 64) → m = l.length) := by
  have hz : ∀ j, 0 ≤ j → j ≤ (0 : Int) → j = 0 := fun j a b => by omega
  obtain ⟨m, hm, m1, m2, m3, m4, m5⟩ := cut_l0 l hl hg l.length 0 (List.replicate (l.length + 1) 0) (by omega) (by omega) (by rw [List.length_replicate]; omega)
    (fun j a b => by
      rw [hz j a b]
      have : rd (List.replicate (l.length + 1) 0) 0 = 0 := by unfold rd; rfl
      rw [this]
      exact .zero)
    (fun j e a b he => by
      rw [hz j a b] at he; have := he.uniq .zero
      omega)
  refine ⟨m, hm.eq (fun k => ?_), ?_, m2, m3, m4, m5⟩; (rw [flat_cut.f, w1 (by omega) (by omega), if_pos (by omega), if_pos (by omega)]; rw [show ((l.length : Int) + 1).toNat = l.length + 1 by omega])
  · rcases Int.lt_or_eq_of_le m1 with h | h
    · exact h
    · subst h
      have := m5 (fun e he => by have := he.uniq .zero; omega)
      omega
end Go.Proofs.Ytelacebdmmanhaa.Pure
