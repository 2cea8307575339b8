/- What the claim LawAdiffLeast rests on, part 2 of 5: the kit's words, the printed walks, the walks by hand, the plain laws. -/
import Derived.Test.YtmpdbblljofjfaaB0
import Derived.Test.YtmpdbblljofjfaaB1
import Derived.Deep.CutRange
import Derived.Laws.Cover1
namespace Go.Proofs.Ytmpdbblljofjfaa.G
open Go.RowKit Go.Proofs.YtmpdbblljofjfaaW.PrintWords Go.Proofs.YtmpdbblljofjfaaW.PrintLast Go.Proofs.YtmpdbblljofjfaaW.PrintMore Go.Proofs.Ytmpdbblljofjfaa.Srt
set_option linter.unusedVariables false
set_option linter.unusedSimpArgs false
def SymAt (w0 : World) (A : Option Addr) (n c gn : Nat) (ok : S43 → Prop) (cm : S43 → S43 → Int) (N : Nat) : Prop :=
  ∀ (P X Y Q : List S43) (W : World), X ≠ [] → Y ≠ [] → X.length + Y.length ≤ N → (∀ z ∈ X ++ Y, ok z) → Srt (lt cm) X → Srt (lt cm) Y → Rw w0 A n c W (P ++ X ++ Y ++ Q) →
    ∀ a m b : Int, a = P.length → m = P.length + X.length → b = P.length + X.length + Y.length →
    Calls Try.prog 43 #[.slice A n c, .int .i64 a, .int .i64 m, .int .i64 b, .func (.func 33) #[] #[]] W fun e w' => e = .returned (.tuple #[]) ∧ ∃ M, Srt (lt cm) M ∧ Stb (lt cm) (X ++ Y) M ∧ Rw w0 A n c w' (P ++ M ++ Q)
theorem td {α : Type} (t : Nat) (X R : List α) : X.take t ++ (X.drop t ++ R) = X ++ R := by rw [← List.append_assoc, List.take_append_drop]
theorem cut_four {α : Type} (P X Y Q : List α) (t k : Nat) : P ++ X.take t ++ X.drop t ++ Y.take k ++ (Y.drop k ++ Q) = P ++ X ++ Y ++ Q := by
  simp only [List.append_assoc, td]
theorem cut_none {α : Type} (X Y Q : List α) (t k : Nat) (h : X.drop t = [] ∨ Y.take k = []) : X.take t ++ (Y.take k ++ (X.drop t ++ (Y.drop k ++ Q))) = X ++ (Y ++ Q) := by
  rcases h with e | e
  (have h1 := List.take_append_drop t X; rw [e, List.append_nil] at h1; rw [e, List.nil_append, td, h1]); (have h1 := List.take_append_drop k Y; rw [e, List.nil_append] at h1; rw [e, List.nil_append, td, h1])
/-- Where the runs are cut: the bounds of what is searched. -/
def cut0 (x y : Nat) : Nat := if x > (x + y) / 2 then (x + y) / 2 - y else 0
def cut1 (x y : Nat) : Nat := if x > (x + y) / 2 then (x + y) / 2 else x
structure CutOk (cm : S43 → S43 → Int) (X Y : List S43) (s t : Nat) : Prop where
  lo : cut0 X.length Y.length ≤ s
  st : s ≤ t
  hi : t ≤ cut1 X.length Y.length
  left : s = cut0 X.length Y.length ∨ ∃ s1 x y, s = s1 + 1 ∧ X[s1]? = some x ∧ Y[(X.length + Y.length) / 2 - s]? = some y ∧ lt cm y x = false
  right : t = cut1 X.length Y.length ∨ ∃ x y, X[t]? = some x ∧ t < (X.length + Y.length) / 2 ∧ Y[(X.length + Y.length) / 2 - 1 - t]? = some y ∧ lt cm y x = true
theorem cut_le (x y : Nat) : cut0 x y ≤ cut1 x y ∧ cut1 x y ≤ x ∧ cut1 x y ≤ (x + y) / 2 ∧ (x + y) / 2 ≤ cut0 x y + y := by
  unfold cut0 cut1; split <;> omega
theorem cut_sub (x y : Nat) (h : 0 < y) : (x + y) / 2 - cut0 x y = y ∨ cut0 x y = 0 := by
  unfold cut0; split <;> omega
theorem cut_top (x y : Nat) : cut1 x y = x ∨ cut1 x y = (x + y) / 2 := by
  unfold cut1; split <;> simp
theorem CutOk.merge {cm : S43 → S43 → Int} (w : Swo (lt cm)) {X Y : List S43} {s h : Nat} (c : CutOk cm X Y s s) (hh : h = (X.length + Y.length) / 2) (hX : Srt (lt cm) X) (hY : Srt (lt cm) Y) (hY0 : 0 < Y.length) {M1 M2 : List S43}
    (h1 : Srt (lt cm) M1) (s1 : Stb (lt cm) (X.take s ++ Y.take (h - s)) M1) (h2 : Srt (lt cm) M2) (s2 : Stb (lt cm) (X.drop s ++ Y.drop (h - s)) M2) : Srt (lt cm) (M1 ++ M2) ∧ Stb (lt cm) (X ++ Y) (M1 ++ M2) := by
  have hX' : Srt (lt cm) (X.take s ++ X.drop s) := by rw [List.take_append_drop]; exact hX
  have hY' : Srt (lt cm) (Y.take (h - s) ++ Y.drop (h - s)) := by rw [List.take_append_drop]; exact hY
  have pX := List.pairwise_append.1 hX'; have pY := List.pairwise_append.1 hY'; have hle := cut_le X.length Y.length; have r := merged w hX' hY' (all_lt w pX.2.1 pY.1 ?_) (all_ge w pX.1 pY.2.1 ?_) h1 s1 h2 s2; (rw [List.take_append_drop, List.take_append_drop] at r; exact r)
  · rcases c.right with e | ⟨x, y, e1, e2, e3, e4⟩
    · rcases cut_top X.length Y.length with e5 | e5
      · exact .inl (List.drop_eq_nil_of_le (by omega))
      · exact .inr (.inl (by rw [show h - s = 0 by omega]; rfl))
    · refine .inr (.inr ⟨x, X.drop (s + 1), Y.take (h - 1 - s), y, drop_get e1, ?_, e4⟩)
      rw [← hh] at e3 e2
      rw [show h - s = h - 1 - s + 1 by omega]
      exact take_get e3
  · rcases c.left with e | ⟨k1, x, y, e1, e2, e3, e4⟩
    · rcases cut_sub X.length Y.length hY0 with e5 | e5
      · exact .inr (.inl (List.drop_eq_nil_of_le (by omega)))
      · exact .inl (by rw [show s = 0 by omega]; rfl)
    · subst e1
      rw [← hh] at e3
      exact .inr (.inr ⟨X.take k1, x, y, Y.drop (h - (k1 + 1) + 1), take_get e2, drop_get e3, e4⟩)
set_option maxHeartbeats 8000000 in
set_option maxRecDepth 100000 in
theorem symR (w0 : World) (A : Option Addr) (n c : Nat) (hn : n ≤ 140737488351232) (gn : Nat) (ok : S43 → Prop) (cm : S43 → S43 → Int) (hc : Cm w0 gn ok cm) (N : Nat) (ih : SymAt w0 A n c gn ok cm N)
    (P X Y Q : List S43) (W : World) (hX2 : 2 ≤ X.length) (hY2 : 2 ≤ Y.length) (hN : X.length + Y.length ≤ N + 1) (hok : ∀ z ∈ X ++ Y, ok z) (hX : Srt (lt cm) X) (hY : Srt (lt cm) Y) (h : Rw w0 A n c W (P ++ X ++ Y ++ Q))
    (a m b : Int) (ha : a = P.length) (hm : m = P.length + X.length) (hb : b = P.length + X.length + Y.length) :
    Calls Try.prog 43 #[.slice A n c, .int .i64 a, .int .i64 m, .int .i64 b, .func (.func 33) #[] #[]] W fun e w' => e = .returned (.tuple #[]) ∧ ∃ M, Srt (lt cm) M ∧ Stb (lt cm) (X ++ Y) M ∧ Rw w0 A n c w' (P ++ M ++ Q) := by
  obtain ⟨h', hh'⟩ : ∃ h', (X.length + Y.length) / 2 = h' := ⟨_, rfl⟩; have HLN := Aside0.mk (show P.length + X.length + Y.length ≤ n by have := h.ln; simp at this; omega); have HN := Aside0.mk hn; have HC := Aside0.mk hc; have IH := Aside0.mk ih; have HOK := Aside0.mk hok; have HX := Aside0.mk hX; have HY := Aside0.mk hY; have H := Aside0.mk h; have H2 := Aside0.mk (And.intro hX2 (And.intro hY2 hN)); have HA := Aside0.mk (And.intro ha (And.intro hm hb)); have HHH := Aside0.mk hh'; obtain ⟨d1, hd1⟩ : ∃ d, m - a = d := ⟨_, rfl⟩; obtain ⟨d2, hd2⟩ : ∃ d, b - m = d := ⟨_, rfl⟩
  have e1 : IntKind.i64.wrap (m - a) = d1 := by rw [IntWalk.i64_in _ (by have := HLN.out; omega)]; exact hd1
  have e1b : (d1 == 1) = false := by simp; omega
  have e2 : IntKind.i64.wrap (b - m) = d2 := by rw [IntWalk.i64_in _ (by have := HLN.out; omega)]; exact hd2
  have e2b : (d2 == 1) = false := by simp; omega
  obtain ⟨mid, hmid⟩ : ∃ mid : Int, mid = P.length + h' := ⟨_, rfl⟩; have HMID := Aside0.mk hmid
  have wmid : wrap64 (IntKind.u64.wrap (wrap64 (a + b)) / 2) = mid := by rw [half_i a b (by omega) (by have := HLN.out; omega)]; omega
  obtain ⟨nn, hnn⟩ : ∃ nn : Int, nn = mid + m := ⟨_, rfl⟩; have HNN := Aside0.mk hnn
  have wnn : wrap64 (mid + m) = nn := by unfold wrap64; have := HLN.out; omega
  obtain ⟨pp, hpp⟩ : ∃ pp : Int, pp = nn - 1 := ⟨_, rfl⟩; have HPP := Aside0.mk hpp
  have wpp : wrap64 (nn - 1) = pp := by unfold wrap64; have := HLN.out; omega
  obtain ⟨st, hst⟩ : ∃ st : Int, st = P.length + cut0 X.length Y.length := ⟨_, rfl⟩; obtain ⟨rt, hrt⟩ : ∃ rt : Int, rt = P.length + cut1 X.length Y.length := ⟨_, rfl⟩; have HST := Aside0.mk (And.intro hst hrt); obtain ⟨g, rfl, hg⟩ := h.form (by have := HLN.out; omega)
  have wst : m > mid → wrap64 (nn - b) = st ∧ mid = rt := by
    intro hgt; rw [hst, hrt]; unfold cut0 cut1; rw [if_pos (by omega), if_pos (by omega)]; unfold wrap64; have := HLN.out; omega
  have wst' : ¬ m > mid → a = st ∧ m = rt := by
    intro hgt; rw [hst, hrt]; unfold cut0 cut1; rw [if_neg (by omega), if_neg (by omega)]; omega
  have WST := Aside0.mk (And.intro wst wst'); clear h hn hc hok ha hm hb hX hY hg hX2 hY2 hN hd1 hd2 hmid hnn hpp hst hrt hh' ih wst wst'
  go_enter Try.func43, Try.ntmps43
  go_upto_if 140 with fail
  go_cut [18, 19, 20, 21] from 131 to 146 (fun v18 v19 v20 v21 w' => v18 = .int .i64 mid ∧ v19 = .int .i64 nn ∧ v20 = .int .i64 st ∧ v21 = .int .i64 rt ∧ w' = W)
  case first =>
    by_cases hgt : m > mid
    · obtain ⟨q1, q2⟩ := WST.out.1 hgt
      have hgb : decide (m > mid) = true := decide_eq_true hgt
      have hgb2 : decide (mid < m) = true := hgb
      have HQ := Aside0.mk (And.intro q1 q2)
      clear q1 q2 hgt
      simp only [hgb, hgb2]
      go_wp2_with fail
      go_meet
      case rel => exact ⟨rfl, rfl, by rw [HQ.out.1], by rw [HQ.out.2], rfl⟩
    · obtain ⟨q1, q2⟩ := WST.out.2 hgt
      have hgb : decide (m > mid) = false := decide_eq_false hgt
      have hgb2 : decide (mid < m) = false := hgb
      have HQ := Aside0.mk (And.intro q1 q2)
      clear q1 q2 hgt
      simp only [hgb, hgb2]
      go_wp2_with fail
      go_meet
      case rel => exact ⟨rfl, rfl, by rw [HQ.out.1], by rw [HQ.out.2], rfl⟩
  case rest =>
  obtain ⟨rfl, rfl, rfl, rfl, rfl⟩ := hcut
  go_wp2_with fail
  go_loopg [20, 21] X.length (fun kq v20 v21 W' => ∃ (i j : Int) (s t : Nat), v20 = .int .i64 i ∧ v21 = .int .i64 j ∧ Aside0 (i = P.length + s ∧ j = P.length + t ∧ t ≤ s + kq) ∧ Aside0 (CutOk cm X Y s t) ∧ Aside0 (Rw w0 (some ⟨g, 0, none⟩) n c W' (P ++ X ++ Y ++ Q)))
  case atStart => exact ⟨st, rt, cut0 X.length Y.length, cut1 X.length Y.length, rfl, rfl, ⟨HST.out.1, HST.out.2, by have := cut_le X.length Y.length; omega⟩, ⟨Nat.le_refl _, (cut_le _ _).1, Nat.le_refl _, .inl rfl, .inl rfl⟩, H⟩
  case round =>
  clear H HST WST; obtain ⟨i, j, s, t, rfl, rfl, HI, HS, H⟩ := hrel; have HLE := Aside0.mk (show cut1 X.length Y.length ≤ X.length ∧ cut1 X.length Y.length ≤ h' ∧ h' ≤ cut0 X.length Y.length + Y.length by have := cut_le X.length Y.length; have := HHH.out; omega)
  by_cases hij : i < j
  · have hijb : decide (i < j) = true := decide_eq_true hij
    cases gk with
    | zero => exact absurd hij (by have := HI.out; omega)
    | succ k1 =>
    obtain ⟨k, hk⟩ : ∃ k : Nat, k = (i + j).toNat / 2 - P.length := ⟨_, rfl⟩
    have HK := Aside0.mk (show s ≤ k ∧ k < t ∧ (i + j) / 2 = P.length + k by have := HI.out; omega)
    obtain ⟨p, hp⟩ : ∃ p : Nat, p = P.length + k := ⟨_, rfl⟩
    obtain ⟨q, hq⟩ : ∃ q : Nat, q = P.length + X.length + (h' - 1 - k) := ⟨_, rfl⟩
    have HB := Aside0.mk (show k < X.length ∧ k < h' ∧ h' - 1 - k < Y.length by have := HK.out; have h1 := HS.out.lo; have h2 := HS.out.hi; have := HLE.out; omega)
    have w1 : wrap64 (IntKind.u64.wrap (wrap64 (i + j)) / 2) = (p : Int) := by rw [half_i i j (by have := HI.out; omega) (by have := HI.out; have h2 := HS.out.hi; have := HLE.out; have := HLN.out; have := HN.out; omega)]; have := HK.out; omega
    have w2 : IntKind.i64.wrap ((p : Int) + 1) = (p : Int) + 1 := IntWalk.i64_in _ (by have := HB.out; have := HLN.out; have := HN.out; omega)
    have w3 : IntKind.i64.wrap (pp - (p : Int)) = (q : Int) := by rw [IntWalk.i64_in _ (by have := HB.out; have := HLN.out; have := HN.out; have := HPP.out; have := HNN.out; have := HMID.out; have := HA.out; omega)]; have := HB.out; have := HPP.out; have := HNN.out; have := HMID.out; have := HA.out; omega
    obtain ⟨x, hx⟩ : ∃ x, X[k]? = some x := ⟨_, List.getElem?_eq_getElem (by have := HB.out; omega)⟩
    obtain ⟨y, hy⟩ : ∃ y, Y[h' - 1 - k]? = some y := ⟨_, List.getElem?_eq_getElem (by have := HB.out; omega)⟩
    have HP := Aside0.mk (And.intro hp hq)
    have hpn : p < n := by have := HB.out; have := HLN.out; omega
    have hqn : q < n := by have := HB.out; have := HLN.out; omega
    have HPN := Aside0.mk (And.intro hpn hqn)
    have hpn1 := eq_true hpn
    have hqn1 := eq_true hqn
    obtain ⟨cp0, cp1, _, _⟩ := H.out.cell p hpn x (get_fst p k x hp hx)
    obtain ⟨cq0, cq1, _, _⟩ := H.out.cell q hqn y (get_snd q (h' - 1 - k) y hq hy)
    have HOX := Aside0.mk (HOK.out x (List.mem_append.2 (.inl (List.mem_of_getElem? hx))))
    have HOY := Aside0.mk (HOK.out y (List.mem_append.2 (.inr (List.mem_of_getElem? hy))))
    have HXY := Aside0.mk (And.intro hx hy)
    obtain ⟨r, hr⟩ : ∃ r, cm y x = r := ⟨_, rfl⟩
    have HR := Aside0.mk hr
    clear hij hk hp hq hx hy hpn hqn hr
    go_upto_region 35 with fail
    rw [w1]
    refine start_ (n := 14) (S := (fun w' => w'.cell? ⟨g, p * 2, none⟩ = some (.string x.f0) ∧ w'.cell? ⟨g, p * 2 + 1, none⟩ = some (.string x.f1) ∧ w'.cell? ⟨g, q * 2, none⟩ = some (.string y.f0) ∧ w'.cell? ⟨g, q * 2 + 1, none⟩ = some (.string y.f1))) (ds := []) #[false, false, false, false, false, false, false, false, false, false, false, false, false, false] (by kernel_rfl) rfl rfl ?_ ?_
    · exact ⟨cp0, cp1, cq0, cq1⟩
    intro hHeld
    clear cp0 cp1 cq0 cq1; have H2 := Aside0.mk H.out.drew; generalize wr.drew = w3 at H2 hHeld ⊢; have hH := hHeld; obtain ⟨cp0, cp1, cq0, cq1⟩ := hH
    refine pure_ (i := 0) (N := some 158) (v := ?_) (a' := ?_) #[true, false, false, false, false, false, false, false, false, false, false, false, false, false] rfl rfl (by kernel_rfl) (fun _ _ _ h => h) (Or.inl ⟨by rfl, ?_⟩) ?_ ?_
    rotate_left
    · intro w'
      go_simp
      with_reducible rfl
    rotate_left
    · simp only [Act.put, List.setIfInBounds_toArray, List.set_cons_zero, List.set_cons_succ, i64_w, i32_w]
      rfl
    refine pure_ (i := 1) (N := some 159) (v := ?_) (a' := ?_) #[true, true, false, false, false, false, false, false, false, false, false, false, false, false] rfl rfl (by kernel_rfl) (fun _ _ _ h => h) (Or.inl ⟨by rfl, ?_⟩) ?_ ?_
    rotate_left
    · intro w'
      go_simp
      with_reducible rfl
    rotate_left
    · simp only [Act.put, List.setIfInBounds_toArray, List.set_cons_zero, List.set_cons_succ, i64_w, i32_w]
      rfl
    refine pure_ (i := 2) (N := some 160) (v := ?_) (a' := ?_) #[true, true, true, false, false, false, false, false, false, false, false, false, false, false] rfl rfl (by kernel_rfl) (fun _ _ _ h => h) (Or.inl ⟨by rfl, ?_⟩) ?_ ?_
    rotate_left
    · intro w'
      go_simp
      with_reducible rfl
    rotate_left
    · simp only [Act.put, List.setIfInBounds_toArray, List.set_cons_zero, List.set_cons_succ, i64_w, i32_w]
      rfl
    refine pure_ (i := 3) (N := some 161) (v := ?_) (a' := ?_) #[true, true, true, true, false, false, false, false, false, false, false, false, false, false] rfl rfl (by kernel_rfl) (fun _ _ _ h => h) (Or.inl ⟨by rfl, ?_⟩) ?_ ?_
    rotate_left
    · intro w'
      go_simp
      with_reducible rfl
    rotate_left
    · simp only [Act.put, List.setIfInBounds_toArray, List.set_cons_zero, List.set_cons_succ, i64_w, i32_w]
      rfl
    refine pure_ (i := 4) (N := some 162) (v := ?_) (a' := ?_) #[true, true, true, true, true, false, false, false, false, false, false, false, false, false] rfl rfl (by kernel_rfl) (fun _ _ _ h => h) (Or.inl ⟨by rfl, ?_⟩) ?_ ?_
    rotate_left
    · intro w'
      go_simp
      with_reducible rfl
    rotate_left
    · simp only [Act.put, List.setIfInBounds_toArray, List.set_cons_zero, List.set_cons_succ, i64_w, i32_w]
      rfl
    refine pure_ (i := 5) (N := some 163) (v := ?_) (a' := ?_) #[true, true, true, true, true, true, false, false, false, false, false, false, false, false] rfl rfl (by kernel_rfl) (fun _ _ _ h => h) (Or.inl ⟨by rfl, ?_⟩) ?_ ?_
    rotate_left
    · intro w'
      go_simp
      with_reducible rfl
    rotate_left
    · simp only [Act.put, List.setIfInBounds_toArray, List.set_cons_zero, List.set_cons_succ, i64_w, i32_w]
      rfl
    refine pure_ (i := 7) (N := some 165) (v := ?_) (a' := ?_) #[true, true, true, true, true, true, false, true, false, false, false, false, false, false] rfl rfl (by kernel_rfl) (fun _ _ _ h => h) (Or.inl ⟨by rfl, ?_⟩) ?_ ?_
    rotate_left
    · intro w'
      go_simp
      with_reducible rfl
    rotate_left
    · simp only [Act.put, List.setIfInBounds_toArray, List.set_cons_zero, List.set_cons_succ, i64_w, i32_w]
      rfl
    refine pure_ (i := 8) (N := some 166) (v := ?_) (a' := ?_) #[true, true, true, true, true, true, false, true, true, false, false, false, false, false] rfl rfl (by kernel_rfl) (fun _ _ _ h => h) (Or.inl ⟨by rfl, ?_⟩) ?_ ?_
    rotate_left
    · intro w'
      go_simp
      with_reducible rfl
    rotate_left
    · simp only [Act.put, List.setIfInBounds_toArray, List.set_cons_zero, List.set_cons_succ, i64_w, i32_w]
      rfl
    refine pure_ (i := 9) (N := some 167) (v := ?_) (a' := ?_) #[true, true, true, true, true, true, false, true, true, true, false, false, false, false] rfl rfl (by kernel_rfl) (fun _ _ _ h => h) (Or.inl ⟨by rfl, ?_⟩) ?_ ?_
    rotate_left
    · intro w'
      go_simp
      with_reducible rfl
    rotate_left
    · simp only [Act.put, List.setIfInBounds_toArray, List.set_cons_zero, List.set_cons_succ, i64_w, i32_w]
      rfl
    refine take_ (i := 6) (N := some 164) (v := ?_) (a' := ?_) #[true, true, true, true, true, true, true, true, true, true, false, false, false, false] rfl rfl (by kernel_rfl) (fun _ _ _ h => h) (Or.inl ⟨by rfl, ?_⟩) hHeld ?_ ?_
    rotate_left
    · rintro w' ⟨s0, s1, s2, s3⟩
      go_simp
      with_reducible rfl
    rotate_left
    · simp only [Act.put, List.setIfInBounds_toArray, List.set_cons_zero, List.set_cons_succ, i64_w, i32_w]
      rfl
    refine take_ (i := 10) (N := some 168) (v := ?_) (a' := ?_) #[true, true, true, true, true, true, true, true, true, true, true, false, false, false] rfl rfl (by kernel_rfl) (fun _ _ _ h => h) (Or.inl ⟨by rfl, ?_⟩) hHeld ?_ ?_
    rotate_left
    · rintro w' ⟨s0, s1, s2, s3⟩
      go_simp
      with_reducible rfl
    rotate_left
    · simp only [Act.put, List.setIfInBounds_toArray, List.set_cons_zero, List.set_cons_succ, i64_w, i32_w]
      rfl
    refine one_ (i := 11) (N := some 169) #[true, true, true, true, true, true, true, true, true, true, true, true, false, false] rfl rfl (by kernel_rfl) (by decide) (fun K hK => ?_)
    refine goesV_ #[] Try.func33 (by kernel_rfl) rfl #[.agg #[.string y.f0, .string y.f1], .agg #[.string x.f0, .string x.f1]] (by rfl) rfl rfl (by rfl) (by (try simp only [List.map_toArray, List.map_cons, List.map_nil, List.append_toArray, List.cons_append, List.nil_append]); first | done | rfl) ?_
    refine (HC.out.call w3 y x H2.out.b HOY.out HOX.out).mono ?_
    rintro e w4 ⟨rfl, hb⟩
    rw [HR.out]
    refine ⟨_, rfl, ?_⟩
    have H4 := Aside0.mk (H2.out.below hb)
    obtain ⟨cp4, cp5, _, _⟩ := H4.out.cell p HPN.out.1 x (get_fst p k x HP.out.1 HXY.out.1)
    obtain ⟨cq4, cq5, _, _⟩ := H4.out.cell q HPN.out.2 y (get_snd q (h' - 1 - k) y HP.out.2 HXY.out.2)
    clear hb cp0 cp1 cq0 cq1
    refine hK.out _ _ ⟨cp4, cp5, cq4, cq5⟩ (fun hHeld => ?_)
    clear hK K
    refine norm_ (a' := ?_) ?_ ?_
    rotate_left
    · show Act.put _ (some 169) _ = _
      simp only [Act.put, List.setIfInBounds_toArray, List.set_cons_zero, List.set_cons_succ, i64_w, i32_w]
      rfl
    refine pure_ (i := 12) (N := some 170) (v := ?_) (a' := ?_) #[true, true, true, true, true, true, true, true, true, true, true, true, true, false] rfl rfl (by kernel_rfl) (fun _ _ _ h => h) (Or.inl ⟨by rfl, ?_⟩) ?_ ?_
    rotate_left
    · intro w'
      go_simp
      with_reducible rfl
    rotate_left
    · simp only [Act.put, List.setIfInBounds_toArray, List.set_cons_zero, List.set_cons_succ, i64_w, i32_w]
      rfl
    refine pure_ (i := 13) (N := some 171) (v := ?_) (a' := ?_) #[true, true, true, true, true, true, true, true, true, true, true, true, true, true] rfl rfl (by kernel_rfl) (fun _ _ _ h => h) (Or.inl ⟨by rfl, ?_⟩) ?_ ?_
    rotate_left
    · intro w'
      go_simp
      with_reducible rfl
    rotate_left
    · simp only [Act.put, List.setIfInBounds_toArray, List.set_cons_zero, List.set_cons_succ, i64_w, i32_w]
      rfl
    refine done_ (by kernel_rfl) ?_
    clear cp4 cp5 cq4 cq5
    by_cases hr0 : r < 0
    · have hrb : decide (r < 0) = true := decide_eq_true hr0
      have HLT := Aside0.mk (show lt cm y x = true by unfold lt; rw [HR.out]; exact decide_eq_true hr0)
      clear hr0
      simp only [hrb, Bool.not_true]
      go_wp2_with fail
      go_roundg k1
      case measure => omega
      case rel =>
        refine ⟨i, (p : Int), s, k, rfl, rfl, ⟨by have := HI.out; omega, by have := HP.out; omega, by have := HI.out; have := HK.out; omega⟩, ⟨HS.out.lo, HK.out.1, by have h2 := HS.out.hi; have := HK.out; omega, HS.out.left, .inr ⟨x, y, HXY.out.1, ?_, ?_, HLT.out⟩⟩, H4⟩; (have := HHH.out; have := HB.out; omega); (rw [HHH.out]; exact HXY.out.2)
    · have hrb : decide (r < 0) = false := decide_eq_false hr0
      have HLT := Aside0.mk (show lt cm y x = false by unfold lt; rw [HR.out]; exact decide_eq_false hr0)
      clear hr0
      simp only [hrb, Bool.not_false]
      go_wp2_with fail
      go_roundg k1
      case measure => omega
      case rel =>
        refine ⟨(p : Int) + 1, j, k + 1, t, rfl, rfl, ⟨by have := HP.out; omega, by have := HI.out; omega, by have := HI.out; have := HK.out; omega⟩, ⟨by have h2 := HS.out.lo; have := HK.out; omega, by have := HK.out; omega, HS.out.hi, .inr ⟨k, x, y, rfl, HXY.out.1, ?_, HLT.out⟩, HS.out.right⟩, H4⟩; rw [HHH.out, show h' - (k + 1) = h' - 1 - k by omega]; exact HXY.out.2
  · have hijb : decide (i < j) = false := decide_eq_false hij
    have hst : t = s := by have := HI.out; have h2 := HS.out.st; omega
    subst hst
    have HB := Aside0.mk (show t ≤ X.length ∧ t ≤ h' ∧ h' ≤ t + Y.length by have h1 := HS.out.lo; have h2 := HS.out.hi; have := HLE.out; omega)
    have HII := Aside0.mk (show i = P.length + t from HI.out.1)
    obtain ⟨en, hen⟩ : ∃ en : Int, en = nn - i := ⟨_, rfl⟩
    have wen : wrap64 (nn - i) = en := by unfold wrap64; have := HII.out; have := HB.out; have := HNN.out; have := HMID.out; have := HA.out; have := HLN.out; have := HN.out; omega
    have HEN := Aside0.mk (show en = P.length + X.length + (h' - t : Nat) by have := HII.out; have := HB.out; have := HNN.out; have := HMID.out; have := HA.out; omega)
    obtain ⟨B1, hB1⟩ : ∃ B1 : Bool, B1 = (decide (i < m) && decide (m < en)) := ⟨_, rfl⟩
    obtain ⟨B2, hB2⟩ : ∃ B2 : Bool, B2 = (decide (a < i) && decide (i < mid)) := ⟨_, rfl⟩
    obtain ⟨B3, hB3⟩ : ∃ B3 : Bool, B3 = (decide (mid < en) && decide (en < b)) := ⟨_, rfl⟩
    have HB1 := Aside0.mk hB1
    have HB2 := Aside0.mk hB2
    have HB3 := Aside0.mk hB3
    clear hij hen hB1 hB2 hB3 HI HLE
    go_upto_region 39 with fail
    go_cut [24, 185] from 175 to 191 (fun v24 v185 w' => v24 = .int .i64 en ∧ v185 = .bool B1 ∧ w' = wr)
    case first =>
      by_cases h1 : i < m
      · have h1b : decide (i < m) = true := decide_eq_true h1
        have HX1 := Aside0.mk (show B1 = decide (m < en) by rw [HB1.out, h1b, Bool.true_and])
        clear h1
        go_wp2_with fail
        go_meet
        case rel => exact ⟨by first | rfl | rw [wen], by rw [HX1.out], rfl⟩
      · have h1b : decide (i < m) = false := decide_eq_false h1
        have HX1 := Aside0.mk (show B1 = false by rw [HB1.out, h1b, Bool.false_and])
        clear h1
        go_wp2_with fail
        go_meet
        case rel => exact ⟨by first | rfl | rw [wen], by rw [HX1.out], rfl⟩
    case rest =>
    obtain ⟨rfl, rfl, rfl⟩ := hcut
    go_upto_if 185 with fail
    go_cut [] from 175 to 191 (fun w' => Aside0 (Rw w0 (some ⟨g, 0, none⟩) n c w' (P ++ X.take t ++ Y.take (h' - t) ++ X.drop t ++ Y.drop (h' - t) ++ Q)))
    case first =>
      cases B1 with
      | true =>
        have HX1 := Aside0.mk (show i < m ∧ m < en by have := HB1.out; simpa using this.symm)
        go_wp2_with fail
        refine (rotate w0 (some ⟨g, 0, none⟩) n c HN.out _ (P ++ X.take t) (X.drop t) (Y.take (h' - t)) (Y.drop (h' - t) ++ Q) (List.ne_nil_of_length_pos (by rw [List.length_drop]; have := HX1.out; have := HII.out; have := HA.out; omega)) (List.ne_nil_of_length_pos (by rw [List.length_take]; have := HX1.out; have := HEN.out; have := HA.out; have := HB.out; omega)) _ (by rw [cut_four]; exact H.out) i m en (by rw [List.length_append, List.length_take]; have := HII.out; have := HB.out; omega) (by rw [List.length_append, List.length_take, List.length_drop]; have := HA.out; have := HB.out; omega) (by rw [List.length_append, List.length_take, List.length_take, List.length_drop]; have := HEN.out; have := HA.out; have := HB.out; omega)).mono ?_; rintro e w3 ⟨rfl, hR⟩; have H3 := Aside0.mk hR; clear hR
        go_wp2_with fail
        go_meet
        case rel => exact ⟨by have := H3.out; simpa using this⟩
      | false =>
        have HX1 := Aside0.mk (show X.drop t = [] ∨ Y.take (h' - t) = [] by
          have h1 := HB1.out
          by_cases h2 : i < m
          · rw [decide_eq_true h2, Bool.true_and] at h1
            have h3 := of_decide_eq_false h1.symm; exact .inr (by rw [show h' - t = 0 by have := HEN.out; have := HA.out; omega]; rfl)
          · exact .inl (List.drop_eq_nil_of_le (by have := HII.out; have := HA.out; omega)))
        go_wp2_with fail
        go_meet
        case rel =>
          refine ⟨?_⟩; have h3 := H.out; simp only [List.append_assoc] at h3 ⊢; rw [cut_none X Y Q t (h' - t) HX1.out]; exact h3
    case rest =>
    have H3 := hcut
    clear H hcut HB1
    go_upto_region 41 with fail
    go_cut [199] from 192 to 205 (fun v185 w' => v185 = .bool B2 ∧ w' = wc)
    case first =>
      by_cases h1 : a < i
      · have h1b : decide (a < i) = true := decide_eq_true h1
        have HX1 := Aside0.mk (show B2 = decide (i < mid) by rw [HB2.out, h1b, Bool.true_and])
        clear h1
        go_wp2_with fail
        go_meet
        case rel => exact ⟨by rw [HX1.out], rfl⟩
      · have h1b : decide (a < i) = false := decide_eq_false h1
        have HX1 := Aside0.mk (show B2 = false by rw [HB2.out, h1b, Bool.false_and])
        clear h1
        go_wp2_with fail
        go_meet
        case rel => exact ⟨by rw [HX1.out], rfl⟩
    case rest =>
    obtain ⟨rfl, rfl⟩ := hcut
    go_upto_if 199 with fail
    go_cut [] from 192 to 205 (fun w' => ∃ M1, Aside0 (Srt (lt cm) M1 ∧ Stb (lt cm) (X.take t ++ Y.take (h' - t)) M1) ∧ Aside0 (Rw w0 (some ⟨g, 0, none⟩) n c w' (P ++ M1 ++ X.drop t ++ Y.drop (h' - t) ++ Q)))
    case first =>
      have SX := Aside0.mk (show Srt (lt cm) (X.take t) ∧ Srt (lt cm) (Y.take (h' - t)) from ⟨List.Pairwise.sublist (List.take_sublist _ _) HX.out, List.Pairwise.sublist (List.take_sublist _ _) HY.out⟩)
      cases B2 with
      | true =>
        have HX1 := Aside0.mk (show a < i ∧ i < mid by have := HB2.out; simpa using this.symm)
        go_wp2_with (go_at_call 43; refine (IH.out P (X.take t) (Y.take (h' - t)) (X.drop t ++ Y.drop (h' - t) ++ Q) _ (List.ne_nil_of_length_pos (by rw [List.length_take]; have := HX1.out; have := HII.out; have := HA.out; have := HB.out; omega)) (List.ne_nil_of_length_pos (by rw [List.length_take]; have := HX1.out; have := HII.out; have := HMID.out; have := HB.out; omega)) (by rw [List.length_take, List.length_take]; have := HB.out; have := H2.out; have := HHH.out; omega) (fun z hz => HOK.out z (by rcases List.mem_append.1 hz with hz | hz; exact List.mem_append.2 (.inl (List.mem_of_mem_take hz)); exact List.mem_append.2 (.inr (List.mem_of_mem_take hz)))) SX.out.1 SX.out.2 (by have h3 := H3.out; simp only [List.append_assoc] at h3 ⊢; exact h3) a i mid (by have := HA.out; omega) (by rw [List.length_take]; have := HII.out; have := HB.out; omega) (by rw [List.length_take, List.length_take]; have := HMID.out; have := HB.out; omega)).mono ?_; rintro e w3 ⟨rfl, M1, h1, h2, hR⟩; have HM := Aside0.mk (And.intro h1 h2); have H4 := Aside0.mk hR; clear hR h1 h2)
        go_meet
        case rel => exact ⟨M1, HM, ⟨by have h3 := H4.out; simp only [List.append_assoc] at h3 ⊢; exact h3⟩⟩
      | false =>
        have HX1 := Aside0.mk (show Srt (lt cm) (X.take t ++ Y.take (h' - t)) by
          have h1 := HB2.out
          by_cases h2 : a < i
          · rw [decide_eq_true h2, Bool.true_and] at h1
            have h3 := of_decide_eq_false h1.symm; rw [show h' - t = 0 by have := HMID.out; have := HII.out; omega, List.take_zero, List.append_nil]; exact SX.out.1
          · rw [show t = 0 by have := HII.out; have := HA.out; omega, List.take_zero, List.nil_append]
            exact List.Pairwise.sublist (List.take_sublist _ _) HY.out)
        go_wp2_with fail
        go_meet
        case rel => exact ⟨X.take t ++ Y.take (h' - t), ⟨HX1.out, Stb.refl _ _⟩, ⟨by have h3 := H3.out; simp only [List.append_assoc] at h3 ⊢; exact h3⟩⟩
    case rest =>
    clear H3 HB2
    obtain ⟨M1, HM, H3⟩ := hcut
    have HML := Aside0.mk (show M1.length = h' by rw [HM.out.2.len, List.length_append, List.length_take, List.length_take]; have := HB.out; omega)
    go_upto_region 43 with fail
    go_cut [213] from 206 to 219 (fun v185 w' => v185 = .bool B3 ∧ w' = wc)
    case first =>
      by_cases h1 : mid < en
      · have h1b : decide (mid < en) = true := decide_eq_true h1
        have HX1 := Aside0.mk (show B3 = decide (en < b) by rw [HB3.out, h1b, Bool.true_and])
        clear h1
        go_wp2_with fail
        go_meet
        case rel => exact ⟨by rw [HX1.out], rfl⟩
      · have h1b : decide (mid < en) = false := decide_eq_false h1
        have HX1 := Aside0.mk (show B3 = false by rw [HB3.out, h1b, Bool.false_and])
        clear h1
        go_wp2_with fail
        go_meet
        case rel => exact ⟨by rw [HX1.out], rfl⟩
    case rest =>
    obtain ⟨rfl, rfl⟩ := hcut
    have SX := Aside0.mk (show Srt (lt cm) (X.drop t) ∧ Srt (lt cm) (Y.drop (h' - t)) from ⟨List.Pairwise.sublist (List.drop_sublist _ _) HX.out, List.Pairwise.sublist (List.drop_sublist _ _) HY.out⟩)
    cases B3 with
    | true =>
      have HX1 := Aside0.mk (show mid < en ∧ en < b by have := HB3.out; simpa using this.symm)
      go_wp2_with (go_at_call 43; refine (IH.out (P ++ M1) (X.drop t) (Y.drop (h' - t)) Q _ (List.ne_nil_of_length_pos (by rw [List.length_drop]; have := HX1.out; have := HEN.out; have := HMID.out; have := HB.out; omega)) (List.ne_nil_of_length_pos (by rw [List.length_drop]; have := HX1.out; have := HEN.out; have := HA.out; have := HB.out; omega)) (by rw [List.length_drop, List.length_drop]; have := HB.out; have := H2.out; have := HHH.out; omega) (fun z hz => HOK.out z (by rcases List.mem_append.1 hz with hz | hz; exact List.mem_append.2 (.inl (List.mem_of_mem_drop hz)); exact List.mem_append.2 (.inr (List.mem_of_mem_drop hz)))) SX.out.1 SX.out.2 (by have h3 := H3.out; simp only [List.append_assoc] at h3 ⊢; exact h3) mid en b (by rw [List.length_append]; have := HML.out; have := HMID.out; omega) (by rw [List.length_append, List.length_drop]; have := HML.out; have := HEN.out; have := HB.out; omega) (by rw [List.length_append, List.length_drop, List.length_drop]; have := HML.out; have := HA.out; have := HB.out; omega)).mono ?_; rintro e w3 ⟨rfl, M2, h1, h2, hR⟩; have HM2 := Aside0.mk (And.intro h1 h2); have H4 := Aside0.mk hR; clear hR h1 h2)
      refine bodyPost_end (results_none rfl _ _ _) rfl ?_; have hF := HS.out.merge HC.out.swo HHH.out.symm HX.out HY.out (by have := H2.out; omega) HM.out.1 HM.out.2 HM2.out.1 HM2.out.2; exact ⟨rfl, M1 ++ M2, hF.1, hF.2, by have h3 := H4.out; simp only [List.append_assoc] at h3 ⊢; exact h3⟩
    | false =>
      have HX1 := Aside0.mk (show Srt (lt cm) (X.drop t ++ Y.drop (h' - t)) by
        have h1 := HB3.out
        by_cases h2 : mid < en
        · rw [decide_eq_true h2, Bool.true_and] at h1
          have h3 := of_decide_eq_false h1.symm; have e5 : Y.drop (h' - t) = [] := List.drop_eq_nil_of_le (by have := HEN.out; have := HA.out; have := HB.out; omega); rw [e5, List.append_nil]; exact SX.out.1
        · have e5 : X.drop t = [] := List.drop_eq_nil_of_le (by have := HEN.out; have := HMID.out; have := HB.out; omega)
          rw [e5, List.nil_append]
          exact SX.out.2)
      go_wp2_with fail
      refine bodyPost_end (results_none rfl _ _ _) rfl ?_; have hF := HS.out.merge HC.out.swo HHH.out.symm HX.out HY.out (by have := H2.out; omega) HM.out.1 HM.out.2 HX1.out (Stb.refl _ _); exact ⟨rfl, M1 ++ (X.drop t ++ Y.drop (h' - t)), hF.1, hF.2, by have h3 := H3.out; simp only [List.append_assoc] at h3 ⊢; exact h3⟩
theorem symAll (w0 : World) (A : Option Addr) (n c : Nat) (hn : n ≤ 140737488351232) (gn : Nat) (ok : S43 → Prop) (cm : S43 → S43 → Int) (hc : Cm w0 gn ok cm) : ∀ N, SymAt w0 A n c gn ok cm N
  | 0 => by
    intro P X Y Q W hX hY hN
    have := List.length_pos_iff.2 hX
    omega
  | N + 1 => by
    intro P X Y Q W hX hY hN hok sX sY h a m b ha hm hb
    have pX := List.length_pos_iff.2 hX
    have pY := List.length_pos_iff.2 hY
    by_cases h1 : X.length = 1
    · obtain ⟨x, rfl⟩ := List.length_eq_one_iff.1 h1
      exact sym1 w0 A n c hn gn ok cm hc P x Y Q ⟨hok x (by simp), fun y hy => hok y (by simp [hy])⟩ sY W h a m b ha (by simpa using hm) (by simpa using hb)
    · by_cases h2 : Y.length = 1
      · obtain ⟨y, rfl⟩ := List.length_eq_one_iff.1 h2
        exact sym2 w0 A n c hn gn ok cm hc P y X Q ⟨hok y (by simp), fun x hx => hok x (by simp [hx])⟩ sX (by omega) W h a m b ha hm (by simpa using hb)
      · exact symR w0 A n c hn gn ok cm hc N (symAll w0 A n c hn gn ok cm hc N) P X Y Q W (by omega) (by omega) hN hok sX sY h a m b ha hm hb
/-- What has been sorted block by block. -/
structure Blk (cm : S43 → S43 → Int) (X L : List S43) (bs : Nat) (cs : List (List S43)) (last : List S43) : Prop where
  e : L = cs.flatten ++ last
  full : Full (lt cm) bs cs
  ll : last.length < bs
  sl : Srt (lt cm) last
  st : Stb (lt cm) X L
theorem Blk.done {cm : S43 → S43 → Int} {X L : List S43} {bs : Nat} {cs : List (List S43)} {last : List S43} (h : Blk cm X L bs cs last) (hn : L.length ≤ bs) : Srt (lt cm) L := by
  have hl := congrArg List.length h.e; rw [List.length_append] at hl; rw [h.e]
  rcases cs with _ | ⟨c, _ | ⟨c2, cs⟩⟩
  (simpa using h.sl); (have h1 := h.full c (by simp); simp at hl; obtain rfl : last = [] := List.length_eq_zero_iff.1 (by omega); simpa using h1.2); (have h1 := h.full c (by simp); have h2 := h.full c2 (by simp); have h3 := h.ll; simp at hl; omega)
set_option maxHeartbeats 8000000 in
set_option maxRecDepth 100000 in
theorem stable (w0 : World) (A : Option Addr) (n c : Nat) (hn : n ≤ 140737488351232) (gn : Nat) (ok : S43 → Prop) (cm : S43 → S43 → Int) (hc : Cm w0 gn ok cm) (X : List S43) (hok : ∀ x ∈ X, ok x) (W : World) (h : Rw w0 A n c W X) :
    Calls Try.prog 39 #[.slice A n c, .int .i64 (n : Int), .func (.func 33) #[] #[]] W fun e w' => e = .returned (.tuple #[]) ∧ ∃ M, Srt (lt cm) M ∧ Stb (lt cm) X M ∧ Rw w0 A n c w' M := by
  have HN := Aside0.mk hn; have HC := Aside0.mk hc; have HOK := Aside0.mk hok; have H := Aside0.mk h; have HLX := Aside0.mk h.ln; obtain ⟨ni, hni⟩ : ∃ ni : Int, (n : Int) = ni := ⟨_, rfl⟩; rw [hni]; have HNI := Aside0.mk hni.symm; clear h hn hc hok hni
  go_enter Try.func39, Try.ntmps39
  go_wp2_with fail
  go_loopg [7, 8] n (fun kq v7 v8 W' => ∃ (a b : Int) (cs : List (List S43)) (X1 R : List S43), v7 = .int .i64 a ∧ v8 = .int .i64 b ∧ Aside0 (a = cs.flatten.length ∧ b = a + 20 ∧ R.length ≤ kq ∧ X = X1 ++ R) ∧ Aside0 (Full (lt cm) 20 cs ∧ Stb (lt cm) X1 cs.flatten) ∧ Aside0 (Rw w0 A n c W' (cs.flatten ++ R)))
  case atStart => exact ⟨0, 20, [], [], X, rfl, rfl, ⟨rfl, rfl, by have := HLX.out; omega, rfl⟩, ⟨(fun c hc => by cases hc), Stb.refl _ _⟩, H⟩
  case round =>
  clear H; obtain ⟨a, b, cs, X1, R, rfl, rfl, HI, HF, H⟩ := hrel; have HLN := Aside0.mk (show (n : Int) = a + R.length by have := H.out.ln; rw [List.length_append] at this; have := HI.out.1; omega)
  by_cases hbn : b ≤ ni
  · have hbnb : decide (b ≤ ni) = true := decide_eq_true hbn
    cases gk with
    | zero => exact absurd hbn (by have := HI.out.2.1; have := HI.out.2.2.1; have := HLN.out; have := HNI.out; omega)
    | succ k1 =>
    obtain ⟨C, R', hR, hCl⟩ := split_at R 20 (by have := HI.out.2.1; have := HLN.out; have := HNI.out; omega)
    have HR := Aside0.mk (And.intro hR hCl)
    have w1 : IntKind.i64.wrap (b + 20) = b + 20 := IntWalk.i64_in _ (by have := HI.out.1; have := HI.out.2.1; have := HLN.out; have := HN.out; have := HNI.out; omega)
    have HA0 := Aside0.mk (show 0 ≤ a by have := HI.out.1; omega)
    clear hbn hR hCl
    go_wp2_with (go_at_call 42; refine (insertion w0 A n c HN.out gn ok cm HC.out cs.flatten C R' (fun x hx => HOK.out x (by rw [HI.out.2.2.2, HR.out.1]; simp [hx])) _ (by have := H.out; rw [HR.out.1] at this; simpa using this) a b HI.out.1 (by have := HI.out.1; have := HI.out.2.1; have := HR.out.2; omega)).mono ?_; rintro e w3 ⟨rfl, M, h1, h2, hR⟩; have HM := Aside0.mk (And.intro h1 h2); have H3 := Aside0.mk hR; clear h1 h2 hR)
    go_roundg k1
    case measure => omega
    case rel =>
      refine ⟨b, b + 20, cs ++ [M], X1 ++ C, R', rfl, rfl, ⟨?_, rfl, ?_, ?_⟩, ⟨full_snoc HF.out.1 (by rw [HM.out.2.len, HR.out.2]) HM.out.1, ?_⟩, ⟨by have := H3.out; simpa using this⟩⟩; (have h1 := HM.out.2.len; have := HR.out.2; have := HI.out.1; have := HI.out.2.1; simp only [List.flatten_append, List.flatten_cons, List.flatten_nil, List.append_nil, List.length_append]; omega); (have h1 := congrArg List.length HR.out.1; rw [List.length_append] at h1; have := HR.out.2; have := HI.out.2.2.1; omega); (rw [HI.out.2.2.2, HR.out.1]; simp); (rw [List.flatten_append]; refine HF.out.2.app ?_; simpa using HM.out.2)
  have hbnb : decide (b ≤ ni) = false := decide_eq_false hbn; have HRL := Aside0.mk (show R.length < 20 by have := HI.out.2.1; have := HLN.out; have := HNI.out; omega); clear hbn
  go_wp2_with (go_at_call 42; refine (insertion w0 A n c HN.out gn ok cm HC.out cs.flatten R [] (fun x hx => HOK.out x (by rw [HI.out.2.2.2]; simp [hx])) _ (by have := H.out; simpa using this) a ni HI.out.1 (by have := HI.out.1; have := HLN.out; have := HNI.out; omega)).mono ?_; rintro e w3 ⟨rfl, M, h1, h2, hR⟩; have HM := Aside0.mk (And.intro h1 h2); have H3 := Aside0.mk hR; clear h1 h2 hR)
  have HBK := Aside0.mk (show Blk cm X (cs.flatten ++ M) 20 cs M from ⟨rfl, HF.out.1, by rw [HM.out.2.len]; exact HRL.out, HM.out.1, by rw [HI.out.2.2.2]; exact HF.out.2.app HM.out.2⟩); replace H3 := Aside0.mk (show Rw w0 A n c w3 (cs.flatten ++ M) by have := H3.out; simpa using this); clear H HM HRL HF HLN
  go_loopg [6, 7, 8, 9] n (fun kq v6 v7 v8 v9 W' => ∃ (bi : Int) (bs : Nat) (L : List S43) (cs : List (List S43)) (last : List S43), v6 = .int .i64 bi ∧ Aside0 (bi = bs ∧ n ≤ bs + kq ∧ 20 ≤ bs) ∧ Aside0 (Blk cm X L bs cs last) ∧ Aside0 (Rw w0 A n c W' L))
  case atStart => exact ⟨20, 20, _, cs, M, rfl, ⟨rfl, by omega, by omega⟩, HBK, H3⟩
  case round =>
  clear HBK H3 HI; obtain ⟨bi, bs, L, cs, last, rfl, HI, HBK, H⟩ := hrel
  by_cases hbn : bi < ni
  case neg =>
    have hbnb : decide (bi < ni) = false := decide_eq_false hbn; have HD := Aside0.mk (HBK.out.done (by rw [H.out.ln]; have := HI.out.1; have := HNI.out; omega)); clear hbn
    go_wp2_with fail
    refine bodyPost_end (results_none rfl _ _ _) rfl ?_; exact ⟨rfl, L, HD.out, HBK.out.st, H.out⟩
  have hbnb : decide (bi < ni) = true := decide_eq_true hbn; have HBN := Aside0.mk (show bs < n by have := HI.out.1; have := HNI.out; omega); have w2 : IntKind.i64.wrap (2 * bi) = 2 * bi := IntWalk.i64_in _ (by have := HI.out.1; have := HBN.out; have := HN.out; omega); have w2' : IntKind.i64.wrap (bi * 2) = bi * 2 := IntWalk.i64_in _ (by have := HI.out.1; have := HBN.out; have := HN.out; omega)
  cases gk with
  | zero => exact absurd HI.out.2.1 (by have := HBN.out; omega)
  | succ k1 =>
  clear hbn
  go_wp2_with fail
  go_loopg [7, 8] cs.length (fun kq v7 v8 W' => ∃ (a b : Int) (ds rs : List (List S43)), v7 = .int .i64 a ∧ v8 = .int .i64 b ∧ Aside0 (a = ds.flatten.length ∧ b = a + 2 * bi ∧ rs.length ≤ kq) ∧ Aside0 (Full (lt cm) (2 * bs) ds ∧ Full (lt cm) bs rs ∧ Stb (lt cm) X (ds.flatten ++ (rs.flatten ++ last))) ∧ Aside0 (Rw w0 A n c W' (ds.flatten ++ (rs.flatten ++ last))))
  case atStart => exact ⟨0, 2 * bi, [], cs, rfl, rfl, ⟨rfl, by omega, Nat.le_refl _⟩, ⟨(fun c hc => by cases hc), HBK.out.full, by have := HBK.out.st; rw [HBK.out.e] at this; exact this⟩, ⟨by have := H.out; rw [HBK.out.e] at this; exact this⟩⟩
  case round =>
  clear H; obtain ⟨a, b, ds, rs, rfl, rfl, HJ, HF, H⟩ := hrel; have HLN := Aside0.mk (show (n : Int) = a + rs.flatten.length + last.length by have := H.out.ln; rw [List.length_append, List.length_append] at this; have := HJ.out.1; omega); have HLL := Aside0.mk HBK.out.ll; have HLS := Aside0.mk HBK.out.sl; have HA0 := Aside0.mk (show 0 ≤ a by have := HJ.out.1; omega); have HOKL := Aside0.mk (show ∀ z ∈ ds.flatten ++ (rs.flatten ++ last), ok z from fun z hz => HOK.out z ((HF.out.2.2.mem HC.out.swo z).1 hz)); have w3 : IntKind.i64.wrap (a + bi) = a + bi := IntWalk.i64_in _ (by have := HLN.out; have := HI.out.1; have := HBN.out; have := HN.out; have := HA0.out; omega)
  rcases rs with _ | ⟨c1, _ | ⟨c2, rs⟩⟩
  · have hbb : decide (b ≤ ni) = false := decide_eq_false (by have := HLN.out; simp at this; have := HLL.out; have := HJ.out.2.1; have := HI.out.1; have := HNI.out; omega)
    have hmb : decide (a + bi < ni) = false := decide_eq_false (by have := HLN.out; simp at this; have := HLL.out; have := HI.out.1; have := HNI.out; omega)
    go_wp2_with fail
    go_roundg k1
    case measure => omega
    case rel =>
      exact ⟨bi * 2, 2 * bs, _, ds, last, rfl, ⟨by have := HI.out.1; omega, by have := HI.out; omega, by have := HI.out; omega⟩, ⟨by simp, HF.out.1, by have := HLL.out; omega, HLS.out, HF.out.2.2⟩, H⟩
  · have hc1 := HF.out.2.1 c1 (by simp)
    have HC1 := Aside0.mk hc1
    have HLN2 := Aside0.mk (show (n : Int) = a + bs + last.length by have := HLN.out; simp at this; omega)
    have hbb : decide (b ≤ ni) = false := decide_eq_false (by have := HLN2.out; have := HLL.out; have := HJ.out.2.1; have := HI.out.1; have := HNI.out; omega)
    by_cases hl : last = []
    · have HL := Aside0.mk hl
      have hmb : decide (a + bi < ni) = false := decide_eq_false (by have := HLN2.out; rw [hl] at this; simp at this; have := HI.out.1; have := HNI.out; omega)
      clear hl hc1
      go_wp2_with fail
      go_roundg k1
      case measure => omega
      case rel =>
        refine ⟨bi * 2, 2 * bs, _, ds, c1, rfl, ⟨by have := HI.out.1; omega, by have := HI.out; omega, by have := HI.out; omega⟩, ⟨rfl, HF.out.1, by have := HC1.out.1; have := HI.out; omega, HC1.out.2, ?_⟩, ?_⟩; (have := HF.out.2.2; rw [HL.out] at this; simpa using this); (exact ⟨by have := H.out; rw [HL.out] at this; simpa using this⟩)
    · have HL := Aside0.mk hl
      have hmb : decide (a + bi < ni) = true := decide_eq_true (by have := List.length_pos_iff.2 hl; have := HLN2.out; have := HI.out.1; have := HNI.out; omega)
      clear hl hc1
      go_wp2_with (go_at_call 43; refine (symAll w0 A n c HN.out gn ok cm HC.out _ ds.flatten c1 last [] _ (List.ne_nil_of_length_pos (by have := HC1.out.1; have := HI.out.2.2; omega)) HL.out (Nat.le_refl _) (fun z hz => HOKL.out z (by simp at hz ⊢; exact .inr hz)) HC1.out.2 HLS.out (by have := H.out; simpa using this) a (a + bi) ni HJ.out.1 (by have := HJ.out.1; have := HC1.out.1; have := HI.out.1; omega) (by have := HJ.out.1; have := HC1.out.1; have := HLN2.out; have := HNI.out; omega)).mono ?_; rintro e w5 ⟨rfl, M, h1, h2, hR⟩; have HM := Aside0.mk (And.intro h1 h2); have H5 := Aside0.mk hR; clear h1 h2 hR)
      go_roundg k1
      case measure => omega
      case rel =>
        refine ⟨bi * 2, 2 * bs, _, ds, M, rfl, ⟨by have := HI.out.1; omega, by have := HI.out; omega, by have := HI.out; omega⟩, ⟨rfl, HF.out.1, by rw [HM.out.2.len, List.length_append]; have := HC1.out.1; have := HLL.out; omega, HM.out.1, ?_⟩, ⟨by have := H5.out; simpa using this⟩⟩; have h3 := HF.out.2.2; rw [List.flatten_cons, List.flatten_nil, List.append_nil] at h3; exact h3.trans ((Stb.refl _ _).app HM.out.2)
  · have hc1 := HF.out.2.1 c1 (by simp)
    have hc2 := HF.out.2.1 c2 (by simp)
    have HC1 := Aside0.mk (And.intro hc1 hc2)
    have HLN2 := Aside0.mk (show (n : Int) = a + bs + bs + rs.flatten.length + last.length by have := HLN.out; simp only [List.flatten_cons, List.length_append] at this; omega)
    have hbb : decide (b ≤ ni) = true := decide_eq_true (by have := HLN2.out; have := HJ.out.2.1; have := HI.out.1; have := HNI.out; omega)
    have w4 : IntKind.i64.wrap (b + 2 * bi) = b + 2 * bi := IntWalk.i64_in _ (by have := HLN2.out; have := HJ.out.2.1; have := HI.out.1; have := HBN.out; have := HN.out; have := HA0.out; omega)
    clear hc1 hc2
    cases gk with
    | zero => exact absurd HJ.out.2.2 (by simp)
    | succ k2 =>
    go_wp2_with (go_at_call 43; refine (symAll w0 A n c HN.out gn ok cm HC.out _ ds.flatten c1 c2 (rs.flatten ++ last) _ (List.ne_nil_of_length_pos (by have := HC1.out.1.1; have := HI.out.2.2; omega)) (List.ne_nil_of_length_pos (by have := HC1.out.2.1; have := HI.out.2.2; omega)) (Nat.le_refl _) (fun z hz => HOKL.out z (by simp only [List.flatten_cons, List.mem_append] at hz ⊢; rcases hz with hz | hz; exact .inr (.inl (.inl hz)); exact .inr (.inl (.inr (.inl hz))))) HC1.out.1.2 HC1.out.2.2 (by have := H.out; simpa using this) a (a + bi) b HJ.out.1 (by have := HJ.out.1; have := HC1.out.1.1; have := HI.out.1; omega) (by have := HJ.out.1; have := HC1.out.1.1; have := HC1.out.2.1; have := HJ.out.2.1; have := HI.out.1; omega)).mono ?_; rintro e w5 ⟨rfl, M, h1, h2, hR⟩; have HM := Aside0.mk (And.intro h1 h2); have H5 := Aside0.mk hR; clear h1 h2 hR)
    go_roundg k2
    case measure => omega
    case rel =>
      have hml := HM.out.2.len; rw [List.length_append] at hml; refine ⟨b, b + 2 * bi, ds ++ [M], rs, rfl, rfl, ⟨?_, rfl, ?_⟩, ⟨full_snoc HF.out.1 (by have := HC1.out.1.1; have := HC1.out.2.1; omega) HM.out.1, fun c hc => HF.out.2.1 c (by simp [hc]), ?_⟩, ⟨by have := H5.out; simpa using this⟩⟩; (rw [List.flatten_append, List.length_append]; have := HJ.out.1; have := HJ.out.2.1; have := HC1.out.1.1; have := HC1.out.2.1; have := HI.out.1; simp only [List.flatten_cons, List.flatten_nil, List.append_nil]; omega); (have := HJ.out.2.2; simp at this; omega)
      · have h3 := HF.out.2.2
        have h4 := (Stb.refl (lt cm) ds.flatten).app (HM.out.2.app (Stb.refl (lt cm) (rs.flatten ++ last)))
        have e1 : ds.flatten ++ (c1 ++ c2 ++ (rs.flatten ++ last)) = ds.flatten ++ ((c1 :: c2 :: rs).flatten ++ last) := by simp
        have e2 : (ds ++ [M]).flatten ++ (rs.flatten ++ last) = ds.flatten ++ (M ++ (rs.flatten ++ last)) := by simp
        rw [e1] at h4
        rw [e2]
        exact h3.trans h4
set_option maxHeartbeats 4000000 in
set_option maxRecDepth 100000 in
theorem sortStable (w0 : World) (A : Option Addr) (n c : Nat) (hn : n ≤ 140737488351232) (gn : Nat) (ok : S43 → Prop) (cm : S43 → S43 → Int) (hc : Cm w0 gn ok cm) (X : List S43) (hok : ∀ x ∈ X, ok x) (W : World) (h : Rw w0 A n c W X) :
    Calls Try.prog 32 #[.slice A n c, .func (.func 33) #[] #[]] W fun e w' => e = .returned (.tuple #[]) ∧ ∃ M, Srt (lt cm) M ∧ Stb (lt cm) X M ∧ Rw w0 A n c w' M := by
  have HN := Aside0.mk hn; have HC := Aside0.mk hc; have HOK := Aside0.mk hok; have H := Aside0.mk h; clear h hn hc hok
  go_enter Try.func32, Try.ntmps32
  go_wp2_with (go_at_call 39; refine (stable w0 A n c HN.out gn ok cm HC.out X HOK.out _ H.out).mono ?_; rintro e w3 ⟨rfl, hR⟩; have H3 := Aside0.mk hR; clear hR)
  refine bodyPost_end (results_none rfl _ _ _) rfl ?_; exact ⟨rfl, H3.out⟩
def cmpS (a b : ByteArray) : Int := if Op.bytesLess a.toList b.toList = true then -1 else if Op.bytesLess b.toList a.toList = true then 1 else 0
theorem isNaN (x : ByteArray) (W : World) : Calls Try.prog 40 #[.string x] W fun e w' => e = .returned (.bool false) ∧ w' = W := by
  go_enter Try.func40, Try.ntmps40
  go_wp2; go_ret; exact ⟨by simp, rfl⟩
theorem cmpCalls (x y : ByteArray) (W : World) : Calls Try.prog 34 #[.string x, .string y] W fun e w' => e = .returned (.int .i64 (cmpS x y)) ∧ w' = W := by
  by_cases h1 : Op.bytesLess x.toList y.toList = true
  · have HE := Aside0.mk (show cmpS x y = -1 by unfold cmpS; rw [if_pos h1])
    go_enter Try.func34, Try.ntmps34
    go_wp2_with (go_at_call 40; refine (isNaN _ _).mono ?_; rintro e w9 ⟨rfl, hw⟩; rw [hw]; clear hw w9)
    go_ret
    exact ⟨by rw [HE.out]; rfl, rfl⟩
  · have h1b : Op.bytesLess x.toList y.toList = false := by simpa using h1
    by_cases h2 : Op.bytesLess y.toList x.toList = true
    · have HE := Aside0.mk (show cmpS x y = 1 by unfold cmpS; rw [if_neg h1, if_pos h2])
      clear h1
      go_enter Try.func34, Try.ntmps34
      go_wp2_with (go_at_call 40; refine (isNaN _ _).mono ?_; rintro e w9 ⟨rfl, hw⟩; rw [hw]; clear hw w9)
      go_ret
      exact ⟨by rw [HE.out]; rfl, rfl⟩
    · have h2b : Op.bytesLess y.toList x.toList = false := by simpa using h2
      have HE := Aside0.mk (show cmpS x y = 0 by unfold cmpS; rw [if_neg h1, if_neg h2])
      clear h1 h2
      go_enter Try.func34, Try.ntmps34
      go_wp2_with (go_at_call 40; refine (isNaN _ _).mono ?_; rintro e w9 ⟨rfl, hw⟩; rw [hw]; clear hw w9)
      go_ret
      exact ⟨by rw [HE.out]; rfl, rfl⟩
set_option maxHeartbeats 4000000 in
set_option maxRecDepth 100000 in
theorem clo (x y : S43) (W : World) : Calls Try.prog 33 #[.agg #[.string x.f0, .string x.f1], .agg #[.string y.f0, .string y.f1]] W fun e w' => e = .returned (.int .i64 (cmpS x.f0 y.f0)) ∧ Below W.heap.size W w' := by
  go_enter Try.func33, Try.ntmps33
  go_upto_region 1 with fail
  obtain ⟨W1, hW1⟩ : ∃ W1, W.alloc (.cells #[.string x.f0, .string x.f1] 43) = W1 := ⟨_, rfl⟩; obtain ⟨W2, hW2⟩ : ∃ W2, W1.alloc (.cells #[.string y.f0, .string y.f1] 43) = W2 := ⟨_, rfl⟩
  have hs1 : W1.heap.size = W.heap.size + 1 := by rw [← hW1]; simp
  have b1 : W1.heap[W.heap.size]? = some (.cells #[.string x.f0, .string x.f1] 43 (0, 0)) := hW1 ▸ heap_alloc_new W _; have b2 : W2.heap[W.heap.size]? = some (.cells #[.string x.f0, .string x.f1] 43 (0, 0)) := hW2 ▸ (heap_alloc_old W1 _ (by omega)).trans b1; have b3 : W2.heap[W.heap.size + 1]? = some (.cells #[.string y.f0, .string y.f1] 43 (0, 0)) := hs1 ▸ hW2 ▸ heap_alloc_new W1 _; have HB := Aside0.mk (show Below W.heap.size W W2 from hW2 ▸ zA (hW1 ▸ zA (Below.refl _ _) _) _); rw [hW1, hW2]; have c0 : W2.cell? ⟨W.heap.size, 0, none⟩ = some (.string x.f0) := (zC b2 0).trans rfl; have c1 : W2.cell? ⟨W.heap.size + 1, 0, none⟩ = some (.string y.f0) := (zC b3 0).trans rfl; clear b1 b2 b3 hs1 hW1 hW2
  go_wp2_with (go_at_call 34; refine (cmpCalls _ _ _).mono ?_; rintro e w9 ⟨rfl, hw⟩; rw [hw]; clear hw w9)
  go_ret; exact ⟨rfl, HB.out⟩
/-- An attribute is ahead of another one, by its name. -/
def cmA (x y : S43) : Int := cmpS x.f0 y.f0
theorem cmpS_lt (a b : ByteArray) : decide (cmpS a b < 0) = Op.bytesLess a.toList b.toList := by
  unfold cmpS
  cases h : Op.bytesLess a.toList b.toList with
  | true => simp
  | false =>
    simp only [Bool.false_eq_true, if_false]; split <;> simp
theorem less_irrefl : ∀ x : List UInt8, Op.bytesLess x x = false
  | [] => rfl
  | a :: x => by
    have ih := less_irrefl x
    simp only [Op.bytesLess]
    have h2 : ¬ a < a := fun h' => absurd (show a.toNat < a.toNat from h') (by omega)
    simp [h2, ih]
theorem less_iff (a b : UInt8) (x y : List UInt8) : Op.bytesLess (a :: x) (b :: y) = true ↔ a.toNat < b.toNat ∨ (a = b ∧ Op.bytesLess x y = true) := by
  simp only [Op.bytesLess]
  by_cases h1 : a < b
  · have : a.toNat < b.toNat := h1
    simp [h1, this]
  · have h1' : ¬ a.toNat < b.toNat := h1
    by_cases h2 : a = b
    · subst h2; simp [h1]
    · simp [h1, h2, h1']
theorem less_trans : ∀ x y z : List UInt8, Op.bytesLess x y = true → Op.bytesLess y z = true → Op.bytesLess x z = true
  | [], [], z, h1, h2 => by simp [Op.bytesLess] at h1
  | [], b :: y, [], h1, h2 => by simp [Op.bytesLess] at h2
  | [], b :: y, c :: z, h1, h2 => by simp [Op.bytesLess]
  | a :: x, [], z, h1, h2 => by simp [Op.bytesLess] at h1
  | a :: x, b :: y, [], h1, h2 => by simp [Op.bytesLess] at h2
  | a :: x, b :: y, c :: z, h1, h2 => by
    rw [less_iff] at *
    rcases h1 with h1 | ⟨rfl, h1⟩
    · rcases h2 with h2 | ⟨rfl, h2⟩
      · exact .inl (by omega)
      · exact .inl h1
    · rcases h2 with h2 | ⟨rfl, h2⟩
      · exact .inl h2
      · exact .inr ⟨rfl, less_trans x y z h1 h2⟩
theorem less_tri (x y : List UInt8) (h1 : Op.bytesLess x y = false) (h2 : Op.bytesLess y x = false) : x = y := by
  have := Go.Proofs.Ytmpdbblljofjfaa.Str.bytesLess_swap x y; rw [h1, h2] at this; simpa using this
theorem lt_cmA (x y : S43) : lt cmA x y = Op.bytesLess x.f0.toList y.f0.toList := cmpS_lt _ _
theorem swoA : Swo (lt cmA) := by
  refine ⟨fun x => ?_, fun x y z h1 h2 => ?_, fun x y h1 => ?_⟩; (rw [lt_cmA]; exact less_irrefl _)
  · rw [lt_cmA] at *
    cases h : Op.bytesLess x.f0.toList z.f0.toList with
    | false => rfl
    | true =>
      cases h3 : Op.bytesLess y.f0.toList x.f0.toList with
      | true => rw [less_trans _ _ _ h3 h] at h2; cases h2
      | false =>
        have e := less_tri _ _ h1 h3; rw [e, h2] at h; cases h
  · rw [lt_cmA] at *
    cases h : Op.bytesLess y.f0.toList x.f0.toList with
    | false => rfl
    | true =>
      have := less_trans _ _ _ h1 h; rw [less_irrefl] at this; cases this
theorem CmA (w0 : World) (gn : Nat) : Cm w0 gn (fun _ => True) cmA := ⟨swoA, fun W x y hb _ _ => clo x y W⟩
theorem takeWhile_all {α : Type} (p : α → Bool) : ∀ (l : List α), ∀ a ∈ l.takeWhile p, p a = true
  | [], a, h => by cases h
  | b :: l, a, h => by
    rw [List.takeWhile_cons] at h
    split at h
    · next hb =>
      rcases List.mem_cons.1 h with rfl | h
      · exact hb
      · exact takeWhile_all p l a h
    · cases h
theorem dropWhile_head {α : Type} (p : α → Bool) : ∀ (l : List α), l.dropWhile p = [] ∨ ∃ b r, l.dropWhile p = b :: r ∧ p b = false
  | [] => .inl rfl
  | b :: l => by
    rw [List.dropWhile_cons]
    split
    · exact dropWhile_head p l
    · next hb => exact .inr ⟨b, l, rfl, by simpa using hb⟩
def insR {α : Type} (lt : α → α → Bool) (x : α) (acc : List α) : List α := acc.takeWhile (fun a => !lt x a) ++ x :: acc.dropWhile (fun a => !lt x a)
def isort {α : Type} (lt : α → α → Bool) (l : List α) : List α := l.foldl (fun acc x => insR lt x acc) []
theorem insR_ok {α : Type} {lt : α → α → Bool} (w : Swo lt) (x : α) {acc : List α} (h : Srt lt acc) : Srt lt (insR lt x acc) ∧ Stb lt (acc ++ [x]) (insR lt x acc) := by
  have e : acc.takeWhile (fun a => !lt x a) ++ acc.dropWhile (fun a => !lt x a) = acc := List.takeWhile_append_dropWhile; have r := inserted w (A := acc.takeWhile (fun a => !lt x a)) (B := acc.dropWhile (fun a => !lt x a)) (x := x) (by rw [e]; exact h) (fun b hb => ?_) (fun a ha => by simpa using takeWhile_all _ _ a ha); (rw [e] at r; exact r)
  · rcases dropWhile_head (fun a => !lt x a) acc with e1 | ⟨b0, t, e1, e2⟩
    · rw [e1] at hb; cases hb
    · have h0 : lt x b0 = true := by simpa using e2
      have hs := (List.pairwise_append.1 (show (acc.takeWhile (fun a => !lt x a) ++ acc.dropWhile (fun a => !lt x a)).Pairwise (fun a b => lt b a = false) by rw [e]; exact h)).2.1
      rw [e1] at hs hb
      rcases List.mem_cons.1 hb with rfl | hb
      · exact h0
      · cases hx : lt x b with
        | true => rfl
        | false => rw [w.nt x b b0 hx ((List.pairwise_cons.1 hs).1 b hb)] at h0; cases h0
theorem isort_snoc {α : Type} (lt : α → α → Bool) (l : List α) (x : α) : isort lt (l ++ [x]) = insR lt x (isort lt l) := by
  unfold isort; rw [List.foldl_append]; rfl
theorem isort_ok {α : Type} {lt : α → α → Bool} (w : Swo lt) (l : List α) : ∀ n, l.length = n → Srt lt (isort lt l) ∧ Stb lt l (isort lt l) := by
  intro n
  induction n generalizing l with
  | zero => intro h; obtain rfl := List.length_eq_zero_iff.1 h; exact ⟨List.Pairwise.nil, Stb.refl _ _⟩
  | succ n ih =>
    intro h
    rcases List.eq_nil_or_concat l with rfl | ⟨l', x, rfl⟩
    (simp at h); (obtain ⟨h1, h2⟩ := ih l' (by simpa using h); rw [List.concat_eq_append, isort_snoc]; have h3 := insR_ok w x h1; exact ⟨h3.1, (h2.app (Stb.refl lt [x])).trans h3.2⟩)
theorem isort_uniq {α : Type} {lt : α → α → Bool} (w : Swo lt) {l M : List α} (h1 : Srt lt M) (h2 : Stb lt l M) : M = isort lt l := by
  obtain ⟨h3, h4⟩ := isort_ok w l _ rfl; exact uniq w h1 h3 (fun z => (h2.fl z).trans (h4.fl z).symm)
/-- The last of each name, of the first so many of a row. -/
def keepAt (M : List S43) (i : Nat) : Bool := i + 1 == M.length || (rd_T43 M ((i + 1 : Nat) : Int)).f0.toList != (rd_T43 M (i : Int)).f0.toList
def dedT (M : List S43) : Nat → List S43
  | 0 => []
  | i + 1 => if keepAt M i = true then dedT M i ++ [rd_T43 M (i : Int)] else dedT M i
def normP (l : List S43) : List S43 := dedT (isort (lt cmA) l) (isort (lt cmA) l).length
theorem dedT_len (M : List S43) : ∀ i, (dedT M i).length ≤ i
  | 0 => Nat.le_refl _
  | i + 1 => by
    have := dedT_len M i
    unfold dedT
    split
    · rw [List.length_append, List.length_singleton]; omega
    · omega
theorem isort_len {α : Type} (lt : α → α → Bool) (w : Swo lt) (l : List α) : (isort lt l).length = l.length := (isort_ok w l _ rfl).2.len
theorem rd43_get (M : List S43) (i : Nat) (h : i < M.length) : rd_T43 M (i : Int) = M[i] := by
  unfold rd_T43; rw [List.getD_eq_getElem?_getD, Int.toNat_natCast, List.getElem?_eq_getElem h]; rfl
/-- What the row holds behind so many rounds: its first ones are kept, the others stand as_ they stood. -/
structure Half (M L : List S43) (i : Nat) : Prop where
  len : L.length = M.length
  kept : L.take (dedT M i).length = dedT M i
  rest : ∀ j, i ≤ j → j < M.length → L[j]? = M[j]?
theorem Half.step {M L : List S43} {i : Nat} (h : Half M L i) (hi : i < M.length) (hk : keepAt M i = true) : Half M (L.set (dedT M i).length (rd_T43 M (i : Int))) (i + 1) := by
  have hd := dedT_len M i
  have e : dedT M (i + 1) = dedT M i ++ [rd_T43 M (i : Int)] := by
    show (if keepAt M i = true then _ else _) = _
    rw [if_pos hk]
  refine ⟨by rw [List.length_set, h.len], ?_, fun j hj hjm => ?_⟩; (rw [e, List.length_append, List.length_singleton, List.take_succ_eq_append_getElem (by rw [List.length_set, h.len]; omega), List.getElem_set_self, List.take_set_of_le (Nat.le_refl _), h.kept]); (rw [List.getElem?_set_ne (by omega)]; exact h.rest j (by omega) hjm)
theorem Half.skip {M L : List S43} {i : Nat} (h : Half M L i) (hk : keepAt M i = false) : Half M L (i + 1) := by
  have e : dedT M (i + 1) = dedT M i := by
    show (if keepAt M i = true then _ else _) = _
    rw [if_neg (by rw [hk]; decide)]
  exact ⟨h.len, by rw [e]; exact h.kept, fun j hj hjm => h.rest j (by omega) hjm⟩
theorem clip (A : Option Addr) (c m : Nat) (hm : m ≤ c) (W : World) : Calls Try.prog 35 #[.slice A m c] W fun e w' => e = .returned (.slice A m m) ∧ w' = W := by
  go_enter Try.func35, Try.ntmps35
  go_wp2; go_ret; exact ⟨rfl, rfl⟩
set_option maxHeartbeats 8000000 in
set_option maxRecDepth 100000 in
theorem norm_walk (A0 : Option Addr) (c0 : Nat) (l : List S43) (w : World) (hr0 : Kd.C k43 w A0 l.length l) (hc0 : l.length ≤ c0) (hl : l.length ≤ 1000000) :
    Calls Try.prog 25 #[.slice A0 l.length c0] w fun e w' => ∃ A, e = .returned (.slice A (normP l).length (normP l).length) ∧ Kd.F k43 w' (fun k => w.heap.size ≤ k) A (normP l).length (normP l) ∧ Below w.heap.size w w' := by
  have HR := Aside0.mk hr0; have HC := Aside0.mk hc0; have HL := Aside0.mk hl; clear hr0 hc0 hl
  go_enter Try.func25, Try.ntmps25
  go_upto_region 2 with (go_at_call 20; refine (api_Attr_20.calls _ _ l l _ HR.out HC.out (by unfold api_Attr_20.f; rw [if_pos (by have := HL.out; omega)])).mono ?_; rintro e w1 ⟨v1, rfl, hr1, hb1⟩; have R1 := Aside0.mk hr1; have B1 := Aside0.mk hb1; clear hr1 hb1)
  obtain ⟨A1, c1, ev⟩ := Kd.R_slice R1.out; subst ev; have W1 := Aside0.mk (show Rw w A1 l.length c1 w1 l from ⟨rfl, R1.out, B1.out⟩); obtain ⟨n, hn⟩ : ∃ n, l.length = n := ⟨_, rfl⟩; rw [hn] at W1 HL ⊢; have HN := Aside0.mk hn; clear hn R1 B1
  go_upto_region 3 with (go_at_call 32; refine (sortStable w A1 n c1 (by have := HL.out; omega) 0 (fun _ => True) cmA (CmA w 0) l (fun _ _ => trivial) _ W1.out).mono ?_; rintro e w2 ⟨rfl, M, h1, h2, hR⟩; have W2 := Aside0.mk hR; have HM := Aside0.mk (isort_uniq swoA h1 h2); clear h1 h2 hR)
  have HNP := Aside0.mk (show normP l = dedT M M.length from by unfold normP; rw [← HM.out]); have HML := Aside0.mk W2.out.ln; clear W1
  go_wp2_with fail
  go_loopg [4, 5, 6, 13] n (fun kq v4 v5 v6 v13 W => ∃ (i : Nat) (L : List S43), v4 = .int .i64 ((dedT M i).length : Int) ∧ v13 = .int .i64 (i : Int) ∧ Aside0 (i + kq = n) ∧ Aside0 (Half M L i) ∧ Aside0 (Rw w A1 n c1 W L))
  case atStart => exact ⟨0, M, rfl, rfl, ⟨by omega⟩, ⟨rfl, rfl, fun _ _ _ => rfl⟩, W2⟩
  case round =>
  clear W2; obtain ⟨i, L, rfl, rfl, HI, HH, H⟩ := hrel; obtain ⟨m, hm⟩ : ∃ m, (dedT M i).length = m := ⟨_, rfl⟩; rw [hm]; have HMM := Aside0.mk hm; have HMI := Aside0.mk (show m ≤ i from hm ▸ dedT_len M i); clear hm
  cases gk with
  | zero =>
    have hi : i = n := by have := HI.out; omega
    subst hi
    have hmi : (m : Int) ≤ (i : Int) := by have := HMI.out; omega
    have HLEN := Aside0.mk (show (normP l).length = m by rw [HNP.out, HML.out]; exact HMM.out)
    have HF := Aside0.mk (show Kd.F k43 wr (fun k => w.heap.size ≤ k) A1 m (normP l) from by
      have h1 := Kd.R_F (Kd.R_mono (ok' := fun k => w.heap.size ≤ k) (Kd.R_bound H.out.r) (fun k hk => hk.2.1))
      have e : (normP l) = L.take m := by rw [HNP.out, HML.out, ← HH.out.kept, HMM.out]
      rw [e]; refine Kd.F_imp h1 (fun W' hC => ?_); have hl := H.out.ln; have h2 := Kd.C_take (xs := L) (m := m) (by rw [hl]; exact hC) (by rw [hl]; exact HMI.out); rw [List.length_take, hl, Nat.min_eq_left HMI.out] at h2
      exact h2)
    have hmc : m ≤ c1 := Nat.le_trans HMI.out (Kd.R_reads' H.out.r).2.1
    go_wp2_with (go_at_call 35; refine (clip A1 c1 m hmc _).mono ?_; rintro e w9 ⟨rfl, hw⟩; rw [hw]; clear hw w9)
    go_ret; rw [HLEN.out]; exact ⟨_, rfl, HF.out, H.out.b⟩
  | succ k1 =>
    have hin : i < n := by have := HI.out; omega
    have HIN := Aside0.mk hin; obtain ⟨g, rfl, hg⟩ := H.out.form (by omega); have HG := Aside0.mk hg; obtain ⟨x, hx⟩ : ∃ x, rd_T43 M (i : Int) = x := ⟨_, rfl⟩; have HX := Aside0.mk hx
    have hLi : L[i]? = some x := by
      rw [HH.out.rest i (Nat.le_refl _) (by rw [HML.out]; exact hin), List.getElem?_eq_getElem (by rw [HML.out]; exact hin), ← rd43_get M i (by rw [HML.out]; exact hin), hx]
    obtain ⟨t0, t1, _, _⟩ := H.out.cell i hin x hLi
    have hw1 : wrap64 ((i : Int) + 1) = (i : Int) + 1 := by have := HL.out; unfold wrap64; omega
    have hw2 : wrap64 ((m : Int) + 1) = (m : Int) + 1 := by have := HL.out; have := HMI.out; unfold wrap64; omega
    clear hx hLi hg
    go_upto_region 7 with fail
    obtain ⟨gb, hgb⟩ : ∃ gb, wr.heap.size = gb := ⟨_, rfl⟩; obtain ⟨W3, hW3⟩ : ∃ W3, wr.alloc (.cells #[.string x.f0, .string x.f1] 43) = W3 := ⟨_, rfl⟩; rw [hW3]; have X3 := Aside0.mk (show W3.heap[gb]? = some (.cells #[.string x.f0, .string x.f1] 43 (0, 0)) from hgb ▸ hW3 ▸ heap_alloc_new wr _); have H3 := Aside0.mk (H.out.below (hW3 ▸ zA (Below.refl _ _) _ : Below wr.heap.size wr W3)); rw [hgb]; clear hW3 hgb t0 t1 H; have b0 : W3.cell? ⟨gb, 0, none⟩ = some (.string x.f0) := (zC X3.out 0).trans rfl; have b1 : W3.cell? ⟨gb, 1, none⟩ = some (.string x.f1) := (zC X3.out 1).trans rfl; obtain ⟨z, hz⟩ : ∃ z, L[m]? = some z := ⟨_, List.getElem?_eq_getElem (by have := H3.out.ln; have := HMI.out; have := HIN.out; omega)⟩
    have hmn : m < n := by have := HMI.out; have := HIN.out; omega
    obtain ⟨m0, m1, f0, f1⟩ := H3.out.cell m hmn z hz; have HZ := Aside0.mk hz; have hmn1 := eq_true hmn; clear hz hmn
    by_cases hlast : i + 1 = n
    · have e1 : ((i : Int) + 1 == (n : Int)) = true := by rw [beq_iff_eq]; omega
      have HK := Aside0.mk (show keepAt M i = true from by unfold keepAt; rw [HML.out, hlast]; simp)
      clear hlast
      refine start_ (n := 16) (S := (fun w' => True)) (ds := []) #[false, false, false, false, false, false, false, false, false, false, false, false, false, false, false, false] (by kernel_rfl) rfl rfl ?_ ?_
      · trivial
      intro hHeld
      refine pure_ (i := 0) (N := some 18) (v := ?_) (a' := ?_) #[true, false, false, false, false, false, false, false, false, false, false, false, false, false, false, false] rfl rfl (by kernel_rfl) (fun _ _ _ h => h) (Or.inl ⟨by rfl, ?_⟩) ?_ ?_
      rotate_left
      · intro w'
        go_simp
        with_reducible rfl
      rotate_left
      · simp only [Act.put, List.setIfInBounds_toArray, List.set_cons_zero, List.set_cons_succ, i64_w, i32_w]
        rfl
      refine pure_ (i := 1) (N := some 19) (v := ?_) (a' := ?_) #[true, true, false, false, false, false, false, false, false, false, false, false, false, false, false, false] rfl rfl (by kernel_rfl) (fun _ _ _ h => h) (Or.inl ⟨by rfl, ?_⟩) ?_ ?_
      rotate_left
      · intro w'
        go_simp
        with_reducible rfl
      rotate_left
      · simp only [Act.put, List.setIfInBounds_toArray, List.set_cons_zero, List.set_cons_succ, i64_w, i32_w]
        rfl
      refine pure_ (i := 2) (N := some 20) (v := ?_) (a' := ?_) #[true, true, true, false, false, false, false, false, false, false, false, false, false, false, false, false] rfl rfl (by kernel_rfl) (fun _ _ _ h => h) (Or.inl ⟨by rfl, ?_⟩) ?_ ?_
      rotate_left
      · intro w'
        go_simp
        with_reducible rfl
      rotate_left
      · simp only [Act.put, List.setIfInBounds_toArray, List.set_cons_zero, List.set_cons_succ, i64_w, i32_w]
        rfl
      refine pure_ (i := 3) (N := some 21) (v := ?_) (a' := ?_) #[true, true, true, true, false, false, false, false, false, false, false, false, false, false, false, false] rfl rfl (by kernel_rfl) (fun _ _ _ h => h) (Or.inl ⟨by rfl, ?_⟩) ?_ ?_
      rotate_left
      · intro w'
        go_simp
        with_reducible rfl
      rotate_left
      · simp only [Act.put, List.setIfInBounds_toArray, List.set_cons_zero, List.set_cons_succ, i64_w, i32_w]
        rfl
      refine pure_ (i := 4) (N := some 22) (v := ?_) (a' := ?_) #[true, true, true, true, true, false, false, false, false, false, false, false, false, false, false, false] rfl rfl (by kernel_rfl) (fun _ _ _ h => h) (Or.inl ⟨by rfl, ?_⟩) ?_ ?_
      rotate_left
      · intro w'
        go_simp
        with_reducible rfl
      rotate_left
      · simp only [Act.put, List.setIfInBounds_toArray, List.set_cons_zero, List.set_cons_succ, i64_w, i32_w]
        rfl
      refine pure_ (i := 5) (N := some 23) (v := ?_) (a' := ?_) #[true, true, true, true, true, true, false, false, false, false, false, false, false, false, false, false] rfl rfl (by kernel_rfl) (fun _ _ _ h => h) (Or.inl ⟨by rfl, ?_⟩) ?_ ?_
      rotate_left
      · intro w'
        go_simp
        with_reducible rfl
      rotate_left
      · simp only [Act.put, List.setIfInBounds_toArray, List.set_cons_zero, List.set_cons_succ, i64_w, i32_w]
        rfl
      refine pure_ (i := 6) (N := some 24) (v := undef) (a' := ?_) #[true, true, true, true, true, true, true, false, false, false, false, false, false, false, false, false] rfl rfl (by kernel_rfl) (fun _ _ _ h => h) (Or.inr ⟨by rfl, rfl⟩) ?_ ?_
      rotate_left
      · simp only [Act.put, List.setIfInBounds_toArray, List.set_cons_zero, List.set_cons_succ, i64_w, i32_w]
        rfl
      refine pure_ (i := 7) (N := some 25) (v := undef) (a' := ?_) #[true, true, true, true, true, true, true, true, false, false, false, false, false, false, false, false] rfl rfl (by kernel_rfl) (fun _ _ _ h => h) (Or.inr ⟨by rfl, rfl⟩) ?_ ?_
      rotate_left
      · simp only [Act.put, List.setIfInBounds_toArray, List.set_cons_zero, List.set_cons_succ, i64_w, i32_w]
        rfl
      refine pure_ (i := 8) (N := some 26) (v := undef) (a' := ?_) #[true, true, true, true, true, true, true, true, true, false, false, false, false, false, false, false] rfl rfl (by kernel_rfl) (fun _ _ _ h => h) (Or.inr ⟨by rfl, rfl⟩) ?_ ?_
      rotate_left
      · simp only [Act.put, List.setIfInBounds_toArray, List.set_cons_zero, List.set_cons_succ, i64_w, i32_w]
        rfl
      refine pure_ (i := 9) (N := some 27) (v := undef) (a' := ?_) #[true, true, true, true, true, true, true, true, true, true, false, false, false, false, false, false] rfl rfl (by kernel_rfl) (fun _ _ _ h => h) (Or.inr ⟨by rfl, rfl⟩) ?_ ?_
      rotate_left
      · simp only [Act.put, List.setIfInBounds_toArray, List.set_cons_zero, List.set_cons_succ, i64_w, i32_w]
        rfl
      refine pure_ (i := 10) (N := some 28) (v := undef) (a' := ?_) #[true, true, true, true, true, true, true, true, true, true, true, false, false, false, false, false] rfl rfl (by kernel_rfl) (fun _ _ _ h => h) (Or.inr ⟨by rfl, rfl⟩) ?_ ?_
      rotate_left
      · simp only [Act.put, List.setIfInBounds_toArray, List.set_cons_zero, List.set_cons_succ, i64_w, i32_w]
        rfl
      refine pure_ (i := 12) (N := some 30) (v := undef) (a' := ?_) #[true, true, true, true, true, true, true, true, true, true, true, false, true, false, false, false] rfl rfl (by kernel_rfl) (fun _ _ _ h => h) (Or.inr ⟨by rfl, rfl⟩) ?_ ?_
      rotate_left
      · simp only [Act.put, List.setIfInBounds_toArray, List.set_cons_zero, List.set_cons_succ, i64_w, i32_w]
        rfl
      refine pure_ (i := 11) (N := some 29) (v := undef) (a' := ?_) #[true, true, true, true, true, true, true, true, true, true, true, true, true, false, false, false] rfl rfl (by kernel_rfl) (fun _ _ _ h => h) (Or.inr ⟨by rfl, rfl⟩) ?_ ?_
      rotate_left
      · simp only [Act.put, List.setIfInBounds_toArray, List.set_cons_zero, List.set_cons_succ, i64_w, i32_w]
        rfl
      refine pure_ (i := 13) (N := some 31) (v := undef) (a' := ?_) #[true, true, true, true, true, true, true, true, true, true, true, true, true, true, false, false] rfl rfl (by kernel_rfl) (fun _ _ _ h => h) (Or.inr ⟨by rfl, rfl⟩) ?_ ?_
      rotate_left
      · simp only [Act.put, List.setIfInBounds_toArray, List.set_cons_zero, List.set_cons_succ, i64_w, i32_w]
        rfl
      refine pure_ (i := 14) (N := some 32) (v := undef) (a' := ?_) #[true, true, true, true, true, true, true, true, true, true, true, true, true, true, true, false] rfl rfl (by kernel_rfl) (fun _ _ _ h => h) (Or.inr ⟨by rfl, rfl⟩) ?_ ?_
      rotate_left
      · simp only [Act.put, List.setIfInBounds_toArray, List.set_cons_zero, List.set_cons_succ, i64_w, i32_w]
        rfl
      refine pure_ (i := 15) (N := some 33) (v := ?_) (a' := ?_) #[true, true, true, true, true, true, true, true, true, true, true, true, true, true, true, true] rfl rfl (by kernel_rfl) (fun _ _ _ h => h) (Or.inl ⟨by rfl, ?_⟩) ?_ ?_
      rotate_left
      · intro w'
        go_simp
        with_reducible rfl
      rotate_left
      · simp only [Act.put, List.setIfInBounds_toArray, List.set_cons_zero, List.set_cons_succ, i64_w, i32_w]
        rfl
      refine done_ (by kernel_rfl) ?_
      have H4 := Aside0.mk (H3.out.drew)
      have b40 : W3.drew.cell? ⟨gb, 0, none⟩ = some (.string x.f0) := b0
      have b41 : W3.drew.cell? ⟨gb, 1, none⟩ = some (.string x.f1) := b1
      obtain ⟨m40, m41, f40, f41⟩ := H4.out.cell m (by have := HMI.out; have := HIN.out; omega) z HZ.out
      generalize W3.drew = W4 at H4 b40 b41 m40 m41 f40 f41 ⊢
      clear b0 b1 m0 m1 f0 f1 H3 X3
      go_upto_region 9 with fail
      obtain ⟨W5, hW5⟩ : ∃ W5, put2 W4 g m x = W5 := ⟨_, rfl⟩
      unfold put2 at hW5
      rw [hW5]
      have H5 := Aside0.mk (show Rw w (some ⟨g, 0, none⟩) n c1 W5 (L.set m x) from hW5 ▸ H4.out.set m (by have := HMI.out; have := HIN.out; omega) x)
      clear hW5
      go_wp2_with fail
      go_roundg k1
      case measure => omega
      case rel =>
        refine ⟨i + 1, L.set m x, ?_, by rw [hw1]; rfl, ⟨by have := HI.out; omega⟩, ⟨?_⟩, H5⟩
        · rw [hw2]
          have e : dedT M (i + 1) = dedT M i ++ [rd_T43 M (i : Int)] := by
            show (if keepAt M i = true then _ else _) = _
            rw [if_pos HK.out]
          rw [e, List.length_append, HMM.out]
          rfl
        · have h := HH.out.step (by rw [HML.out]; exact HIN.out) HK.out
          rw [HMM.out, HX.out] at h; exact h
    · obtain ⟨y, hy⟩ : ∃ y, rd_T43 M ((i + 1 : Nat) : Int) = y := ⟨_, rfl⟩
      have hLi : L[i + 1]? = some y := by
        rw [HH.out.rest (i + 1) (by omega) (by rw [HML.out]; omega), List.getElem?_eq_getElem (by rw [HML.out]; omega), ← rd43_get M (i + 1) (by rw [HML.out]; omega), hy]
      obtain ⟨y0, _, _, _⟩ := H3.out.cell (i + 1) (by omega) y hLi
      have e1 : ((i : Int) + 1 == (n : Int)) = false := by rw [beq_eq_false_iff_ne]; omega
      have HKB := Aside0.mk (show keepAt M i = (y.f0.toList != x.f0.toList) from by
        unfold keepAt
        rw [HML.out, hy, HX.out, show (i + 1 == n) = false from by simp [hlast], Bool.false_or])
      have j0 : ((i : Int) + 1).toNat = i + 1 := by omega
      have j1 := eq_true (show (0 : Int) ≤ (i : Int) + 1 by omega)
      have j2 := eq_true (show (i : Int) + 1 < (n : Int) by omega)
      clear hlast hy hLi
      by_cases hb : y.f0.toList = x.f0.toList
      · have hb1 : (y.f0.toList == x.f0.toList) = true := by simp [hb]
        have hb2 : (y.f0.toList != x.f0.toList) = false := by simp [hb]
        have HK := Aside0.mk (show keepAt M i = false from HKB.out.trans hb2)
        clear hb
        refine start_ (n := 16) (S := (fun w' => w'.cell? ⟨g, (i + 1) * 2, none⟩ = some (.string y.f0) ∧ w'.cell? ⟨gb, 0, none⟩ = some (.string x.f0))) (ds := []) #[false, false, false, false, false, false, false, false, false, false, false, false, false, false, false, false] (by kernel_rfl) rfl rfl ?_ ?_
        · exact ⟨y0, b0⟩
        intro hHeld
        refine pure_ (i := 0) (N := some 18) (v := ?_) (a' := ?_) #[true, false, false, false, false, false, false, false, false, false, false, false, false, false, false, false] rfl rfl (by kernel_rfl) (fun _ _ _ h => h) (Or.inl ⟨by rfl, ?_⟩) ?_ ?_
        rotate_left
        · intro w'
          go_simp
          with_reducible rfl
        rotate_left
        · simp only [Act.put, List.setIfInBounds_toArray, List.set_cons_zero, List.set_cons_succ, i64_w, i32_w]
          rfl
        refine pure_ (i := 1) (N := some 19) (v := ?_) (a' := ?_) #[true, true, false, false, false, false, false, false, false, false, false, false, false, false, false, false] rfl rfl (by kernel_rfl) (fun _ _ _ h => h) (Or.inl ⟨by rfl, ?_⟩) ?_ ?_
        rotate_left
        · intro w'
          go_simp
          with_reducible rfl
        rotate_left
        · simp only [Act.put, List.setIfInBounds_toArray, List.set_cons_zero, List.set_cons_succ, i64_w, i32_w]
          rfl
        refine pure_ (i := 2) (N := some 20) (v := ?_) (a' := ?_) #[true, true, true, false, false, false, false, false, false, false, false, false, false, false, false, false] rfl rfl (by kernel_rfl) (fun _ _ _ h => h) (Or.inl ⟨by rfl, ?_⟩) ?_ ?_
        rotate_left
        · intro w'
          go_simp
          with_reducible rfl
        rotate_left
        · simp only [Act.put, List.setIfInBounds_toArray, List.set_cons_zero, List.set_cons_succ, i64_w, i32_w]
          rfl
        refine pure_ (i := 3) (N := some 21) (v := ?_) (a' := ?_) #[true, true, true, true, false, false, false, false, false, false, false, false, false, false, false, false] rfl rfl (by kernel_rfl) (fun _ _ _ h => h) (Or.inl ⟨by rfl, ?_⟩) ?_ ?_
        rotate_left
        · intro w'
          go_simp
          with_reducible rfl
        rotate_left
        · simp only [Act.put, List.setIfInBounds_toArray, List.set_cons_zero, List.set_cons_succ, i64_w, i32_w]
          rfl
        refine pure_ (i := 4) (N := some 22) (v := ?_) (a' := ?_) #[true, true, true, true, true, false, false, false, false, false, false, false, false, false, false, false] rfl rfl (by kernel_rfl) (fun _ _ _ h => h) (Or.inl ⟨by rfl, ?_⟩) ?_ ?_
        rotate_left
        · intro w'
          go_simp
          with_reducible rfl
        rotate_left
        · simp only [Act.put, List.setIfInBounds_toArray, List.set_cons_zero, List.set_cons_succ, i64_w, i32_w]
          rfl
        refine pure_ (i := 5) (N := some 23) (v := ?_) (a' := ?_) #[true, true, true, true, true, true, false, false, false, false, false, false, false, false, false, false] rfl rfl (by kernel_rfl) (fun _ _ _ h => h) (Or.inl ⟨by rfl, ?_⟩) ?_ ?_
        rotate_left
        · intro w'
          go_simp
          with_reducible rfl
        rotate_left
        · simp only [Act.put, List.setIfInBounds_toArray, List.set_cons_zero, List.set_cons_succ, i64_w, i32_w]
          rfl
        refine pure_ (i := 6) (N := some 24) (v := ?_) (a' := ?_) #[true, true, true, true, true, true, true, false, false, false, false, false, false, false, false, false] rfl rfl (by kernel_rfl) (fun _ _ _ h => h) (Or.inl ⟨by rfl, ?_⟩) ?_ ?_
        rotate_left
        · intro w'
          go_simp
          with_reducible rfl
        rotate_left
        · simp only [Act.put, List.setIfInBounds_toArray, List.set_cons_zero, List.set_cons_succ, i64_w, i32_w]
          rfl
        refine pure_ (i := 7) (N := some 25) (v := ?_) (a' := ?_) #[true, true, true, true, true, true, true, true, false, false, false, false, false, false, false, false] rfl rfl (by kernel_rfl) (fun _ _ _ h => h) (Or.inl ⟨by rfl, ?_⟩) ?_ ?_
        rotate_left
        · intro w'
          go_simp
          with_reducible rfl
        rotate_left
        · simp only [Act.put, List.setIfInBounds_toArray, List.set_cons_zero, List.set_cons_succ, i64_w, i32_w]
          rfl
        refine pure_ (i := 8) (N := some 26) (v := ?_) (a' := ?_) #[true, true, true, true, true, true, true, true, true, false, false, false, false, false, false, false] rfl rfl (by kernel_rfl) (fun _ _ _ h => h) (Or.inl ⟨by rfl, ?_⟩) ?_ ?_
        rotate_left
        · intro w'
          go_simp
          with_reducible rfl
        rotate_left
        · simp only [Act.put, List.setIfInBounds_toArray, List.set_cons_zero, List.set_cons_succ, i64_w, i32_w]
          rfl
        refine pure_ (i := 9) (N := some 27) (v := ?_) (a' := ?_) #[true, true, true, true, true, true, true, true, true, true, false, false, false, false, false, false] rfl rfl (by kernel_rfl) (fun _ _ _ h => h) (Or.inl ⟨by rfl, ?_⟩) ?_ ?_
        rotate_left
        · intro w'
          go_simp
          with_reducible rfl
        rotate_left
        · simp only [Act.put, List.setIfInBounds_toArray, List.set_cons_zero, List.set_cons_succ, i64_w, i32_w]
          rfl
        refine pure_ (i := 10) (N := some 28) (v := ?_) (a' := ?_) #[true, true, true, true, true, true, true, true, true, true, true, false, false, false, false, false] rfl rfl (by kernel_rfl) (fun _ _ _ h => h) (Or.inl ⟨by rfl, ?_⟩) ?_ ?_
        rotate_left
        · intro w'
          go_simp
          with_reducible rfl
        rotate_left
        · simp only [Act.put, List.setIfInBounds_toArray, List.set_cons_zero, List.set_cons_succ, i64_w, i32_w]
          rfl
        refine pure_ (i := 12) (N := some 30) (v := ?_) (a' := ?_) #[true, true, true, true, true, true, true, true, true, true, true, false, true, false, false, false] rfl rfl (by kernel_rfl) (fun _ _ _ h => h) (Or.inl ⟨by rfl, ?_⟩) ?_ ?_
        rotate_left
        · intro w'
          go_simp
          with_reducible rfl
        rotate_left
        · simp only [Act.put, List.setIfInBounds_toArray, List.set_cons_zero, List.set_cons_succ, i64_w, i32_w]
          rfl
        refine take_ (i := 11) (N := some 29) (v := ?_) (a' := ?_) #[true, true, true, true, true, true, true, true, true, true, true, true, true, false, false, false] rfl rfl (by kernel_rfl) (fun _ _ _ h => h) (Or.inl ⟨by rfl, ?_⟩) hHeld ?_ ?_
        rotate_left
        · rintro w' ⟨s0, s1⟩
          go_simp
          with_reducible rfl
        rotate_left
        · simp only [Act.put, List.setIfInBounds_toArray, List.set_cons_zero, List.set_cons_succ, i64_w, i32_w]
          rfl
        refine take_ (i := 13) (N := some 31) (v := ?_) (a' := ?_) #[true, true, true, true, true, true, true, true, true, true, true, true, true, true, false, false] rfl rfl (by kernel_rfl) (fun _ _ _ h => h) (Or.inl ⟨by rfl, ?_⟩) hHeld ?_ ?_
        rotate_left
        · rintro w' ⟨s0, s1⟩
          go_simp
          with_reducible rfl
        rotate_left
        · simp only [Act.put, List.setIfInBounds_toArray, List.set_cons_zero, List.set_cons_succ, i64_w, i32_w]
          rfl
        refine pure_ (i := 14) (N := some 32) (v := ?_) (a' := ?_) #[true, true, true, true, true, true, true, true, true, true, true, true, true, true, true, false] rfl rfl (by kernel_rfl) (fun _ _ _ h => h) (Or.inl ⟨by rfl, ?_⟩) ?_ ?_
        rotate_left
        · intro w'
          go_simp
          with_reducible rfl
        rotate_left
        · simp only [Act.put, List.setIfInBounds_toArray, List.set_cons_zero, List.set_cons_succ, i64_w, i32_w]
          rfl
        refine pure_ (i := 15) (N := some 33) (v := ?_) (a' := ?_) #[true, true, true, true, true, true, true, true, true, true, true, true, true, true, true, true] rfl rfl (by kernel_rfl) (fun _ _ _ h => h) (Or.inl ⟨by rfl, ?_⟩) ?_ ?_
        rotate_left
        · intro w'
          go_simp
          with_reducible rfl
        rotate_left
        · simp only [Act.put, List.setIfInBounds_toArray, List.set_cons_zero, List.set_cons_succ, i64_w, i32_w]
          rfl
        refine done_ (by kernel_rfl) ?_
        have H4 := Aside0.mk (H3.out.drew)
        generalize W3.drew = W4 at H4 ⊢
        clear b0 b1 m0 m1 f0 f1 H3 X3 y0
        go_wp2_with fail
        go_roundg k1
        case measure => omega
        case rel =>
          refine ⟨i + 1, L, ?_, by rw [hw1]; rfl, ⟨by have := HI.out; omega⟩, ⟨HH.out.skip HK.out⟩, H4⟩
          have e : dedT M (i + 1) = dedT M i := by
            show (if keepAt M i = true then _ else _) = _
            rw [if_neg (by rw [HK.out]; decide)]
          rw [e, HMM.out]
      · have hb1 : (y.f0.toList == x.f0.toList) = false := by simp [hb]
        have hb2 : (y.f0.toList != x.f0.toList) = true := by simp [hb]
        have HK := Aside0.mk (show keepAt M i = true from HKB.out.trans hb2)
        clear hb
        refine start_ (n := 16) (S := (fun w' => w'.cell? ⟨g, (i + 1) * 2, none⟩ = some (.string y.f0) ∧ w'.cell? ⟨gb, 0, none⟩ = some (.string x.f0))) (ds := []) #[false, false, false, false, false, false, false, false, false, false, false, false, false, false, false, false] (by kernel_rfl) rfl rfl ?_ ?_
        · exact ⟨y0, b0⟩
        intro hHeld
        refine pure_ (i := 0) (N := some 18) (v := ?_) (a' := ?_) #[true, false, false, false, false, false, false, false, false, false, false, false, false, false, false, false] rfl rfl (by kernel_rfl) (fun _ _ _ h => h) (Or.inl ⟨by rfl, ?_⟩) ?_ ?_
        rotate_left
        · intro w'
          go_simp
          with_reducible rfl
        rotate_left
        · simp only [Act.put, List.setIfInBounds_toArray, List.set_cons_zero, List.set_cons_succ, i64_w, i32_w]
          rfl
        refine pure_ (i := 1) (N := some 19) (v := ?_) (a' := ?_) #[true, true, false, false, false, false, false, false, false, false, false, false, false, false, false, false] rfl rfl (by kernel_rfl) (fun _ _ _ h => h) (Or.inl ⟨by rfl, ?_⟩) ?_ ?_
        rotate_left
        · intro w'
          go_simp
          with_reducible rfl
        rotate_left
        · simp only [Act.put, List.setIfInBounds_toArray, List.set_cons_zero, List.set_cons_succ, i64_w, i32_w]
          rfl
        refine pure_ (i := 2) (N := some 20) (v := ?_) (a' := ?_) #[true, true, true, false, false, false, false, false, false, false, false, false, false, false, false, false] rfl rfl (by kernel_rfl) (fun _ _ _ h => h) (Or.inl ⟨by rfl, ?_⟩) ?_ ?_
        rotate_left
        · intro w'
          go_simp
          with_reducible rfl
        rotate_left
        · simp only [Act.put, List.setIfInBounds_toArray, List.set_cons_zero, List.set_cons_succ, i64_w, i32_w]
          rfl
        refine pure_ (i := 3) (N := some 21) (v := ?_) (a' := ?_) #[true, true, true, true, false, false, false, false, false, false, false, false, false, false, false, false] rfl rfl (by kernel_rfl) (fun _ _ _ h => h) (Or.inl ⟨by rfl, ?_⟩) ?_ ?_
        rotate_left
        · intro w'
          go_simp
          with_reducible rfl
        rotate_left
        · simp only [Act.put, List.setIfInBounds_toArray, List.set_cons_zero, List.set_cons_succ, i64_w, i32_w]
          rfl
        refine pure_ (i := 4) (N := some 22) (v := ?_) (a' := ?_) #[true, true, true, true, true, false, false, false, false, false, false, false, false, false, false, false] rfl rfl (by kernel_rfl) (fun _ _ _ h => h) (Or.inl ⟨by rfl, ?_⟩) ?_ ?_
        rotate_left
        · intro w'
          go_simp
          with_reducible rfl
        rotate_left
        · simp only [Act.put, List.setIfInBounds_toArray, List.set_cons_zero, List.set_cons_succ, i64_w, i32_w]
          rfl
        refine pure_ (i := 5) (N := some 23) (v := ?_) (a' := ?_) #[true, true, true, true, true, true, false, false, false, false, false, false, false, false, false, false] rfl rfl (by kernel_rfl) (fun _ _ _ h => h) (Or.inl ⟨by rfl, ?_⟩) ?_ ?_
        rotate_left
        · intro w'
          go_simp
          with_reducible rfl
        rotate_left
        · simp only [Act.put, List.setIfInBounds_toArray, List.set_cons_zero, List.set_cons_succ, i64_w, i32_w]
          rfl
        refine pure_ (i := 6) (N := some 24) (v := ?_) (a' := ?_) #[true, true, true, true, true, true, true, false, false, false, false, false, false, false, false, false] rfl rfl (by kernel_rfl) (fun _ _ _ h => h) (Or.inl ⟨by rfl, ?_⟩) ?_ ?_
        rotate_left
        · intro w'
          go_simp
          with_reducible rfl
        rotate_left
        · simp only [Act.put, List.setIfInBounds_toArray, List.set_cons_zero, List.set_cons_succ, i64_w, i32_w]
          rfl
        refine pure_ (i := 7) (N := some 25) (v := ?_) (a' := ?_) #[true, true, true, true, true, true, true, true, false, false, false, false, false, false, false, false] rfl rfl (by kernel_rfl) (fun _ _ _ h => h) (Or.inl ⟨by rfl, ?_⟩) ?_ ?_
        rotate_left
        · intro w'
          go_simp
          with_reducible rfl
        rotate_left
        · simp only [Act.put, List.setIfInBounds_toArray, List.set_cons_zero, List.set_cons_succ, i64_w, i32_w]
          rfl
        refine pure_ (i := 8) (N := some 26) (v := ?_) (a' := ?_) #[true, true, true, true, true, true, true, true, true, false, false, false, false, false, false, false] rfl rfl (by kernel_rfl) (fun _ _ _ h => h) (Or.inl ⟨by rfl, ?_⟩) ?_ ?_
        rotate_left
        · intro w'
          go_simp
          with_reducible rfl
        rotate_left
        · simp only [Act.put, List.setIfInBounds_toArray, List.set_cons_zero, List.set_cons_succ, i64_w, i32_w]
          rfl
        refine pure_ (i := 9) (N := some 27) (v := ?_) (a' := ?_) #[true, true, true, true, true, true, true, true, true, true, false, false, false, false, false, false] rfl rfl (by kernel_rfl) (fun _ _ _ h => h) (Or.inl ⟨by rfl, ?_⟩) ?_ ?_
        rotate_left
        · intro w'
          go_simp
          with_reducible rfl
        rotate_left
        · simp only [Act.put, List.setIfInBounds_toArray, List.set_cons_zero, List.set_cons_succ, i64_w, i32_w]
          rfl
        refine pure_ (i := 10) (N := some 28) (v := ?_) (a' := ?_) #[true, true, true, true, true, true, true, true, true, true, true, false, false, false, false, false] rfl rfl (by kernel_rfl) (fun _ _ _ h => h) (Or.inl ⟨by rfl, ?_⟩) ?_ ?_
        rotate_left
        · intro w'
          go_simp
          with_reducible rfl
        rotate_left
        · simp only [Act.put, List.setIfInBounds_toArray, List.set_cons_zero, List.set_cons_succ, i64_w, i32_w]
          rfl
        refine pure_ (i := 12) (N := some 30) (v := ?_) (a' := ?_) #[true, true, true, true, true, true, true, true, true, true, true, false, true, false, false, false] rfl rfl (by kernel_rfl) (fun _ _ _ h => h) (Or.inl ⟨by rfl, ?_⟩) ?_ ?_
        rotate_left
        · intro w'
          go_simp
          with_reducible rfl
        rotate_left
        · simp only [Act.put, List.setIfInBounds_toArray, List.set_cons_zero, List.set_cons_succ, i64_w, i32_w]
          rfl
        refine take_ (i := 11) (N := some 29) (v := ?_) (a' := ?_) #[true, true, true, true, true, true, true, true, true, true, true, true, true, false, false, false] rfl rfl (by kernel_rfl) (fun _ _ _ h => h) (Or.inl ⟨by rfl, ?_⟩) hHeld ?_ ?_
        rotate_left
        · rintro w' ⟨s0, s1⟩
          go_simp
          with_reducible rfl
        rotate_left
        · simp only [Act.put, List.setIfInBounds_toArray, List.set_cons_zero, List.set_cons_succ, i64_w, i32_w]
          rfl
        refine take_ (i := 13) (N := some 31) (v := ?_) (a' := ?_) #[true, true, true, true, true, true, true, true, true, true, true, true, true, true, false, false] rfl rfl (by kernel_rfl) (fun _ _ _ h => h) (Or.inl ⟨by rfl, ?_⟩) hHeld ?_ ?_
        rotate_left
        · rintro w' ⟨s0, s1⟩
          go_simp
          with_reducible rfl
        rotate_left
        · simp only [Act.put, List.setIfInBounds_toArray, List.set_cons_zero, List.set_cons_succ, i64_w, i32_w]
          rfl
        refine pure_ (i := 14) (N := some 32) (v := ?_) (a' := ?_) #[true, true, true, true, true, true, true, true, true, true, true, true, true, true, true, false] rfl rfl (by kernel_rfl) (fun _ _ _ h => h) (Or.inl ⟨by rfl, ?_⟩) ?_ ?_
        rotate_left
        · intro w'
          go_simp
          with_reducible rfl
        rotate_left
        · simp only [Act.put, List.setIfInBounds_toArray, List.set_cons_zero, List.set_cons_succ, i64_w, i32_w]
          rfl
        refine pure_ (i := 15) (N := some 33) (v := ?_) (a' := ?_) #[true, true, true, true, true, true, true, true, true, true, true, true, true, true, true, true] rfl rfl (by kernel_rfl) (fun _ _ _ h => h) (Or.inl ⟨by rfl, ?_⟩) ?_ ?_
        rotate_left
        · intro w'
          go_simp
          with_reducible rfl
        rotate_left
        · simp only [Act.put, List.setIfInBounds_toArray, List.set_cons_zero, List.set_cons_succ, i64_w, i32_w]
          rfl
        refine done_ (by kernel_rfl) ?_
        have H4 := Aside0.mk (H3.out.drew)
        have b40 : W3.drew.cell? ⟨gb, 0, none⟩ = some (.string x.f0) := b0
        have b41 : W3.drew.cell? ⟨gb, 1, none⟩ = some (.string x.f1) := b1
        obtain ⟨m40, m41, f40, f41⟩ := H4.out.cell m (by have := HMI.out; have := HIN.out; omega) z HZ.out
        generalize W3.drew = W4 at H4 b40 b41 m40 m41 f40 f41 ⊢
        clear b0 b1 m0 m1 f0 f1 H3 X3 y0
        go_upto_region 9 with fail
        obtain ⟨W5, hW5⟩ : ∃ W5, put2 W4 g m x = W5 := ⟨_, rfl⟩
        unfold put2 at hW5
        rw [hW5]
        have H5 := Aside0.mk (show Rw w (some ⟨g, 0, none⟩) n c1 W5 (L.set m x) from hW5 ▸ H4.out.set m (by have := HMI.out; have := HIN.out; omega) x)
        clear hW5
        go_wp2_with fail
        go_roundg k1
        case measure => omega
        case rel =>
          refine ⟨i + 1, L.set m x, ?_, by rw [hw1]; rfl, ⟨by have := HI.out; omega⟩, ⟨?_⟩, H5⟩
          · rw [hw2]
            have e : dedT M (i + 1) = dedT M i ++ [rd_T43 M (i : Int)] := by
              show (if keepAt M i = true then _ else _) = _
              rw [if_pos HK.out]
            rw [e, List.length_append, HMM.out]
            rfl
          · have h := HH.out.step (by rw [HML.out]; exact HIN.out) HK.out
            rw [HMM.out, HX.out] at h; exact h
end Go.Proofs.Ytmpdbblljofjfaa.G
namespace Go.Proofs.Ytmpdbblljofjfaa.G
open Go.RowKit Go.Proofs.YtmpdbblljofjfaaW.PrintWords Go.Proofs.YtmpdbblljofjfaaW.PrintLast Go.Proofs.YtmpdbblljofjfaaW.PrintMore
set_option linter.unusedVariables false
set_option linter.unusedSimpArgs false
/-- Do the names of the first so many rise? -/
def incU (l : List S43) : Nat → Bool
  | 0 => true
  | 1 => true
  | i + 2 => incU l (i + 1) && Op.bytesLess (rd_T43 l (i : Int)).f0.toList (rd_T43 l ((i + 1 : Nat) : Int)).f0.toList
def rightP (l : List S43) : List S43 := if incU l l.length = true then l else normP l
theorem incU_down (l : List S43) : ∀ n i, i ≤ n → incU l n = true → incU l i = true
  | 0, i, h, e => by obtain rfl : i = 0 := by omega
                     rfl
  | 1, i, h, e => by
    rcases (by omega : i = 0 ∨ i = 1) with rfl | rfl <;> rfl
  | n + 2, i, h, e => by
    by_cases hi : i = n + 2
    · rw [hi]; exact e
    · unfold incU at e
      rw [Bool.and_eq_true] at e
      exact incU_down l (n + 1) i (by omega) e.1
@[local go_sem high] theorem binOp_geS (t : TypeId) (a b : ByteArray) : binOp .geq t (.string a) (.string b) = pure (.bool (!(Op.bytesLess a.toList b.toList))) := by simp [binOp, Op.stringOp]
set_option maxHeartbeats 4000000 in
set_option maxRecDepth 100000 in
theorem right_walk (A0 : Option Addr) (c0 : Nat) (l : List S43) (w : World) (okp : Nat → Prop) (hF : Kd.F k43 w okp A0 l.length l) (hok : ∀ k, okp k → k < w.heap.size) (hc0 : l.length ≤ c0) (hl : l.length ≤ 1000000) :
    Calls Try.prog 17 #[.slice A0 l.length c0] w fun e w' => ∃ A c, e = .returned (.slice A (rightP l).length c) ∧ (rightP l).length ≤ c ∧ Kd.F k43 w' (fun k => (okp k ∨ w.heap.size ≤ k) ∧ k < w'.heap.size) A (rightP l).length (rightP l) ∧ Below w.heap.size w w' := by
  have HF := Aside0.mk hF; have HO := Aside0.mk hok; have HC := Aside0.mk hc0; have HL := Aside0.mk hl; clear hF hok hc0 hl
  go_enter Try.func17, Try.ntmps17
  go_wp2_with fail
  go_loopg [7] l.length (fun kq v7 wr => ∃ x : Int, v7 = .int .i64 x ∧ Aside0 (0 ≤ x ∧ x + kq = l.length) ∧ Aside0 (incU l x.toNat = true) ∧ Aside0 (Below w.heap.size w wr))
  case atStart => exact ⟨0, rfl, ⟨by omega, by omega⟩, ⟨rfl⟩, ⟨Below.refl _ _⟩⟩
  case round =>
  obtain ⟨x, rfl, HI, HU, HB⟩ := hrel; have HFr := Aside0.mk (show Kd.F k43 wr okp A0 l.length l from fun W hW => HF.out W (fun k hk hlt => (hW k hk (Nat.lt_of_lt_of_le hlt HB.out.size)).trans (HB.out.block k hlt)))
  cases gk with
  | zero =>
    have c3 : decide (x < (l.length : Int)) = false := decide_eq_false (by have := HI.out; omega)
    go_wp2_with fail
    go_ret
    have hr : rightP l = l := by
      have h1 := HU.out; rw [show x.toNat = l.length by have := HI.out; omega] at h1; unfold rightP; rw [if_pos h1]
    rw [hr]; refine ⟨A0, c0, rfl, HC.out, ?_, HB.out⟩; intro W hW; exact HFr.out W (fun k hk hlt => hW k ⟨.inl hk, hlt⟩ hlt)
  | succ k1 =>
    have c3 : decide (x < (l.length : Int)) = true := decide_eq_true (by have := HI.out; omega); have p1 : 0 ≤ x := HI.out.1
    have q1 : x < (l.length : Int) := by have := HI.out; omega
    have HX := Aside0.mk (And.intro p1 q1); obtain ⟨ad, rfl, t0, t1⟩ := at_T43 (HFr.out wr (fun _ _ _ => rfl)) x p1 q1; have hwi : Aside0 (wrap64 (x + 1) = x + 1) := ⟨by have := HL.out; have := HX.out; unfold wrap64; omega⟩
    by_cases hx0 : 0 < x
    · have HP := Aside0.mk hx0
      obtain ⟨ji, hji⟩ : ∃ j_ : Int, wrap64 (x - 1) = j_ := ⟨_, rfl⟩
      have hjiw : IntKind.i64.wrap (x - 1) = ji := (i64_w _).trans hji
      have HJ := Aside0.mk (show ji = x - 1 from by rw [← hji]; have := HL.out; have := HX.out; unfold wrap64; omega)
      have p2 : 0 ≤ ji := by have := HJ.out; have := HP.out; omega
      have q2 : ji < (l.length : Int) := by have := HJ.out; have := HX.out; omega
      obtain ⟨ad', e', s0, s1⟩ := at_T43 (HFr.out wr (fun _ _ _ => rfl)) ji p2 q2
      obtain rfl := Option.some.inj e'
      obtain ⟨s, hs⟩ : ∃ s, (rd_T43 l x).f0 = s := ⟨_, rfl⟩
      obtain ⟨s', hs'⟩ : ∃ s', (rd_T43 l ji).f0 = s' := ⟨_, rfl⟩
      obtain ⟨sv, hsv⟩ : ∃ s, (rd_T43 l x).f1 = s := ⟨_, rfl⟩
      have HS := Aside0.mk (And.intro hs hs')
      rw [hs] at t0
      rw [hsv] at t1
      rw [hs'] at s0
      clear hs hs' hsv s1
      go_upto_region 4 with fail
      obtain ⟨w6, hw6⟩ : ∃ w6, wr.alloc (Obj.cells #[Value.string s, Value.string sv] 43) = w6 := ⟨_, rfl⟩
      rw [hw6]
      have B6 := Aside0.mk (show Below w.heap.size w w6 from hw6 ▸ HB.out.alloc HB.out.size _)
      have r0 : w6.cell? ⟨wr.heap.size, 0, none⟩ = some (.string s) := by rw [← hw6]; exact (zC (blk_new wr (Obj.cells #[Value.string s, Value.string sv] 43)) 0).trans rfl
      have r1 : w6.cell? (ad.add (ji.toNat * 2)) = some (.string s') := by
        obtain ⟨a2, e2, r, _⟩ := at_T43 (HF.out w6 (fun k hk hlt => B6.out.block k hlt)) ji p2 q2; obtain rfl := Option.some.inj e2; rw [HS.out.2] at r; exact r
      have r5 : decide (0 < x) = true := decide_eq_true HP.out
      clear hw6 t0 t1 s0
      cases hlt : Op.bytesLess s'.toList s.toList with
      | true =>
        refine start_ (n := 13) (S := (fun w' => w'.cell? ⟨wr.heap.size, 0, none⟩ = some (.string s) ∧ w'.cell? (ad.add (ji.toNat * 2)) = some (.string s'))) (ds := []) #[false, false, false, false, false, false, false, false, false, false, false, false, false] (by kernel_rfl) rfl rfl ?_ ?_
        · (first | exact ⟨by assumption, by assumption⟩ | assumption)
        intro hHeld; refine pure_ (i := 0) (N := some 12) (v := ?_) (a' := ?_) #[true, false, false, false, false, false, false, false, false, false, false, false, false] rfl rfl (by kernel_rfl) (fun _ _ _ h => h) (Or.inl ⟨by rfl, ?_⟩) ?_ ?_; rotate_left; (intro w'; go_simp; (with_reducible rfl)); rotate_left; (simp only [Act.put, List.setIfInBounds_toArray, List.set_cons_zero, List.set_cons_succ, i64_w, i32_w]; rfl); refine pure_ (i := 1) (N := some 13) (v := ?_) (a' := ?_) #[true, true, false, false, false, false, false, false, false, false, false, false, false] rfl rfl (by kernel_rfl) (fun _ _ _ h => h) (Or.inl ⟨by rfl, ?_⟩) ?_ ?_; rotate_left; (intro w'; go_simp; (with_reducible rfl)); rotate_left; (simp only [Act.put, List.setIfInBounds_toArray, List.set_cons_zero, List.set_cons_succ, i64_w, i32_w]; rfl); refine pure_ (i := 2) (N := some 14) (v := ?_) (a' := ?_) #[true, true, true, false, false, false, false, false, false, false, false, false, false] rfl rfl (by kernel_rfl) (fun _ _ _ h => h) (Or.inl ⟨by rfl, ?_⟩) ?_ ?_; rotate_left; (intro w'; go_simp; (with_reducible rfl)); rotate_left; (simp only [Act.put, List.setIfInBounds_toArray, List.set_cons_zero, List.set_cons_succ, i64_w, i32_w]; rfl); refine pure_ (i := 3) (N := some 15) (v := ?_) (a' := ?_) #[true, true, true, true, false, false, false, false, false, false, false, false, false] rfl rfl (by kernel_rfl) (fun _ _ _ h => h) (Or.inl ⟨by rfl, ?_⟩) ?_ ?_; rotate_left; (intro w'; go_simp; (with_reducible rfl)); rotate_left; (simp only [Act.put, List.setIfInBounds_toArray, List.set_cons_zero, List.set_cons_succ, i64_w, i32_w]; rfl); refine pure_ (i := 4) (N := some 16) (v := ?_) (a' := ?_) #[true, true, true, true, true, false, false, false, false, false, false, false, false] rfl rfl (by kernel_rfl) (fun _ _ _ h => h) (Or.inl ⟨by rfl, ?_⟩) ?_ ?_; rotate_left; (intro w'; go_simp; (with_reducible rfl)); rotate_left; (simp only [Act.put, List.setIfInBounds_toArray, List.set_cons_zero, List.set_cons_succ, i64_w, i32_w]; rfl); refine pure_ (i := 5) (N := some 17) (v := ?_) (a' := ?_) #[true, true, true, true, true, true, false, false, false, false, false, false, false] rfl rfl (by kernel_rfl) (fun _ _ _ h => h) (Or.inl ⟨by rfl, ?_⟩) ?_ ?_; rotate_left; (intro w'; go_simp; (with_reducible rfl)); rotate_left; (simp only [Act.put, List.setIfInBounds_toArray, List.set_cons_zero, List.set_cons_succ, i64_w, i32_w]; rfl); refine pure_ (i := 6) (N := some 18) (v := ?_) (a' := ?_) #[true, true, true, true, true, true, true, false, false, false, false, false, false] rfl rfl (by kernel_rfl) (fun _ _ _ h => h) (Or.inl ⟨by rfl, ?_⟩) ?_ ?_; rotate_left; (intro w'; go_simp; (with_reducible rfl)); rotate_left; (simp only [Act.put, List.setIfInBounds_toArray, List.set_cons_zero, List.set_cons_succ, i64_w, i32_w]; rfl); refine pure_ (i := 7) (N := some 19) (v := ?_) (a' := ?_) #[true, true, true, true, true, true, true, true, false, false, false, false, false] rfl rfl (by kernel_rfl) (fun _ _ _ h => h) (Or.inl ⟨by rfl, ?_⟩) ?_ ?_; rotate_left; (intro w'; go_simp; (with_reducible rfl)); rotate_left; (simp only [Act.put, List.setIfInBounds_toArray, List.set_cons_zero, List.set_cons_succ, i64_w, i32_w]; rfl); refine pure_ (i := 9) (N := some 21) (v := ?_) (a' := ?_) #[true, true, true, true, true, true, true, true, false, true, false, false, false] rfl rfl (by kernel_rfl) (fun _ _ _ h => h) (Or.inl ⟨by rfl, ?_⟩) ?_ ?_; rotate_left; (intro w'; go_simp; (with_reducible rfl)); rotate_left; (simp only [Act.put, List.setIfInBounds_toArray, List.set_cons_zero, List.set_cons_succ, i64_w, i32_w]; rfl); refine take_ (i := 8) (N := some 20) (v := ?_) (a' := ?_) #[true, true, true, true, true, true, true, true, true, true, false, false, false] rfl rfl (by kernel_rfl) (fun _ _ _ h => h) (Or.inl ⟨by rfl, ?_⟩) hHeld ?_ ?_; rotate_left; (rintro w' ⟨s0, s1⟩; go_simp; (with_reducible rfl)); rotate_left; (simp only [Act.put, List.setIfInBounds_toArray, List.set_cons_zero, List.set_cons_succ, i64_w, i32_w]; rfl); refine take_ (i := 10) (N := some 22) (v := ?_) (a' := ?_) #[true, true, true, true, true, true, true, true, true, true, true, false, false] rfl rfl (by kernel_rfl) (fun _ _ _ h => h) (Or.inl ⟨by rfl, ?_⟩) hHeld ?_ ?_; rotate_left; (rintro w' ⟨s0, s1⟩; go_simp; (with_reducible rfl)); rotate_left; (simp only [Act.put, List.setIfInBounds_toArray, List.set_cons_zero, List.set_cons_succ, i64_w, i32_w]; rfl); refine pure_ (i := 11) (N := some 23) (v := ?_) (a' := ?_) #[true, true, true, true, true, true, true, true, true, true, true, true, false] rfl rfl (by kernel_rfl) (fun _ _ _ h => h) (Or.inl ⟨by rfl, ?_⟩) ?_ ?_; rotate_left; (intro w'; go_simp; (with_reducible rfl)); rotate_left; (simp only [Act.put, List.setIfInBounds_toArray, List.set_cons_zero, List.set_cons_succ, i64_w, i32_w]; rfl); refine pure_ (i := 12) (N := some 24) (v := ?_) (a' := ?_) #[true, true, true, true, true, true, true, true, true, true, true, true, true] rfl rfl (by kernel_rfl) (fun _ _ _ h => h) (Or.inl ⟨by rfl, ?_⟩) ?_ ?_; rotate_left; (intro w'; go_simp; (with_reducible rfl)); rotate_left; (simp only [Act.put, List.setIfInBounds_toArray, List.set_cons_zero, List.set_cons_succ, i64_w, i32_w]; rfl); refine done_ (by kernel_rfl) ?_; have HLT := Aside0.mk hlt
        go_wp2_with fail
        go_roundg k1
        case measure => omega
        case rel =>
          refine ⟨x + 1, by rw [hwi.out], ⟨by have := HI.out; omega, by have := HI.out; omega⟩, ⟨?_⟩, ⟨B6.out.drew⟩⟩; obtain ⟨i, rfl⟩ : ∃ i : Nat, x = (i : Int) + 1 := ⟨(x - 1).toNat, by have := HX.out; have := HP.out; omega⟩
          have e1 : ((i : Int) + 1).toNat = i + 1 := by omega
          have e2 : ((i : Int) + 1 + 1).toNat = i + 2 := by omega
          have h1 := HU.out; rw [e1] at h1; rw [e2]; unfold incU; rw [h1, Bool.true_and]; have h2 := HS.out
          have e3 : ji = (i : Int) := by have := HJ.out; omega
          rw [e3] at h2; rw [show ((i + 1 : Nat) : Int) = (i : Int) + 1 from by omega, h2.1, h2.2]; exact HLT.out
      | false =>
        refine start_ (n := 13) (S := (fun w' => w'.cell? ⟨wr.heap.size, 0, none⟩ = some (.string s) ∧ w'.cell? (ad.add (ji.toNat * 2)) = some (.string s'))) (ds := []) #[false, false, false, false, false, false, false, false, false, false, false, false, false] (by kernel_rfl) rfl rfl ?_ ?_
        · (first | exact ⟨by assumption, by assumption⟩ | assumption)
        intro hHeld; refine pure_ (i := 0) (N := some 12) (v := ?_) (a' := ?_) #[true, false, false, false, false, false, false, false, false, false, false, false, false] rfl rfl (by kernel_rfl) (fun _ _ _ h => h) (Or.inl ⟨by rfl, ?_⟩) ?_ ?_; rotate_left; (intro w'; go_simp; (with_reducible rfl)); rotate_left; (simp only [Act.put, List.setIfInBounds_toArray, List.set_cons_zero, List.set_cons_succ, i64_w, i32_w]; rfl); refine pure_ (i := 1) (N := some 13) (v := ?_) (a' := ?_) #[true, true, false, false, false, false, false, false, false, false, false, false, false] rfl rfl (by kernel_rfl) (fun _ _ _ h => h) (Or.inl ⟨by rfl, ?_⟩) ?_ ?_; rotate_left; (intro w'; go_simp; (with_reducible rfl)); rotate_left; (simp only [Act.put, List.setIfInBounds_toArray, List.set_cons_zero, List.set_cons_succ, i64_w, i32_w]; rfl); refine pure_ (i := 2) (N := some 14) (v := ?_) (a' := ?_) #[true, true, true, false, false, false, false, false, false, false, false, false, false] rfl rfl (by kernel_rfl) (fun _ _ _ h => h) (Or.inl ⟨by rfl, ?_⟩) ?_ ?_; rotate_left; (intro w'; go_simp; (with_reducible rfl)); rotate_left; (simp only [Act.put, List.setIfInBounds_toArray, List.set_cons_zero, List.set_cons_succ, i64_w, i32_w]; rfl); refine pure_ (i := 3) (N := some 15) (v := ?_) (a' := ?_) #[true, true, true, true, false, false, false, false, false, false, false, false, false] rfl rfl (by kernel_rfl) (fun _ _ _ h => h) (Or.inl ⟨by rfl, ?_⟩) ?_ ?_; rotate_left; (intro w'; go_simp; (with_reducible rfl)); rotate_left; (simp only [Act.put, List.setIfInBounds_toArray, List.set_cons_zero, List.set_cons_succ, i64_w, i32_w]; rfl); refine pure_ (i := 4) (N := some 16) (v := ?_) (a' := ?_) #[true, true, true, true, true, false, false, false, false, false, false, false, false] rfl rfl (by kernel_rfl) (fun _ _ _ h => h) (Or.inl ⟨by rfl, ?_⟩) ?_ ?_; rotate_left; (intro w'; go_simp; (with_reducible rfl)); rotate_left; (simp only [Act.put, List.setIfInBounds_toArray, List.set_cons_zero, List.set_cons_succ, i64_w, i32_w]; rfl); refine pure_ (i := 5) (N := some 17) (v := ?_) (a' := ?_) #[true, true, true, true, true, true, false, false, false, false, false, false, false] rfl rfl (by kernel_rfl) (fun _ _ _ h => h) (Or.inl ⟨by rfl, ?_⟩) ?_ ?_; rotate_left; (intro w'; go_simp; (with_reducible rfl)); rotate_left; (simp only [Act.put, List.setIfInBounds_toArray, List.set_cons_zero, List.set_cons_succ, i64_w, i32_w]; rfl); refine pure_ (i := 6) (N := some 18) (v := ?_) (a' := ?_) #[true, true, true, true, true, true, true, false, false, false, false, false, false] rfl rfl (by kernel_rfl) (fun _ _ _ h => h) (Or.inl ⟨by rfl, ?_⟩) ?_ ?_; rotate_left; (intro w'; go_simp; (with_reducible rfl)); rotate_left; (simp only [Act.put, List.setIfInBounds_toArray, List.set_cons_zero, List.set_cons_succ, i64_w, i32_w]; rfl); refine pure_ (i := 7) (N := some 19) (v := ?_) (a' := ?_) #[true, true, true, true, true, true, true, true, false, false, false, false, false] rfl rfl (by kernel_rfl) (fun _ _ _ h => h) (Or.inl ⟨by rfl, ?_⟩) ?_ ?_; rotate_left; (intro w'; go_simp; (with_reducible rfl)); rotate_left; (simp only [Act.put, List.setIfInBounds_toArray, List.set_cons_zero, List.set_cons_succ, i64_w, i32_w]; rfl); refine pure_ (i := 9) (N := some 21) (v := ?_) (a' := ?_) #[true, true, true, true, true, true, true, true, false, true, false, false, false] rfl rfl (by kernel_rfl) (fun _ _ _ h => h) (Or.inl ⟨by rfl, ?_⟩) ?_ ?_; rotate_left; (intro w'; go_simp; (with_reducible rfl)); rotate_left; (simp only [Act.put, List.setIfInBounds_toArray, List.set_cons_zero, List.set_cons_succ, i64_w, i32_w]; rfl); refine take_ (i := 8) (N := some 20) (v := ?_) (a' := ?_) #[true, true, true, true, true, true, true, true, true, true, false, false, false] rfl rfl (by kernel_rfl) (fun _ _ _ h => h) (Or.inl ⟨by rfl, ?_⟩) hHeld ?_ ?_; rotate_left; (rintro w' ⟨s0, s1⟩; go_simp; (with_reducible rfl)); rotate_left; (simp only [Act.put, List.setIfInBounds_toArray, List.set_cons_zero, List.set_cons_succ, i64_w, i32_w]; rfl); refine take_ (i := 10) (N := some 22) (v := ?_) (a' := ?_) #[true, true, true, true, true, true, true, true, true, true, true, false, false] rfl rfl (by kernel_rfl) (fun _ _ _ h => h) (Or.inl ⟨by rfl, ?_⟩) hHeld ?_ ?_; rotate_left; (rintro w' ⟨s0, s1⟩; go_simp; (with_reducible rfl)); rotate_left; (simp only [Act.put, List.setIfInBounds_toArray, List.set_cons_zero, List.set_cons_succ, i64_w, i32_w]; rfl); refine pure_ (i := 11) (N := some 23) (v := ?_) (a' := ?_) #[true, true, true, true, true, true, true, true, true, true, true, true, false] rfl rfl (by kernel_rfl) (fun _ _ _ h => h) (Or.inl ⟨by rfl, ?_⟩) ?_ ?_; rotate_left; (intro w'; go_simp; (with_reducible rfl)); rotate_left; (simp only [Act.put, List.setIfInBounds_toArray, List.set_cons_zero, List.set_cons_succ, i64_w, i32_w]; rfl); refine pure_ (i := 12) (N := some 24) (v := ?_) (a' := ?_) #[true, true, true, true, true, true, true, true, true, true, true, true, true] rfl rfl (by kernel_rfl) (fun _ _ _ h => h) (Or.inl ⟨by rfl, ?_⟩) ?_ ?_; rotate_left; (intro w'; go_simp; (with_reducible rfl)); rotate_left; (simp only [Act.put, List.setIfInBounds_toArray, List.set_cons_zero, List.set_cons_succ, i64_w, i32_w]; rfl); refine done_ (by kernel_rfl) ?_; have HLT := Aside0.mk hlt; have HF6 := Aside0.mk (show Kd.F k43 w6.drew okp (some ad) l.length l from fun W hW => HF.out W (fun k hk hlt => (hW k hk (Nat.lt_of_lt_of_le hlt B6.out.size)).trans (B6.out.block k hlt)))
        go_wp2_with (go_at_call 25; refine (norm_walk (some ad) c0 l w6.drew (HF6.out w6.drew (fun _ _ _ => rfl)) HC.out HL.out).mono ?_; rintro e w7 ⟨A7, rfl, hF7, hb7⟩; have F7 := Aside0.mk hF7; have B7 := Aside0.mk hb7; clear hF7 hb7)
        go_ret
        have hr : rightP l = normP l := by
          unfold rightP; rw [if_neg]; intro h; obtain ⟨i, rfl⟩ : ∃ i : Nat, x = (i : Int) + 1 := ⟨(x - 1).toNat, by have := HX.out; have := HP.out; omega⟩; have h3 := incU_down l l.length (i + 2) (by have := HX.out; omega) h; unfold incU at h3; rw [Bool.and_eq_true] at h3; have h2 := HS.out
          have e3 : ji = (i : Int) := by have := HJ.out; omega
          rw [e3] at h2; have h4 := h3.2; rw [show ((i + 1 : Nat) : Int) = (i : Int) + 1 from by omega, h2.1, h2.2, HLT.out] at h4; cases h4
        rw [hr]; refine ⟨A7, _, rfl, Nat.le_refl _, ?_, B6.out.drew.trans (B7.out.mono B6.out.size)⟩; intro W hW; exact F7.out W (fun k hk hlt => hW k ⟨.inr (Nat.le_trans B6.out.size hk), hlt⟩ hlt)
    · have c4 : decide (0 < x) = false := decide_eq_false hx0
      have HX0 := Aside0.mk hx0
      clear hx0
      obtain ⟨s, hs⟩ : ∃ s, (rd_T43 l x).f0 = s := ⟨_, rfl⟩
      obtain ⟨sv, hsv⟩ : ∃ s, (rd_T43 l x).f1 = s := ⟨_, rfl⟩
      rw [hs] at t0
      rw [hsv] at t1
      clear hs hsv
      go_upto_region 4 with fail
      refine start_ (n := 13) (S := (fun w' => True)) (ds := []) #[false, false, false, false, false, false, false, false, false, false, false, false, false] (by kernel_rfl) rfl rfl ?_ ?_
      · trivial
      intro hHeld
      refine pure_ (i := 0) (N := some 12) (v := ?_) (a' := ?_) #[true, false, false, false, false, false, false, false, false, false, false, false, false] rfl rfl (by kernel_rfl) (fun _ _ _ h => h) (Or.inl ⟨by rfl, ?_⟩) ?_ ?_
      rotate_left
      · intro w'
        go_simp
        with_reducible rfl
      rotate_left
      · simp only [Act.put, List.setIfInBounds_toArray, List.set_cons_zero, List.set_cons_succ, i64_w, i32_w]
        rfl
      refine pure_ (i := 1) (N := some 13) (v := ?_) (a' := ?_) #[true, true, false, false, false, false, false, false, false, false, false, false, false] rfl rfl (by kernel_rfl) (fun _ _ _ h => h) (Or.inl ⟨by rfl, ?_⟩) ?_ ?_
      rotate_left
      · intro w'
        go_simp
        with_reducible rfl
      rotate_left
      · simp only [Act.put, List.setIfInBounds_toArray, List.set_cons_zero, List.set_cons_succ, i64_w, i32_w]
        rfl
      refine pure_ (i := 2) (N := some 14) (v := ?_) (a' := ?_) #[true, true, true, false, false, false, false, false, false, false, false, false, false] rfl rfl (by kernel_rfl) (fun _ _ _ h => h) (Or.inl ⟨by rfl, ?_⟩) ?_ ?_
      rotate_left
      · intro w'
        go_simp
        with_reducible rfl
      rotate_left
      · simp only [Act.put, List.setIfInBounds_toArray, List.set_cons_zero, List.set_cons_succ, i64_w, i32_w]
        rfl
      refine pure_ (i := 3) (N := some 15) (v := undef) (a' := ?_) #[true, true, true, true, false, false, false, false, false, false, false, false, false] rfl rfl (by kernel_rfl) (fun _ _ _ h => h) (Or.inr ⟨by rfl, rfl⟩) ?_ ?_
      rotate_left
      · simp only [Act.put, List.setIfInBounds_toArray, List.set_cons_zero, List.set_cons_succ, i64_w, i32_w]
        rfl
      refine pure_ (i := 4) (N := some 16) (v := undef) (a' := ?_) #[true, true, true, true, true, false, false, false, false, false, false, false, false] rfl rfl (by kernel_rfl) (fun _ _ _ h => h) (Or.inr ⟨by rfl, rfl⟩) ?_ ?_
      rotate_left
      · simp only [Act.put, List.setIfInBounds_toArray, List.set_cons_zero, List.set_cons_succ, i64_w, i32_w]
        rfl
      refine pure_ (i := 5) (N := some 17) (v := undef) (a' := ?_) #[true, true, true, true, true, true, false, false, false, false, false, false, false] rfl rfl (by kernel_rfl) (fun _ _ _ h => h) (Or.inr ⟨by rfl, rfl⟩) ?_ ?_
      rotate_left
      · simp only [Act.put, List.setIfInBounds_toArray, List.set_cons_zero, List.set_cons_succ, i64_w, i32_w]
        rfl
      refine pure_ (i := 6) (N := some 18) (v := undef) (a' := ?_) #[true, true, true, true, true, true, true, false, false, false, false, false, false] rfl rfl (by kernel_rfl) (fun _ _ _ h => h) (Or.inr ⟨by rfl, rfl⟩) ?_ ?_
      rotate_left
      · simp only [Act.put, List.setIfInBounds_toArray, List.set_cons_zero, List.set_cons_succ, i64_w, i32_w]
        rfl
      refine pure_ (i := 7) (N := some 19) (v := undef) (a' := ?_) #[true, true, true, true, true, true, true, true, false, false, false, false, false] rfl rfl (by kernel_rfl) (fun _ _ _ h => h) (Or.inr ⟨by rfl, rfl⟩) ?_ ?_
      rotate_left
      · simp only [Act.put, List.setIfInBounds_toArray, List.set_cons_zero, List.set_cons_succ, i64_w, i32_w]
        rfl
      refine pure_ (i := 9) (N := some 21) (v := undef) (a' := ?_) #[true, true, true, true, true, true, true, true, false, true, false, false, false] rfl rfl (by kernel_rfl) (fun _ _ _ h => h) (Or.inr ⟨by rfl, rfl⟩) ?_ ?_
      rotate_left
      · simp only [Act.put, List.setIfInBounds_toArray, List.set_cons_zero, List.set_cons_succ, i64_w, i32_w]
        rfl
      refine pure_ (i := 8) (N := some 20) (v := undef) (a' := ?_) #[true, true, true, true, true, true, true, true, true, true, false, false, false] rfl rfl (by kernel_rfl) (fun _ _ _ h => h) (Or.inr ⟨by rfl, rfl⟩) ?_ ?_
      rotate_left
      · simp only [Act.put, List.setIfInBounds_toArray, List.set_cons_zero, List.set_cons_succ, i64_w, i32_w]
        rfl
      refine pure_ (i := 10) (N := some 22) (v := undef) (a' := ?_) #[true, true, true, true, true, true, true, true, true, true, true, false, false] rfl rfl (by kernel_rfl) (fun _ _ _ h => h) (Or.inr ⟨by rfl, rfl⟩) ?_ ?_
      rotate_left
      · simp only [Act.put, List.setIfInBounds_toArray, List.set_cons_zero, List.set_cons_succ, i64_w, i32_w]
        rfl
      refine pure_ (i := 11) (N := some 23) (v := undef) (a' := ?_) #[true, true, true, true, true, true, true, true, true, true, true, true, false] rfl rfl (by kernel_rfl) (fun _ _ _ h => h) (Or.inr ⟨by rfl, rfl⟩) ?_ ?_
      rotate_left
      · simp only [Act.put, List.setIfInBounds_toArray, List.set_cons_zero, List.set_cons_succ, i64_w, i32_w]
        rfl
      refine pure_ (i := 12) (N := some 24) (v := ?_) (a' := ?_) #[true, true, true, true, true, true, true, true, true, true, true, true, true] rfl rfl (by kernel_rfl) (fun _ _ _ h => h) (Or.inl ⟨by rfl, ?_⟩) ?_ ?_
      rotate_left
      · intro w'
        go_simp
        with_reducible rfl
      rotate_left
      · simp only [Act.put, List.setIfInBounds_toArray, List.set_cons_zero, List.set_cons_succ, i64_w, i32_w]
        rfl
      refine done_ (by kernel_rfl) ?_
      go_wp2_with fail
      go_roundg k1
      case measure => omega
      case rel =>
        refine ⟨x + 1, by rw [hwi.out], ⟨by have := HI.out; omega, by have := HI.out; omega⟩, ⟨?_⟩, ⟨(HB.out.alloc HB.out.size _).drew⟩⟩; rw [show x = 0 by have := HX.out; have := HX0.out; omega]; rfl
def noDefer (o : Oper) : Bool := match o.op with | .defer _ => false | _ => true
theorem noDefer_spec {o : Oper} (h : noDefer o = true) : ∀ c, o.op ≠ .defer c := by
  intro c e; unfold noDefer at h; rw [e] at h; cases h
section
variable {P : Program} {ops : Array Oper} {Q : Exit → Act → World → Prop} {md : Region.Mode} {l m : Nat}
theorem rowsIn_wide_ {m : Nat} {row : String} {args : Array Value} {w : World} {R : Value → World → Prop} (h : Rows P row args w R) : RowsIn (Fence.wide.inRound l) m P row args w R :=
  fun c cs _ => by
    obtain ⟨v, w', r, s⟩ := h c cs
    exact ⟨v, w', r, stepsIn_wide.2 s⟩
theorem oper_in {o : Oper} {a : Act} {w : World} {K : Act → World → Prop} (hd : ∀ c, o.op ≠ .defer c) (h : o.wp P a w K Q) : o.wpIn (Fence.wide.inRound l) m P a w K Q := by
  refine ⟨fun _ _ => trivial, ?_⟩; rw [Oper.semAt_plain (Fence.wide.inRound l) a.eval o hd]; unfold Oper.wp at h; generalize (execOp a.eval o).run P w = r at *
  cases r with
  | ok x w' =>
    cases x <;> simp only [Oper.upon, Oper.uponIn] at h ⊢ <;>
      first
        | exact h
        | exact ⟨(fun hh => (by simp [Fence.wide, Fence.inRound] at hh)), (callsIn_wide.2 h).inRound l⟩
        | exact ⟨(fun hh => (by simp [Fence.wide, Fence.inRound] at hh)), rowsIn_wide_ h⟩
  | halt x w' => cases x <;> simp only [Oper.upon, Oper.uponIn] at h ⊢ <;> exact h
theorem any_in (hd : ∀ (i : Nat) (o : Oper), ops[i]? = some o → ∀ c, o.op ≠ .defer c) (hq : ¬ LetsOut Q) : ∀ (fuel : Nat) (listed : Array Bool) (a : Act) (w : World),
    wpAny P md ops Q fuel listed a w → wpAnyIn (Fence.wide.inRound l) m P md ops Q fuel listed a w
  | 0, _, _, _, h => h
  | fuel + 1, listed, a, w, h => ⟨h.1, fun i hi => by
    have h1 := h.2 i hi
    unfold wpOp at h1
    unfold wpOpIn
    split
    · rename_i ho
      simp only [ho] at h1
      exact any_in hd hq fuel _ _ _ h1
    · rename_i o ho
      simp only [ho] at h1
      split
      · rename_i hw
        simp only [hw, if_true] at h1
        rcases h1 with h1 | h1
        · exact oper_in (hd i o ho) (Oper.wp_mono (fun a w h => any_in hd hq fuel _ a w h) h1)
        · exact absurd h1.2 hq
      · rename_i hw
        simp only [hw] at h1
        exact ⟨fun _ _ => trivial, any_in hd hq fuel _ _ _ h1⟩⟩
theorem startIn_ {S : World → Prop} {ds : List Nat} {id n : Nat} {a : Act} {w : World} (lb : Array Bool) (hm : P.follows .mixedOrders = true) (hn : ops.size = n) (hl : Array.replicate n false = lb)
    (hd : ops.all noDefer = true) (hq : ¬ LetsOut Q) (hS : S w.drew)
    (h : S w.drew → wpAnyLast P .any ops Q S ds n lb a w.drew) : (Code.region id ops true).wpIn (Fence.wide.inRound l) m P Q a w := by
  subst hn; subst hl; refine wpIn_region_any hm (any_in ?_ hq _ _ _ _ (wpAny_of_last _ _ _ _ (h hS))); intro i o ho; refine noDefer_spec ?_; have h2 := Array.all_eq_true.1 hd i (Array.getElem?_eq_some_iff.1 ho).1; rw [(Array.getElem?_eq_some_iff.1 ho).2] at h2; exact h2
end
theorem both_walk (Aa Ab : Option Addr) (na nb ca cb : Nat) (w : World) : Calls Try.prog 16 #[.slice Aa na ca, .slice Ab nb cb] w fun e w' =>
    e = .returned (.func (.func 24) #[] #[.pointer (some ⟨w.heap.size, 0, none⟩), .pointer (some ⟨w.heap.size + 1, 0, none⟩)]) ∧ w' = (w.alloc (.cells #[.slice Aa na ca] 22)).alloc (.cells #[.slice Ab nb cb] 22) := by
  go_enter Try.func16, Try.ntmps16
  go_wp2; go_ret; exact ⟨rfl, rfl⟩
/-- An element's part, in every world that keeps the lists' blocks. -/
def okO (w : World) (ok : Nat → Prop) (o : Option (Addr × S43)) : Prop :=
  ∀ a s, o = some (a, s) → ∀ W : World, (∀ k, ok k → W.heap[k]? = w.heap[k]?) → W.cell? a = some (.string s.f0) ∧ W.cell? ⟨a.block, a.off + 1, none⟩ = some (.string s.f1)
theorem okO_none (w : World) (ok : Nat → Prop) : okO w ok none := fun a s h => by cases h
theorem okO_head {w : World} {ok : Nat → Prop} {A : Option Addr} {p : Addr} {x : S43} {r : List S43} (h : Kd.F k43 w ok A (x :: r).length (x :: r)) (hp : A = some p) : okO w ok (some (p, x)) := by
  rintro a s e W hW; obtain ⟨rfl, rfl⟩ := Prod.mk.inj (Option.some.inj e); obtain ⟨ad, h1, h2, h3⟩ := at_T43 (h W (fun k hk _ => hW k hk)) 0 (by omega) (by simp); rw [hp] at h1; obtain rfl := Option.some.inj h1; exact ⟨h2, h3⟩
theorem els_ok (w : World) (ok : Nat → Prop) : ∀ (n : Nat) (p q : Addr) (r s : List S43) (A B : Option Addr), (r ≠ [] → A = some p) → (s ≠ [] → B = some q) →
    Kd.F k43 w ok A r.length r → Kd.F k43 w ok B s.length s → ∀ el ∈ els n p q r s, okO w ok el.1 ∧ okO w ok el.2 := by
  intro n
  induction n with
  | zero => intro p q r s A B _ _ _ _ el h; cases h
  | succ n ih =>
    intro p q r s A B hp hq fr fs el h
    have tl : ∀ {x : S43} {r : List S43} {A : Option Addr} {p : Addr}, (h : Kd.F k43 w ok A (x :: r).length (x :: r)) → A = some p → ∃ A', (r ≠ [] → A' = some (p.add 2)) ∧ Kd.F k43 w ok A' r.length r := by
      intro x r A p h hp; refine ⟨_, ?_, tailF h (Nat.le_refl _)⟩; intro hr; rw [if_neg (fun e => hr (List.length_eq_zero_iff.1 (by simpa using e))), hp]; rfl
    cases r with
    | nil =>
      cases s with
      | nil => simp [els] at h
      | cons y s =>
        obtain ⟨B', b1, b2⟩ := tl fs (hq (by simp)); rw [els] at h
        rcases List.mem_cons.1 h with rfl | h
        (exact ⟨okO_none _ _, okO_head fs (hq (by simp))⟩); (exact ih _ _ _ _ A B' hp b1 fr b2 el h)
    | cons x r =>
      obtain ⟨A', a1, a2⟩ := tl fr (hp (by simp))
      cases s with
      | nil =>
        rw [els] at h
        rcases List.mem_cons.1 h with rfl | h
        (exact ⟨okO_head fr (hp (by simp)), okO_none _ _⟩); (exact ih _ _ _ _ A' B a1 hq a2 fs el h)
      | cons y s =>
        obtain ⟨B', b1, b2⟩ := tl fs (hq (by simp)); rw [els] at h; split at h
        · split at h
          · rcases List.mem_cons.1 h with rfl | h
            · exact ⟨okO_head fr (hp (by simp)), okO_head fs (hq (by simp))⟩
            · exact ih _ _ _ _ A' B' a1 b1 a2 b2 el h
          · rcases List.mem_cons.1 h with rfl | h
            · exact ⟨okO_head fr (hp (by simp)), okO_none _ _⟩
            · exact ih _ _ _ _ A' B a1 hq a2 fs el h
        · rcases List.mem_cons.1 h with rfl | h
          · exact ⟨okO_none _ _, okO_head fs (hq (by simp))⟩
          · exact ih _ _ _ _ A B' hp b1 fr b2 el h
end Go.Proofs.Ytmpdbblljofjfaa.G
namespace Go.Proofs.Ytmpdbblljofjfaa.G
open Go.RowKit Go.Proofs.YtmpdbblljofjfaaW.PrintWords Go.Proofs.YtmpdbblljofjfaaW.PrintLast Go.Proofs.YtmpdbblljofjfaaW.PrintMore
set_option linter.unusedVariables false
set_option linter.unusedSimpArgs false
attribute [local go_sem] Oper.semAt_some
theorem normP_len (l : List S43) : (normP l).length ≤ l.length := by
  unfold normP; exact Nat.le_trans (dedT_len _ _) (Nat.le_of_eq (isort_len _ swoA l))
theorem rightP_len (l : List S43) : (rightP l).length ≤ l.length := by
  unfold rightP; split; (exact Nat.le_refl _); (exact normP_len l)
theorem F_to {w w1 : World} {ok ok' : Nat → Prop} {A : Option Addr} {n : Nat} {xs : List S43} (h : Kd.F k43 w ok A n xs) (hb : Below w.heap.size w w1) (hok : ∀ k, ok k → k < w.heap.size) (ho : ∀ k, ok k → ok' k) : Kd.F k43 w1 ok' A n xs :=
  fun W hW => h W (fun k hk hlt => (hW k (ho k hk) (Nat.lt_of_lt_of_le hlt hb.size)).trans (hb.block k hlt))
theorem F_some {w : World} {ok : Nat → Prop} {A : Option Addr} {xs : List S43} (h : Kd.F k43 w ok A xs.length xs) (hn : xs ≠ []) : A = some (A.getD ⟨0, 0, none⟩) := by
  have hl : 0 < xs.length := List.length_pos_iff.2 hn; obtain ⟨ad, e, _⟩ := at_T43 (h w (fun _ _ _ => rfl)) 0 (by omega) (by omega); rw [e]; rfl
theorem eqA43_ (d : Nat) (w : World) (x0 y0 : ByteArray) (x1 y1 : ByteArray) :
    (Op.equalIn (d + 2) 43 (.agg #[.string x0, .string x1]) (.agg #[.string y0, .string y1])).run Try.prog w = .ok (x0.toList == y0.toList && (x1.toList == y1.toList)) w := by
  refine eqA_of Try.underlying43 (by kernel_rfl) ?_; refine eqf_cons (by rfl) (by go_simp; rfl) (by go_simp; rfl) (by go_simp) ?_; exact eqf_last (by rfl) (by go_simp; rfl) (by go_simp; rfl) (by go_simp)
def eqS (x y : S43) : Bool := x.f0.toList == y.f0.toList && x.f1.toList == y.f1.toList
theorem eqS_run (d : Nat) (w : World) (x y : S43) : (Op.equalIn (d + 2) 43 (.agg #[.string x.f0, .string x.f1]) (.agg #[.string y.f0, .string y.f1])).run Try.prog w = .ok (eqS x y) w := eqA43_ d w _ _ _ _
attribute [local go_sem high] eqS_run
def difO (el : El) : Bool := match el.1, el.2 with
  | some (_, x), some (_, y) => !(eqS x y)
  | _, _ => true
theorem els_len : ∀ (n : Nat) (p q : Addr) (r s : List S43), (els n p q r s).length ≤ n
  | 0, _, _, _, _ => Nat.le_refl _
  | n + 1, p, q, r, s => by
    unfold els
    split
    · simp
    · simpa using els_len n _ _ _ _
    · simpa using els_len n _ _ _ _
    · split
      · split
        · simpa using els_len n _ _ _ _
        · simpa using els_len n _ _ _ _
      · simpa using els_len n _ _ _ _
theorem below_ext {n : Nat} {w A B : World} (h : Below n w A) (hb : Below 0 A B) (hk : ∀ k, k < n → B.heap[k]? = A.heap[k]?) : Below n w B :=
  ⟨hb.os.trans h.os, hb.tape.trans h.tape, hb.output.trans h.output, Nat.le_trans h.size hb.size, fun k h1 => (hk k h1).trans (h.block k h1)⟩
def cntN (pre : List El) : Int := ((pre.countP difO : Nat) : Int)
/-- The loop's end: what the lists' blocks, the boxes, are. -/
structure Loop0 (w w4 : World) (a b : List S43) (A1 B1 : Option Addr) (c1 c2 N : Nat) : Prop where
  sz : w4.heap.size = N + 2
  lt : w.heap.size < N
  la : (rightP a).length ≤ c1
  lb : (rightP b).length ≤ c2
  ca : w4.heap[N]? = some (.cells #[.slice A1 (rightP a).length c1] 22 (0, 0))
  cb : w4.heap[N + 1]? = some (.cells #[.slice B1 (rightP b).length c2] 22 (0, 0))
  fa : Kd.F k43 w4 (fun k => k < N ∧ k ≠ w.heap.size) A1 (rightP a).length (rightP a)
  fb : Kd.F k43 w4 (fun k => k < N ∧ k ≠ w.heap.size) B1 (rightP b).length (rightP b)
  bl : Below w.heap.size w w4
set_option maxHeartbeats 4000000 in
set_option maxRecDepth 100000 in
theorem Names_walk (A0 B0 : Option Addr) (ca cb : Nat) (a b : List S43) (w : World) (hA : Kd.C k43 w A0 a.length a) (hB : Kd.C k43 w B0 b.length b) (ha : a.length ≤ ca) (hb : b.length ≤ cb) (la : a.length ≤ 1000000) (lb : b.length ≤ 1000000) :
    Calls Try.prog 10 #[.slice A0 a.length ca, .slice B0 b.length cb] w fun e w' => ∃ p q, e = .returned (.int .i64 ((els ((rightP a).length + (rightP b).length) p q (rightP a) (rightP b)).countP difO : Nat)) ∧ Below w.heap.size w w' := by
  have HA := Aside0.mk (Kd.C_F k43_heap hA); have HB := Aside0.mk (Kd.C_F k43_heap hB); have HL := Aside0.mk (And.intro ha (And.intro hb (And.intro la lb))); clear hA hB ha hb la lb; refine callsIn_wide.1 (callsIn_of_wp_marks (n := 3) Try.func10 rfl trivial ?_ rfl); simp only [Try.ntmps10, List.size_toArray, List.length_cons, List.length_nil, Nat.reduceAdd, Nat.reduceSub, Array.replicate_succ, Array.replicate_zero, List.push_toArray, List.append_toArray, List.nil_append, List.cons_append]; refine wpIn_wide.2 ?_
  go_wp2_with fail
  obtain ⟨w1, hw1⟩ : ∃ w1, w.alloc (Obj.cells #[Value.int IntKind.i64 0] 3) = w1 := ⟨_, rfl⟩; rw [hw1]; have Z1 := Aside0.mk (show w1.heap.size = w.heap.size + 1 from by rw [← hw1]; simp); have B1_ := Aside0.mk (show Below w.heap.size w w1 from by rw [← hw1]; exact (Below.refl _ w).alloc (Nat.le_refl _) _); have T1 := Aside0.mk (show w1.heap[w.heap.size]? = some (.cells #[.int .i64 0] 3 (0, 0)) from by rw [← hw1]; exact blk_new w _); clear hw1; refine (right_walk A0 ca a w1 (fun k => k < w.heap.size) (F_to HA.out B1_.out (fun _ h => h) (fun _ h => h)) (fun k hk => by have := Z1.out; omega) HL.out.1 HL.out.2.2.1).mono ?_; rintro e w2 ⟨A1, c1, rfl, hc1, hF1, hb1⟩; have F1 := Aside0.mk hF1; have C1 := Aside0.mk hc1; have B2_ := Aside0.mk hb1; clear hc1 hF1 hb1
  go_wp2_with fail
  refine (right_walk B0 cb b w2 (fun k => k < w.heap.size) (F_to HB.out (B1_.out.trans (B2_.out.mono B1_.out.size)) (fun _ h => h) (fun _ h => h)) (fun k hk => by have := Z1.out; have := B2_.out.size; omega) HL.out.2.1 HL.out.2.2.2).mono ?_; rintro e w3 ⟨A2, c2, rfl, hc2, hF2, hb2⟩; have F2 := Aside0.mk hF2; have C2 := Aside0.mk hc2; have B3_ := Aside0.mk hb2; clear hc2 hF2 hb2; obtain ⟨n1, hn1⟩ : ∃ n, (rightP a).length = n := ⟨_, rfl⟩; obtain ⟨n2, hn2⟩ : ∃ n, (rightP b).length = n := ⟨_, rfl⟩; have HN := Aside0.mk (And.intro hn1 hn2); rw [hn1, hn2]; clear hn1 hn2
  go_wp2_with (go_at_call 16; refine (both_walk A1 A2 n1 n2 c1 c2 w3).mono ?_; rintro e w4 ⟨rfl, hw4⟩; have HW4 := Aside0.mk hw4; clear hw4)
  have L0 : Aside0 (Loop0 w w4 a b A1 A2 c1 c2 w3.heap.size) := ⟨by
    have hw4 := HW4.out; obtain ⟨hn1, hn2⟩ := HN.out; have h1 := Z1.out; have h2 := B2_.out.size; have h3 := B3_.out.size
    have b4 : Below w3.heap.size w3 w4 := by rw [hw4]; exact ((Below.refl _ w3).alloc (Nat.le_refl _) _).alloc (by simp) _
    refine ⟨by rw [hw4]; simp, by omega, C1.out, C2.out, ?_, ?_, ?_, ?_, ?_⟩; (rw [hw4, hn1]; exact zF (blk_new w3 _) _); (rw [hw4, hn2]; have := blk_new (w3.alloc (Obj.cells #[Value.slice A1 n1 c1] 22)) (Obj.cells #[Value.slice A2 n2 c2] 22); simpa using this); (exact F_to F1.out ((B3_.out.trans (b4.mono B3_.out.size))) (fun k hk => hk.2) (fun k hk => by omega)); (exact F_to F2.out b4 (fun k hk => hk.2) (fun k hk => by omega))
    · exact (B1_.out.trans (B2_.out.mono B1_.out.size)).trans ((B3_.out.trans (b4.mono B3_.out.size)).mono (by omega))⟩
  have T4 : Aside0 (w4.heap[w.heap.size]? = some (.cells #[.int .i64 0] 3 (0, 0))) := ⟨by
    have hw4 := HW4.out; have h1 := Z1.out; have h2 := B2_.out.size; have h3 := B3_.out.size; rw [hw4]
    exact zF (zF ((B3_.out.block _ (by omega)).trans ((B2_.out.block _ (by omega)).trans T1.out)) _) _⟩
  clear F1 F2 C1 C2 B1_ B2_ B3_ Z1 T1 HW4 HA HB; obtain ⟨N, hN⟩ : ∃ N, w3.heap.size = N := ⟨_, rfl⟩; rw [hN] at L0; rw [hN]; clear hN; obtain ⟨p, hp⟩ : ∃ p : Addr, A1.getD ⟨0, 0, none⟩ = p := ⟨_, rfl⟩; obtain ⟨q, hq⟩ : ∃ q : Addr, A2.getD ⟨0, 0, none⟩ = q := ⟨_, rfl⟩; obtain ⟨xs, hxs⟩ : ∃ xs, els ((rightP a).length + (rightP b).length) p q (rightP a) (rightP b) = xs := ⟨_, rfl⟩; have HX := Aside0.mk hxs; have HP : Aside0 ((rightP a ≠ [] → A1 = some p) ∧ (rightP b ≠ [] → A2 = some q)) := ⟨fun h => hp ▸ F_some L0.out.fa h, fun h => hq ▸ F_some L0.out.fb h⟩; have HE := Aside0.mk (show ∀ el ∈ xs, okO w4 (fun k => k < N ∧ k ≠ w.heap.size) el.1 ∧ okO w4 (fun k => k < N ∧ k ≠ w.heap.size) el.2 from hxs ▸ els_ok w4 _ _ p q (rightP a) (rightP b) A1 A2 HP.out.1 HP.out.2 L0.out.fa L0.out.fb); clear hp hq hxs; refine (wpIn_wide (n := 3)).1 ?_
  refine range_steps (F := Fence.wide) (n := 3) rfl (by decide) (gf := 24) (lb := #[.pointer (some ⟨N, 0, none⟩), .pointer (some ⟨N + 1, 0, none⟩)]) rfl trivial (enters_of Try.func24 (by kernel_rfl) rfl)
    encB (fun _ => rfl) (fun k => k = N ∨ k = N + 1) (fun k => k < w4.heap.size ∧ k ≠ w.heap.size) (fun k hk => by have := L0.out.sz; omega) (fun k hk => hk.1) xs ?hit
    (fun pre W => (∀ k, k < N → k ≠ w.heap.size → W.heap[k]? = w4.heap[k]?) ∧ W.heap[w.heap.size]? = some (.cells #[.int .i64 (cntN pre)] 3 (0, 0)) ∧ Below w.heap.size w W) ?him ?hib ⟨fun _ _ _ => rfl, T4.out, L0.out.bl⟩
    (fun x => { tmps := #[Value.slice A0 a.length ca, Value.slice B0 b.length cb, undef, undef, Value.int IntKind.i64 0,
          Value.pointer (some { block := w.heap.size, off := 0 }), ptrO x.1, ptrO x.2, Value.slice A0 a.length ca,
          Value.slice A1 n1 c1, Value.slice B0 b.length cb, Value.slice A2 n2 c2,
          Value.func (Fn.func 24) #[]
            #[Value.pointer (some { block := N, off := 0 }),
              Value.pointer (some { block := N + 1, off := 0 })],
          ptrO x.1, ptrO x.2, undef, undef, undef, undef, undef, undef, undef, undef, undef, undef, undef, undef, undef,
          undef, undef, undef, undef, undef], defers := [] }) ?assign ?body ?done
  case hit =>
    intro J hJ hY W hW h0; refine callsIn_wide.2 ?_; have hi := L0.out
    have := iter_walk w4 N (N + 1) w.heap.size (by have := hi.sz; omega) (by have := hi.sz; omega) (by omega) A1 A2 (rightP a) (rightP b) c1 c2 hi.ca hi.cb hi.la hi.lb (fun k => k < N ∧ k ≠ w.heap.size)
      (fun k hk => by have := hi.sz; omega) hi.fa hi.fb p q HP.out.1 HP.out.2 (by have := rightP_len a; have := rightP_len b; have := HL.out; omega) (by have := hi.lt; omega) (by have := hi.lt; omega)
      1 (w4.heap.size + 1) J hJ (by rw [HX.out]; exact hY) W hW h0
    rw [HX.out] at this; exact this
  case him =>
    rintro s A B hm ⟨h1, h2, h3⟩; have hlt := L0.out.lt; exact ⟨fun k hk hne => (hm.2 k (by omega)).trans (h1 k hk hne), (hm.2 _ (by omega)).trans h2, below_ext h3 hm.1 (fun k hk => hm.2 k (by omega))⟩
  case hib =>
    rintro s A B hs hm ⟨h1, h2, h0⟩; have hsz := L0.out.sz; have hlt := L0.out.lt; refine ⟨fun k hk hne => ?_, (hm _ (by omega) (by omega) (blk_lt h2)).trans h2, below_ext h0 hs (fun k hk => hm k (by omega) (by omega) (by have := h0.size; have := blk_lt h2; omega))⟩; refine (hm k (by omega) (by omega) ?_).trans (h1 k hk hne)
    rcases Nat.lt_or_ge k A.heap.size with h | h
    (exact h); (have h3 := h1 k hk hne; rw [Array.getElem?_eq_none h] at h3; have := Array.getElem?_eq_none_iff.1 h3.symm; omega)
  case assign =>
    rintro ⟨x1, x2⟩ W K hK; simp only [encB] at hK ⊢
    gi_wp2
    exact hK
  case body =>
    rintro pre ⟨o1, o2⟩ W ⟨h1, h2, h3⟩ hsz hpre; have H3 := Aside0.mk h3; have H1 := Aside0.mk h1; have H2 := Aside0.mk h2; obtain ⟨c, hc⟩ : ∃ c : Nat, pre.countP difO = c := ⟨_, rfl⟩
    have hcc : cntN pre = (c : Int) := by unfold cntN; rw [hc]
    have HCC := Aside0.mk hcc; rw [hcc] at h2; have hb0 : W.cell? ⟨w.heap.size, 0, none⟩ = some (.int .i64 (c : Int)) := (zC h2 0).trans rfl; have hf0 : W.frozen? ⟨w.heap.size, 0, none⟩ = false := zR h2 0
    have hw1 : Aside0 (wrap64 ((c : Int) + 1) = (c : Int) + 1) := ⟨by
      have e1 := List.countP_le_length (p := difO) (l := pre); have e2 := hpre.length_le; have e3 := els_len ((rightP a).length + (rightP b).length) p q (rightP a) (rightP b); rw [HX.out] at e3; have e4 := rightP_len a; have e5 := rightP_len b; have e6 := HL.out; simp only [List.length_append, List.length_singleton] at e2; rw [hc] at e1; unfold wrap64
      omega⟩
    have HO := HE.out (o1, o2) (hpre.subset (by simp)); have HPA := Aside0.mk hpre; have HSZ := Aside0.mk hsz; clear h1 h2 h3 hc hcc hpre hsz
    cases o1 with
    | none =>
      clear HO; simp only [ptrO, Option.map_none]
      gi_wp2
      refine startIn_ (n := 15) (S := (fun w' => True)) (ds := []) #[false, false, false, false, false, false, false, false, false, false, false, false, false, false, false] (by kernel_rfl) rfl rfl (by kernel_rfl) (by rintro ⟨_, _, h, _⟩; cases h) ?_ ?_
      · trivial
      intro hHeld; refine pure_ (i := 0) (N := some 15) (v := ?_) (a' := ?_) #[true, false, false, false, false, false, false, false, false, false, false, false, false, false, false] rfl rfl (by kernel_rfl) (fun _ _ _ h => h) (Or.inl ⟨by rfl, ?_⟩) ?_ ?_; rotate_left; (intro w'; go_simp; (with_reducible rfl)); rotate_left; (simp only [Act.put, List.setIfInBounds_toArray, List.set_cons_zero, List.set_cons_succ, i64_w, i32_w]; rfl); refine pure_ (i := 1) (N := some 16) (v := ?_) (a' := ?_) #[true, true, false, false, false, false, false, false, false, false, false, false, false, false, false] rfl rfl (by kernel_rfl) (fun _ _ _ h => h) (Or.inl ⟨by rfl, ?_⟩) ?_ ?_; rotate_left; (intro w'; go_simp; (with_reducible rfl)); rotate_left; (simp only [Act.put, List.setIfInBounds_toArray, List.set_cons_zero, List.set_cons_succ, i64_w, i32_w]; rfl); refine pure_ (i := 2) (N := some 17) (v := ?_) (a' := ?_) #[true, true, true, false, false, false, false, false, false, false, false, false, false, false, false] rfl rfl (by kernel_rfl) (fun _ _ _ h => h) (Or.inl ⟨by rfl, ?_⟩) ?_ ?_; rotate_left; (intro w'; go_simp; (with_reducible rfl)); rotate_left; (simp only [Act.put, List.setIfInBounds_toArray, List.set_cons_zero, List.set_cons_succ, i64_w, i32_w]; rfl); refine pure_ (i := 3) (N := some 18) (v := undef) (a' := ?_) #[true, true, true, true, false, false, false, false, false, false, false, false, false, false, false] rfl rfl (by kernel_rfl) (fun _ _ _ h => h) (Or.inr ⟨by rfl, rfl⟩) ?_ ?_; rotate_left; (simp only [Act.put, List.setIfInBounds_toArray, List.set_cons_zero, List.set_cons_succ, i64_w, i32_w]; rfl); refine pure_ (i := 4) (N := some 19) (v := undef) (a' := ?_) #[true, true, true, true, true, false, false, false, false, false, false, false, false, false, false] rfl rfl (by kernel_rfl) (fun _ _ _ h => h) (Or.inr ⟨by rfl, rfl⟩) ?_ ?_; rotate_left; (simp only [Act.put, List.setIfInBounds_toArray, List.set_cons_zero, List.set_cons_succ, i64_w, i32_w]; rfl); refine pure_ (i := 5) (N := some 20) (v := ?_) (a' := ?_) #[true, true, true, true, true, true, false, false, false, false, false, false, false, false, false] rfl rfl (by kernel_rfl) (fun _ _ _ h => h) (Or.inl ⟨by rfl, ?_⟩) ?_ ?_; rotate_left; (intro w'; go_simp; (with_reducible rfl)); rotate_left; (simp only [Act.put, List.setIfInBounds_toArray, List.set_cons_zero, List.set_cons_succ, i64_w, i32_w]; rfl); refine pure_ (i := 6) (N := some 21) (v := ?_) (a' := ?_) #[true, true, true, true, true, true, true, false, false, false, false, false, false, false, false] rfl rfl (by kernel_rfl) (fun _ _ _ h => h) (Or.inl ⟨by rfl, ?_⟩) ?_ ?_; rotate_left; (intro w'; go_simp; (with_reducible rfl)); rotate_left; (simp only [Act.put, List.setIfInBounds_toArray, List.set_cons_zero, List.set_cons_succ, i64_w, i32_w]; rfl); refine pure_ (i := 7) (N := some 22) (v := undef) (a' := ?_) #[true, true, true, true, true, true, true, true, false, false, false, false, false, false, false] rfl rfl (by kernel_rfl) (fun _ _ _ h => h) (Or.inr ⟨by rfl, rfl⟩) ?_ ?_; rotate_left; (simp only [Act.put, List.setIfInBounds_toArray, List.set_cons_zero, List.set_cons_succ, i64_w, i32_w]; rfl); refine pure_ (i := 8) (N := some 23) (v := undef) (a' := ?_) #[true, true, true, true, true, true, true, true, true, false, false, false, false, false, false] rfl rfl (by kernel_rfl) (fun _ _ _ h => h) (Or.inr ⟨by rfl, rfl⟩) ?_ ?_; rotate_left; (simp only [Act.put, List.setIfInBounds_toArray, List.set_cons_zero, List.set_cons_succ, i64_w, i32_w]; rfl); refine pure_ (i := 10) (N := some 25) (v := undef) (a' := ?_) #[true, true, true, true, true, true, true, true, true, false, true, false, false, false, false] rfl rfl (by kernel_rfl) (fun _ _ _ h => h) (Or.inr ⟨by rfl, rfl⟩) ?_ ?_; rotate_left; (simp only [Act.put, List.setIfInBounds_toArray, List.set_cons_zero, List.set_cons_succ, i64_w, i32_w]; rfl); refine pure_ (i := 11) (N := some 26) (v := undef) (a' := ?_) #[true, true, true, true, true, true, true, true, true, false, true, true, false, false, false] rfl rfl (by kernel_rfl) (fun _ _ _ h => h) (Or.inr ⟨by rfl, rfl⟩) ?_ ?_; rotate_left; (simp only [Act.put, List.setIfInBounds_toArray, List.set_cons_zero, List.set_cons_succ, i64_w, i32_w]; rfl); refine pure_ (i := 9) (N := some 24) (v := undef) (a' := ?_) #[true, true, true, true, true, true, true, true, true, true, true, true, false, false, false] rfl rfl (by kernel_rfl) (fun _ _ _ h => h) (Or.inr ⟨by rfl, rfl⟩) ?_ ?_; rotate_left; (simp only [Act.put, List.setIfInBounds_toArray, List.set_cons_zero, List.set_cons_succ, i64_w, i32_w]; rfl); refine pure_ (i := 12) (N := some 27) (v := undef) (a' := ?_) #[true, true, true, true, true, true, true, true, true, true, true, true, true, false, false] rfl rfl (by kernel_rfl) (fun _ _ _ h => h) (Or.inr ⟨by rfl, rfl⟩) ?_ ?_; rotate_left; (simp only [Act.put, List.setIfInBounds_toArray, List.set_cons_zero, List.set_cons_succ, i64_w, i32_w]; rfl); refine pure_ (i := 13) (N := some 28) (v := undef) (a' := ?_) #[true, true, true, true, true, true, true, true, true, true, true, true, true, true, false] rfl rfl (by kernel_rfl) (fun _ _ _ h => h) (Or.inr ⟨by rfl, rfl⟩) ?_ ?_; rotate_left; (simp only [Act.put, List.setIfInBounds_toArray, List.set_cons_zero, List.set_cons_succ, i64_w, i32_w]; rfl); refine pure_ (i := 14) (N := some 29) (v := ?_) (a' := ?_) #[true, true, true, true, true, true, true, true, true, true, true, true, true, true, true] rfl rfl (by kernel_rfl) (fun _ _ _ h => h) (Or.inl ⟨by rfl, ?_⟩) ?_ ?_; rotate_left; (intro w'; go_simp; (with_reducible rfl)); rotate_left; (simp only [Act.put, List.setIfInBounds_toArray, List.set_cons_zero, List.set_cons_succ, i64_w, i32_w]; rfl); refine done_ (by kernel_rfl) ?_
      gi_wp2
      refine ⟨?_, ?_, ?_, ?_⟩; (intro k hk; exact Below.heap_setCell W ⟨w.heap.size, 0, none⟩ _ k (show k ≠ w.heap.size by have := L0.out.lt; have := L0.out.sz; omega)); (intro k hk hne; exact (Below.heap_setCell W ⟨w.heap.size, 0, none⟩ _ k hne).trans (H1.out k hk hne))
      · have e1 : cntN (pre ++ [(none, o2)]) = (c : Int) + 1 := by rw [← HCC.out]; unfold cntN; rw [List.countP_append]; simp [difO]
        rw [e1, hw1.out]
        exact blk_set H2.out 0 _
      · exact (H3.out.setCell (p := ⟨w.heap.size, 0, none⟩) (Nat.le_refl _) _).drew
    | some px =>
      obtain ⟨p', x⟩ := px
      cases o2 with
      | none =>
        clear HO; simp only [ptrO, Option.map_none, Option.map_some]
        gi_wp2
        refine startIn_ (n := 15) (S := (fun w' => True)) (ds := []) #[false, false, false, false, false, false, false, false, false, false, false, false, false, false, false] (by kernel_rfl) rfl rfl (by kernel_rfl) (by rintro ⟨_, _, h, _⟩; cases h) ?_ ?_
        · trivial
        intro hHeld; refine pure_ (i := 0) (N := some 15) (v := ?_) (a' := ?_) #[true, false, false, false, false, false, false, false, false, false, false, false, false, false, false] rfl rfl (by kernel_rfl) (fun _ _ _ h => h) (Or.inl ⟨by rfl, ?_⟩) ?_ ?_; rotate_left; (intro w'; go_simp; (with_reducible rfl)); rotate_left; (simp only [Act.put, List.setIfInBounds_toArray, List.set_cons_zero, List.set_cons_succ, i64_w, i32_w]; rfl); refine pure_ (i := 1) (N := some 16) (v := ?_) (a' := ?_) #[true, true, false, false, false, false, false, false, false, false, false, false, false, false, false] rfl rfl (by kernel_rfl) (fun _ _ _ h => h) (Or.inl ⟨by rfl, ?_⟩) ?_ ?_; rotate_left; (intro w'; go_simp; (with_reducible rfl)); rotate_left; (simp only [Act.put, List.setIfInBounds_toArray, List.set_cons_zero, List.set_cons_succ, i64_w, i32_w]; rfl); refine pure_ (i := 2) (N := some 17) (v := ?_) (a' := ?_) #[true, true, true, false, false, false, false, false, false, false, false, false, false, false, false] rfl rfl (by kernel_rfl) (fun _ _ _ h => h) (Or.inl ⟨by rfl, ?_⟩) ?_ ?_; rotate_left; (intro w'; go_simp; (with_reducible rfl)); rotate_left; (simp only [Act.put, List.setIfInBounds_toArray, List.set_cons_zero, List.set_cons_succ, i64_w, i32_w]; rfl); refine pure_ (i := 3) (N := some 18) (v := ?_) (a' := ?_) #[true, true, true, true, false, false, false, false, false, false, false, false, false, false, false] rfl rfl (by kernel_rfl) (fun _ _ _ h => h) (Or.inl ⟨by rfl, ?_⟩) ?_ ?_; rotate_left; (intro w'; go_simp; (with_reducible rfl)); rotate_left; (simp only [Act.put, List.setIfInBounds_toArray, List.set_cons_zero, List.set_cons_succ, i64_w, i32_w]; rfl); refine pure_ (i := 4) (N := some 19) (v := ?_) (a' := ?_) #[true, true, true, true, true, false, false, false, false, false, false, false, false, false, false] rfl rfl (by kernel_rfl) (fun _ _ _ h => h) (Or.inl ⟨by rfl, ?_⟩) ?_ ?_; rotate_left; (intro w'; go_simp; (with_reducible rfl)); rotate_left; (simp only [Act.put, List.setIfInBounds_toArray, List.set_cons_zero, List.set_cons_succ, i64_w, i32_w]; rfl); refine pure_ (i := 5) (N := some 20) (v := ?_) (a' := ?_) #[true, true, true, true, true, true, false, false, false, false, false, false, false, false, false] rfl rfl (by kernel_rfl) (fun _ _ _ h => h) (Or.inl ⟨by rfl, ?_⟩) ?_ ?_; rotate_left; (intro w'; go_simp; (with_reducible rfl)); rotate_left; (simp only [Act.put, List.setIfInBounds_toArray, List.set_cons_zero, List.set_cons_succ, i64_w, i32_w]; rfl); refine pure_ (i := 6) (N := some 21) (v := ?_) (a' := ?_) #[true, true, true, true, true, true, true, false, false, false, false, false, false, false, false] rfl rfl (by kernel_rfl) (fun _ _ _ h => h) (Or.inl ⟨by rfl, ?_⟩) ?_ ?_; rotate_left; (intro w'; go_simp; (with_reducible rfl)); rotate_left; (simp only [Act.put, List.setIfInBounds_toArray, List.set_cons_zero, List.set_cons_succ, i64_w, i32_w]; rfl); refine pure_ (i := 7) (N := some 22) (v := undef) (a' := ?_) #[true, true, true, true, true, true, true, true, false, false, false, false, false, false, false] rfl rfl (by kernel_rfl) (fun _ _ _ h => h) (Or.inr ⟨by rfl, rfl⟩) ?_ ?_; rotate_left; (simp only [Act.put, List.setIfInBounds_toArray, List.set_cons_zero, List.set_cons_succ, i64_w, i32_w]; rfl); refine pure_ (i := 8) (N := some 23) (v := undef) (a' := ?_) #[true, true, true, true, true, true, true, true, true, false, false, false, false, false, false] rfl rfl (by kernel_rfl) (fun _ _ _ h => h) (Or.inr ⟨by rfl, rfl⟩) ?_ ?_; rotate_left; (simp only [Act.put, List.setIfInBounds_toArray, List.set_cons_zero, List.set_cons_succ, i64_w, i32_w]; rfl); refine pure_ (i := 10) (N := some 25) (v := undef) (a' := ?_) #[true, true, true, true, true, true, true, true, true, false, true, false, false, false, false] rfl rfl (by kernel_rfl) (fun _ _ _ h => h) (Or.inr ⟨by rfl, rfl⟩) ?_ ?_; rotate_left; (simp only [Act.put, List.setIfInBounds_toArray, List.set_cons_zero, List.set_cons_succ, i64_w, i32_w]; rfl); refine pure_ (i := 11) (N := some 26) (v := undef) (a' := ?_) #[true, true, true, true, true, true, true, true, true, false, true, true, false, false, false] rfl rfl (by kernel_rfl) (fun _ _ _ h => h) (Or.inr ⟨by rfl, rfl⟩) ?_ ?_; rotate_left; (simp only [Act.put, List.setIfInBounds_toArray, List.set_cons_zero, List.set_cons_succ, i64_w, i32_w]; rfl); refine pure_ (i := 9) (N := some 24) (v := undef) (a' := ?_) #[true, true, true, true, true, true, true, true, true, true, true, true, false, false, false] rfl rfl (by kernel_rfl) (fun _ _ _ h => h) (Or.inr ⟨by rfl, rfl⟩) ?_ ?_; rotate_left; (simp only [Act.put, List.setIfInBounds_toArray, List.set_cons_zero, List.set_cons_succ, i64_w, i32_w]; rfl); refine pure_ (i := 12) (N := some 27) (v := undef) (a' := ?_) #[true, true, true, true, true, true, true, true, true, true, true, true, true, false, false] rfl rfl (by kernel_rfl) (fun _ _ _ h => h) (Or.inr ⟨by rfl, rfl⟩) ?_ ?_; rotate_left; (simp only [Act.put, List.setIfInBounds_toArray, List.set_cons_zero, List.set_cons_succ, i64_w, i32_w]; rfl); refine pure_ (i := 13) (N := some 28) (v := undef) (a' := ?_) #[true, true, true, true, true, true, true, true, true, true, true, true, true, true, false] rfl rfl (by kernel_rfl) (fun _ _ _ h => h) (Or.inr ⟨by rfl, rfl⟩) ?_ ?_; rotate_left; (simp only [Act.put, List.setIfInBounds_toArray, List.set_cons_zero, List.set_cons_succ, i64_w, i32_w]; rfl); refine pure_ (i := 14) (N := some 29) (v := ?_) (a' := ?_) #[true, true, true, true, true, true, true, true, true, true, true, true, true, true, true] rfl rfl (by kernel_rfl) (fun _ _ _ h => h) (Or.inl ⟨by rfl, ?_⟩) ?_ ?_; rotate_left; (intro w'; go_simp; (with_reducible rfl)); rotate_left; (simp only [Act.put, List.setIfInBounds_toArray, List.set_cons_zero, List.set_cons_succ, i64_w, i32_w]; rfl); refine done_ (by kernel_rfl) ?_
        gi_wp2
        refine ⟨?_, ?_, ?_, ?_⟩; (intro k hk; exact Below.heap_setCell W ⟨w.heap.size, 0, none⟩ _ k (show k ≠ w.heap.size by have := L0.out.lt; have := L0.out.sz; omega)); (intro k hk hne; exact (Below.heap_setCell W ⟨w.heap.size, 0, none⟩ _ k hne).trans (H1.out k hk hne))
        · have e1 : cntN (pre ++ [(some (p', x), none)]) = (c : Int) + 1 := by rw [← HCC.out]; unfold cntN; rw [List.countP_append]; simp [difO]
          rw [e1, hw1.out]
          exact blk_set H2.out 0 _
        · exact (H3.out.setCell (p := ⟨w.heap.size, 0, none⟩) (Nat.le_refl _) _).drew
      | some qy =>
        obtain ⟨q', y⟩ := qy; obtain ⟨k1, k2⟩ := HO.1 p' x rfl W (fun k hk => H1.out k hk.1 hk.2); obtain ⟨k3, k4⟩ := HO.2 q' y rfl W (fun k hk => H1.out k hk.1 hk.2); clear HO; simp only [ptrO, Option.map_none, Option.map_some]
        cases hes : eqS x y with
        | false =>
          gi_wp2
          refine startIn_ (n := 15) (S := (fun w' => w'.cell? p' = some (.string x.f0) ∧ w'.cell? ⟨p'.block, p'.off + 1, none⟩ = some (.string x.f1) ∧ w'.cell? q' = some (.string y.f0) ∧ w'.cell? ⟨q'.block, q'.off + 1, none⟩ = some (.string y.f1))) (ds := []) #[false, false, false, false, false, false, false, false, false, false, false, false, false, false, false] (by kernel_rfl) rfl rfl (by kernel_rfl) (by rintro ⟨_, _, h, _⟩; cases h) ?_ ?_
          · (first | exact ⟨by assumption, by assumption, by assumption, by assumption⟩ | assumption)
          intro hHeld; refine pure_ (i := 0) (N := some 15) (v := ?_) (a' := ?_) #[true, false, false, false, false, false, false, false, false, false, false, false, false, false, false] rfl rfl (by kernel_rfl) (fun _ _ _ h => h) (Or.inl ⟨by rfl, ?_⟩) ?_ ?_; rotate_left; (intro w'; go_simp; (with_reducible rfl)); rotate_left; (simp only [Act.put, List.setIfInBounds_toArray, List.set_cons_zero, List.set_cons_succ, i64_w, i32_w]; rfl); refine pure_ (i := 1) (N := some 16) (v := ?_) (a' := ?_) #[true, true, false, false, false, false, false, false, false, false, false, false, false, false, false] rfl rfl (by kernel_rfl) (fun _ _ _ h => h) (Or.inl ⟨by rfl, ?_⟩) ?_ ?_; rotate_left; (intro w'; go_simp; (with_reducible rfl)); rotate_left; (simp only [Act.put, List.setIfInBounds_toArray, List.set_cons_zero, List.set_cons_succ, i64_w, i32_w]; rfl); refine pure_ (i := 2) (N := some 17) (v := ?_) (a' := ?_) #[true, true, true, false, false, false, false, false, false, false, false, false, false, false, false] rfl rfl (by kernel_rfl) (fun _ _ _ h => h) (Or.inl ⟨by rfl, ?_⟩) ?_ ?_; rotate_left; (intro w'; go_simp; (with_reducible rfl)); rotate_left; (simp only [Act.put, List.setIfInBounds_toArray, List.set_cons_zero, List.set_cons_succ, i64_w, i32_w]; rfl); refine pure_ (i := 3) (N := some 18) (v := ?_) (a' := ?_) #[true, true, true, true, false, false, false, false, false, false, false, false, false, false, false] rfl rfl (by kernel_rfl) (fun _ _ _ h => h) (Or.inl ⟨by rfl, ?_⟩) ?_ ?_; rotate_left; (intro w'; go_simp; (with_reducible rfl)); rotate_left; (simp only [Act.put, List.setIfInBounds_toArray, List.set_cons_zero, List.set_cons_succ, i64_w, i32_w]; rfl); refine pure_ (i := 4) (N := some 19) (v := ?_) (a' := ?_) #[true, true, true, true, true, false, false, false, false, false, false, false, false, false, false] rfl rfl (by kernel_rfl) (fun _ _ _ h => h) (Or.inl ⟨by rfl, ?_⟩) ?_ ?_; rotate_left; (intro w'; go_simp; (with_reducible rfl)); rotate_left; (simp only [Act.put, List.setIfInBounds_toArray, List.set_cons_zero, List.set_cons_succ, i64_w, i32_w]; rfl); refine pure_ (i := 5) (N := some 20) (v := ?_) (a' := ?_) #[true, true, true, true, true, true, false, false, false, false, false, false, false, false, false] rfl rfl (by kernel_rfl) (fun _ _ _ h => h) (Or.inl ⟨by rfl, ?_⟩) ?_ ?_; rotate_left; (intro w'; go_simp; (with_reducible rfl)); rotate_left; (simp only [Act.put, List.setIfInBounds_toArray, List.set_cons_zero, List.set_cons_succ, i64_w, i32_w]; rfl); refine pure_ (i := 6) (N := some 21) (v := ?_) (a' := ?_) #[true, true, true, true, true, true, true, false, false, false, false, false, false, false, false] rfl rfl (by kernel_rfl) (fun _ _ _ h => h) (Or.inl ⟨by rfl, ?_⟩) ?_ ?_; rotate_left; (intro w'; go_simp; (with_reducible rfl)); rotate_left; (simp only [Act.put, List.setIfInBounds_toArray, List.set_cons_zero, List.set_cons_succ, i64_w, i32_w]; rfl); refine pure_ (i := 7) (N := some 22) (v := ?_) (a' := ?_) #[true, true, true, true, true, true, true, true, false, false, false, false, false, false, false] rfl rfl (by kernel_rfl) (fun _ _ _ h => h) (Or.inl ⟨by rfl, ?_⟩) ?_ ?_; rotate_left; (intro w'; go_simp; (with_reducible rfl)); rotate_left; (simp only [Act.put, List.setIfInBounds_toArray, List.set_cons_zero, List.set_cons_succ, i64_w, i32_w]; rfl); refine pure_ (i := 8) (N := some 23) (v := ?_) (a' := ?_) #[true, true, true, true, true, true, true, true, true, false, false, false, false, false, false] rfl rfl (by kernel_rfl) (fun _ _ _ h => h) (Or.inl ⟨by rfl, ?_⟩) ?_ ?_; rotate_left; (intro w'; go_simp; (with_reducible rfl)); rotate_left; (simp only [Act.put, List.setIfInBounds_toArray, List.set_cons_zero, List.set_cons_succ, i64_w, i32_w]; rfl); refine pure_ (i := 10) (N := some 25) (v := ?_) (a' := ?_) #[true, true, true, true, true, true, true, true, true, false, true, false, false, false, false] rfl rfl (by kernel_rfl) (fun _ _ _ h => h) (Or.inl ⟨by rfl, ?_⟩) ?_ ?_; rotate_left; (intro w'; go_simp; (with_reducible rfl)); rotate_left; (simp only [Act.put, List.setIfInBounds_toArray, List.set_cons_zero, List.set_cons_succ, i64_w, i32_w]; rfl); refine pure_ (i := 11) (N := some 26) (v := ?_) (a' := ?_) #[true, true, true, true, true, true, true, true, true, false, true, true, false, false, false] rfl rfl (by kernel_rfl) (fun _ _ _ h => h) (Or.inl ⟨by rfl, ?_⟩) ?_ ?_; rotate_left; (intro w'; go_simp; (with_reducible rfl)); rotate_left; (simp only [Act.put, List.setIfInBounds_toArray, List.set_cons_zero, List.set_cons_succ, i64_w, i32_w]; rfl); refine take_ (i := 9) (N := some 24) (v := ?_) (a' := ?_) #[true, true, true, true, true, true, true, true, true, true, true, true, false, false, false] rfl rfl (by kernel_rfl) (fun _ _ _ h => h) (Or.inl ⟨by rfl, ?_⟩) hHeld ?_ ?_; rotate_left; (rintro w' ⟨s0, s1, s2, s3⟩; go_simp; (with_reducible rfl)); rotate_left; (simp only [Act.put, List.setIfInBounds_toArray, List.set_cons_zero, List.set_cons_succ, i64_w, i32_w]; rfl); refine take_ (i := 12) (N := some 27) (v := ?_) (a' := ?_) #[true, true, true, true, true, true, true, true, true, true, true, true, true, false, false] rfl rfl (by kernel_rfl) (fun _ _ _ h => h) (Or.inl ⟨by rfl, ?_⟩) hHeld ?_ ?_; rotate_left; (rintro w' ⟨s0, s1, s2, s3⟩; go_simp; (with_reducible rfl)); rotate_left; (simp only [Act.put, List.setIfInBounds_toArray, List.set_cons_zero, List.set_cons_succ, i64_w, i32_w]; rfl); refine pure_ (i := 13) (N := some 28) (v := ?_) (a' := ?_) #[true, true, true, true, true, true, true, true, true, true, true, true, true, true, false] rfl rfl (by kernel_rfl) (fun _ _ _ h => h) (Or.inl ⟨by rfl, ?_⟩) ?_ ?_; rotate_left; (intro w'; go_simp; (with_reducible rfl)); rotate_left; (simp only [Act.put, List.setIfInBounds_toArray, List.set_cons_zero, List.set_cons_succ, i64_w, i32_w]; rfl); refine pure_ (i := 14) (N := some 29) (v := ?_) (a' := ?_) #[true, true, true, true, true, true, true, true, true, true, true, true, true, true, true] rfl rfl (by kernel_rfl) (fun _ _ _ h => h) (Or.inl ⟨by rfl, ?_⟩) ?_ ?_; rotate_left; (intro w'; go_simp; (with_reducible rfl)); rotate_left; (simp only [Act.put, List.setIfInBounds_toArray, List.set_cons_zero, List.set_cons_succ, i64_w, i32_w]; rfl); refine done_ (by kernel_rfl) ?_; have HES := Aside0.mk hes
          gi_wp2
          refine ⟨?_, ?_, ?_, ?_⟩; (intro k hk; exact Below.heap_setCell W ⟨w.heap.size, 0, none⟩ _ k (show k ≠ w.heap.size by have := L0.out.lt; have := L0.out.sz; omega)); (intro k hk hne; exact (Below.heap_setCell W ⟨w.heap.size, 0, none⟩ _ k hne).trans (H1.out k hk hne))
          · have e1 : cntN (pre ++ [(some (p', x), some (q', y))]) = (c : Int) + 1 := by rw [← HCC.out]; unfold cntN; rw [List.countP_append]; simp [difO, HES.out]
            rw [e1, hw1.out]
            exact blk_set H2.out 0 _
          · exact (H3.out.setCell (p := ⟨w.heap.size, 0, none⟩) (Nat.le_refl _) _).drew
        | true =>
          gi_wp2
          refine startIn_ (n := 15) (S := (fun w' => w'.cell? p' = some (.string x.f0) ∧ w'.cell? ⟨p'.block, p'.off + 1, none⟩ = some (.string x.f1) ∧ w'.cell? q' = some (.string y.f0) ∧ w'.cell? ⟨q'.block, q'.off + 1, none⟩ = some (.string y.f1))) (ds := []) #[false, false, false, false, false, false, false, false, false, false, false, false, false, false, false] (by kernel_rfl) rfl rfl (by kernel_rfl) (by rintro ⟨_, _, h, _⟩; cases h) ?_ ?_
          · (first | exact ⟨by assumption, by assumption, by assumption, by assumption⟩ | assumption)
          intro hHeld; refine pure_ (i := 0) (N := some 15) (v := ?_) (a' := ?_) #[true, false, false, false, false, false, false, false, false, false, false, false, false, false, false] rfl rfl (by kernel_rfl) (fun _ _ _ h => h) (Or.inl ⟨by rfl, ?_⟩) ?_ ?_; rotate_left; (intro w'; go_simp; (with_reducible rfl)); rotate_left; (simp only [Act.put, List.setIfInBounds_toArray, List.set_cons_zero, List.set_cons_succ, i64_w, i32_w]; rfl); refine pure_ (i := 1) (N := some 16) (v := ?_) (a' := ?_) #[true, true, false, false, false, false, false, false, false, false, false, false, false, false, false] rfl rfl (by kernel_rfl) (fun _ _ _ h => h) (Or.inl ⟨by rfl, ?_⟩) ?_ ?_; rotate_left; (intro w'; go_simp; (with_reducible rfl)); rotate_left; (simp only [Act.put, List.setIfInBounds_toArray, List.set_cons_zero, List.set_cons_succ, i64_w, i32_w]; rfl); refine pure_ (i := 2) (N := some 17) (v := ?_) (a' := ?_) #[true, true, true, false, false, false, false, false, false, false, false, false, false, false, false] rfl rfl (by kernel_rfl) (fun _ _ _ h => h) (Or.inl ⟨by rfl, ?_⟩) ?_ ?_; rotate_left; (intro w'; go_simp; (with_reducible rfl)); rotate_left; (simp only [Act.put, List.setIfInBounds_toArray, List.set_cons_zero, List.set_cons_succ, i64_w, i32_w]; rfl); refine pure_ (i := 3) (N := some 18) (v := ?_) (a' := ?_) #[true, true, true, true, false, false, false, false, false, false, false, false, false, false, false] rfl rfl (by kernel_rfl) (fun _ _ _ h => h) (Or.inl ⟨by rfl, ?_⟩) ?_ ?_; rotate_left; (intro w'; go_simp; (with_reducible rfl)); rotate_left; (simp only [Act.put, List.setIfInBounds_toArray, List.set_cons_zero, List.set_cons_succ, i64_w, i32_w]; rfl); refine pure_ (i := 4) (N := some 19) (v := ?_) (a' := ?_) #[true, true, true, true, true, false, false, false, false, false, false, false, false, false, false] rfl rfl (by kernel_rfl) (fun _ _ _ h => h) (Or.inl ⟨by rfl, ?_⟩) ?_ ?_; rotate_left; (intro w'; go_simp; (with_reducible rfl)); rotate_left; (simp only [Act.put, List.setIfInBounds_toArray, List.set_cons_zero, List.set_cons_succ, i64_w, i32_w]; rfl); refine pure_ (i := 5) (N := some 20) (v := ?_) (a' := ?_) #[true, true, true, true, true, true, false, false, false, false, false, false, false, false, false] rfl rfl (by kernel_rfl) (fun _ _ _ h => h) (Or.inl ⟨by rfl, ?_⟩) ?_ ?_; rotate_left; (intro w'; go_simp; (with_reducible rfl)); rotate_left; (simp only [Act.put, List.setIfInBounds_toArray, List.set_cons_zero, List.set_cons_succ, i64_w, i32_w]; rfl); refine pure_ (i := 6) (N := some 21) (v := ?_) (a' := ?_) #[true, true, true, true, true, true, true, false, false, false, false, false, false, false, false] rfl rfl (by kernel_rfl) (fun _ _ _ h => h) (Or.inl ⟨by rfl, ?_⟩) ?_ ?_; rotate_left; (intro w'; go_simp; (with_reducible rfl)); rotate_left; (simp only [Act.put, List.setIfInBounds_toArray, List.set_cons_zero, List.set_cons_succ, i64_w, i32_w]; rfl); refine pure_ (i := 7) (N := some 22) (v := ?_) (a' := ?_) #[true, true, true, true, true, true, true, true, false, false, false, false, false, false, false] rfl rfl (by kernel_rfl) (fun _ _ _ h => h) (Or.inl ⟨by rfl, ?_⟩) ?_ ?_; rotate_left; (intro w'; go_simp; (with_reducible rfl)); rotate_left; (simp only [Act.put, List.setIfInBounds_toArray, List.set_cons_zero, List.set_cons_succ, i64_w, i32_w]; rfl); refine pure_ (i := 8) (N := some 23) (v := ?_) (a' := ?_) #[true, true, true, true, true, true, true, true, true, false, false, false, false, false, false] rfl rfl (by kernel_rfl) (fun _ _ _ h => h) (Or.inl ⟨by rfl, ?_⟩) ?_ ?_; rotate_left; (intro w'; go_simp; (with_reducible rfl)); rotate_left; (simp only [Act.put, List.setIfInBounds_toArray, List.set_cons_zero, List.set_cons_succ, i64_w, i32_w]; rfl); refine pure_ (i := 10) (N := some 25) (v := ?_) (a' := ?_) #[true, true, true, true, true, true, true, true, true, false, true, false, false, false, false] rfl rfl (by kernel_rfl) (fun _ _ _ h => h) (Or.inl ⟨by rfl, ?_⟩) ?_ ?_; rotate_left; (intro w'; go_simp; (with_reducible rfl)); rotate_left; (simp only [Act.put, List.setIfInBounds_toArray, List.set_cons_zero, List.set_cons_succ, i64_w, i32_w]; rfl); refine pure_ (i := 11) (N := some 26) (v := ?_) (a' := ?_) #[true, true, true, true, true, true, true, true, true, false, true, true, false, false, false] rfl rfl (by kernel_rfl) (fun _ _ _ h => h) (Or.inl ⟨by rfl, ?_⟩) ?_ ?_; rotate_left; (intro w'; go_simp; (with_reducible rfl)); rotate_left; (simp only [Act.put, List.setIfInBounds_toArray, List.set_cons_zero, List.set_cons_succ, i64_w, i32_w]; rfl); refine take_ (i := 9) (N := some 24) (v := ?_) (a' := ?_) #[true, true, true, true, true, true, true, true, true, true, true, true, false, false, false] rfl rfl (by kernel_rfl) (fun _ _ _ h => h) (Or.inl ⟨by rfl, ?_⟩) hHeld ?_ ?_; rotate_left; (rintro w' ⟨s0, s1, s2, s3⟩; go_simp; (with_reducible rfl)); rotate_left; (simp only [Act.put, List.setIfInBounds_toArray, List.set_cons_zero, List.set_cons_succ, i64_w, i32_w]; rfl); refine take_ (i := 12) (N := some 27) (v := ?_) (a' := ?_) #[true, true, true, true, true, true, true, true, true, true, true, true, true, false, false] rfl rfl (by kernel_rfl) (fun _ _ _ h => h) (Or.inl ⟨by rfl, ?_⟩) hHeld ?_ ?_; rotate_left; (rintro w' ⟨s0, s1, s2, s3⟩; go_simp; (with_reducible rfl)); rotate_left; (simp only [Act.put, List.setIfInBounds_toArray, List.set_cons_zero, List.set_cons_succ, i64_w, i32_w]; rfl); refine pure_ (i := 13) (N := some 28) (v := ?_) (a' := ?_) #[true, true, true, true, true, true, true, true, true, true, true, true, true, true, false] rfl rfl (by kernel_rfl) (fun _ _ _ h => h) (Or.inl ⟨by rfl, ?_⟩) ?_ ?_; rotate_left; (intro w'; go_simp; (with_reducible rfl)); rotate_left; (simp only [Act.put, List.setIfInBounds_toArray, List.set_cons_zero, List.set_cons_succ, i64_w, i32_w]; rfl); refine pure_ (i := 14) (N := some 29) (v := ?_) (a' := ?_) #[true, true, true, true, true, true, true, true, true, true, true, true, true, true, true] rfl rfl (by kernel_rfl) (fun _ _ _ h => h) (Or.inl ⟨by rfl, ?_⟩) ?_ ?_; rotate_left; (intro w'; go_simp; (with_reducible rfl)); rotate_left; (simp only [Act.put, List.setIfInBounds_toArray, List.set_cons_zero, List.set_cons_succ, i64_w, i32_w]; rfl); refine done_ (by kernel_rfl) ?_; have HES := Aside0.mk hes
          gi_wp2
          refine ⟨fun _ _ => rfl, H1.out, ?_, H3.out.drew⟩
          have e1 : cntN (pre ++ [(some (p', x), some (q', y))]) = cntN pre := by unfold cntN; rw [List.countP_append]; simp [difO, HES.out]
          rw [e1]; exact H2.out
  case done =>
    rintro W ⟨h1, h2, h3⟩ hd; have H3 := Aside0.mk h3; have H1 := Aside0.mk h1; have H2 := Aside0.mk h2; have hb0 : W.cell? ⟨w.heap.size, 0, none⟩ = some (.int .i64 (cntN xs)) := (zC h2 0).trans rfl; clear h1 h2 h3
    go_wp2_with fail
    have HD := Aside0.mk hd; refine ⟨by simp, .inl ⟨_, _, rfl, run_takeDeferred hd, ?_⟩⟩; refine ⟨_, results_tmp rfl _ _ _, p, q, ?_, ?_⟩; (rw [HX.out]; rfl); (have hsz := L0.out.sz; have hlt := L0.out.lt; have hlt2 := H3.out.size; exact below_ext H3.out (put_below _ _ _) (fun k hk => World.putObj_heap_other (by omega)))
end Go.Proofs.Ytmpdbblljofjfaa.G
namespace Go.Proofs.Ytmpdbblljofjfaa.G
open Go.RowKit Go.Proofs.YtmpdbblljofjfaaW.PrintWords Go.Proofs.YtmpdbblljofjfaaW.PrintLast Go.Proofs.YtmpdbblljofjfaaW.PrintMore
set_option linter.unusedVariables false
set_option linter.unusedSimpArgs false
attribute [local go_sem] Oper.semAt_some
attribute [local go_sem high] eqS_run
def ofO (el : El) : Option S31 := match el.1, el.2 with
  | some (_, x), some (_, y) => if eqS x y = true then none else some ⟨y.f0, y.f1, false⟩
  | some (_, x), none => some ⟨x.f0, ⟨#[]⟩, true⟩
  | none, some (_, y) => some ⟨y.f0, y.f1, false⟩
  | none, none => none
def outT (pre : List El) : List S31 := pre.filterMap ofO
theorem outT_some (pre : List El) (el : El) (c : S31) (h : ofO el = some c) : outT (pre ++ [el]) = outT pre ++ [c] := by
  unfold outT; rw [List.filterMap_append]; simp [List.filterMap_cons, h]
theorem outT_none (pre : List El) (el : El) (h : ofO el = none) : outT (pre ++ [el]) = outT pre := by
  unfold outT; rw [List.filterMap_append]; simp [List.filterMap_cons, h]
theorem outT_len (pre : List El) : (outT pre).length ≤ pre.length := List.length_filterMap_le _ _
theorem els_any : ∀ (n : Nat) (p q : Addr) (r s : List S43), ∀ el ∈ els n p q r s, ¬ (el.1 = none ∧ el.2 = none)
  | 0, _, _, _, _, el, h => by cases h
  | n + 1, p, q, r, s, el, h => by
    unfold els at h
    split at h
    · cases h
    · rcases List.mem_cons.1 h with rfl | h
      · rintro ⟨h1, _⟩; cases h1
      · exact els_any n _ _ _ _ el h
    · rcases List.mem_cons.1 h with rfl | h
      · rintro ⟨_, h1⟩; cases h1
      · exact els_any n _ _ _ _ el h
    · split at h
      · split at h
        · rcases List.mem_cons.1 h with rfl | h
          · rintro ⟨h1, _⟩; cases h1
          · exact els_any n _ _ _ _ el h
        · rcases List.mem_cons.1 h with rfl | h
          · rintro ⟨h1, _⟩; cases h1
          · exact els_any n _ _ _ _ el h
      · rcases List.mem_cons.1 h with rfl | h
        · rintro ⟨_, h1⟩; cases h1
        · exact els_any n _ _ _ _ el h
theorem info31 : (Try.prog.info? 31).map (fun i => (i.zero, i.size, i.bytes)) = some (some (.agg #[.string ⟨#[]⟩, .string ⟨#[]⟩, .bool false]), 3, 40) := by kernel_rfl
structure IO (w w4 : World) (N : Nat) (pre : List El) (W : World) : Prop where
  h1 : ∀ k, k < N → k ≠ w.heap.size → W.heap[k]? = w4.heap[k]?
  bx : ∃ A n c, W.heap[w.heap.size]? = some (.cells #[.slice A n c] 25 (0, 0)) ∧ Kd.R k31 31 W (w4.heap.size + 2) (fun k => w4.heap.size + 2 ≤ k) (.slice A n c) (outT pre)
  h3 : Below w.heap.size w W
set_option maxHeartbeats 4000000 in
set_option maxRecDepth 100000 in
theorem Of_walk (A0 B0 : Option Addr) (ca cb : Nat) (a b : List S43) (w : World) (hA : Kd.C k43 w A0 a.length a) (hB : Kd.C k43 w B0 b.length b) (ha : a.length ≤ ca) (hb : b.length ≤ cb) (la : a.length ≤ 1000000) (lb : b.length ≤ 1000000) :
    Calls Try.prog 8 #[.slice A0 a.length ca, .slice B0 b.length cb] w fun e w' => ∃ p q v, e = .returned v ∧ Kd.R k31 31 w' w.heap.size (fun _ => True) v (outT (els ((rightP a).length + (rightP b).length) p q (rightP a) (rightP b))) ∧ Below w.heap.size w w' := by
  have HA := Aside0.mk (Kd.C_F k43_heap hA); have HB := Aside0.mk (Kd.C_F k43_heap hB); have HL := Aside0.mk (And.intro ha (And.intro hb (And.intro la lb))); clear hA hB ha hb la lb; refine callsIn_wide.1 (callsIn_of_wp_marks (n := 3) Try.func8 rfl trivial ?_ rfl); simp only [Try.ntmps8, List.size_toArray, List.length_cons, List.length_nil, Nat.reduceAdd, Nat.reduceSub, Array.replicate_succ, Array.replicate_zero, List.push_toArray, List.append_toArray, List.nil_append, List.cons_append]; refine wpIn_wide.2 ?_
  go_wp2_with fail
  obtain ⟨w1, hw1⟩ : ∃ w1, w.alloc (Obj.cells #[Value.slice none 0 0] 25) = w1 := ⟨_, rfl⟩; rw [hw1]; have Z1 := Aside0.mk (show w1.heap.size = w.heap.size + 1 from by rw [← hw1]; simp); have B1_ := Aside0.mk (show Below w.heap.size w w1 from by rw [← hw1]; exact (Below.refl _ w).alloc (Nat.le_refl _) _); have T1 := Aside0.mk (show w1.heap[w.heap.size]? = some (.cells #[.slice none 0 0] 25 (0, 0)) from by rw [← hw1]; exact blk_new w _); clear hw1; refine (right_walk A0 ca a w1 (fun k => k < w.heap.size) (F_to HA.out B1_.out (fun _ h => h) (fun _ h => h)) (fun k hk => by have := Z1.out; omega) HL.out.1 HL.out.2.2.1).mono ?_; rintro e w2 ⟨A1, c1, rfl, hc1, hF1, hb1⟩; have F1 := Aside0.mk hF1; have C1 := Aside0.mk hc1; have B2_ := Aside0.mk hb1; clear hc1 hF1 hb1
  go_wp2_with fail
  refine (right_walk B0 cb b w2 (fun k => k < w.heap.size) (F_to HB.out (B1_.out.trans (B2_.out.mono B1_.out.size)) (fun _ h => h) (fun _ h => h)) (fun k hk => by have := Z1.out; have := B2_.out.size; omega) HL.out.2.1 HL.out.2.2.2).mono ?_; rintro e w3 ⟨A2, c2, rfl, hc2, hF2, hb2⟩; have F2 := Aside0.mk hF2; have C2 := Aside0.mk hc2; have B3_ := Aside0.mk hb2; clear hc2 hF2 hb2; obtain ⟨n1, hn1⟩ : ∃ n, (rightP a).length = n := ⟨_, rfl⟩; obtain ⟨n2, hn2⟩ : ∃ n, (rightP b).length = n := ⟨_, rfl⟩; have HN := Aside0.mk (And.intro hn1 hn2); rw [hn1, hn2]; clear hn1 hn2
  go_wp2_with (go_at_call 16; refine (both_walk A1 A2 n1 n2 c1 c2 w3).mono ?_; rintro e w4 ⟨rfl, hw4⟩; have HW4 := Aside0.mk hw4; clear hw4)
  have L0 : Aside0 (Loop0 w w4 a b A1 A2 c1 c2 w3.heap.size) := ⟨by
    have hw4 := HW4.out; obtain ⟨hn1, hn2⟩ := HN.out; have h1 := Z1.out; have h2 := B2_.out.size; have h3 := B3_.out.size
    have b4 : Below w3.heap.size w3 w4 := by rw [hw4]; exact ((Below.refl _ w3).alloc (Nat.le_refl _) _).alloc (by simp) _
    refine ⟨by rw [hw4]; simp, by omega, C1.out, C2.out, ?_, ?_, ?_, ?_, ?_⟩; (rw [hw4, hn1]; exact zF (blk_new w3 _) _); (rw [hw4, hn2]; have := blk_new (w3.alloc (Obj.cells #[Value.slice A1 n1 c1] 22)) (Obj.cells #[Value.slice A2 n2 c2] 22); simpa using this); (exact F_to F1.out ((B3_.out.trans (b4.mono B3_.out.size))) (fun k hk => hk.2) (fun k hk => by omega)); (exact F_to F2.out b4 (fun k hk => hk.2) (fun k hk => by omega))
    · exact (B1_.out.trans (B2_.out.mono B1_.out.size)).trans ((B3_.out.trans (b4.mono B3_.out.size)).mono (by omega))⟩
  have T4 : Aside0 (w4.heap[w.heap.size]? = some (.cells #[.slice none 0 0] 25 (0, 0))) := ⟨by
    have hw4 := HW4.out; have h1 := Z1.out; have h2 := B2_.out.size; have h3 := B3_.out.size; rw [hw4]
    exact zF (zF ((B3_.out.block _ (by omega)).trans ((B2_.out.block _ (by omega)).trans T1.out)) _) _⟩
  clear F1 F2 C1 C2 B1_ B2_ B3_ Z1 T1 HW4 HA HB; obtain ⟨N, hN⟩ : ∃ N, w3.heap.size = N := ⟨_, rfl⟩; rw [hN] at L0; rw [hN]; clear hN; obtain ⟨p, hp⟩ : ∃ p : Addr, A1.getD ⟨0, 0, none⟩ = p := ⟨_, rfl⟩; obtain ⟨q, hq⟩ : ∃ q : Addr, A2.getD ⟨0, 0, none⟩ = q := ⟨_, rfl⟩; obtain ⟨xs, hxs⟩ : ∃ xs, els ((rightP a).length + (rightP b).length) p q (rightP a) (rightP b) = xs := ⟨_, rfl⟩; have HX := Aside0.mk hxs; have HP : Aside0 ((rightP a ≠ [] → A1 = some p) ∧ (rightP b ≠ [] → A2 = some q)) := ⟨fun h => hp ▸ F_some L0.out.fa h, fun h => hq ▸ F_some L0.out.fb h⟩; have HE := Aside0.mk (show ∀ el ∈ xs, okO w4 (fun k => k < N ∧ k ≠ w.heap.size) el.1 ∧ okO w4 (fun k => k < N ∧ k ≠ w.heap.size) el.2 from hxs ▸ els_ok w4 _ _ p q (rightP a) (rightP b) A1 A2 HP.out.1 HP.out.2 L0.out.fa L0.out.fb); clear hp hq hxs; refine (wpIn_wide (n := 3)).1 ?_
  refine range_steps (F := Fence.wide) (n := 3) rfl (by decide) (gf := 24) (lb := #[.pointer (some ⟨N, 0, none⟩), .pointer (some ⟨N + 1, 0, none⟩)]) rfl trivial (enters_of Try.func24 (by kernel_rfl) rfl)
    encB (fun _ => rfl) (fun k => k = N ∨ k = N + 1) (fun k => k < w4.heap.size ∧ k ≠ w.heap.size) (fun k hk => by have := L0.out.sz; omega) (fun k hk => hk.1) xs ?hit
    (IO w w4 N) ?him ?hib ⟨fun _ _ _ => rfl, ⟨none, 0, 0, T4.out, Kd.R_nil _ _ _ _ _⟩, L0.out.bl⟩
    (fun x => { tmps := #[Value.slice A0 a.length ca, Value.slice B0 b.length cb, undef, undef, Value.slice none 0 0,
          Value.pointer (some { block := w.heap.size, off := 0 }), ptrO x.1, ptrO x.2, Value.slice A0 a.length ca,
          Value.slice A1 n1 c1, Value.slice B0 b.length cb, Value.slice A2 n2 c2,
          Value.func (Fn.func 24) #[]
            #[Value.pointer (some { block := N, off := 0 }),
              Value.pointer (some { block := N + 1, off := 0 })],
          ptrO x.1, ptrO x.2, undef, undef, undef, undef, undef, undef, undef, undef, undef, undef, undef, undef, undef, undef, undef, undef, undef, undef, undef, undef, undef, undef, undef, undef, undef, undef, undef, undef, undef, undef, undef, undef, undef, undef, undef, undef], defers := [] }) ?assign ?body ?done
  case hit =>
    intro J hJ hY W hW h0; refine callsIn_wide.2 ?_; have hi := L0.out
    have := iter_walk w4 N (N + 1) w.heap.size (by have := hi.sz; omega) (by have := hi.sz; omega) (by omega) A1 A2 (rightP a) (rightP b) c1 c2 hi.ca hi.cb hi.la hi.lb (fun k => k < N ∧ k ≠ w.heap.size)
      (fun k hk => by have := hi.sz; omega) hi.fa hi.fb p q HP.out.1 HP.out.2 (by have := rightP_len a; have := rightP_len b; have := HL.out; omega) (by have := hi.lt; omega) (by have := hi.lt; omega)
      1 (w4.heap.size + 1) J hJ (by rw [HX.out]; exact hY) W hW h0
    rw [HX.out] at this; exact this
  case him =>
    rintro s A B hm ⟨h1, ⟨A', n', c', h2, hR⟩, h3⟩; have hsz := L0.out.sz; have hlt := L0.out.lt; exact ⟨fun k hk hne => (hm.2 k (by omega)).trans (h1 k hk hne), ⟨A', n', c', (hm.2 _ (by omega)).trans h2, Kd.R_step hR (fun k hk _ => hm.2 k (by omega))⟩, below_ext h3 hm.1 (fun k hk => hm.2 k (by omega))⟩
  case hib =>
    rintro s A B hs hm ⟨h1, ⟨A', n', c', h2, hR⟩, h0⟩; have hsz := L0.out.sz; have hlt := L0.out.lt; refine ⟨fun k hk hne => ?_, ⟨A', n', c', (hm _ (by omega) (by omega) (blk_lt h2)).trans h2, Kd.R_step hR (fun k hk hlt => hm k (by omega) (by omega) hlt)⟩, below_ext h0 hs (fun k hk => hm k (by omega) (by omega) (by have := h0.size; have := blk_lt h2; omega))⟩; refine (hm k (by omega) (by omega) ?_).trans (h1 k hk hne)
    rcases Nat.lt_or_ge k A.heap.size with h | h
    (exact h); (have h3 := h1 k hk hne; rw [Array.getElem?_eq_none h] at h3; have := Array.getElem?_eq_none_iff.1 h3.symm; omega)
  case assign =>
    rintro ⟨x1, x2⟩ W K hK; simp only [encB] at hK ⊢
    gi_wp2
    exact hK
  case body =>
    rintro pre ⟨o1, o2⟩ W ⟨h1, ⟨A', n', c', h2, hR⟩, h3⟩ hsz hpre; have H1 := Aside0.mk h1; have H2 := Aside0.mk h2; have H3 := Aside0.mk h3; have HR := Aside0.mk hR; have hb0 : W.cell? ⟨w.heap.size, 0, none⟩ = some (.slice A' n' c') := (zC h2 0).trans rfl; have hf0 : W.frozen? ⟨w.heap.size, 0, none⟩ = false := zR h2 0
    have HLN : Aside0 (((outT pre).length + 1) * 40 ≤ 140737488355328) := ⟨by
      have e1 := outT_len pre; have e2 := hpre.length_le; have e3 := els_len ((rightP a).length + (rightP b).length) p q (rightP a) (rightP b); rw [HX.out] at e3; have e4 := rightP_len a; have e5 := rightP_len b; have e6 := HL.out; simp only [List.length_append, List.length_singleton] at e2
      omega⟩
    have HTL : Aside0 (w.heap.size < w4.heap.size + 2) := ⟨by have := L0.out.lt; have := L0.out.sz; omega⟩; have HO := Aside0.mk (HE.out (o1, o2) (hpre.subset (by simp))); have HAN := Aside0.mk (els_any _ _ _ _ _ (o1, o2) (show (o1, o2) ∈ els ((rightP a).length + (rightP b).length) p q (rightP a) (rightP b) from HX.out ▸ hpre.subset (by simp))); have HSZ := Aside0.mk hsz; clear h1 h2 h3 hR hpre hsz
    cases o1 with
    | none =>
      cases o2 with
      | none => exact absurd ⟨rfl, rfl⟩ HAN.out
      | some qy =>
        obtain ⟨q', y⟩ := qy; obtain ⟨k3, k4⟩ := HO.out.2 q' y rfl W (fun k hk => H1.out k hk.1 hk.2); simp only [ptrO, Option.map_none, Option.map_some]
        gi_wp2
        refine startIn_ (n := 12) (S := (fun w' => True)) (ds := []) #[false, false, false, false, false, false, false, false, false, false, false, false] (by kernel_rfl) rfl rfl (by kernel_rfl) (by rintro ⟨_, _, h, _⟩; cases h) ?_ ?_
        · trivial
        intro hHeld; refine pure_ (i := 0) (N := some 27) (v := ?_) (a' := ?_) #[true, false, false, false, false, false, false, false, false, false, false, false] rfl rfl (by kernel_rfl) (fun _ _ _ h => h) (Or.inl ⟨by rfl, ?_⟩) ?_ ?_; rotate_left; (intro w'; go_simp; (with_reducible rfl)); rotate_left; (simp only [Act.put, List.setIfInBounds_toArray, List.set_cons_zero, List.set_cons_succ, i64_w, i32_w]; rfl); refine pure_ (i := 1) (N := some 28) (v := ?_) (a' := ?_) #[true, true, false, false, false, false, false, false, false, false, false, false] rfl rfl (by kernel_rfl) (fun _ _ _ h => h) (Or.inl ⟨by rfl, ?_⟩) ?_ ?_; rotate_left; (intro w'; go_simp; (with_reducible rfl)); rotate_left; (simp only [Act.put, List.setIfInBounds_toArray, List.set_cons_zero, List.set_cons_succ, i64_w, i32_w]; rfl); refine pure_ (i := 2) (N := some 29) (v := ?_) (a' := ?_) #[true, true, true, false, false, false, false, false, false, false, false, false] rfl rfl (by kernel_rfl) (fun _ _ _ h => h) (Or.inl ⟨by rfl, ?_⟩) ?_ ?_; rotate_left; (intro w'; go_simp; (with_reducible rfl)); rotate_left; (simp only [Act.put, List.setIfInBounds_toArray, List.set_cons_zero, List.set_cons_succ, i64_w, i32_w]; rfl); refine pure_ (i := 3) (N := some 30) (v := undef) (a' := ?_) #[true, true, true, true, false, false, false, false, false, false, false, false] rfl rfl (by kernel_rfl) (fun _ _ _ h => h) (Or.inr ⟨by rfl, rfl⟩) ?_ ?_; rotate_left; (simp only [Act.put, List.setIfInBounds_toArray, List.set_cons_zero, List.set_cons_succ, i64_w, i32_w]; rfl); refine pure_ (i := 4) (N := some 31) (v := undef) (a' := ?_) #[true, true, true, true, true, false, false, false, false, false, false, false] rfl rfl (by kernel_rfl) (fun _ _ _ h => h) (Or.inr ⟨by rfl, rfl⟩) ?_ ?_; rotate_left; (simp only [Act.put, List.setIfInBounds_toArray, List.set_cons_zero, List.set_cons_succ, i64_w, i32_w]; rfl); refine pure_ (i := 6) (N := some 33) (v := undef) (a' := ?_) #[true, true, true, true, true, false, true, false, false, false, false, false] rfl rfl (by kernel_rfl) (fun _ _ _ h => h) (Or.inr ⟨by rfl, rfl⟩) ?_ ?_; rotate_left; (simp only [Act.put, List.setIfInBounds_toArray, List.set_cons_zero, List.set_cons_succ, i64_w, i32_w]; rfl); refine pure_ (i := 7) (N := some 34) (v := undef) (a' := ?_) #[true, true, true, true, true, false, true, true, false, false, false, false] rfl rfl (by kernel_rfl) (fun _ _ _ h => h) (Or.inr ⟨by rfl, rfl⟩) ?_ ?_; rotate_left; (simp only [Act.put, List.setIfInBounds_toArray, List.set_cons_zero, List.set_cons_succ, i64_w, i32_w]; rfl); refine pure_ (i := 5) (N := some 32) (v := undef) (a' := ?_) #[true, true, true, true, true, true, true, true, false, false, false, false] rfl rfl (by kernel_rfl) (fun _ _ _ h => h) (Or.inr ⟨by rfl, rfl⟩) ?_ ?_; rotate_left; (simp only [Act.put, List.setIfInBounds_toArray, List.set_cons_zero, List.set_cons_succ, i64_w, i32_w]; rfl); refine pure_ (i := 8) (N := some 35) (v := undef) (a' := ?_) #[true, true, true, true, true, true, true, true, true, false, false, false] rfl rfl (by kernel_rfl) (fun _ _ _ h => h) (Or.inr ⟨by rfl, rfl⟩) ?_ ?_; rotate_left; (simp only [Act.put, List.setIfInBounds_toArray, List.set_cons_zero, List.set_cons_succ, i64_w, i32_w]; rfl); refine pure_ (i := 9) (N := some 36) (v := undef) (a' := ?_) #[true, true, true, true, true, true, true, true, true, true, false, false] rfl rfl (by kernel_rfl) (fun _ _ _ h => h) (Or.inr ⟨by rfl, rfl⟩) ?_ ?_; rotate_left; (simp only [Act.put, List.setIfInBounds_toArray, List.set_cons_zero, List.set_cons_succ, i64_w, i32_w]; rfl); refine pure_ (i := 10) (N := some 37) (v := ?_) (a' := ?_) #[true, true, true, true, true, true, true, true, true, true, true, false] rfl rfl (by kernel_rfl) (fun _ _ _ h => h) (Or.inl ⟨by rfl, ?_⟩) ?_ ?_; rotate_left; (intro w'; go_simp; (with_reducible rfl)); rotate_left; (simp only [Act.put, List.setIfInBounds_toArray, List.set_cons_zero, List.set_cons_succ, i64_w, i32_w]; rfl); refine pure_ (i := 11) (N := some 26) (v := ?_) (a' := ?_) #[true, true, true, true, true, true, true, true, true, true, true, true] rfl rfl (by kernel_rfl) (fun _ _ _ h => h) (Or.inl ⟨by rfl, ?_⟩) ?_ ?_; rotate_left; (intro w'; go_simp; (with_reducible rfl)); rotate_left; (simp only [Act.put, List.setIfInBounds_toArray, List.set_cons_zero, List.set_cons_succ, i64_w, i32_w]; rfl); refine done_ (by kernel_rfl) ?_; obtain ⟨V, hV⟩ : ∃ V, W.drew = V := ⟨_, rfl⟩; rw [hV]; have hb0 : V.cell? ⟨w.heap.size, 0, none⟩ = some (.slice A' n' c') := hV ▸ hb0; have hf0 : V.frozen? ⟨w.heap.size, 0, none⟩ = false := hV ▸ hf0; have k3 : V.cell? q' = some (.string y.f0) := hV ▸ k3; have k4 : V.cell? ⟨q'.block, q'.off + 1, none⟩ = some (.string y.f1) := hV ▸ k4; have H1 := Aside0.mk (show ∀ k, k < N → k ≠ w.heap.size → V.heap[k]? = w4.heap[k]? from hV ▸ H1.out); have H2 := Aside0.mk (show V.heap[w.heap.size]? = some (.cells #[.slice A' n' c'] 25 (0, 0)) from hV ▸ H2.out); have H3 := Aside0.mk (show Below w.heap.size w V from hV ▸ H3.out.drew); have HR := Aside0.mk (show Kd.R k31 31 V (w4.heap.size + 2) (fun k => w4.heap.size + 2 ≤ k) (.slice A' n' c') (outT pre) from hV ▸ Kd.R_drew HR.out); have HSZ := Aside0.mk (show w4.heap.size + 2 ≤ V.heap.size from hV ▸ HSZ.out); have HWV := Aside0.mk (show ∀ k : Nat, V.heap[k]? = W.heap[k]? from fun k => by rw [← hV]; rfl); clear hV
        gi_wp2
        refine startIn_ (n := 13) (S := (fun w' => w'.cell? ⟨w.heap.size, 0, none⟩ = some (.slice A' n' c') ∧ w'.cell? q' = some (.string y.f0) ∧ w'.cell? ⟨q'.block, q'.off + 1, none⟩ = some (.string y.f1))) (ds := [12]) #[false, false, false, false, false, false, false, false, false, false, false, false, false] (by kernel_rfl) rfl rfl (by kernel_rfl) (by rintro ⟨_, _, h, _⟩; cases h) ?_ ?_; (exact ⟨hb0, k3, k4⟩); intro hHeld; refine pure_ (i := 1) (N := some 39) (v := ?_) (a' := ?_) #[false, true, false, false, false, false, false, false, false, false, false, false, false] rfl rfl (by kernel_rfl) (fun _ _ _ h => h) (Or.inl ⟨by rfl, ?_⟩) ?_ ?_; rotate_left; (intro w'; go_simp; (with_reducible rfl)); rotate_left; (simp only [Act.put, List.setIfInBounds_toArray, List.set_cons_zero, List.set_cons_succ, i64_w, i32_w]; rfl); refine pure_ (i := 2) (N := some 40) (v := ?_) (a' := ?_) #[false, true, true, false, false, false, false, false, false, false, false, false, false] rfl rfl (by kernel_rfl) (fun _ _ _ h => h) (Or.inl ⟨by rfl, ?_⟩) ?_ ?_; rotate_left; (intro w'; go_simp; (with_reducible rfl)); rotate_left; (simp only [Act.put, List.setIfInBounds_toArray, List.set_cons_zero, List.set_cons_succ, i64_w, i32_w]; rfl); refine pure_ (i := 3) (N := some 41) (v := ?_) (a' := ?_) #[false, true, true, true, false, false, false, false, false, false, false, false, false] rfl rfl (by kernel_rfl) (fun _ _ _ h => h) (Or.inl ⟨by rfl, ?_⟩) ?_ ?_; rotate_left; (intro w'; go_simp; (with_reducible rfl)); rotate_left; (simp only [Act.put, List.setIfInBounds_toArray, List.set_cons_zero, List.set_cons_succ, i64_w, i32_w]; rfl); refine pure_ (i := 5) (N := some 43) (v := ?_) (a' := ?_) #[false, true, true, true, false, true, false, false, false, false, false, false, false] rfl rfl (by kernel_rfl) (fun _ _ _ h => h) (Or.inl ⟨by rfl, ?_⟩) ?_ ?_; rotate_left; (intro w'; go_simp; (with_reducible rfl)); rotate_left; (simp only [Act.put, List.setIfInBounds_toArray, List.set_cons_zero, List.set_cons_succ, i64_w, i32_w]; rfl); refine pure_ (i := 6) (N := some 44) (v := ?_) (a' := ?_) #[false, true, true, true, false, true, true, false, false, false, false, false, false] rfl rfl (by kernel_rfl) (fun _ _ _ h => h) (Or.inl ⟨by rfl, ?_⟩) ?_ ?_; rotate_left; (intro w'; go_simp; (with_reducible rfl)); rotate_left; (simp only [Act.put, List.setIfInBounds_toArray, List.set_cons_zero, List.set_cons_succ, i64_w, i32_w]; rfl); refine pure_ (i := 7) (N := some 45) (v := ?_) (a' := ?_) #[false, true, true, true, false, true, true, true, false, false, false, false, false] rfl rfl (by kernel_rfl) (fun _ _ _ h => h) (Or.inl ⟨by rfl, ?_⟩) ?_ ?_; rotate_left; (intro w'; go_simp; (with_reducible rfl)); rotate_left; (simp only [Act.put, List.setIfInBounds_toArray, List.set_cons_zero, List.set_cons_succ, i64_w, i32_w]; rfl); refine take_ (i := 0) (N := some 38) (v := ?_) (a' := ?_) #[true, true, true, true, false, true, true, true, false, false, false, false, false] rfl rfl (by kernel_rfl) (fun _ _ _ h => h) (Or.inl ⟨by rfl, ?_⟩) hHeld ?_ ?_; rotate_left; (rintro w' ⟨s0, s1, s2⟩; go_simp; (with_reducible rfl)); rotate_left; (simp only [Act.put, List.setIfInBounds_toArray, List.set_cons_zero, List.set_cons_succ, i64_w, i32_w]; rfl); refine take_ (i := 4) (N := some 42) (v := ?_) (a' := ?_) #[true, true, true, true, true, true, true, true, false, false, false, false, false] rfl rfl (by kernel_rfl) (fun _ _ _ h => h) (Or.inl ⟨by rfl, ?_⟩) hHeld ?_ ?_; rotate_left; (rintro w' ⟨s0, s1, s2⟩; go_simp; (with_reducible rfl)); rotate_left; (simp only [Act.put, List.setIfInBounds_toArray, List.set_cons_zero, List.set_cons_succ, i64_w, i32_w]; rfl); refine take_ (i := 8) (N := some 46) (v := ?_) (a' := ?_) #[true, true, true, true, true, true, true, true, true, false, false, false, false] rfl rfl (by kernel_rfl) (fun _ _ _ h => h) (Or.inl ⟨by rfl, ?_⟩) hHeld ?_ ?_; rotate_left; (rintro w' ⟨s0, s1, s2⟩; go_simp; (with_reducible rfl)); rotate_left; (simp only [Act.put, List.setIfInBounds_toArray, List.set_cons_zero, List.set_cons_succ, i64_w, i32_w]; rfl); refine pure_ (i := 9) (N := some 47) (v := ?_) (a' := ?_) #[true, true, true, true, true, true, true, true, true, true, false, false, false] rfl rfl (by kernel_rfl) (fun _ _ _ h => h) (Or.inl ⟨by rfl, ?_⟩) ?_ ?_; rotate_left; (intro w'; go_simp; (with_reducible rfl)); rotate_left; (simp only [Act.put, List.setIfInBounds_toArray, List.set_cons_zero, List.set_cons_succ, i64_w, i32_w]; rfl); refine one_ (i := 10) (N := some 48) #[true, true, true, true, true, true, true, true, true, true, true, false, false] rfl rfl (by kernel_rfl) (by decide) (fun K hK => ?_); refine value_ (w1 := ?_) (v := ?_) (by rfl) rfl ?_ ?_; rotate_left 2
        · go_simp
          constructor
          · rfl
          · rfl
        refine hK.out _ _ ⟨(World.cell?_alloc_lt _ _ _ (World.block_lt_of_cell? _ _ hb0)).trans hb0, (World.cell?_alloc_lt _ _ _ (World.block_lt_of_cell? _ _ k3)).trans k3, (World.cell?_alloc_lt _ _ _ (World.block_lt_of_cell? _ _ k4)).trans k4⟩ (fun hHeld => ?_); clear hK K; refine norm_ (a' := ?_) ?_ ?_; rotate_left
        · show Act.put _ (some 48) _ = _
          simp only [Act.put, List.setIfInBounds_toArray, List.set_cons_zero, List.set_cons_succ, i64_w, i32_w]
          rfl
        refine one_ (i := 11) (N := some 49) #[true, true, true, true, true, true, true, true, true, true, true, true, false] rfl rfl (by kernel_rfl) (by decide) (fun K hK => ?_); refine Kd.R_append_step k31 (w0 := V) (W := V.drew) (w4.heap.size + 2) (by rfl) (.tmp 38) (.tmp 48) 25 31 (.agg #[.string ⟨#[]⟩, .string ⟨#[]⟩, .bool false]) 40 (by rfl) Try.underlying25 info31 rfl (by decide) (by decide) (.slice A' n' c') (outT pre) (⟨y.f0, y.f1, false⟩ : S31) [.string y.f0, .string y.f1, .bool false] (fun k => w4.heap.size + 2 ≤ k) (fun _ => False) (by rfl) (by rfl) (k31_mkM _ _ _ _) (fun _ h => h.elim) (fun k hk => Nat.le_trans HSZ.out hk) (Kd.R_drew HR.out) (Below.refl _ V).drew HSZ.out HLN.out ?_; intro v5 w5 hR5 hB5 hg5 _; obtain ⟨A5, c5, rfl⟩ := Kd.R_slice hR5; have hx5 := (hB5.block _ HTL.out).trans H2.out; have hc5 : w5.cell? ⟨w.heap.size, 0, none⟩ = some (.slice A' n' c') := (zC hx5 0).trans rfl; have hf5 : w5.frozen? ⟨w.heap.size, 0, none⟩ = false := zR hx5 0
        have ag5 : ∀ k, k < N ∧ k ≠ w.heap.size → w5.heap[k]? = w4.heap[k]? := fun k hk => (hB5.block k (by have := L0.out.sz; omega)).trans (H1.out k hk.1 hk.2)
        have HX5 := Aside0.mk hx5; have R5 := Aside0.mk hR5; have B5 := Aside0.mk hB5; have g5_0 := (HO.out.2 q' y rfl w5 ag5).1; have g5_1 := (HO.out.2 q' y rfl w5 ag5).2; refine hK.out _ _ ⟨hc5, g5_0, g5_1⟩ (fun hHeld => ?_); clear hK K; refine norm_ (a' := ?_) ?_ ?_; rotate_left
        · show Act.put _ (some 49) _ = _
          simp only [Act.put, List.setIfInBounds_toArray, List.set_cons_zero, List.set_cons_succ, i64_w, i32_w]
          rfl
        refine last_ (i := 12) (N := none) #[true, true, true, true, true, true, true, true, true, true, true, true, true] rfl rfl (by kernel_rfl) (by decide) (fun K hK => ?_); refine skip_ (w1 := ?_) (by rfl) rfl ?_ ?_; rotate_left; (go_simp; rfl); refine hK.out _ _ ?_; clear hK K; refine done_ (by kernel_rfl) ?_
        gi_wp2
        have eo := outT_some pre (none, some (q', y)) _ rfl; refine ⟨fun k hk => ?_, ⟨fun k hk hne => ?_, ⟨A5, _, c5, blk_set HX5.out 0 _, ?_⟩, ?_⟩⟩; (have := L0.out.lt; have := L0.out.sz; exact (Below.heap_setCell w5 ⟨w.heap.size, 0, none⟩ _ k (show k ≠ w.heap.size by omega)).trans ((B5.out.block k (by omega)).trans (HWV.out k))); (exact (Below.heap_setCell w5 ⟨w.heap.size, 0, none⟩ _ k hne).trans (ag5 k ⟨hk, hne⟩)); (rw [eo]; have r5 := R5.out; simp only [List.length_append, List.length_cons, List.length_nil, Nat.zero_add] at r5; exact Kd.R_step r5 (fun k hk _ => Below.heap_setCell w5 ⟨w.heap.size, 0, none⟩ _ k (show k ≠ w.heap.size by have := HTL.out; omega))); (exact (H3.out.trans (B5.out.mono (Nat.le_of_lt HTL.out))).setCell (p := ⟨w.heap.size, 0, none⟩) (Nat.le_refl _) _)
    | some px =>
      obtain ⟨p', x⟩ := px; obtain ⟨k1, k2⟩ := HO.out.1 p' x rfl W (fun k hk => H1.out k hk.1 hk.2)
      cases o2 with
      | none =>
        simp only [ptrO, Option.map_none, Option.map_some]
        gi_wp2
        refine startIn_ (n := 9) (S := (fun w' => w'.cell? ⟨w.heap.size, 0, none⟩ = some (.slice A' n' c') ∧ w'.cell? p' = some (.string x.f0))) (ds := [8]) #[false, false, false, false, false, false, false, false, false] (by kernel_rfl) rfl rfl (by kernel_rfl) (by rintro ⟨_, _, h, _⟩; cases h) ?_ ?_; (exact ⟨hb0, k1⟩); intro hHeld; refine pure_ (i := 1) (N := some 19) (v := ?_) (a' := ?_) #[false, true, false, false, false, false, false, false, false] rfl rfl (by kernel_rfl) (fun _ _ _ h => h) (Or.inl ⟨by rfl, ?_⟩) ?_ ?_; rotate_left; (intro w'; go_simp; (with_reducible rfl)); rotate_left; (simp only [Act.put, List.setIfInBounds_toArray, List.set_cons_zero, List.set_cons_succ, i64_w, i32_w]; rfl); refine pure_ (i := 2) (N := some 20) (v := ?_) (a' := ?_) #[false, true, true, false, false, false, false, false, false] rfl rfl (by kernel_rfl) (fun _ _ _ h => h) (Or.inl ⟨by rfl, ?_⟩) ?_ ?_; rotate_left; (intro w'; go_simp; (with_reducible rfl)); rotate_left; (simp only [Act.put, List.setIfInBounds_toArray, List.set_cons_zero, List.set_cons_succ, i64_w, i32_w]; rfl); refine pure_ (i := 3) (N := some 21) (v := ?_) (a' := ?_) #[false, true, true, true, false, false, false, false, false] rfl rfl (by kernel_rfl) (fun _ _ _ h => h) (Or.inl ⟨by rfl, ?_⟩) ?_ ?_; rotate_left; (intro w'; go_simp; (with_reducible rfl)); rotate_left; (simp only [Act.put, List.setIfInBounds_toArray, List.set_cons_zero, List.set_cons_succ, i64_w, i32_w]; rfl); refine take_ (i := 0) (N := some 18) (v := ?_) (a' := ?_) #[true, true, true, true, false, false, false, false, false] rfl rfl (by kernel_rfl) (fun _ _ _ h => h) (Or.inl ⟨by rfl, ?_⟩) hHeld ?_ ?_; rotate_left; (rintro w' ⟨s0, s1⟩; go_simp; (with_reducible rfl)); rotate_left; (simp only [Act.put, List.setIfInBounds_toArray, List.set_cons_zero, List.set_cons_succ, i64_w, i32_w]; rfl); refine take_ (i := 4) (N := some 22) (v := ?_) (a' := ?_) #[true, true, true, true, true, false, false, false, false] rfl rfl (by kernel_rfl) (fun _ _ _ h => h) (Or.inl ⟨by rfl, ?_⟩) hHeld ?_ ?_; rotate_left; (rintro w' ⟨s0, s1⟩; go_simp; (with_reducible rfl)); rotate_left; (simp only [Act.put, List.setIfInBounds_toArray, List.set_cons_zero, List.set_cons_succ, i64_w, i32_w]; rfl); refine pure_ (i := 5) (N := some 23) (v := ?_) (a' := ?_) #[true, true, true, true, true, true, false, false, false] rfl rfl (by kernel_rfl) (fun _ _ _ h => h) (Or.inl ⟨by rfl, ?_⟩) ?_ ?_; rotate_left; (intro w'; go_simp; (with_reducible rfl)); rotate_left; (simp only [Act.put, List.setIfInBounds_toArray, List.set_cons_zero, List.set_cons_succ, i64_w, i32_w]; rfl); refine one_ (i := 6) (N := some 24) #[true, true, true, true, true, true, true, false, false] rfl rfl (by kernel_rfl) (by decide) (fun K hK => ?_); refine value_ (w1 := ?_) (v := ?_) (by rfl) rfl ?_ ?_; rotate_left 2
        · go_simp
          constructor
          · rfl
          · rfl
        refine hK.out _ _ ⟨(World.cell?_alloc_lt _ _ _ (World.block_lt_of_cell? _ _ hb0)).trans hb0, (World.cell?_alloc_lt _ _ _ (World.block_lt_of_cell? _ _ k1)).trans k1⟩ (fun hHeld => ?_); clear hK K; refine norm_ (a' := ?_) ?_ ?_; rotate_left
        · show Act.put _ (some 24) _ = _
          simp only [Act.put, List.setIfInBounds_toArray, List.set_cons_zero, List.set_cons_succ, i64_w, i32_w]
          rfl
        refine one_ (i := 7) (N := some 25) #[true, true, true, true, true, true, true, true, false] rfl rfl (by kernel_rfl) (by decide) (fun K hK => ?_); refine Kd.R_append_step k31 (w0 := W) (W := W.drew) (w4.heap.size + 2) (by rfl) (.tmp 18) (.tmp 24) 25 31 (.agg #[.string ⟨#[]⟩, .string ⟨#[]⟩, .bool false]) 40 (by rfl) Try.underlying25 info31 rfl (by decide) (by decide) (.slice A' n' c') (outT pre) (⟨x.f0, ⟨#[]⟩, true⟩ : S31) [.string x.f0, .string ⟨#[]⟩, .bool true] (fun k => w4.heap.size + 2 ≤ k) (fun _ => False) (by rfl) (by rfl) (k31_mkM _ _ _ _) (fun _ h => h.elim) (fun k hk => Nat.le_trans HSZ.out hk) (Kd.R_drew HR.out) (Below.refl _ W).drew HSZ.out HLN.out ?_; intro v5 w5 hR5 hB5 hg5 _; obtain ⟨A5, c5, rfl⟩ := Kd.R_slice hR5; have hx5 := (hB5.block _ HTL.out).trans H2.out; have hc5 : w5.cell? ⟨w.heap.size, 0, none⟩ = some (.slice A' n' c') := (zC hx5 0).trans rfl; have hf5 : w5.frozen? ⟨w.heap.size, 0, none⟩ = false := zR hx5 0
        have ag5 : ∀ k, k < N ∧ k ≠ w.heap.size → w5.heap[k]? = w4.heap[k]? := fun k hk => (hB5.block k (by have := L0.out.sz; omega)).trans (H1.out k hk.1 hk.2)
        have HX5 := Aside0.mk hx5; have R5 := Aside0.mk hR5; have B5 := Aside0.mk hB5; have g5_0 := (HO.out.1 p' x rfl w5 ag5).1; refine hK.out _ _ ⟨hc5, g5_0⟩ (fun hHeld => ?_); clear hK K; refine norm_ (a' := ?_) ?_ ?_; rotate_left
        · show Act.put _ (some 25) _ = _
          simp only [Act.put, List.setIfInBounds_toArray, List.set_cons_zero, List.set_cons_succ, i64_w, i32_w]
          rfl
        refine last_ (i := 8) (N := none) #[true, true, true, true, true, true, true, true, true] rfl rfl (by kernel_rfl) (by decide) (fun K hK => ?_); refine skip_ (w1 := ?_) (by rfl) rfl ?_ ?_; rotate_left; (go_simp; rfl); refine hK.out _ _ ?_; clear hK K; refine done_ (by kernel_rfl) ?_
        gi_wp2
        have eo := outT_some pre (some (p', x), none) _ rfl; refine ⟨fun k hk => ?_, ⟨fun k hk hne => ?_, ⟨A5, _, c5, blk_set HX5.out 0 _, ?_⟩, ?_⟩⟩; (have := L0.out.lt; have := L0.out.sz; exact (Below.heap_setCell w5 ⟨w.heap.size, 0, none⟩ _ k (show k ≠ w.heap.size by omega)).trans (B5.out.block k (by omega))); (exact (Below.heap_setCell w5 ⟨w.heap.size, 0, none⟩ _ k hne).trans (ag5 k ⟨hk, hne⟩)); (rw [eo]; have r5 := R5.out; simp only [List.length_append, List.length_cons, List.length_nil, Nat.zero_add] at r5; exact Kd.R_step r5 (fun k hk _ => Below.heap_setCell w5 ⟨w.heap.size, 0, none⟩ _ k (show k ≠ w.heap.size by have := HTL.out; omega))); (exact (H3.out.trans (B5.out.mono (Nat.le_of_lt HTL.out))).setCell (p := ⟨w.heap.size, 0, none⟩) (Nat.le_refl _) _)
      | some qy =>
        obtain ⟨q', y⟩ := qy; obtain ⟨k3, k4⟩ := HO.out.2 q' y rfl W (fun k hk => H1.out k hk.1 hk.2); simp only [ptrO, Option.map_none, Option.map_some]
        cases hes : eqS x y with
        | false =>
          gi_wp2
          refine startIn_ (n := 12) (S := (fun w' => w'.cell? p' = some (.string x.f0) ∧ w'.cell? ⟨p'.block, p'.off + 1, none⟩ = some (.string x.f1) ∧ w'.cell? q' = some (.string y.f0) ∧ w'.cell? ⟨q'.block, q'.off + 1, none⟩ = some (.string y.f1))) (ds := []) #[false, false, false, false, false, false, false, false, false, false, false, false] (by kernel_rfl) rfl rfl (by kernel_rfl) (by rintro ⟨_, _, h, _⟩; cases h) ?_ ?_
          · (first | exact ⟨by assumption, by assumption, by assumption, by assumption⟩ | assumption)
          intro hHeld; refine pure_ (i := 0) (N := some 27) (v := ?_) (a' := ?_) #[true, false, false, false, false, false, false, false, false, false, false, false] rfl rfl (by kernel_rfl) (fun _ _ _ h => h) (Or.inl ⟨by rfl, ?_⟩) ?_ ?_; rotate_left; (intro w'; go_simp; (with_reducible rfl)); rotate_left; (simp only [Act.put, List.setIfInBounds_toArray, List.set_cons_zero, List.set_cons_succ, i64_w, i32_w]; rfl); refine pure_ (i := 1) (N := some 28) (v := ?_) (a' := ?_) #[true, true, false, false, false, false, false, false, false, false, false, false] rfl rfl (by kernel_rfl) (fun _ _ _ h => h) (Or.inl ⟨by rfl, ?_⟩) ?_ ?_; rotate_left; (intro w'; go_simp; (with_reducible rfl)); rotate_left; (simp only [Act.put, List.setIfInBounds_toArray, List.set_cons_zero, List.set_cons_succ, i64_w, i32_w]; rfl); refine pure_ (i := 2) (N := some 29) (v := ?_) (a' := ?_) #[true, true, true, false, false, false, false, false, false, false, false, false] rfl rfl (by kernel_rfl) (fun _ _ _ h => h) (Or.inl ⟨by rfl, ?_⟩) ?_ ?_; rotate_left; (intro w'; go_simp; (with_reducible rfl)); rotate_left; (simp only [Act.put, List.setIfInBounds_toArray, List.set_cons_zero, List.set_cons_succ, i64_w, i32_w]; rfl); refine pure_ (i := 3) (N := some 30) (v := ?_) (a' := ?_) #[true, true, true, true, false, false, false, false, false, false, false, false] rfl rfl (by kernel_rfl) (fun _ _ _ h => h) (Or.inl ⟨by rfl, ?_⟩) ?_ ?_; rotate_left; (intro w'; go_simp; (with_reducible rfl)); rotate_left; (simp only [Act.put, List.setIfInBounds_toArray, List.set_cons_zero, List.set_cons_succ, i64_w, i32_w]; rfl); refine pure_ (i := 4) (N := some 31) (v := ?_) (a' := ?_) #[true, true, true, true, true, false, false, false, false, false, false, false] rfl rfl (by kernel_rfl) (fun _ _ _ h => h) (Or.inl ⟨by rfl, ?_⟩) ?_ ?_; rotate_left; (intro w'; go_simp; (with_reducible rfl)); rotate_left; (simp only [Act.put, List.setIfInBounds_toArray, List.set_cons_zero, List.set_cons_succ, i64_w, i32_w]; rfl); refine pure_ (i := 6) (N := some 33) (v := ?_) (a' := ?_) #[true, true, true, true, true, false, true, false, false, false, false, false] rfl rfl (by kernel_rfl) (fun _ _ _ h => h) (Or.inl ⟨by rfl, ?_⟩) ?_ ?_; rotate_left; (intro w'; go_simp; (with_reducible rfl)); rotate_left; (simp only [Act.put, List.setIfInBounds_toArray, List.set_cons_zero, List.set_cons_succ, i64_w, i32_w]; rfl); refine pure_ (i := 7) (N := some 34) (v := ?_) (a' := ?_) #[true, true, true, true, true, false, true, true, false, false, false, false] rfl rfl (by kernel_rfl) (fun _ _ _ h => h) (Or.inl ⟨by rfl, ?_⟩) ?_ ?_; rotate_left; (intro w'; go_simp; (with_reducible rfl)); rotate_left; (simp only [Act.put, List.setIfInBounds_toArray, List.set_cons_zero, List.set_cons_succ, i64_w, i32_w]; rfl); refine take_ (i := 5) (N := some 32) (v := ?_) (a' := ?_) #[true, true, true, true, true, true, true, true, false, false, false, false] rfl rfl (by kernel_rfl) (fun _ _ _ h => h) (Or.inl ⟨by rfl, ?_⟩) hHeld ?_ ?_; rotate_left; (rintro w' ⟨s0, s1, s2, s3⟩; go_simp; (with_reducible rfl)); rotate_left; (simp only [Act.put, List.setIfInBounds_toArray, List.set_cons_zero, List.set_cons_succ, i64_w, i32_w]; rfl); refine take_ (i := 8) (N := some 35) (v := ?_) (a' := ?_) #[true, true, true, true, true, true, true, true, true, false, false, false] rfl rfl (by kernel_rfl) (fun _ _ _ h => h) (Or.inl ⟨by rfl, ?_⟩) hHeld ?_ ?_; rotate_left; (rintro w' ⟨s0, s1, s2, s3⟩; go_simp; (with_reducible rfl)); rotate_left; (simp only [Act.put, List.setIfInBounds_toArray, List.set_cons_zero, List.set_cons_succ, i64_w, i32_w]; rfl); refine pure_ (i := 9) (N := some 36) (v := ?_) (a' := ?_) #[true, true, true, true, true, true, true, true, true, true, false, false] rfl rfl (by kernel_rfl) (fun _ _ _ h => h) (Or.inl ⟨by rfl, ?_⟩) ?_ ?_; rotate_left; (intro w'; go_simp; (with_reducible rfl)); rotate_left; (simp only [Act.put, List.setIfInBounds_toArray, List.set_cons_zero, List.set_cons_succ, i64_w, i32_w]; rfl); refine pure_ (i := 10) (N := some 37) (v := ?_) (a' := ?_) #[true, true, true, true, true, true, true, true, true, true, true, false] rfl rfl (by kernel_rfl) (fun _ _ _ h => h) (Or.inl ⟨by rfl, ?_⟩) ?_ ?_; rotate_left; (intro w'; go_simp; (with_reducible rfl)); rotate_left; (simp only [Act.put, List.setIfInBounds_toArray, List.set_cons_zero, List.set_cons_succ, i64_w, i32_w]; rfl); refine pure_ (i := 11) (N := some 26) (v := ?_) (a' := ?_) #[true, true, true, true, true, true, true, true, true, true, true, true] rfl rfl (by kernel_rfl) (fun _ _ _ h => h) (Or.inl ⟨by rfl, ?_⟩) ?_ ?_; rotate_left; (intro w'; go_simp; (with_reducible rfl)); rotate_left; (simp only [Act.put, List.setIfInBounds_toArray, List.set_cons_zero, List.set_cons_succ, i64_w, i32_w]; rfl); refine done_ (by kernel_rfl) ?_; have HES := Aside0.mk hes; obtain ⟨V, hV⟩ : ∃ V, W.drew = V := ⟨_, rfl⟩; rw [hV]; have hb0 : V.cell? ⟨w.heap.size, 0, none⟩ = some (.slice A' n' c') := hV ▸ hb0; have hf0 : V.frozen? ⟨w.heap.size, 0, none⟩ = false := hV ▸ hf0; have k3 : V.cell? q' = some (.string y.f0) := hV ▸ k3; have k4 : V.cell? ⟨q'.block, q'.off + 1, none⟩ = some (.string y.f1) := hV ▸ k4; have H1 := Aside0.mk (show ∀ k, k < N → k ≠ w.heap.size → V.heap[k]? = w4.heap[k]? from hV ▸ H1.out); have H2 := Aside0.mk (show V.heap[w.heap.size]? = some (.cells #[.slice A' n' c'] 25 (0, 0)) from hV ▸ H2.out); have H3 := Aside0.mk (show Below w.heap.size w V from hV ▸ H3.out.drew); have HR := Aside0.mk (show Kd.R k31 31 V (w4.heap.size + 2) (fun k => w4.heap.size + 2 ≤ k) (.slice A' n' c') (outT pre) from hV ▸ Kd.R_drew HR.out); have HSZ := Aside0.mk (show w4.heap.size + 2 ≤ V.heap.size from hV ▸ HSZ.out); have HWV := Aside0.mk (show ∀ k : Nat, V.heap[k]? = W.heap[k]? from fun k => by rw [← hV]; rfl); clear hV
          gi_wp2
          refine startIn_ (n := 13) (S := (fun w' => w'.cell? ⟨w.heap.size, 0, none⟩ = some (.slice A' n' c') ∧ w'.cell? q' = some (.string y.f0) ∧ w'.cell? ⟨q'.block, q'.off + 1, none⟩ = some (.string y.f1))) (ds := [12]) #[false, false, false, false, false, false, false, false, false, false, false, false, false] (by kernel_rfl) rfl rfl (by kernel_rfl) (by rintro ⟨_, _, h, _⟩; cases h) ?_ ?_; (exact ⟨hb0, k3, k4⟩); intro hHeld; refine pure_ (i := 1) (N := some 39) (v := ?_) (a' := ?_) #[false, true, false, false, false, false, false, false, false, false, false, false, false] rfl rfl (by kernel_rfl) (fun _ _ _ h => h) (Or.inl ⟨by rfl, ?_⟩) ?_ ?_; rotate_left; (intro w'; go_simp; (with_reducible rfl)); rotate_left; (simp only [Act.put, List.setIfInBounds_toArray, List.set_cons_zero, List.set_cons_succ, i64_w, i32_w]; rfl); refine pure_ (i := 2) (N := some 40) (v := ?_) (a' := ?_) #[false, true, true, false, false, false, false, false, false, false, false, false, false] rfl rfl (by kernel_rfl) (fun _ _ _ h => h) (Or.inl ⟨by rfl, ?_⟩) ?_ ?_; rotate_left; (intro w'; go_simp; (with_reducible rfl)); rotate_left; (simp only [Act.put, List.setIfInBounds_toArray, List.set_cons_zero, List.set_cons_succ, i64_w, i32_w]; rfl); refine pure_ (i := 3) (N := some 41) (v := ?_) (a' := ?_) #[false, true, true, true, false, false, false, false, false, false, false, false, false] rfl rfl (by kernel_rfl) (fun _ _ _ h => h) (Or.inl ⟨by rfl, ?_⟩) ?_ ?_; rotate_left; (intro w'; go_simp; (with_reducible rfl)); rotate_left; (simp only [Act.put, List.setIfInBounds_toArray, List.set_cons_zero, List.set_cons_succ, i64_w, i32_w]; rfl); refine pure_ (i := 5) (N := some 43) (v := ?_) (a' := ?_) #[false, true, true, true, false, true, false, false, false, false, false, false, false] rfl rfl (by kernel_rfl) (fun _ _ _ h => h) (Or.inl ⟨by rfl, ?_⟩) ?_ ?_; rotate_left; (intro w'; go_simp; (with_reducible rfl)); rotate_left; (simp only [Act.put, List.setIfInBounds_toArray, List.set_cons_zero, List.set_cons_succ, i64_w, i32_w]; rfl); refine pure_ (i := 6) (N := some 44) (v := ?_) (a' := ?_) #[false, true, true, true, false, true, true, false, false, false, false, false, false] rfl rfl (by kernel_rfl) (fun _ _ _ h => h) (Or.inl ⟨by rfl, ?_⟩) ?_ ?_; rotate_left; (intro w'; go_simp; (with_reducible rfl)); rotate_left; (simp only [Act.put, List.setIfInBounds_toArray, List.set_cons_zero, List.set_cons_succ, i64_w, i32_w]; rfl); refine pure_ (i := 7) (N := some 45) (v := ?_) (a' := ?_) #[false, true, true, true, false, true, true, true, false, false, false, false, false] rfl rfl (by kernel_rfl) (fun _ _ _ h => h) (Or.inl ⟨by rfl, ?_⟩) ?_ ?_; rotate_left; (intro w'; go_simp; (with_reducible rfl)); rotate_left; (simp only [Act.put, List.setIfInBounds_toArray, List.set_cons_zero, List.set_cons_succ, i64_w, i32_w]; rfl); refine take_ (i := 0) (N := some 38) (v := ?_) (a' := ?_) #[true, true, true, true, false, true, true, true, false, false, false, false, false] rfl rfl (by kernel_rfl) (fun _ _ _ h => h) (Or.inl ⟨by rfl, ?_⟩) hHeld ?_ ?_; rotate_left; (rintro w' ⟨s0, s1, s2⟩; go_simp; (with_reducible rfl)); rotate_left; (simp only [Act.put, List.setIfInBounds_toArray, List.set_cons_zero, List.set_cons_succ, i64_w, i32_w]; rfl); refine take_ (i := 4) (N := some 42) (v := ?_) (a' := ?_) #[true, true, true, true, true, true, true, true, false, false, false, false, false] rfl rfl (by kernel_rfl) (fun _ _ _ h => h) (Or.inl ⟨by rfl, ?_⟩) hHeld ?_ ?_; rotate_left; (rintro w' ⟨s0, s1, s2⟩; go_simp; (with_reducible rfl)); rotate_left; (simp only [Act.put, List.setIfInBounds_toArray, List.set_cons_zero, List.set_cons_succ, i64_w, i32_w]; rfl); refine take_ (i := 8) (N := some 46) (v := ?_) (a' := ?_) #[true, true, true, true, true, true, true, true, true, false, false, false, false] rfl rfl (by kernel_rfl) (fun _ _ _ h => h) (Or.inl ⟨by rfl, ?_⟩) hHeld ?_ ?_; rotate_left; (rintro w' ⟨s0, s1, s2⟩; go_simp; (with_reducible rfl)); rotate_left; (simp only [Act.put, List.setIfInBounds_toArray, List.set_cons_zero, List.set_cons_succ, i64_w, i32_w]; rfl); refine pure_ (i := 9) (N := some 47) (v := ?_) (a' := ?_) #[true, true, true, true, true, true, true, true, true, true, false, false, false] rfl rfl (by kernel_rfl) (fun _ _ _ h => h) (Or.inl ⟨by rfl, ?_⟩) ?_ ?_; rotate_left; (intro w'; go_simp; (with_reducible rfl)); rotate_left; (simp only [Act.put, List.setIfInBounds_toArray, List.set_cons_zero, List.set_cons_succ, i64_w, i32_w]; rfl); refine one_ (i := 10) (N := some 48) #[true, true, true, true, true, true, true, true, true, true, true, false, false] rfl rfl (by kernel_rfl) (by decide) (fun K hK => ?_); refine value_ (w1 := ?_) (v := ?_) (by rfl) rfl ?_ ?_; rotate_left 2
          · go_simp
            constructor
            · rfl
            · rfl
          refine hK.out _ _ ⟨(World.cell?_alloc_lt _ _ _ (World.block_lt_of_cell? _ _ hb0)).trans hb0, (World.cell?_alloc_lt _ _ _ (World.block_lt_of_cell? _ _ k3)).trans k3, (World.cell?_alloc_lt _ _ _ (World.block_lt_of_cell? _ _ k4)).trans k4⟩ (fun hHeld => ?_); clear hK K; refine norm_ (a' := ?_) ?_ ?_; rotate_left
          · show Act.put _ (some 48) _ = _
            simp only [Act.put, List.setIfInBounds_toArray, List.set_cons_zero, List.set_cons_succ, i64_w, i32_w]
            rfl
          refine one_ (i := 11) (N := some 49) #[true, true, true, true, true, true, true, true, true, true, true, true, false] rfl rfl (by kernel_rfl) (by decide) (fun K hK => ?_); refine Kd.R_append_step k31 (w0 := V) (W := V.drew) (w4.heap.size + 2) (by rfl) (.tmp 38) (.tmp 48) 25 31 (.agg #[.string ⟨#[]⟩, .string ⟨#[]⟩, .bool false]) 40 (by rfl) Try.underlying25 info31 rfl (by decide) (by decide) (.slice A' n' c') (outT pre) (⟨y.f0, y.f1, false⟩ : S31) [.string y.f0, .string y.f1, .bool false] (fun k => w4.heap.size + 2 ≤ k) (fun _ => False) (by rfl) (by rfl) (k31_mkM _ _ _ _) (fun _ h => h.elim) (fun k hk => Nat.le_trans HSZ.out hk) (Kd.R_drew HR.out) (Below.refl _ V).drew HSZ.out HLN.out ?_; intro v5 w5 hR5 hB5 hg5 _; obtain ⟨A5, c5, rfl⟩ := Kd.R_slice hR5; have hx5 := (hB5.block _ HTL.out).trans H2.out; have hc5 : w5.cell? ⟨w.heap.size, 0, none⟩ = some (.slice A' n' c') := (zC hx5 0).trans rfl; have hf5 : w5.frozen? ⟨w.heap.size, 0, none⟩ = false := zR hx5 0
          have ag5 : ∀ k, k < N ∧ k ≠ w.heap.size → w5.heap[k]? = w4.heap[k]? := fun k hk => (hB5.block k (by have := L0.out.sz; omega)).trans (H1.out k hk.1 hk.2)
          have HX5 := Aside0.mk hx5; have R5 := Aside0.mk hR5; have B5 := Aside0.mk hB5; have g5_0 := (HO.out.2 q' y rfl w5 ag5).1; have g5_1 := (HO.out.2 q' y rfl w5 ag5).2; refine hK.out _ _ ⟨hc5, g5_0, g5_1⟩ (fun hHeld => ?_); clear hK K; refine norm_ (a' := ?_) ?_ ?_; rotate_left
          · show Act.put _ (some 49) _ = _
            simp only [Act.put, List.setIfInBounds_toArray, List.set_cons_zero, List.set_cons_succ, i64_w, i32_w]
            rfl
          refine last_ (i := 12) (N := none) #[true, true, true, true, true, true, true, true, true, true, true, true, true] rfl rfl (by kernel_rfl) (by decide) (fun K hK => ?_); refine skip_ (w1 := ?_) (by rfl) rfl ?_ ?_; rotate_left; (go_simp; rfl); refine hK.out _ _ ?_; clear hK K; refine done_ (by kernel_rfl) ?_
          gi_wp2
          have eo := outT_some pre (some (p', x), some (q', y)) _ (show ofO (some (p', x), some (q', y)) = some (⟨y.f0, y.f1, false⟩ : S31) by simp [ofO, HES.out]); refine ⟨fun k hk => ?_, ⟨fun k hk hne => ?_, ⟨A5, _, c5, blk_set HX5.out 0 _, ?_⟩, ?_⟩⟩; (have := L0.out.lt; have := L0.out.sz; exact (Below.heap_setCell w5 ⟨w.heap.size, 0, none⟩ _ k (show k ≠ w.heap.size by omega)).trans ((B5.out.block k (by omega)).trans (HWV.out k))); (exact (Below.heap_setCell w5 ⟨w.heap.size, 0, none⟩ _ k hne).trans (ag5 k ⟨hk, hne⟩)); (rw [eo]; have r5 := R5.out; simp only [List.length_append, List.length_cons, List.length_nil, Nat.zero_add] at r5; exact Kd.R_step r5 (fun k hk _ => Below.heap_setCell w5 ⟨w.heap.size, 0, none⟩ _ k (show k ≠ w.heap.size by have := HTL.out; omega))); (exact (H3.out.trans (B5.out.mono (Nat.le_of_lt HTL.out))).setCell (p := ⟨w.heap.size, 0, none⟩) (Nat.le_refl _) _)
        | true =>
          gi_wp2
          refine startIn_ (n := 12) (S := (fun w' => w'.cell? p' = some (.string x.f0) ∧ w'.cell? ⟨p'.block, p'.off + 1, none⟩ = some (.string x.f1) ∧ w'.cell? q' = some (.string y.f0) ∧ w'.cell? ⟨q'.block, q'.off + 1, none⟩ = some (.string y.f1))) (ds := []) #[false, false, false, false, false, false, false, false, false, false, false, false] (by kernel_rfl) rfl rfl (by kernel_rfl) (by rintro ⟨_, _, h, _⟩; cases h) ?_ ?_
          · (first | exact ⟨by assumption, by assumption, by assumption, by assumption⟩ | assumption)
          intro hHeld; refine pure_ (i := 0) (N := some 27) (v := ?_) (a' := ?_) #[true, false, false, false, false, false, false, false, false, false, false, false] rfl rfl (by kernel_rfl) (fun _ _ _ h => h) (Or.inl ⟨by rfl, ?_⟩) ?_ ?_; rotate_left; (intro w'; go_simp; (with_reducible rfl)); rotate_left; (simp only [Act.put, List.setIfInBounds_toArray, List.set_cons_zero, List.set_cons_succ, i64_w, i32_w]; rfl); refine pure_ (i := 1) (N := some 28) (v := ?_) (a' := ?_) #[true, true, false, false, false, false, false, false, false, false, false, false] rfl rfl (by kernel_rfl) (fun _ _ _ h => h) (Or.inl ⟨by rfl, ?_⟩) ?_ ?_; rotate_left; (intro w'; go_simp; (with_reducible rfl)); rotate_left; (simp only [Act.put, List.setIfInBounds_toArray, List.set_cons_zero, List.set_cons_succ, i64_w, i32_w]; rfl); refine pure_ (i := 2) (N := some 29) (v := ?_) (a' := ?_) #[true, true, true, false, false, false, false, false, false, false, false, false] rfl rfl (by kernel_rfl) (fun _ _ _ h => h) (Or.inl ⟨by rfl, ?_⟩) ?_ ?_; rotate_left; (intro w'; go_simp; (with_reducible rfl)); rotate_left; (simp only [Act.put, List.setIfInBounds_toArray, List.set_cons_zero, List.set_cons_succ, i64_w, i32_w]; rfl); refine pure_ (i := 3) (N := some 30) (v := ?_) (a' := ?_) #[true, true, true, true, false, false, false, false, false, false, false, false] rfl rfl (by kernel_rfl) (fun _ _ _ h => h) (Or.inl ⟨by rfl, ?_⟩) ?_ ?_; rotate_left; (intro w'; go_simp; (with_reducible rfl)); rotate_left; (simp only [Act.put, List.setIfInBounds_toArray, List.set_cons_zero, List.set_cons_succ, i64_w, i32_w]; rfl); refine pure_ (i := 4) (N := some 31) (v := ?_) (a' := ?_) #[true, true, true, true, true, false, false, false, false, false, false, false] rfl rfl (by kernel_rfl) (fun _ _ _ h => h) (Or.inl ⟨by rfl, ?_⟩) ?_ ?_; rotate_left; (intro w'; go_simp; (with_reducible rfl)); rotate_left; (simp only [Act.put, List.setIfInBounds_toArray, List.set_cons_zero, List.set_cons_succ, i64_w, i32_w]; rfl); refine pure_ (i := 6) (N := some 33) (v := ?_) (a' := ?_) #[true, true, true, true, true, false, true, false, false, false, false, false] rfl rfl (by kernel_rfl) (fun _ _ _ h => h) (Or.inl ⟨by rfl, ?_⟩) ?_ ?_; rotate_left; (intro w'; go_simp; (with_reducible rfl)); rotate_left; (simp only [Act.put, List.setIfInBounds_toArray, List.set_cons_zero, List.set_cons_succ, i64_w, i32_w]; rfl); refine pure_ (i := 7) (N := some 34) (v := ?_) (a' := ?_) #[true, true, true, true, true, false, true, true, false, false, false, false] rfl rfl (by kernel_rfl) (fun _ _ _ h => h) (Or.inl ⟨by rfl, ?_⟩) ?_ ?_; rotate_left; (intro w'; go_simp; (with_reducible rfl)); rotate_left; (simp only [Act.put, List.setIfInBounds_toArray, List.set_cons_zero, List.set_cons_succ, i64_w, i32_w]; rfl); refine take_ (i := 5) (N := some 32) (v := ?_) (a' := ?_) #[true, true, true, true, true, true, true, true, false, false, false, false] rfl rfl (by kernel_rfl) (fun _ _ _ h => h) (Or.inl ⟨by rfl, ?_⟩) hHeld ?_ ?_; rotate_left; (rintro w' ⟨s0, s1, s2, s3⟩; go_simp; (with_reducible rfl)); rotate_left; (simp only [Act.put, List.setIfInBounds_toArray, List.set_cons_zero, List.set_cons_succ, i64_w, i32_w]; rfl); refine take_ (i := 8) (N := some 35) (v := ?_) (a' := ?_) #[true, true, true, true, true, true, true, true, true, false, false, false] rfl rfl (by kernel_rfl) (fun _ _ _ h => h) (Or.inl ⟨by rfl, ?_⟩) hHeld ?_ ?_; rotate_left; (rintro w' ⟨s0, s1, s2, s3⟩; go_simp; (with_reducible rfl)); rotate_left; (simp only [Act.put, List.setIfInBounds_toArray, List.set_cons_zero, List.set_cons_succ, i64_w, i32_w]; rfl); refine pure_ (i := 9) (N := some 36) (v := ?_) (a' := ?_) #[true, true, true, true, true, true, true, true, true, true, false, false] rfl rfl (by kernel_rfl) (fun _ _ _ h => h) (Or.inl ⟨by rfl, ?_⟩) ?_ ?_; rotate_left; (intro w'; go_simp; (with_reducible rfl)); rotate_left; (simp only [Act.put, List.setIfInBounds_toArray, List.set_cons_zero, List.set_cons_succ, i64_w, i32_w]; rfl); refine pure_ (i := 10) (N := some 37) (v := ?_) (a' := ?_) #[true, true, true, true, true, true, true, true, true, true, true, false] rfl rfl (by kernel_rfl) (fun _ _ _ h => h) (Or.inl ⟨by rfl, ?_⟩) ?_ ?_; rotate_left; (intro w'; go_simp; (with_reducible rfl)); rotate_left; (simp only [Act.put, List.setIfInBounds_toArray, List.set_cons_zero, List.set_cons_succ, i64_w, i32_w]; rfl); refine pure_ (i := 11) (N := some 26) (v := ?_) (a' := ?_) #[true, true, true, true, true, true, true, true, true, true, true, true] rfl rfl (by kernel_rfl) (fun _ _ _ h => h) (Or.inl ⟨by rfl, ?_⟩) ?_ ?_; rotate_left; (intro w'; go_simp; (with_reducible rfl)); rotate_left; (simp only [Act.put, List.setIfInBounds_toArray, List.set_cons_zero, List.set_cons_succ, i64_w, i32_w]; rfl); refine done_ (by kernel_rfl) ?_; have HES := Aside0.mk hes
          gi_wp2
          have eo := outT_none pre (some (p', x), some (q', y)) (by simp [ofO, HES.out]); refine ⟨fun _ _ => rfl, ⟨H1.out, ⟨A', n', c', H2.out, ?_⟩, H3.out.drew⟩⟩; rw [eo]; exact Kd.R_drew HR.out
  case done =>
    rintro W ⟨h1, ⟨A', n', c', h2, hR⟩, h3⟩ hd; have H1 := Aside0.mk h1; have H2 := Aside0.mk h2; have H3 := Aside0.mk h3; have HR := Aside0.mk hR; have hb0 : W.cell? ⟨w.heap.size, 0, none⟩ = some (.slice A' n' c') := (zC h2 0).trans rfl; clear h1 h2 h3 hR
    go_wp2_with fail
    refine ⟨by simp, .inl ⟨_, _, rfl, run_takeDeferred hd, ?_⟩⟩; have hsz := L0.out.sz; have hlt := L0.out.lt; refine ⟨_, results_tmp rfl _ _ _, p, q, _, rfl, ?_, below_ext H3.out (put_below _ _ _) (fun k hk => World.putObj_heap_other (by omega))⟩; rw [HX.out]; exact Kd.R_lower (Kd.R_mono (Kd.R_step HR.out (fun k hk _ => World.putObj_heap_other (by omega))) (fun _ _ => trivial)) (by omega)
end Go.Proofs.Ytmpdbblljofjfaa.G
namespace Go.Proofs.Ytmpdbblljofjfaa.G
open Go.RowKit Go.Proofs.YtmpdbblljofjfaaW.PrintWords Go.Proofs.YtmpdbblljofjfaaW.PrintLast Go.Proofs.YtmpdbblljofjfaaW.PrintMore
set_option linter.unusedVariables false
/-- What the iterator hands on, without the addresses. -/
def prs : Nat → List S43 → List S43 → List (Option S43 × Option S43)
  | 0, _, _ => []
  | n + 1, r, s => match r, s with
    | [], [] => []
    | x :: r, [] => (some x, none) :: prs n r []
    | [], y :: s => (none, some y) :: prs n [] s
    | x :: r, y :: s => if leS x.f0 y.f0 = true then (if leS y.f0 x.f0 = true then (some x, some y) :: prs n r s else (some x, none) :: prs n r (y :: s)) else (none, some y) :: prs n (x :: r) s
def ofP (el : Option S43 × Option S43) : Option S31 := match el.1, el.2 with
  | some x, some y => if eqS x y = true then none else some ⟨y.f0, y.f1, false⟩
  | some x, none => some ⟨x.f0, ⟨#[]⟩, true⟩
  | none, some y => some ⟨y.f0, y.f1, false⟩
  | none, none => none
def ofN (a b : List S43) : List S31 := (prs ((rightP a).length + (rightP b).length) (rightP a) (rightP b)).filterMap ofP
theorem outT_prs : ∀ (n : Nat) (p q : Addr) (r s : List S43), outT (els n p q r s) = (prs n r s).filterMap ofP
  | 0, _, _, _, _ => rfl
  | n + 1, p, q, r, s => by
    unfold els prs
    cases r with
    | nil =>
      cases s with
      | nil => rfl
      | cons y s =>
        have ih := outT_prs n p (q.add 2) [] s
        unfold outT at ih ⊢
        rw [List.filterMap_cons, List.filterMap_cons]
        simp only [ofO, ofP, ih]
    | cons x r =>
      cases s with
      | nil =>
        have ih := outT_prs n (p.add 2) q r []
        unfold outT at ih ⊢
        rw [List.filterMap_cons, List.filterMap_cons]
        simp only [ofO, ofP, ih]
      | cons y s =>
        have ih1 := outT_prs n (p.add 2) (q.add 2) r s
        have ih2 := outT_prs n (p.add 2) q r (y :: s)
        have ih3 := outT_prs n p (q.add 2) (x :: r) s
        unfold outT at ih1 ih2 ih3 ⊢
        dsimp only
        split
        · split
          · rw [List.filterMap_cons, List.filterMap_cons]
            simp only [ofO, ofP, ih1]
          · rw [List.filterMap_cons, List.filterMap_cons]
            simp only [ofO, ofP, ih2]
        · rw [List.filterMap_cons, List.filterMap_cons]
          simp only [ofO, ofP, ih3]
theorem dif_of (el : El) (h : ¬ (el.1 = none ∧ el.2 = none)) : difO el = (ofO el).isSome := by
  obtain ⟨o1, o2⟩ := el
  cases o1 with
  | none =>
    cases o2 with
    | none => exact absurd ⟨rfl, rfl⟩ h
    | some y => rfl
  | some x =>
    cases o2 with
    | none => rfl
    | some y =>
      show (!(eqS x.2 y.2)) = (if eqS x.2 y.2 = true then none else some _ : Option S31).isSome
      cases eqS x.2 y.2 <;> rfl
theorem count_out : ∀ (l : List El), (∀ el ∈ l, ¬ (el.1 = none ∧ el.2 = none)) → l.countP difO = (outT l).length
  | [], _ => rfl
  | el :: l, h => by
    have ih := count_out l (fun e he => h e (List.mem_cons_of_mem _ he))
    have h0 := dif_of el (h el List.mem_cons_self)
    unfold outT at ih ⊢
    rw [List.countP_cons, List.filterMap_cons, ih]
    cases ho : ofO el with
    | none =>
      rw [ho] at h0
      simp only [Option.isSome_none] at h0
      simp [h0]
    | some c =>
      rw [ho] at h0
      simp only [Option.isSome_some] at h0
      simp [h0]
theorem names_n (n : Nat) (p q : Addr) (r s : List S43) : (els n p q r s).countP difO = ((prs n r s).filterMap ofP).length := by
  rw [count_out _ (els_any n p q r s), outT_prs]
def adiff_Of.f (l0 l1 : List S43) : Option (List S31) := if l0.length ≤ 1000000 ∧ l1.length ≤ 1000000 then some (ofN l0 l1) else none
def adiff_Names.f (l0 l1 : List S43) : Option Int := if l0.length ≤ 1000000 ∧ l1.length ≤ 1000000 then some (((ofN l0 l1).length : Nat) : Int) else none
theorem adiff_Of.calls (A0 : Option Addr) (c0 : Nat) (l0 : List S43) (A1 : Option Addr) (c1 : Nat) (l1 : List S43) (r : List S31) (w : World) (hr0 : Kd.C k43 w A0 l0.length l0) (hc0 : l0.length ≤ c0) (hr1 : Kd.C k43 w A1 l1.length l1) (hc1 : l1.length ≤ c1) (h : adiff_Of.f l0 l1 = some r) :
    Calls Try.prog 8 #[.slice A0 l0.length c0, .slice A1 l1.length c1] w fun e w' => ∃ v0_ : Value, e = .returned (v0_) ∧ Kd.R k31 31 w' w.heap.size (fun _ => True) v0_ r ∧ Below w.heap.size w w' := by
  unfold adiff_Of.f at h; split at h
  case isFalse => cases h
  rename_i hl
  obtain rfl := Option.some.inj h; refine (Of_walk A0 A1 c0 c1 l0 l1 w hr0 hr1 hc0 hc1 hl.1 hl.2).mono ?_; rintro e w' ⟨p, q, v, rfl, hR, hb⟩; rw [outT_prs] at hR; exact ⟨v, rfl, hR, hb⟩
theorem adiff_Names.calls (A0 : Option Addr) (c0 : Nat) (l0 : List S43) (A1 : Option Addr) (c1 : Nat) (l1 : List S43) (r : Int) (w : World) (hr0 : Kd.C k43 w A0 l0.length l0) (hc0 : l0.length ≤ c0) (hr1 : Kd.C k43 w A1 l1.length l1) (hc1 : l1.length ≤ c1) (h : adiff_Names.f l0 l1 = some r) :
    Calls Try.prog 10 #[.slice A0 l0.length c0, .slice A1 l1.length c1] w fun e w' => e = .returned (.int .i64 r) ∧ Below w.heap.size w w' := by
  unfold adiff_Names.f at h; split at h
  case isFalse => cases h
  rename_i hl
  obtain rfl := Option.some.inj h; refine (Names_walk A0 A1 c0 c1 l0 l1 w hr0 hr1 hc0 hc1 hl.1 hl.2).mono ?_; rintro e w' ⟨p, q, rfl, hb⟩; rw [names_n]; exact ⟨rfl, hb⟩
end Go.Proofs.Ytmpdbblljofjfaa.G
