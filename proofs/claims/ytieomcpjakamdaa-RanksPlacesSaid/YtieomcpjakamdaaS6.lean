/- slices.symMergeCmpFunc (numbers): its walk. -/
import Derived.Test.YtieomcpjakamdaaS5
import Derived.Deep.CutRange
namespace Go.Proofs.Ytieomcpjakamdaa.G
open Go.RowKit Go.Proofs.YtieomcpjakamdaaW.PrintWords Go.Proofs.YtieomcpjakamdaaW.PrintLast Go.Proofs.YtieomcpjakamdaaW.PrintMore Go.Proofs.Ytieomcpjakamdaa.Srt
set_option linter.unusedVariables false
set_option linter.unusedSimpArgs false

def SymAt (w0 : World) (A : Option Addr) (n c gn : Nat) (ok : Int → Prop) (cm : Int → Int → Int) (N : Nat) : Prop :=
  ∀ (P X Y Q : List Int) (W : World), X ≠ [] → Y ≠ [] → X.length + Y.length ≤ N → (∀ z ∈ X ++ Y, ok z) → Srt (lt cm) X → Srt (lt cm) Y → Rw w0 A n c W (P ++ X ++ Y ++ Q) →
    ∀ a m b : Int, a = P.length → m = P.length + X.length → b = P.length + X.length + Y.length →
    Calls Try.prog 28 #[.slice A n c, .int .i64 a, .int .i64 m, .int .i64 b, .func (.func 21) #[] #[.pointer (some ⟨gn, 0, none⟩)]] W fun e w' => e = .returned (.tuple #[]) ∧ ∃ M, Srt (lt cm) M ∧ Stb (lt cm) (X ++ Y) M ∧ Rw w0 A n c w' (P ++ M ++ Q)

theorem td {α : Type} (t : Nat) (X R : List α) : X.take t ++ (X.drop t ++ R) = X ++ R := by rw [← List.append_assoc, List.take_append_drop]
theorem cut_four {α : Type} (P X Y Q : List α) (t k : Nat) : P ++ X.take t ++ X.drop t ++ Y.take k ++ (Y.drop k ++ Q) = P ++ X ++ Y ++ Q := by
  simp only [List.append_assoc, td]
theorem cut_none {α : Type} (X Y Q : List α) (t k : Nat) (h : X.drop t = [] ∨ Y.take k = []) : X.take t ++ (Y.take k ++ (X.drop t ++ (Y.drop k ++ Q))) = X ++ (Y ++ Q) := by
  rcases h with e | e
  · have h1 := List.take_append_drop t X
    rw [e, List.append_nil] at h1
    rw [e, List.nil_append, td, h1]
  · have h1 := List.take_append_drop k Y
    rw [e, List.nil_append] at h1
    rw [e, List.nil_append, td, h1]

/-- Where the runs are cut: the bounds of what is searched. -/
def cut0 (x y : Nat) : Nat := if x > (x + y) / 2 then (x + y) / 2 - y else 0
def cut1 (x y : Nat) : Nat := if x > (x + y) / 2 then (x + y) / 2 else x
structure CutOk (cm : Int → Int → Int) (X Y : List Int) (s t : Nat) : Prop where
  lo : cut0 X.length Y.length ≤ s
  st : s ≤ t
  hi : t ≤ cut1 X.length Y.length
  left : s = cut0 X.length Y.length ∨ ∃ s1 x y, s = s1 + 1 ∧ X[s1]? = some x ∧ Y[(X.length + Y.length) / 2 - s]? = some y ∧ lt cm y x = false
  right : t = cut1 X.length Y.length ∨ ∃ x y, X[t]? = some x ∧ t < (X.length + Y.length) / 2 ∧ Y[(X.length + Y.length) / 2 - 1 - t]? = some y ∧ lt cm y x = true
theorem cut_le (x y : Nat) : cut0 x y ≤ cut1 x y ∧ cut1 x y ≤ x ∧ cut1 x y ≤ (x + y) / 2 ∧ (x + y) / 2 ≤ cut0 x y + y := by
  unfold cut0 cut1
  split <;> omega
theorem cut_sub (x y : Nat) (h : 0 < y) : (x + y) / 2 - cut0 x y = y ∨ cut0 x y = 0 := by
  unfold cut0
  split <;> omega
theorem cut_top (x y : Nat) : cut1 x y = x ∨ cut1 x y = (x + y) / 2 := by
  unfold cut1
  split <;> simp
theorem CutOk.merge {cm : Int → Int → Int} (w : Swo (lt cm)) {X Y : List Int} {s h : Nat} (c : CutOk cm X Y s s) (hh : h = (X.length + Y.length) / 2) (hX : Srt (lt cm) X) (hY : Srt (lt cm) Y) (hY0 : 0 < Y.length) {M1 M2 : List Int}
    (h1 : Srt (lt cm) M1) (s1 : Stb (lt cm) (X.take s ++ Y.take (h - s)) M1) (h2 : Srt (lt cm) M2) (s2 : Stb (lt cm) (X.drop s ++ Y.drop (h - s)) M2) : Srt (lt cm) (M1 ++ M2) ∧ Stb (lt cm) (X ++ Y) (M1 ++ M2) := by
  have hX' : Srt (lt cm) (X.take s ++ X.drop s) := by rw [List.take_append_drop]; exact hX
  have hY' : Srt (lt cm) (Y.take (h - s) ++ Y.drop (h - s)) := by rw [List.take_append_drop]; exact hY
  have pX := List.pairwise_append.1 hX'
  have pY := List.pairwise_append.1 hY'
  have hle := cut_le X.length Y.length
  have r := merged w hX' hY' (all_lt w pX.2.1 pY.1 ?_) (all_ge w pX.1 pY.2.1 ?_) h1 s1 h2 s2
  · rw [List.take_append_drop, List.take_append_drop] at r
    exact r
  · rcases c.right with e | ⟨x, y, e1, e2, e3, e4⟩
    · rcases cut_top X.length Y.length with e5 | e5
      · exact .inl (List.drop_eq_nil_of_le (by omega))
      · exact .inr (.inl (by rw [show h - s = 0 by omega]; rfl))
    · refine .inr (.inr ⟨x, X.drop (s + 1), Y.take (h - 1 - s), y, drop_get e1, ?_, e4⟩)
      rw [← hh] at e3 e2
      rw [show h - s = h - 1 - s + 1 by omega]
      exact take_get e3
  · rcases c.left with e | ⟨k1, x, y, e1, e2, e3, e4⟩
    · rcases cut_sub X.length Y.length hY0 with e5 | e5
      · exact .inr (.inl (List.drop_eq_nil_of_le (by omega)))
      · exact .inl (by rw [show s = 0 by omega]; rfl)
    · subst e1
      rw [← hh] at e3
      exact .inr (.inr ⟨X.take k1, x, y, Y.drop (h - (k1 + 1) + 1), take_get e2, drop_get e3, e4⟩)

set_option maxHeartbeats 8000000 in
set_option maxRecDepth 100000 in
theorem symR (w0 : World) (A : Option Addr) (n c : Nat) (hn : n ≤ 140737488351232) (gn : Nat) (ok : Int → Prop) (cm : Int → Int → Int) (hc : Cm w0 gn ok cm) (N : Nat) (ih : SymAt w0 A n c gn ok cm N)
    (P X Y Q : List Int) (W : World) (hX2 : 2 ≤ X.length) (hY2 : 2 ≤ Y.length) (hN : X.length + Y.length ≤ N + 1) (hok : ∀ z ∈ X ++ Y, ok z) (hX : Srt (lt cm) X) (hY : Srt (lt cm) Y) (h : Rw w0 A n c W (P ++ X ++ Y ++ Q))
    (a m b : Int) (ha : a = P.length) (hm : m = P.length + X.length) (hb : b = P.length + X.length + Y.length) :
    Calls Try.prog 28 #[.slice A n c, .int .i64 a, .int .i64 m, .int .i64 b, .func (.func 21) #[] #[.pointer (some ⟨gn, 0, none⟩)]] W fun e w' => e = .returned (.tuple #[]) ∧ ∃ M, Srt (lt cm) M ∧ Stb (lt cm) (X ++ Y) M ∧ Rw w0 A n c w' (P ++ M ++ Q) := by
  obtain ⟨h', hh'⟩ : ∃ h', (X.length + Y.length) / 2 = h' := ⟨_, rfl⟩
  have HLN := Aside0.mk (show P.length + X.length + Y.length ≤ n by have := h.ln; simp at this; omega)
  have HN := Aside0.mk hn
  have HC := Aside0.mk hc
  have IH := Aside0.mk ih
  have HOK := Aside0.mk hok
  have HX := Aside0.mk hX
  have HY := Aside0.mk hY
  have H := Aside0.mk h
  have H2 := Aside0.mk (And.intro hX2 (And.intro hY2 hN))
  have HA := Aside0.mk (And.intro ha (And.intro hm hb))
  have HHH := Aside0.mk hh'
  obtain ⟨d1, hd1⟩ : ∃ d, m - a = d := ⟨_, rfl⟩
  obtain ⟨d2, hd2⟩ : ∃ d, b - m = d := ⟨_, rfl⟩
  have e1 : IntKind.i64.wrap (m - a) = d1 := by rw [IntWalk.i64_in _ (by have := HLN.out; omega)]; exact hd1
  have e1b : (d1 == 1) = false := by simp; omega
  have e2 : IntKind.i64.wrap (b - m) = d2 := by rw [IntWalk.i64_in _ (by have := HLN.out; omega)]; exact hd2
  have e2b : (d2 == 1) = false := by simp; omega
  obtain ⟨mid, hmid⟩ : ∃ mid : Int, mid = P.length + h' := ⟨_, rfl⟩
  have HMID := Aside0.mk hmid
  have wmid : wrap64 (IntKind.u64.wrap (wrap64 (a + b)) / 2) = mid := by rw [half_i a b (by omega) (by have := HLN.out; omega)]; omega
  obtain ⟨nn, hnn⟩ : ∃ nn : Int, nn = mid + m := ⟨_, rfl⟩
  have HNN := Aside0.mk hnn
  have wnn : wrap64 (mid + m) = nn := by unfold wrap64; have := HLN.out; omega
  obtain ⟨pp, hpp⟩ : ∃ pp : Int, pp = nn - 1 := ⟨_, rfl⟩
  have HPP := Aside0.mk hpp
  have wpp : wrap64 (nn - 1) = pp := by unfold wrap64; have := HLN.out; omega
  obtain ⟨st, hst⟩ : ∃ st : Int, st = P.length + cut0 X.length Y.length := ⟨_, rfl⟩
  obtain ⟨rt, hrt⟩ : ∃ rt : Int, rt = P.length + cut1 X.length Y.length := ⟨_, rfl⟩
  have HST := Aside0.mk (And.intro hst hrt)
  obtain ⟨g, rfl, hg⟩ := h.form (by have := HLN.out; omega)
  have wst : m > mid → wrap64 (nn - b) = st ∧ mid = rt := by
    intro hgt
    rw [hst, hrt]
    unfold cut0 cut1
    rw [if_pos (by omega), if_pos (by omega)]
    unfold wrap64
    have := HLN.out
    omega
  have wst' : ¬ m > mid → a = st ∧ m = rt := by
    intro hgt
    rw [hst, hrt]
    unfold cut0 cut1
    rw [if_neg (by omega), if_neg (by omega)]
    omega
  have WST := Aside0.mk (And.intro wst wst')
  clear h hn hc hok ha hm hb hX hY hg hX2 hY2 hN hd1 hd2 hmid hnn hpp hst hrt hh' ih wst wst'
  go_enter Try.func28, Try.ntmps28
  go_upto_if 140 with fail
  go_cut [18, 19, 20, 21] from 131 to 146 (fun v18 v19 v20 v21 w' => v18 = .int .i64 mid ∧ v19 = .int .i64 nn ∧ v20 = .int .i64 st ∧ v21 = .int .i64 rt ∧ w' = W)
  case first =>
    by_cases hgt : m > mid
    · obtain ⟨q1, q2⟩ := WST.out.1 hgt
      have hgb : decide (m > mid) = true := decide_eq_true hgt
      have hgb2 : decide (mid < m) = true := hgb
      have HQ := Aside0.mk (And.intro q1 q2)
      clear q1 q2 hgt
      simp only [hgb, hgb2]
      go_wp2_with fail
      go_meet
      case rel => exact ⟨rfl, rfl, by rw [HQ.out.1], by rw [HQ.out.2], rfl⟩
    · obtain ⟨q1, q2⟩ := WST.out.2 hgt
      have hgb : decide (m > mid) = false := decide_eq_false hgt
      have hgb2 : decide (mid < m) = false := hgb
      have HQ := Aside0.mk (And.intro q1 q2)
      clear q1 q2 hgt
      simp only [hgb, hgb2]
      go_wp2_with fail
      go_meet
      case rel => exact ⟨rfl, rfl, by rw [HQ.out.1], by rw [HQ.out.2], rfl⟩
  case rest =>
  obtain ⟨rfl, rfl, rfl, rfl, rfl⟩ := hcut
  go_wp2_with fail
  go_loopg [20, 21] X.length (fun kq v20 v21 W' => ∃ (i j : Int) (s t : Nat), v20 = .int .i64 i ∧ v21 = .int .i64 j ∧ Aside0 (i = P.length + s ∧ j = P.length + t ∧ t ≤ s + kq) ∧ Aside0 (CutOk cm X Y s t) ∧ Aside0 (Rw w0 (some ⟨g, 0, none⟩) n c W' (P ++ X ++ Y ++ Q)))
  case atStart => exact ⟨st, rt, cut0 X.length Y.length, cut1 X.length Y.length, rfl, rfl, ⟨HST.out.1, HST.out.2, by have := cut_le X.length Y.length; omega⟩, ⟨Nat.le_refl _, (cut_le _ _).1, Nat.le_refl _, .inl rfl, .inl rfl⟩, H⟩
  case round =>
  clear H HST WST
  obtain ⟨i, j, s, t, rfl, rfl, HI, HS, H⟩ := hrel
  have HLE := Aside0.mk (show cut1 X.length Y.length ≤ X.length ∧ cut1 X.length Y.length ≤ h' ∧ h' ≤ cut0 X.length Y.length + Y.length by have := cut_le X.length Y.length; have := HHH.out; omega)
  by_cases hij : i < j
  · have hijb : decide (i < j) = true := decide_eq_true hij
    cases gk with
    | zero => exact absurd hij (by have := HI.out; omega)
    | succ k1 =>
    obtain ⟨k, hk⟩ : ∃ k : Nat, k = (i + j).toNat / 2 - P.length := ⟨_, rfl⟩
    have HK := Aside0.mk (show s ≤ k ∧ k < t ∧ (i + j) / 2 = P.length + k by have := HI.out; omega)
    obtain ⟨p, hp⟩ : ∃ p : Nat, p = P.length + k := ⟨_, rfl⟩
    obtain ⟨q, hq⟩ : ∃ q : Nat, q = P.length + X.length + (h' - 1 - k) := ⟨_, rfl⟩
    have HB := Aside0.mk (show k < X.length ∧ k < h' ∧ h' - 1 - k < Y.length by have := HK.out; have h1 := HS.out.lo; have h2 := HS.out.hi; have := HLE.out; omega)
    have w1 : wrap64 (IntKind.u64.wrap (wrap64 (i + j)) / 2) = (p : Int) := by rw [half_i i j (by have := HI.out; omega) (by have := HI.out; have h2 := HS.out.hi; have := HLE.out; have := HLN.out; have := HN.out; omega)]; have := HK.out; omega
    have w2 : IntKind.i64.wrap ((p : Int) + 1) = (p : Int) + 1 := IntWalk.i64_in _ (by have := HB.out; have := HLN.out; have := HN.out; omega)
    have w3 : IntKind.i64.wrap (pp - (p : Int)) = (q : Int) := by rw [IntWalk.i64_in _ (by have := HB.out; have := HLN.out; have := HN.out; have := HPP.out; have := HNN.out; have := HMID.out; have := HA.out; omega)]; have := HB.out; have := HPP.out; have := HNN.out; have := HMID.out; have := HA.out; omega
    obtain ⟨x, hx⟩ : ∃ x, X[k]? = some x := ⟨_, List.getElem?_eq_getElem (by have := HB.out; omega)⟩
    obtain ⟨y, hy⟩ : ∃ y, Y[h' - 1 - k]? = some y := ⟨_, List.getElem?_eq_getElem (by have := HB.out; omega)⟩
    have HP := Aside0.mk (And.intro hp hq)
    have hpn : p < n := by have := HB.out; have := HLN.out; omega
    have hqn : q < n := by have := HB.out; have := HLN.out; omega
    have HPN := Aside0.mk (And.intro hpn hqn)
    have hpn1 := eq_true hpn
    have hqn1 := eq_true hqn
    obtain ⟨cp, _⟩ := H.out.cell p hpn x (get_fst p k x hp hx)
    obtain ⟨cq, _⟩ := H.out.cell q hqn y (get_snd q (h' - 1 - k) y hq hy)
    have HOX := Aside0.mk (HOK.out x (List.mem_append.2 (.inl (List.mem_of_getElem? hx))))
    have HOY := Aside0.mk (HOK.out y (List.mem_append.2 (.inr (List.mem_of_getElem? hy))))
    have HXY := Aside0.mk (And.intro hx hy)
    obtain ⟨r, hr⟩ : ∃ r, cm y x = r := ⟨_, rfl⟩
    have HR := Aside0.mk hr
    clear hij hk hp hq hx hy hpn hqn hr
    go_upto_region 35 with fail
    rw [w1]
    refine start_ (n := 14) (S := (fun w' => w'.cell? ⟨g, p, none⟩ = some (.int .i64 x) ∧ w'.cell? ⟨g, q, none⟩ = some (.int .i64 y))) (ds := []) #[false, false, false, false, false, false, false, false, false, false, false, false, false, false] (by kernel_rfl) rfl rfl ?_ ?_
    · exact ⟨cp, cq⟩
    intro hHeld
    clear cp cq; have H2 := Aside0.mk H.out.drew; generalize wr.drew = w3 at H2 hHeld ⊢; have hH := hHeld; obtain ⟨cp, cq⟩ := hH
    refine pure_ (i := 0) (N := some 158) (v := ?_) (a' := ?_) #[true, false, false, false, false, false, false, false, false, false, false, false, false, false] rfl rfl (by kernel_rfl) (fun _ _ _ h => h) (Or.inl ⟨by rfl, ?_⟩) ?_ ?_
    rotate_left
    · intro w'
      go_simp
      with_reducible rfl
    rotate_left
    · simp only [Act.put, List.setIfInBounds_toArray, List.set_cons_zero, List.set_cons_succ, i64_w, i32_w]
      rfl
    refine pure_ (i := 1) (N := some 159) (v := ?_) (a' := ?_) #[true, true, false, false, false, false, false, false, false, false, false, false, false, false] rfl rfl (by kernel_rfl) (fun _ _ _ h => h) (Or.inl ⟨by rfl, ?_⟩) ?_ ?_
    rotate_left
    · intro w'
      go_simp
      with_reducible rfl
    rotate_left
    · simp only [Act.put, List.setIfInBounds_toArray, List.set_cons_zero, List.set_cons_succ, i64_w, i32_w]
      rfl
    refine pure_ (i := 2) (N := some 160) (v := ?_) (a' := ?_) #[true, true, true, false, false, false, false, false, false, false, false, false, false, false] rfl rfl (by kernel_rfl) (fun _ _ _ h => h) (Or.inl ⟨by rfl, ?_⟩) ?_ ?_
    rotate_left
    · intro w'
      go_simp
      with_reducible rfl
    rotate_left
    · simp only [Act.put, List.setIfInBounds_toArray, List.set_cons_zero, List.set_cons_succ, i64_w, i32_w]
      rfl
    refine pure_ (i := 3) (N := some 161) (v := ?_) (a' := ?_) #[true, true, true, true, false, false, false, false, false, false, false, false, false, false] rfl rfl (by kernel_rfl) (fun _ _ _ h => h) (Or.inl ⟨by rfl, ?_⟩) ?_ ?_
    rotate_left
    · intro w'
      go_simp
      with_reducible rfl
    rotate_left
    · simp only [Act.put, List.setIfInBounds_toArray, List.set_cons_zero, List.set_cons_succ, i64_w, i32_w]
      rfl
    refine pure_ (i := 4) (N := some 162) (v := ?_) (a' := ?_) #[true, true, true, true, true, false, false, false, false, false, false, false, false, false] rfl rfl (by kernel_rfl) (fun _ _ _ h => h) (Or.inl ⟨by rfl, ?_⟩) ?_ ?_
    rotate_left
    · intro w'
      go_simp
      with_reducible rfl
    rotate_left
    · simp only [Act.put, List.setIfInBounds_toArray, List.set_cons_zero, List.set_cons_succ, i64_w, i32_w]
      rfl
    refine pure_ (i := 5) (N := some 163) (v := ?_) (a' := ?_) #[true, true, true, true, true, true, false, false, false, false, false, false, false, false] rfl rfl (by kernel_rfl) (fun _ _ _ h => h) (Or.inl ⟨by rfl, ?_⟩) ?_ ?_
    rotate_left
    · intro w'
      go_simp
      with_reducible rfl
    rotate_left
    · simp only [Act.put, List.setIfInBounds_toArray, List.set_cons_zero, List.set_cons_succ, i64_w, i32_w]
      rfl
    refine pure_ (i := 7) (N := some 165) (v := ?_) (a' := ?_) #[true, true, true, true, true, true, false, true, false, false, false, false, false, false] rfl rfl (by kernel_rfl) (fun _ _ _ h => h) (Or.inl ⟨by rfl, ?_⟩) ?_ ?_
    rotate_left
    · intro w'
      go_simp
      with_reducible rfl
    rotate_left
    · simp only [Act.put, List.setIfInBounds_toArray, List.set_cons_zero, List.set_cons_succ, i64_w, i32_w]
      rfl
    refine pure_ (i := 8) (N := some 166) (v := ?_) (a' := ?_) #[true, true, true, true, true, true, false, true, true, false, false, false, false, false] rfl rfl (by kernel_rfl) (fun _ _ _ h => h) (Or.inl ⟨by rfl, ?_⟩) ?_ ?_
    rotate_left
    · intro w'
      go_simp
      with_reducible rfl
    rotate_left
    · simp only [Act.put, List.setIfInBounds_toArray, List.set_cons_zero, List.set_cons_succ, i64_w, i32_w]
      rfl
    refine pure_ (i := 9) (N := some 167) (v := ?_) (a' := ?_) #[true, true, true, true, true, true, false, true, true, true, false, false, false, false] rfl rfl (by kernel_rfl) (fun _ _ _ h => h) (Or.inl ⟨by rfl, ?_⟩) ?_ ?_
    rotate_left
    · intro w'
      go_simp
      with_reducible rfl
    rotate_left
    · simp only [Act.put, List.setIfInBounds_toArray, List.set_cons_zero, List.set_cons_succ, i64_w, i32_w]
      rfl
    refine take_ (i := 6) (N := some 164) (v := ?_) (a' := ?_) #[true, true, true, true, true, true, true, true, true, true, false, false, false, false] rfl rfl (by kernel_rfl) (fun _ _ _ h => h) (Or.inl ⟨by rfl, ?_⟩) hHeld ?_ ?_
    rotate_left
    · rintro w' ⟨s0, s1⟩
      go_simp
      with_reducible rfl
    rotate_left
    · simp only [Act.put, List.setIfInBounds_toArray, List.set_cons_zero, List.set_cons_succ, i64_w, i32_w]
      rfl
    refine take_ (i := 10) (N := some 168) (v := ?_) (a' := ?_) #[true, true, true, true, true, true, true, true, true, true, true, false, false, false] rfl rfl (by kernel_rfl) (fun _ _ _ h => h) (Or.inl ⟨by rfl, ?_⟩) hHeld ?_ ?_
    rotate_left
    · rintro w' ⟨s0, s1⟩
      go_simp
      with_reducible rfl
    rotate_left
    · simp only [Act.put, List.setIfInBounds_toArray, List.set_cons_zero, List.set_cons_succ, i64_w, i32_w]
      rfl
    refine one_ (i := 11) (N := some 169) #[true, true, true, true, true, true, true, true, true, true, true, true, false, false] rfl rfl (by kernel_rfl) (by decide) (fun K hK => ?_)
    refine goesV_ #[.pointer (some ⟨gn, 0, none⟩)] Try.func21 (by kernel_rfl) rfl #[.int .i64 y, .int .i64 x, .pointer (some ⟨gn, 0, none⟩)] (by rfl) rfl rfl (by rfl) (by (try simp only [List.map_toArray, List.map_cons, List.map_nil, List.append_toArray, List.cons_append, List.nil_append]); first | done | rfl) ?_
    refine (HC.out.call w3 y x H2.out.b HOY.out HOX.out).mono ?_
    rintro e w4 ⟨rfl, hb⟩
    rw [HR.out]
    refine ⟨_, rfl, ?_⟩
    have H4 := Aside0.mk (H2.out.below hb)
    obtain ⟨cp4, _⟩ := H4.out.cell p HPN.out.1 x (get_fst p k x HP.out.1 HXY.out.1)
    obtain ⟨cq4, _⟩ := H4.out.cell q HPN.out.2 y (get_snd q (h' - 1 - k) y HP.out.2 HXY.out.2)
    clear hb cp cq
    refine hK.out _ _ ⟨cp4, cq4⟩ (fun hHeld => ?_)
    clear hK K
    refine norm_ (a' := ?_) ?_ ?_
    rotate_left
    · show Act.put _ (some 169) _ = _
      simp only [Act.put, List.setIfInBounds_toArray, List.set_cons_zero, List.set_cons_succ, i64_w, i32_w]
      rfl
    refine pure_ (i := 12) (N := some 170) (v := ?_) (a' := ?_) #[true, true, true, true, true, true, true, true, true, true, true, true, true, false] rfl rfl (by kernel_rfl) (fun _ _ _ h => h) (Or.inl ⟨by rfl, ?_⟩) ?_ ?_
    rotate_left
    · intro w'
      go_simp
      with_reducible rfl
    rotate_left
    · simp only [Act.put, List.setIfInBounds_toArray, List.set_cons_zero, List.set_cons_succ, i64_w, i32_w]
      rfl
    refine pure_ (i := 13) (N := some 171) (v := ?_) (a' := ?_) #[true, true, true, true, true, true, true, true, true, true, true, true, true, true] rfl rfl (by kernel_rfl) (fun _ _ _ h => h) (Or.inl ⟨by rfl, ?_⟩) ?_ ?_
    rotate_left
    · intro w'
      go_simp
      with_reducible rfl
    rotate_left
    · simp only [Act.put, List.setIfInBounds_toArray, List.set_cons_zero, List.set_cons_succ, i64_w, i32_w]
      rfl
    refine done_ (by kernel_rfl) ?_
    clear cp4 cq4
    by_cases hr0 : r < 0
    · have hrb : decide (r < 0) = true := decide_eq_true hr0
      have HLT := Aside0.mk (show lt cm y x = true by unfold lt; rw [HR.out]; exact decide_eq_true hr0)
      clear hr0
      simp only [hrb, Bool.not_true]
      go_wp2_with fail
      go_roundg k1
      case measure => omega
      case rel =>
        refine ⟨i, (p : Int), s, k, rfl, rfl, ⟨by have := HI.out; omega, by have := HP.out; omega, by have := HI.out; have := HK.out; omega⟩, ⟨HS.out.lo, HK.out.1, by have h2 := HS.out.hi; have := HK.out; omega, HS.out.left, .inr ⟨x, y, HXY.out.1, ?_, ?_, HLT.out⟩⟩, H4⟩
        · have := HHH.out; have := HB.out; omega
        · rw [HHH.out]; exact HXY.out.2
    · have hrb : decide (r < 0) = false := decide_eq_false hr0
      have HLT := Aside0.mk (show lt cm y x = false by unfold lt; rw [HR.out]; exact decide_eq_false hr0)
      clear hr0
      simp only [hrb, Bool.not_false]
      go_wp2_with fail
      go_roundg k1
      case measure => omega
      case rel =>
        refine ⟨(p : Int) + 1, j, k + 1, t, rfl, rfl, ⟨by have := HP.out; omega, by have := HI.out; omega, by have := HI.out; have := HK.out; omega⟩, ⟨by have h2 := HS.out.lo; have := HK.out; omega, by have := HK.out; omega, HS.out.hi, .inr ⟨k, x, y, rfl, HXY.out.1, ?_, HLT.out⟩, HS.out.right⟩, H4⟩
        rw [HHH.out, show h' - (k + 1) = h' - 1 - k by omega]
        exact HXY.out.2
  · have hijb : decide (i < j) = false := decide_eq_false hij
    have hst : t = s := by have := HI.out; have h2 := HS.out.st; omega
    subst hst
    have HB := Aside0.mk (show t ≤ X.length ∧ t ≤ h' ∧ h' ≤ t + Y.length by have h1 := HS.out.lo; have h2 := HS.out.hi; have := HLE.out; omega)
    have HII := Aside0.mk (show i = P.length + t from HI.out.1)
    obtain ⟨en, hen⟩ : ∃ en : Int, en = nn - i := ⟨_, rfl⟩
    have wen : wrap64 (nn - i) = en := by unfold wrap64; have := HII.out; have := HB.out; have := HNN.out; have := HMID.out; have := HA.out; have := HLN.out; have := HN.out; omega
    have HEN := Aside0.mk (show en = P.length + X.length + (h' - t : Nat) by have := HII.out; have := HB.out; have := HNN.out; have := HMID.out; have := HA.out; omega)
    obtain ⟨B1, hB1⟩ : ∃ B1 : Bool, B1 = (decide (i < m) && decide (m < en)) := ⟨_, rfl⟩
    obtain ⟨B2, hB2⟩ : ∃ B2 : Bool, B2 = (decide (a < i) && decide (i < mid)) := ⟨_, rfl⟩
    obtain ⟨B3, hB3⟩ : ∃ B3 : Bool, B3 = (decide (mid < en) && decide (en < b)) := ⟨_, rfl⟩
    have HB1 := Aside0.mk hB1
    have HB2 := Aside0.mk hB2
    have HB3 := Aside0.mk hB3
    clear hij hen hB1 hB2 hB3 HI HLE
    go_upto_region 39 with fail
    go_cut [24, 185] from 175 to 191 (fun v24 v185 w' => v24 = .int .i64 en ∧ v185 = .bool B1 ∧ w' = wr)
    case first =>
      by_cases h1 : i < m
      · have h1b : decide (i < m) = true := decide_eq_true h1
        have HX1 := Aside0.mk (show B1 = decide (m < en) by rw [HB1.out, h1b, Bool.true_and])
        clear h1
        go_wp2_with fail
        go_meet
        case rel => exact ⟨by first | rfl | rw [wen], by rw [HX1.out], rfl⟩
      · have h1b : decide (i < m) = false := decide_eq_false h1
        have HX1 := Aside0.mk (show B1 = false by rw [HB1.out, h1b, Bool.false_and])
        clear h1
        go_wp2_with fail
        go_meet
        case rel => exact ⟨by first | rfl | rw [wen], by rw [HX1.out], rfl⟩
    case rest =>
    obtain ⟨rfl, rfl, rfl⟩ := hcut
    go_upto_if 185 with fail
    go_cut [] from 175 to 191 (fun w' => Aside0 (Rw w0 (some ⟨g, 0, none⟩) n c w' (P ++ X.take t ++ Y.take (h' - t) ++ X.drop t ++ Y.drop (h' - t) ++ Q)))
    case first =>
      cases B1 with
      | true =>
        have HX1 := Aside0.mk (show i < m ∧ m < en by have := HB1.out; simpa using this.symm)
        go_wp2_with fail
        refine (rotate w0 (some ⟨g, 0, none⟩) n c HN.out _ (P ++ X.take t) (X.drop t) (Y.take (h' - t)) (Y.drop (h' - t) ++ Q) (List.ne_nil_of_length_pos (by rw [List.length_drop]; have := HX1.out; have := HII.out; have := HA.out; omega)) (List.ne_nil_of_length_pos (by rw [List.length_take]; have := HX1.out; have := HEN.out; have := HA.out; have := HB.out; omega)) _ (by rw [cut_four]; exact H.out) i m en (by rw [List.length_append, List.length_take]; have := HII.out; have := HB.out; omega) (by rw [List.length_append, List.length_take, List.length_drop]; have := HA.out; have := HB.out; omega) (by rw [List.length_append, List.length_take, List.length_take, List.length_drop]; have := HEN.out; have := HA.out; have := HB.out; omega)).mono ?_; rintro e w3 ⟨rfl, hR⟩; have H3 := Aside0.mk hR; clear hR
        go_wp2_with fail
        go_meet
        case rel => exact ⟨by have := H3.out; simpa using this⟩
      | false =>
        have HX1 := Aside0.mk (show X.drop t = [] ∨ Y.take (h' - t) = [] by
          have h1 := HB1.out
          by_cases h2 : i < m
          · rw [decide_eq_true h2, Bool.true_and] at h1
            have h3 := of_decide_eq_false h1.symm
            exact .inr (by rw [show h' - t = 0 by have := HEN.out; have := HA.out; omega]; rfl)
          · exact .inl (List.drop_eq_nil_of_le (by have := HII.out; have := HA.out; omega)))
        go_wp2_with fail
        go_meet
        case rel =>
          refine ⟨?_⟩
          have h3 := H.out
          simp only [List.append_assoc] at h3 ⊢
          rw [cut_none X Y Q t (h' - t) HX1.out]
          exact h3
    case rest =>
    have H3 := hcut
    clear H hcut HB1
    go_upto_region 41 with fail
    go_cut [199] from 192 to 205 (fun v185 w' => v185 = .bool B2 ∧ w' = wc)
    case first =>
      by_cases h1 : a < i
      · have h1b : decide (a < i) = true := decide_eq_true h1
        have HX1 := Aside0.mk (show B2 = decide (i < mid) by rw [HB2.out, h1b, Bool.true_and])
        clear h1
        go_wp2_with fail
        go_meet
        case rel => exact ⟨by rw [HX1.out], rfl⟩
      · have h1b : decide (a < i) = false := decide_eq_false h1
        have HX1 := Aside0.mk (show B2 = false by rw [HB2.out, h1b, Bool.false_and])
        clear h1
        go_wp2_with fail
        go_meet
        case rel => exact ⟨by rw [HX1.out], rfl⟩
    case rest =>
    obtain ⟨rfl, rfl⟩ := hcut
    go_upto_if 199 with fail
    go_cut [] from 192 to 205 (fun w' => ∃ M1, Aside0 (Srt (lt cm) M1 ∧ Stb (lt cm) (X.take t ++ Y.take (h' - t)) M1) ∧ Aside0 (Rw w0 (some ⟨g, 0, none⟩) n c w' (P ++ M1 ++ X.drop t ++ Y.drop (h' - t) ++ Q)))
    case first =>
      have SX := Aside0.mk (show Srt (lt cm) (X.take t) ∧ Srt (lt cm) (Y.take (h' - t)) from ⟨List.Pairwise.sublist (List.take_sublist _ _) HX.out, List.Pairwise.sublist (List.take_sublist _ _) HY.out⟩)
      cases B2 with
      | true =>
        have HX1 := Aside0.mk (show a < i ∧ i < mid by have := HB2.out; simpa using this.symm)
        go_wp2_with (go_at_call 28; refine (IH.out P (X.take t) (Y.take (h' - t)) (X.drop t ++ Y.drop (h' - t) ++ Q) _ (List.ne_nil_of_length_pos (by rw [List.length_take]; have := HX1.out; have := HII.out; have := HA.out; have := HB.out; omega)) (List.ne_nil_of_length_pos (by rw [List.length_take]; have := HX1.out; have := HII.out; have := HMID.out; have := HB.out; omega)) (by rw [List.length_take, List.length_take]; have := HB.out; have := H2.out; have := HHH.out; omega) (fun z hz => HOK.out z (by rcases List.mem_append.1 hz with hz | hz; exact List.mem_append.2 (.inl (List.mem_of_mem_take hz)); exact List.mem_append.2 (.inr (List.mem_of_mem_take hz)))) SX.out.1 SX.out.2 (by have h3 := H3.out; simp only [List.append_assoc] at h3 ⊢; exact h3) a i mid (by have := HA.out; omega) (by rw [List.length_take]; have := HII.out; have := HB.out; omega) (by rw [List.length_take, List.length_take]; have := HMID.out; have := HB.out; omega)).mono ?_; rintro e w3 ⟨rfl, M1, h1, h2, hR⟩; have HM := Aside0.mk (And.intro h1 h2); have H4 := Aside0.mk hR; clear hR h1 h2)
        go_meet
        case rel => exact ⟨M1, HM, ⟨by have h3 := H4.out; simp only [List.append_assoc] at h3 ⊢; exact h3⟩⟩
      | false =>
        have HX1 := Aside0.mk (show Srt (lt cm) (X.take t ++ Y.take (h' - t)) by
          have h1 := HB2.out
          by_cases h2 : a < i
          · rw [decide_eq_true h2, Bool.true_and] at h1
            have h3 := of_decide_eq_false h1.symm
            rw [show h' - t = 0 by have := HMID.out; have := HII.out; omega, List.take_zero, List.append_nil]
            exact SX.out.1
          · rw [show t = 0 by have := HII.out; have := HA.out; omega, List.take_zero, List.nil_append]
            exact List.Pairwise.sublist (List.take_sublist _ _) HY.out)
        go_wp2_with fail
        go_meet
        case rel => exact ⟨X.take t ++ Y.take (h' - t), ⟨HX1.out, Stb.refl _ _⟩, ⟨by have h3 := H3.out; simp only [List.append_assoc] at h3 ⊢; exact h3⟩⟩
    case rest =>
    clear H3 HB2
    obtain ⟨M1, HM, H3⟩ := hcut
    have HML := Aside0.mk (show M1.length = h' by rw [HM.out.2.len, List.length_append, List.length_take, List.length_take]; have := HB.out; omega)
    go_upto_region 43 with fail
    go_cut [213] from 206 to 219 (fun v185 w' => v185 = .bool B3 ∧ w' = wc)
    case first =>
      by_cases h1 : mid < en
      · have h1b : decide (mid < en) = true := decide_eq_true h1
        have HX1 := Aside0.mk (show B3 = decide (en < b) by rw [HB3.out, h1b, Bool.true_and])
        clear h1
        go_wp2_with fail
        go_meet
        case rel => exact ⟨by rw [HX1.out], rfl⟩
      · have h1b : decide (mid < en) = false := decide_eq_false h1
        have HX1 := Aside0.mk (show B3 = false by rw [HB3.out, h1b, Bool.false_and])
        clear h1
        go_wp2_with fail
        go_meet
        case rel => exact ⟨by rw [HX1.out], rfl⟩
    case rest =>
    obtain ⟨rfl, rfl⟩ := hcut
    have SX := Aside0.mk (show Srt (lt cm) (X.drop t) ∧ Srt (lt cm) (Y.drop (h' - t)) from ⟨List.Pairwise.sublist (List.drop_sublist _ _) HX.out, List.Pairwise.sublist (List.drop_sublist _ _) HY.out⟩)
    cases B3 with
    | true =>
      have HX1 := Aside0.mk (show mid < en ∧ en < b by have := HB3.out; simpa using this.symm)
      go_wp2_with (go_at_call 28; refine (IH.out (P ++ M1) (X.drop t) (Y.drop (h' - t)) Q _ (List.ne_nil_of_length_pos (by rw [List.length_drop]; have := HX1.out; have := HEN.out; have := HMID.out; have := HB.out; omega)) (List.ne_nil_of_length_pos (by rw [List.length_drop]; have := HX1.out; have := HEN.out; have := HA.out; have := HB.out; omega)) (by rw [List.length_drop, List.length_drop]; have := HB.out; have := H2.out; have := HHH.out; omega) (fun z hz => HOK.out z (by rcases List.mem_append.1 hz with hz | hz; exact List.mem_append.2 (.inl (List.mem_of_mem_drop hz)); exact List.mem_append.2 (.inr (List.mem_of_mem_drop hz)))) SX.out.1 SX.out.2 (by have h3 := H3.out; simp only [List.append_assoc] at h3 ⊢; exact h3) mid en b (by rw [List.length_append]; have := HML.out; have := HMID.out; omega) (by rw [List.length_append, List.length_drop]; have := HML.out; have := HEN.out; have := HB.out; omega) (by rw [List.length_append, List.length_drop, List.length_drop]; have := HML.out; have := HA.out; have := HB.out; omega)).mono ?_; rintro e w3 ⟨rfl, M2, h1, h2, hR⟩; have HM2 := Aside0.mk (And.intro h1 h2); have H4 := Aside0.mk hR; clear hR h1 h2)
      refine bodyPost_end (results_none rfl _ _ _) rfl ?_
      have hF := HS.out.merge HC.out.swo HHH.out.symm HX.out HY.out (by have := H2.out; omega) HM.out.1 HM.out.2 HM2.out.1 HM2.out.2
      exact ⟨rfl, M1 ++ M2, hF.1, hF.2, by have h3 := H4.out; simp only [List.append_assoc] at h3 ⊢; exact h3⟩
    | false =>
      have HX1 := Aside0.mk (show Srt (lt cm) (X.drop t ++ Y.drop (h' - t)) by
        have h1 := HB3.out
        by_cases h2 : mid < en
        · rw [decide_eq_true h2, Bool.true_and] at h1
          have h3 := of_decide_eq_false h1.symm
          have e5 : Y.drop (h' - t) = [] := List.drop_eq_nil_of_le (by have := HEN.out; have := HA.out; have := HB.out; omega)
          rw [e5, List.append_nil]
          exact SX.out.1
        · have e5 : X.drop t = [] := List.drop_eq_nil_of_le (by have := HEN.out; have := HMID.out; have := HB.out; omega)
          rw [e5, List.nil_append]
          exact SX.out.2)
      go_wp2_with fail
      refine bodyPost_end (results_none rfl _ _ _) rfl ?_
      have hF := HS.out.merge HC.out.swo HHH.out.symm HX.out HY.out (by have := H2.out; omega) HM.out.1 HM.out.2 HX1.out (Stb.refl _ _)
      exact ⟨rfl, M1 ++ (X.drop t ++ Y.drop (h' - t)), hF.1, hF.2, by have h3 := H3.out; simp only [List.append_assoc] at h3 ⊢; exact h3⟩

theorem symAll (w0 : World) (A : Option Addr) (n c : Nat) (hn : n ≤ 140737488351232) (gn : Nat) (ok : Int → Prop) (cm : Int → Int → Int) (hc : Cm w0 gn ok cm) : ∀ N, SymAt w0 A n c gn ok cm N
  | 0 => by
    intro P X Y Q W hX hY hN
    have := List.length_pos_iff.2 hX
    omega
  | N + 1 => by
    intro P X Y Q W hX hY hN hok sX sY h a m b ha hm hb
    have pX := List.length_pos_iff.2 hX
    have pY := List.length_pos_iff.2 hY
    by_cases h1 : X.length = 1
    · obtain ⟨x, rfl⟩ := List.length_eq_one_iff.1 h1
      exact sym1 w0 A n c hn gn ok cm hc P x Y Q ⟨hok x (by simp), fun y hy => hok y (by simp [hy])⟩ sY W h a m b ha (by simpa using hm) (by simpa using hb)
    · by_cases h2 : Y.length = 1
      · obtain ⟨y, rfl⟩ := List.length_eq_one_iff.1 h2
        exact sym2 w0 A n c hn gn ok cm hc P y X Q ⟨hok y (by simp), fun x hx => hok x (by simp [hx])⟩ sX (by omega) W h a m b ha hm (by simpa using hb)
      · exact symR w0 A n c hn gn ok cm hc N (symAll w0 A n c hn gn ok cm hc N) P X Y Q W (by omega) (by omega) hN hok sX sY h a m b ha hm hb
end Go.Proofs.Ytieomcpjakamdaa.G
