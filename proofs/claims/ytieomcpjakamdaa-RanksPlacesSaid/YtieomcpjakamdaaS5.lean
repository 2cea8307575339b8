/- slices.symMergeCmpFunc (numbers), where the second run is one alone: its walk. -/
import Derived.Test.YtieomcpjakamdaaS4
namespace Go.Proofs.Ytieomcpjakamdaa.G
open Go.RowKit Go.Proofs.YtieomcpjakamdaaW.PrintWords Go.Proofs.YtieomcpjakamdaaW.PrintLast Go.Proofs.YtieomcpjakamdaaW.PrintMore Go.Proofs.Ytieomcpjakamdaa.Srt
set_option linter.unusedVariables false
set_option linter.unusedSimpArgs false

theorem sym2_end {cm : Int → Int → Int} (w : Swo (lt cm)) {X : List Int} {y : Int} (u : Nat) (hX : Srt (lt cm) X) (h1 : ∀ b ∈ X.take u, lt cm y b = false) (h2 : ∀ b ∈ X.drop u, lt cm y b = true) :
    Srt (lt cm) (X.take u ++ y :: X.drop u) ∧ Stb (lt cm) (X ++ [y]) (X.take u ++ y :: X.drop u) := by
  have h3 := inserted w (A := X.take u) (B := X.drop u) (x := y) (by rw [List.take_append_drop]; exact hX) h2 h1
  rw [List.take_append_drop] at h3
  exact h3

set_option maxHeartbeats 4000000 in
set_option maxRecDepth 100000 in
theorem sym2 (w0 : World) (A : Option Addr) (n c : Nat) (hn : n ≤ 140737488351232) (gn : Nat) (ok : Int → Prop) (cm : Int → Int → Int) (hc : Cm w0 gn ok cm) (P : List Int) (y : Int) (X Q : List Int) (hok : ok y ∧ ∀ x ∈ X, ok x) (hX : Srt (lt cm) X) (hX2 : 2 ≤ X.length) (W : World) (h : Rw w0 A n c W (P ++ X ++ [y] ++ Q))
    (a m b : Int) (ha : a = P.length) (hm : m = P.length + X.length) (hb : b = P.length + X.length + 1) :
    Calls Try.prog 28 #[.slice A n c, .int .i64 a, .int .i64 m, .int .i64 b, .func (.func 21) #[] #[.pointer (some ⟨gn, 0, none⟩)]] W fun e w' => e = .returned (.tuple #[]) ∧ ∃ M, Srt (lt cm) M ∧ Stb (lt cm) (X ++ [y]) M ∧ Rw w0 A n c w' (P ++ M ++ Q) := by
  have HN := Aside0.mk hn
  have HC := Aside0.mk hc
  have HOK := Aside0.mk hok
  obtain ⟨pm, hpm⟩ : ∃ pm : Nat, pm = P.length + X.length := ⟨_, rfl⟩
  obtain rfl : m = (pm : Int) := by omega
  have HPM := Aside0.mk hpm
  have HA := Aside0.mk (And.intro ha hb)
  have HX := Aside0.mk hX
  have H := Aside0.mk h
  have HLN := Aside0.mk (show P.length + X.length + 1 ≤ n by have := h.ln; simp at this; omega)
  obtain ⟨d, hd⟩ : ∃ d, (pm : Int) - a = d := ⟨_, rfl⟩
  have e1 : IntKind.i64.wrap ((pm : Int) - a) = d := by rw [IntWalk.i64_in _ (by have := HLN.out; omega)]; exact hd
  have e1b : (d == 1) = false := by simp; omega
  have e2 : IntKind.i64.wrap (b - (pm : Int)) = 1 := by rw [IntWalk.i64_in _ (by omega)]; omega
  obtain ⟨g, rfl, hg⟩ := h.form (by have := HLN.out; omega)
  have p0 := eq_true (show pm < n by have := HLN.out; omega)
  clear h hn hc hok ha hm hb hX hpm hg hX2 hd
  go_enter Try.func28, Try.ntmps28
  go_wp2_with fail
  go_loopg [14, 15] X.length (fun kq v10 v11 W' => ∃ (i j : Int) (s t : Nat), v10 = .int .i64 i ∧ v11 = .int .i64 j ∧ Aside0 (i = P.length + s ∧ j = P.length + t ∧ s ≤ t ∧ t ≤ X.length ∧ t ≤ s + kq) ∧ Aside0 ((∀ b ∈ X.take s, lt cm y b = false) ∧ (∀ b ∈ X.drop t, lt cm y b = true)) ∧ Aside0 (Rw w0 (some ⟨g, 0, none⟩) n c W' (P ++ X ++ [y] ++ Q)))
  case atStart => exact ⟨a, (pm : Int), 0, X.length, rfl, rfl, ⟨by have := HA.out; omega, by have := HPM.out; omega, by omega, by omega, by omega⟩, ⟨by simp, by simp⟩, H⟩
  case round =>
  clear H e1 e1b e2
  obtain ⟨i, j, s, t, rfl, rfl, HI, HS, H⟩ := hrel
  by_cases hij : i < j
  · have hijb : decide (i < j) = true := decide_eq_true hij
    cases gk with
    | zero => exact absurd hij (by have := HI.out; omega)
    | succ k1 =>
    obtain ⟨h, hh⟩ : ∃ h : Nat, h = (i + j).toNat / 2 - P.length := ⟨_, rfl⟩
    have HH := Aside0.mk (show s ≤ h ∧ h < t ∧ (i + j) / 2 = P.length + h by have := HI.out; omega)
    obtain ⟨p, hp⟩ : ∃ p : Nat, p = P.length + h := ⟨_, rfl⟩
    have w1 : wrap64 (IntKind.u64.wrap (wrap64 (i + j)) / 2) = (p : Int) := by rw [half_i i j (by have := HI.out; omega) (by have := HI.out; have := HLN.out; have := HN.out; omega)]; have := HH.out; omega
    have w2 : IntKind.i64.wrap ((p : Int) + 1) = (p : Int) + 1 := IntWalk.i64_in _ (by have := HH.out; have := HI.out; have := HLN.out; have := HN.out; omega)
    obtain ⟨x, hy⟩ : ∃ x, X[h]? = some x := ⟨_, List.getElem?_eq_getElem (by have := HH.out; have := HI.out; omega)⟩
    have HP := Aside0.mk hp
    have hpn : p < n := by have := HH.out; have := HI.out; have := HLN.out; omega
    have HPN := Aside0.mk hpn
    have hpn1 := eq_true hpn
    obtain ⟨cp, _⟩ := H.out.cell p hpn x (get_fst p h x hp hy)
    obtain ⟨ca, _⟩ := H.out.cell pm (by have := HLN.out; have := HPM.out; omega) y (get_snd pm 0 y (by have := HPM.out; omega) rfl)
    have HOY := Aside0.mk (HOK.out.2 x (List.mem_of_getElem? hy))
    have HYY := Aside0.mk hy
    obtain ⟨r, hr⟩ : ∃ r, cm y x = r := ⟨_, rfl⟩
    have HR := Aside0.mk hr
    clear hij hh hp hy hpn hr
    go_upto_region 17 with fail
    rw [w1]
    refine start_ (n := 12) (S := (fun w' => w'.cell? ⟨g, p, none⟩ = some (.int .i64 x) ∧ w'.cell? ⟨g, pm, none⟩ = some (.int .i64 y))) (ds := []) #[false, false, false, false, false, false, false, false, false, false, false, false] (by kernel_rfl) rfl rfl ?_ ?_
    · exact ⟨cp, ca⟩
    intro hHeld
    clear cp ca; have H2 := Aside0.mk H.out.drew; generalize wr.drew = w3 at H2 hHeld ⊢; have hH := hHeld; obtain ⟨cp, ca⟩ := hH
    refine pure_ (i := 0) (N := some 92) (v := ?_) (a' := ?_) #[true, false, false, false, false, false, false, false, false, false, false, false] rfl rfl (by kernel_rfl) (fun _ _ _ h => h) (Or.inl ⟨by rfl, ?_⟩) ?_ ?_
    rotate_left
    · intro w'
      go_simp
      with_reducible rfl
    rotate_left
    · simp only [Act.put, List.setIfInBounds_toArray, List.set_cons_zero, List.set_cons_succ, i64_w, i32_w]
      rfl
    refine pure_ (i := 1) (N := some 93) (v := ?_) (a' := ?_) #[true, true, false, false, false, false, false, false, false, false, false, false] rfl rfl (by kernel_rfl) (fun _ _ _ h => h) (Or.inl ⟨by rfl, ?_⟩) ?_ ?_
    rotate_left
    · intro w'
      go_simp
      with_reducible rfl
    rotate_left
    · simp only [Act.put, List.setIfInBounds_toArray, List.set_cons_zero, List.set_cons_succ, i64_w, i32_w]
      rfl
    refine pure_ (i := 2) (N := some 94) (v := ?_) (a' := ?_) #[true, true, true, false, false, false, false, false, false, false, false, false] rfl rfl (by kernel_rfl) (fun _ _ _ h => h) (Or.inl ⟨by rfl, ?_⟩) ?_ ?_
    rotate_left
    · intro w'
      go_simp
      with_reducible rfl
    rotate_left
    · simp only [Act.put, List.setIfInBounds_toArray, List.set_cons_zero, List.set_cons_succ, i64_w, i32_w]
      rfl
    refine pure_ (i := 3) (N := some 95) (v := ?_) (a' := ?_) #[true, true, true, true, false, false, false, false, false, false, false, false] rfl rfl (by kernel_rfl) (fun _ _ _ h => h) (Or.inl ⟨by rfl, ?_⟩) ?_ ?_
    rotate_left
    · intro w'
      go_simp
      with_reducible rfl
    rotate_left
    · simp only [Act.put, List.setIfInBounds_toArray, List.set_cons_zero, List.set_cons_succ, i64_w, i32_w]
      rfl
    refine pure_ (i := 5) (N := some 97) (v := ?_) (a' := ?_) #[true, true, true, true, false, true, false, false, false, false, false, false] rfl rfl (by kernel_rfl) (fun _ _ _ h => h) (Or.inl ⟨by rfl, ?_⟩) ?_ ?_
    rotate_left
    · intro w'
      go_simp
      with_reducible rfl
    rotate_left
    · simp only [Act.put, List.setIfInBounds_toArray, List.set_cons_zero, List.set_cons_succ, i64_w, i32_w]
      rfl
    refine pure_ (i := 6) (N := some 98) (v := ?_) (a' := ?_) #[true, true, true, true, false, true, true, false, false, false, false, false] rfl rfl (by kernel_rfl) (fun _ _ _ h => h) (Or.inl ⟨by rfl, ?_⟩) ?_ ?_
    rotate_left
    · intro w'
      go_simp
      with_reducible rfl
    rotate_left
    · simp only [Act.put, List.setIfInBounds_toArray, List.set_cons_zero, List.set_cons_succ, i64_w, i32_w]
      rfl
    refine pure_ (i := 7) (N := some 99) (v := ?_) (a' := ?_) #[true, true, true, true, false, true, true, true, false, false, false, false] rfl rfl (by kernel_rfl) (fun _ _ _ h => h) (Or.inl ⟨by rfl, ?_⟩) ?_ ?_
    rotate_left
    · intro w'
      go_simp
      with_reducible rfl
    rotate_left
    · simp only [Act.put, List.setIfInBounds_toArray, List.set_cons_zero, List.set_cons_succ, i64_w, i32_w]
      rfl
    refine take_ (i := 4) (N := some 96) (v := ?_) (a' := ?_) #[true, true, true, true, true, true, true, true, false, false, false, false] rfl rfl (by kernel_rfl) (fun _ _ _ h => h) (Or.inl ⟨by rfl, ?_⟩) hHeld ?_ ?_
    rotate_left
    · rintro w' ⟨s0, s1⟩
      go_simp
      with_reducible rfl
    rotate_left
    · simp only [Act.put, List.setIfInBounds_toArray, List.set_cons_zero, List.set_cons_succ, i64_w, i32_w]
      rfl
    refine take_ (i := 8) (N := some 100) (v := ?_) (a' := ?_) #[true, true, true, true, true, true, true, true, true, false, false, false] rfl rfl (by kernel_rfl) (fun _ _ _ h => h) (Or.inl ⟨by rfl, ?_⟩) hHeld ?_ ?_
    rotate_left
    · rintro w' ⟨s0, s1⟩
      go_simp
      with_reducible rfl
    rotate_left
    · simp only [Act.put, List.setIfInBounds_toArray, List.set_cons_zero, List.set_cons_succ, i64_w, i32_w]
      rfl
    refine one_ (i := 9) (N := some 101) #[true, true, true, true, true, true, true, true, true, true, false, false] rfl rfl (by kernel_rfl) (by decide) (fun K hK => ?_)
    refine goesV_ #[.pointer (some ⟨gn, 0, none⟩)] Try.func21 (by kernel_rfl) rfl #[.int .i64 y, .int .i64 x, .pointer (some ⟨gn, 0, none⟩)] (by rfl) rfl rfl (by rfl) (by (try simp only [List.map_toArray, List.map_cons, List.map_nil, List.append_toArray, List.cons_append, List.nil_append]); first | done | rfl) ?_
    refine (HC.out.call w3 y x H2.out.b HOK.out.1 HOY.out).mono ?_
    rintro e w4 ⟨rfl, hb⟩
    rw [HR.out]
    refine ⟨_, rfl, ?_⟩
    have H4 := Aside0.mk (H2.out.below hb)
    obtain ⟨cp4, _⟩ := H4.out.cell p HPN.out x (get_fst p h x HP.out HYY.out)
    obtain ⟨ca4, _⟩ := H4.out.cell pm (by have := HLN.out; have := HPM.out; omega) y (get_snd pm 0 y (by have := HPM.out; omega) rfl)
    clear hb cp ca
    refine hK.out _ _ ⟨cp4, ca4⟩ (fun hHeld => ?_)
    clear hK K
    refine norm_ (a' := ?_) ?_ ?_
    rotate_left
    · show Act.put _ (some 101) _ = _
      simp only [Act.put, List.setIfInBounds_toArray, List.set_cons_zero, List.set_cons_succ, i64_w, i32_w]
      rfl
    refine pure_ (i := 10) (N := some 102) (v := ?_) (a' := ?_) #[true, true, true, true, true, true, true, true, true, true, true, false] rfl rfl (by kernel_rfl) (fun _ _ _ h => h) (Or.inl ⟨by rfl, ?_⟩) ?_ ?_
    rotate_left
    · intro w'
      go_simp
      with_reducible rfl
    rotate_left
    · simp only [Act.put, List.setIfInBounds_toArray, List.set_cons_zero, List.set_cons_succ, i64_w, i32_w]
      rfl
    refine pure_ (i := 11) (N := some 103) (v := ?_) (a' := ?_) #[true, true, true, true, true, true, true, true, true, true, true, true] rfl rfl (by kernel_rfl) (fun _ _ _ h => h) (Or.inl ⟨by rfl, ?_⟩) ?_ ?_
    rotate_left
    · intro w'
      go_simp
      with_reducible rfl
    rotate_left
    · simp only [Act.put, List.setIfInBounds_toArray, List.set_cons_zero, List.set_cons_succ, i64_w, i32_w]
      rfl
    refine done_ (by kernel_rfl) ?_
    clear cp4 ca4
    by_cases hr0 : r < 0
    · have hrb : decide (r < 0) = true := decide_eq_true hr0
      have HLT := Aside0.mk (show lt cm y x = true by unfold lt; rw [HR.out]; exact decide_eq_true hr0)
      clear hr0
      simp only [hrb, Bool.not_true]
      go_wp2_with fail
      go_roundg k1
      case measure => omega
      case rel => exact ⟨i, (p : Int), s, h, rfl, rfl, ⟨by have := HI.out; omega, by have := HP.out; omega, by have := HH.out; omega, by have := HI.out; have := HH.out; omega, by have := HI.out; have := HH.out; omega⟩, ⟨HS.out.1, bs2_lt HC.out.swo HX.out HYY.out HLT.out⟩, H4⟩
    · have hrb : decide (r < 0) = false := decide_eq_false hr0
      have HLT := Aside0.mk (show lt cm y x = false by unfold lt; rw [HR.out]; exact decide_eq_false hr0)
      clear hr0
      simp only [hrb, Bool.not_false]
      go_wp2_with fail
      go_roundg k1
      case measure => omega
      case rel => exact ⟨(p : Int) + 1, j, h + 1, t, rfl, rfl, ⟨by have := HP.out; omega, by have := HI.out; omega, by have := HH.out; omega, by have := HI.out; omega, by have := HI.out; have := HH.out; omega⟩, ⟨bs2_ge HC.out.swo HX.out HYY.out HLT.out, HS.out.2⟩, H4⟩
  · have hijb : decide (i < j) = false := decide_eq_false hij
    have hst : t = s := by have := HI.out; omega
    subst hst
    clear hij
    go_wp2_with fail
    go_loopg [17] (X.length - t) (fun kq v13 W' => ∃ (k : Int) (u : Nat), v13 = .int .i64 k ∧ Aside0 (k = P.length + u ∧ u = t + kq ∧ u ≤ X.length) ∧ Aside0 (Rw w0 (some ⟨g, 0, none⟩) n c W' (P ++ X.take u ++ y :: (X.drop u ++ Q))))
    case atStart => exact ⟨(pm : Int), X.length, rfl, ⟨by have := HPM.out; omega, by have := HI.out; omega, by omega⟩, ⟨by have := H.out; simpa using this⟩⟩
    case round =>
    clear H
    obtain ⟨k, u, rfl, HK, H⟩ := hrel
    cases gk with
    | zero =>
      have hkb : decide (k > i) = false := decide_eq_false (by have := HK.out; have := HI.out; omega)
      have hkb2 : decide (i < k) = false := hkb
      go_wp2_with fail
      (try simp only [Exit.inBlock, Exit.then])
      refine bodyPost_ret (results_none rfl _ _ _) rfl ?_
      have hu : u = t := by have := HK.out; omega
      subst hu
      have hE := sym2_end HC.out.swo u HX.out HS.out.1 HS.out.2
      exact ⟨rfl, X.take u ++ y :: X.drop u, hE.1, hE.2, by have := H.out; simpa using this⟩
    | succ k1 =>
      have hkb : decide (k > i) = true := decide_eq_true (by have := HK.out; have := HI.out; omega)
      have hkb2 : decide (i < k) = true := hkb
      obtain ⟨u1, hu1⟩ : ∃ u1, u = u1 + 1 := ⟨u - 1, by have := HK.out; omega⟩
      subst hu1
      obtain ⟨x, hy⟩ : ∃ x, X[u1]? = some x := ⟨_, List.getElem?_eq_getElem (by have := HK.out; have := HI.out; omega)⟩
      obtain ⟨q, hq⟩ : ∃ q : Nat, q = P.length + u1 := ⟨_, rfl⟩
      have hkq : k = (q : Int) + 1 := by have := HK.out; omega
      subst hkq
      have HQ := Aside0.mk hq
      have HYY := Aside0.mk hy
      have H2 := Aside0.mk (show Rw w0 (some ⟨g, 0, none⟩) n c wr ((P ++ X.take u1) ++ x :: ([] ++ y :: (X.drop (u1 + 1) ++ Q))) by have := H.out; rw [take_get hy] at this; simpa using this)
      have HQL := Aside0.mk (show q = (P ++ X.take u1).length by rw [List.length_append, List.length_take]; have := HI.out; have := HK.out; omega)
      obtain ⟨hpn, cq, fq, cp, c2, c3, fp⟩ := H2.out.two q (q + 1) HQL.out (by have := HQL.out; simp only [List.length_nil]; omega)
      obtain ⟨cq2, fq2⟩ := c3 x
      have w2 : wrap64 (q : Int) = (q : Int) := by unfold wrap64; have := HN.out; omega
      have hpn1 := eq_true hpn
      have hqn1 := eq_true (show q < n by omega)
      have e1 : ((q : Int) + 1).toNat = q + 1 := by omega
      have e0 : (0 ≤ (q : Int) + 1) = True := eq_true (by omega)
      have e2 : ((q : Int) + 1 < (n : Int)) = True := eq_true (by omega)
      clear hq hy hpn c2 c3 H
      go_upto_region 23 with fail
      refine start_ (n := 18) (S := (fun w' => w'.cell? ⟨g, q, none⟩ = some (.int .i64 x) ∧ w'.cell? ⟨g, q + 1, none⟩ = some (.int .i64 y))) (ds := [15, 17]) #[false, false, false, false, false, false, false, false, false, false, false, false, false, false, false, false, false, false] (by kernel_rfl) rfl rfl ?_ ?_
      · exact ⟨cq, cp⟩
      intro hHeld
      refine pure_ (i := 0) (N := some 113) (v := ?_) (a' := ?_) #[true, false, false, false, false, false, false, false, false, false, false, false, false, false, false, false, false, false] rfl rfl (by kernel_rfl) (fun _ _ _ h => h) (Or.inl ⟨by rfl, ?_⟩) ?_ ?_
      rotate_left
      · intro w'
        go_simp
        with_reducible rfl
      rotate_left
      · simp only [Act.put, List.setIfInBounds_toArray, List.set_cons_zero, List.set_cons_succ, i64_w, i32_w]
        rfl
      refine pure_ (i := 1) (N := some 114) (v := ?_) (a' := ?_) #[true, true, false, false, false, false, false, false, false, false, false, false, false, false, false, false, false, false] rfl rfl (by kernel_rfl) (fun _ _ _ h => h) (Or.inl ⟨by rfl, ?_⟩) ?_ ?_
      rotate_left
      · intro w'
        go_simp
        with_reducible rfl
      rotate_left
      · simp only [Act.put, List.setIfInBounds_toArray, List.set_cons_zero, List.set_cons_succ, i64_w, i32_w]
        rfl
      refine pure_ (i := 2) (N := some 115) (v := ?_) (a' := ?_) #[true, true, true, false, false, false, false, false, false, false, false, false, false, false, false, false, false, false] rfl rfl (by kernel_rfl) (fun _ _ _ h => h) (Or.inl ⟨by rfl, ?_⟩) ?_ ?_
      rotate_left
      · intro w'
        go_simp
        with_reducible rfl
      rotate_left
      · simp only [Act.put, List.setIfInBounds_toArray, List.set_cons_zero, List.set_cons_succ, i64_w, i32_w]
        rfl
      refine pure_ (i := 3) (N := some 116) (v := ?_) (a' := ?_) #[true, true, true, true, false, false, false, false, false, false, false, false, false, false, false, false, false, false] rfl rfl (by kernel_rfl) (fun _ _ _ h => h) (Or.inl ⟨by rfl, ?_⟩) ?_ ?_
      rotate_left
      · intro w'
        go_simp
        with_reducible rfl
      rotate_left
      · simp only [Act.put, List.setIfInBounds_toArray, List.set_cons_zero, List.set_cons_succ, i64_w, i32_w]
        rfl
      refine pure_ (i := 4) (N := some 117) (v := ?_) (a' := ?_) #[true, true, true, true, true, false, false, false, false, false, false, false, false, false, false, false, false, false] rfl rfl (by kernel_rfl) (fun _ _ _ h => h) (Or.inl ⟨by rfl, ?_⟩) ?_ ?_
      rotate_left
      · intro w'
        go_simp
        with_reducible rfl
      rotate_left
      · simp only [Act.put, List.setIfInBounds_toArray, List.set_cons_zero, List.set_cons_succ, i64_w, i32_w]
        rfl
      refine pure_ (i := 5) (N := some 118) (v := ?_) (a' := ?_) #[true, true, true, true, true, true, false, false, false, false, false, false, false, false, false, false, false, false] rfl rfl (by kernel_rfl) (fun _ _ _ h => h) (Or.inl ⟨by rfl, ?_⟩) ?_ ?_
      rotate_left
      · intro w'
        go_simp
        with_reducible rfl
      rotate_left
      · simp only [Act.put, List.setIfInBounds_toArray, List.set_cons_zero, List.set_cons_succ, i64_w, i32_w]
        rfl
      refine pure_ (i := 6) (N := some 119) (v := ?_) (a' := ?_) #[true, true, true, true, true, true, true, false, false, false, false, false, false, false, false, false, false, false] rfl rfl (by kernel_rfl) (fun _ _ _ h => h) (Or.inl ⟨by rfl, ?_⟩) ?_ ?_
      rotate_left
      · intro w'
        go_simp
        with_reducible rfl
      rotate_left
      · simp only [Act.put, List.setIfInBounds_toArray, List.set_cons_zero, List.set_cons_succ, i64_w, i32_w]
        rfl
      refine pure_ (i := 7) (N := some 120) (v := ?_) (a' := ?_) #[true, true, true, true, true, true, true, true, false, false, false, false, false, false, false, false, false, false] rfl rfl (by kernel_rfl) (fun _ _ _ h => h) (Or.inl ⟨by rfl, ?_⟩) ?_ ?_
      rotate_left
      · intro w'
        go_simp
        with_reducible rfl
      rotate_left
      · simp only [Act.put, List.setIfInBounds_toArray, List.set_cons_zero, List.set_cons_succ, i64_w, i32_w]
        rfl
      refine pure_ (i := 8) (N := some 121) (v := ?_) (a' := ?_) #[true, true, true, true, true, true, true, true, true, false, false, false, false, false, false, false, false, false] rfl rfl (by kernel_rfl) (fun _ _ _ h => h) (Or.inl ⟨by rfl, ?_⟩) ?_ ?_
      rotate_left
      · intro w'
        go_simp
        with_reducible rfl
      rotate_left
      · simp only [Act.put, List.setIfInBounds_toArray, List.set_cons_zero, List.set_cons_succ, i64_w, i32_w]
        rfl
      refine pure_ (i := 10) (N := some 123) (v := ?_) (a' := ?_) #[true, true, true, true, true, true, true, true, true, false, true, false, false, false, false, false, false, false] rfl rfl (by kernel_rfl) (fun _ _ _ h => h) (Or.inl ⟨by rfl, ?_⟩) ?_ ?_
      rotate_left
      · intro w'
        go_simp
        with_reducible rfl
      rotate_left
      · simp only [Act.put, List.setIfInBounds_toArray, List.set_cons_zero, List.set_cons_succ, i64_w, i32_w]
        rfl
      refine pure_ (i := 11) (N := some 124) (v := ?_) (a' := ?_) #[true, true, true, true, true, true, true, true, true, false, true, true, false, false, false, false, false, false] rfl rfl (by kernel_rfl) (fun _ _ _ h => h) (Or.inl ⟨by rfl, ?_⟩) ?_ ?_
      rotate_left
      · intro w'
        go_simp
        with_reducible rfl
      rotate_left
      · simp only [Act.put, List.setIfInBounds_toArray, List.set_cons_zero, List.set_cons_succ, i64_w, i32_w]
        rfl
      refine pure_ (i := 12) (N := some 125) (v := ?_) (a' := ?_) #[true, true, true, true, true, true, true, true, true, false, true, true, true, false, false, false, false, false] rfl rfl (by kernel_rfl) (fun _ _ _ h => h) (Or.inl ⟨by rfl, ?_⟩) ?_ ?_
      rotate_left
      · intro w'
        go_simp
        with_reducible rfl
      rotate_left
      · simp only [Act.put, List.setIfInBounds_toArray, List.set_cons_zero, List.set_cons_succ, i64_w, i32_w]
        rfl
      refine take_ (i := 9) (N := some 122) (v := ?_) (a' := ?_) #[true, true, true, true, true, true, true, true, true, true, true, true, true, false, false, false, false, false] rfl rfl (by kernel_rfl) (fun _ _ _ h => h) (Or.inl ⟨by rfl, ?_⟩) hHeld ?_ ?_
      rotate_left
      · rintro w' ⟨s0, s1⟩
        go_simp
        with_reducible rfl
      rotate_left
      · simp only [Act.put, List.setIfInBounds_toArray, List.set_cons_zero, List.set_cons_succ, i64_w, i32_w]
        rfl
      refine take_ (i := 13) (N := some 126) (v := ?_) (a' := ?_) #[true, true, true, true, true, true, true, true, true, true, true, true, true, true, false, false, false, false] rfl rfl (by kernel_rfl) (fun _ _ _ h => h) (Or.inl ⟨by rfl, ?_⟩) hHeld ?_ ?_
      rotate_left
      · rintro w' ⟨s0, s1⟩
        go_simp
        with_reducible rfl
      rotate_left
      · simp only [Act.put, List.setIfInBounds_toArray, List.set_cons_zero, List.set_cons_succ, i64_w, i32_w]
        rfl
      refine pure_ (i := 14) (N := some 127) (v := ?_) (a' := ?_) #[true, true, true, true, true, true, true, true, true, true, true, true, true, true, true, false, false, false] rfl rfl (by kernel_rfl) (fun _ _ _ h => h) (Or.inl ⟨by rfl, ?_⟩) ?_ ?_
      rotate_left
      · intro w'
        go_simp
        with_reducible rfl
      rotate_left
      · simp only [Act.put, List.setIfInBounds_toArray, List.set_cons_zero, List.set_cons_succ, i64_w, i32_w]
        rfl
      refine last_ (i := 15) (N := none) #[true, true, true, true, true, true, true, true, true, true, true, true, true, true, true, true, false, false] rfl rfl (by kernel_rfl) (by decide) (fun K hK => ?_)
      refine skip_ (w1 := wr.drew.setCell ⟨g, q + 1, none⟩ (.int .i64 x)) (by rfl) rfl ?_ ?_
      · first | (go_simp; done) | (go_simp; rfl)
      refine hK.out _ _ ?_
      clear hK K
      refine pure_ (i := 16) (N := some 128) (v := ?_) (a' := ?_) #[true, true, true, true, true, true, true, true, true, true, true, true, true, true, true, true, true, false] rfl rfl (by kernel_rfl) (fun _ _ _ h => h) (Or.inl ⟨by rfl, ?_⟩) ?_ ?_
      rotate_left
      · intro w'
        go_simp
        with_reducible rfl
      rotate_left
      · simp only [Act.put, List.setIfInBounds_toArray, List.set_cons_zero, List.set_cons_succ, i64_w, i32_w]
        rfl
      refine last_ (i := 17) (N := none) #[true, true, true, true, true, true, true, true, true, true, true, true, true, true, true, true, true, true] rfl rfl (by kernel_rfl) (by decide) (fun K hK => ?_)
      refine skip_ (w1 := (wr.drew.setCell ⟨g, q + 1, none⟩ (.int .i64 x)).setCell ⟨g, q, none⟩ (.int .i64 y)) (by rfl) rfl ?_ ?_
      · first | (go_simp; done) | (go_simp; rfl)
      refine hK.out _ _ ?_
      clear hK K
      refine done_ (by kernel_rfl) ?_
      clear cq cp fq fp cq2 fq2
      have H5 := Aside0.mk (H2.out.drew.swap' q (q + 1) HQL.out (by have := HQL.out; simp only [List.length_nil]; omega))
      obtain ⟨W5, hW5⟩ : ∃ W5, (wr.drew.setCell ⟨g, q + 1, none⟩ (.int .i64 x)).setCell ⟨g, q, none⟩ (.int .i64 y) = W5 := ⟨_, rfl⟩
      rw [hW5] at H5 ⊢
      clear hW5
      go_wp2_with fail
      go_roundg k1
      case measure => omega
      case rel => exact ⟨wrap64 (q : Int), u1, rfl, ⟨by rw [w2]; have := HQ.out; omega, by have := HK.out; omega, by have := HK.out; omega⟩, ⟨by have := H5.out; rw [drop_get HYY.out]; simpa using this⟩⟩
end Go.Proofs.Ytieomcpjakamdaa.G
