/- slices.symMergeCmpFunc (numbers), where the first run is one alone: its walk. -/
import Derived.Test.YtieomcpjakamdaaS3
namespace Go.Proofs.Ytieomcpjakamdaa.G
open Go.RowKit Go.Proofs.YtieomcpjakamdaaW.PrintWords Go.Proofs.YtieomcpjakamdaaW.PrintLast Go.Proofs.YtieomcpjakamdaaW.PrintMore Go.Proofs.Ytieomcpjakamdaa.Srt
set_option linter.unusedVariables false
set_option linter.unusedSimpArgs false

theorem srt_take {α : Type} {lt : α → α → Bool} (w : Swo lt) {Y : List α} (hY : Srt lt Y) {h : Nat} {y : α} (e : Y[h]? = some y) : ∀ b ∈ Y.take (h + 1), lt y b = false := by
  intro b hb
  rw [take_get e] at hb
  have h1 := List.pairwise_append.1 (show (Y.take h ++ Y.drop h).Pairwise (fun a b => lt b a = false) by rw [List.take_append_drop]; exact hY)
  rcases List.mem_append.1 hb with hb | hb
  · exact h1.2.2 b hb y (by rw [drop_get e]; simp)
  · rw [List.mem_singleton.1 hb]; exact w.irr _
theorem srt_drop {α : Type} {lt : α → α → Bool} (w : Swo lt) {Y : List α} (hY : Srt lt Y) {h : Nat} {y : α} (e : Y[h]? = some y) : ∀ b ∈ Y.drop h, lt b y = false := by
  intro b hb
  have h1 := List.pairwise_append.1 (show (Y.take h ++ Y.drop h).Pairwise (fun a b => lt b a = false) by rw [List.take_append_drop]; exact hY)
  rw [drop_get e] at hb h1
  rcases List.mem_cons.1 hb with rfl | hb
  · exact w.irr _
  · exact (List.pairwise_cons.1 h1.2.1).1 b hb
theorem bs_lt {α : Type} {lt : α → α → Bool} (w : Swo lt) {Y : List α} (hY : Srt lt Y) {h : Nat} {x y : α} (e : Y[h]? = some y) (hl : lt y x = true) : ∀ b ∈ Y.take (h + 1), lt b x = true := by
  intro b hb
  cases hx : lt b x with
  | true => rfl
  | false => rw [w.nt y b x (srt_take w hY e b hb) hx] at hl; cases hl
theorem bs_ge {α : Type} {lt : α → α → Bool} (w : Swo lt) {Y : List α} (hY : Srt lt Y) {h : Nat} {x y : α} (e : Y[h]? = some y) (hl : lt y x = false) : ∀ b ∈ Y.drop h, lt b x = false :=
  fun b hb => w.nt b y x (srt_drop w hY e b hb) hl
theorem bs2_ge {α : Type} {lt : α → α → Bool} (w : Swo lt) {Y : List α} (hY : Srt lt Y) {h : Nat} {x y : α} (e : Y[h]? = some y) (hl : lt x y = false) : ∀ b ∈ Y.take (h + 1), lt x b = false :=
  fun b hb => w.nt x y b hl (srt_take w hY e b hb)
theorem bs2_lt {α : Type} {lt : α → α → Bool} (w : Swo lt) {Y : List α} (hY : Srt lt Y) {h : Nat} {x y : α} (e : Y[h]? = some y) (hl : lt x y = true) : ∀ b ∈ Y.drop h, lt x b = true := by
  intro b hb
  cases hx : lt x b with
  | true => rfl
  | false => rw [w.nt x b y hx (srt_drop w hY e b hb)] at hl; cases hl

theorem half_i (i j : Int) (h0 : 0 ≤ i + j) (h : i + j ≤ 281474976710656) : wrap64 (IntKind.u64.wrap (wrap64 (i + j)) / 2) = (i + j) / 2 := by
  have e1 : wrap64 (i + j) = i + j := by unfold wrap64; omega
  have e2 : IntKind.u64.wrap (i + j) = i + j := by rw [IntKind.wrap_u64]; omega
  rw [e1, e2]
  unfold wrap64
  omega
theorem get_fst {α : Type} {P X Y Q : List α} (p k : Nat) (x : α) (hp : p = P.length + k) (hx : X[k]? = some x) : (P ++ X ++ Y ++ Q)[p]? = some x := by
  have hk := (List.getElem?_eq_some_iff.1 hx).1
  subst hp
  rw [List.append_assoc, List.append_assoc, List.getElem?_append_right (by omega), Nat.add_sub_cancel_left, List.getElem?_append_left hk, hx]
theorem get_snd {α : Type} {P X Y Q : List α} (p k : Nat) (x : α) (hp : p = P.length + X.length + k) (hx : Y[k]? = some x) : (P ++ X ++ Y ++ Q)[p]? = some x := by
  have hk := (List.getElem?_eq_some_iff.1 hx).1
  subst hp
  rw [← List.length_append, List.append_assoc, List.getElem?_append_right (by omega), Nat.add_sub_cancel_left, List.getElem?_append_left hk, hx]

set_option maxHeartbeats 4000000 in
set_option maxRecDepth 100000 in
theorem sym1 (w0 : World) (A : Option Addr) (n c : Nat) (hn : n ≤ 140737488351232) (gn : Nat) (ok : Int → Prop) (cm : Int → Int → Int) (hc : Cm w0 gn ok cm) (P : List Int) (x : Int) (Y Q : List Int) (hok : ok x ∧ ∀ y ∈ Y, ok y) (hY : Srt (lt cm) Y) (W : World) (h : Rw w0 A n c W (P ++ [x] ++ Y ++ Q))
    (a m b : Int) (ha : a = P.length) (hm : m = P.length + 1) (hb : b = P.length + 1 + Y.length) :
    Calls Try.prog 28 #[.slice A n c, .int .i64 a, .int .i64 m, .int .i64 b, .func (.func 21) #[] #[.pointer (some ⟨gn, 0, none⟩)]] W fun e w' => e = .returned (.tuple #[]) ∧ ∃ M, Srt (lt cm) M ∧ Stb (lt cm) ([x] ++ Y) M ∧ Rw w0 A n c w' (P ++ M ++ Q) := by
  have HN := Aside0.mk hn
  have HC := Aside0.mk hc
  have HOK := Aside0.mk hok
  obtain ⟨pa, hpa⟩ : ∃ pa : Nat, pa = P.length := ⟨_, rfl⟩
  obtain rfl : a = (pa : Int) := by omega
  have HPA := Aside0.mk hpa
  have HA := Aside0.mk (And.intro hm hb)
  have HY := Aside0.mk hY
  have H := Aside0.mk h
  have HLN := Aside0.mk (show P.length + 1 + Y.length ≤ n by have := h.ln; simp at this; omega)
  have e1 : IntKind.i64.wrap (m - (pa : Int)) = 1 := by rw [IntWalk.i64_in _ (by omega)]; omega
  obtain ⟨g, rfl, hg⟩ := h.form (by have := HLN.out; omega)
  have p0 := eq_true (show pa < n by have := HLN.out; omega)
  clear h hn hc hok ha hm hb hY hpa hg
  go_enter Try.func28, Try.ntmps28
  go_wp2_with fail
  go_loopg [10, 11] Y.length (fun kq v10 v11 W' => ∃ (i j : Int) (s t : Nat), v10 = .int .i64 i ∧ v11 = .int .i64 j ∧ Aside0 (i = P.length + 1 + s ∧ j = P.length + 1 + t ∧ s ≤ t ∧ t ≤ Y.length ∧ t ≤ s + kq) ∧ Aside0 ((∀ b ∈ Y.take s, lt cm b x = true) ∧ (∀ b ∈ Y.drop t, lt cm b x = false)) ∧ Aside0 (Rw w0 (some ⟨g, 0, none⟩) n c W' (P ++ [x] ++ Y ++ Q)))
  case atStart => exact ⟨m, b, 0, Y.length, rfl, rfl, ⟨by have := HA.out; omega, by have := HA.out; omega, by omega, by omega, by omega⟩, ⟨by simp, by simp⟩, H⟩
  case round =>
  clear H e1
  obtain ⟨i, j, s, t, rfl, rfl, HI, HS, H⟩ := hrel
  by_cases hij : i < j
  · have hijb : decide (i < j) = true := decide_eq_true hij
    cases gk with
    | zero => exact absurd hij (by have := HI.out; omega)
    | succ k1 =>
    obtain ⟨h, hh⟩ : ∃ h : Nat, h = (i + j).toNat / 2 - (P.length + 1) := ⟨_, rfl⟩
    have HH := Aside0.mk (show s ≤ h ∧ h < t ∧ (i + j) / 2 = P.length + 1 + h by have := HI.out; omega)
    obtain ⟨p, hp⟩ : ∃ p : Nat, p = P.length + 1 + h := ⟨_, rfl⟩
    have w1 : wrap64 (IntKind.u64.wrap (wrap64 (i + j)) / 2) = (p : Int) := by rw [half_i i j (by have := HI.out; omega) (by have := HI.out; have := HLN.out; have := HN.out; omega)]; have := HH.out; omega
    have w2 : IntKind.i64.wrap ((p : Int) + 1) = (p : Int) + 1 := IntWalk.i64_in _ (by have := HH.out; have := HI.out; have := HLN.out; have := HN.out; omega)
    obtain ⟨y, hy⟩ : ∃ y, Y[h]? = some y := ⟨_, List.getElem?_eq_getElem (by have := HH.out; have := HI.out; omega)⟩
    have HP := Aside0.mk hp
    have hpn : p < n := by have := HH.out; have := HI.out; have := HLN.out; omega
    have HPN := Aside0.mk hpn
    have hpn1 := eq_true hpn
    obtain ⟨cp, _⟩ := H.out.cell p hpn y (get_snd p h y hp hy)
    obtain ⟨ca, _⟩ := H.out.cell pa (by have := HLN.out; have := HPA.out; omega) x (get_fst pa 0 x (by have := HPA.out; omega) rfl)
    have HOY := Aside0.mk (HOK.out.2 y (List.mem_of_getElem? hy))
    have HYY := Aside0.mk hy
    obtain ⟨r, hr⟩ : ∃ r, cm y x = r := ⟨_, rfl⟩
    have HR := Aside0.mk hr
    clear hij hh hp hy hpn hr
    go_upto_region 5 with fail
    rw [w1]
    refine start_ (n := 11) (S := (fun w' => w'.cell? ⟨g, p, none⟩ = some (.int .i64 y) ∧ w'.cell? ⟨g, pa, none⟩ = some (.int .i64 x))) (ds := []) #[false, false, false, false, false, false, false, false, false, false, false] (by kernel_rfl) rfl rfl ?_ ?_
    · exact ⟨cp, ca⟩
    intro hHeld
    clear cp ca; have H2 := Aside0.mk H.out.drew; generalize wr.drew = w3 at H2 hHeld ⊢; have hH := hHeld; obtain ⟨cp, ca⟩ := hH
    refine pure_ (i := 0) (N := some 40) (v := ?_) (a' := ?_) #[true, false, false, false, false, false, false, false, false, false, false] rfl rfl (by kernel_rfl) (fun _ _ _ h => h) (Or.inl ⟨by rfl, ?_⟩) ?_ ?_
    rotate_left
    · intro w'
      go_simp
      with_reducible rfl
    rotate_left
    · simp only [Act.put, List.setIfInBounds_toArray, List.set_cons_zero, List.set_cons_succ, i64_w, i32_w]
      rfl
    refine pure_ (i := 1) (N := some 41) (v := ?_) (a' := ?_) #[true, true, false, false, false, false, false, false, false, false, false] rfl rfl (by kernel_rfl) (fun _ _ _ h => h) (Or.inl ⟨by rfl, ?_⟩) ?_ ?_
    rotate_left
    · intro w'
      go_simp
      with_reducible rfl
    rotate_left
    · simp only [Act.put, List.setIfInBounds_toArray, List.set_cons_zero, List.set_cons_succ, i64_w, i32_w]
      rfl
    refine pure_ (i := 2) (N := some 42) (v := ?_) (a' := ?_) #[true, true, true, false, false, false, false, false, false, false, false] rfl rfl (by kernel_rfl) (fun _ _ _ h => h) (Or.inl ⟨by rfl, ?_⟩) ?_ ?_
    rotate_left
    · intro w'
      go_simp
      with_reducible rfl
    rotate_left
    · simp only [Act.put, List.setIfInBounds_toArray, List.set_cons_zero, List.set_cons_succ, i64_w, i32_w]
      rfl
    refine pure_ (i := 3) (N := some 43) (v := ?_) (a' := ?_) #[true, true, true, true, false, false, false, false, false, false, false] rfl rfl (by kernel_rfl) (fun _ _ _ h => h) (Or.inl ⟨by rfl, ?_⟩) ?_ ?_
    rotate_left
    · intro w'
      go_simp
      with_reducible rfl
    rotate_left
    · simp only [Act.put, List.setIfInBounds_toArray, List.set_cons_zero, List.set_cons_succ, i64_w, i32_w]
      rfl
    refine pure_ (i := 5) (N := some 45) (v := ?_) (a' := ?_) #[true, true, true, true, false, true, false, false, false, false, false] rfl rfl (by kernel_rfl) (fun _ _ _ h => h) (Or.inl ⟨by rfl, ?_⟩) ?_ ?_
    rotate_left
    · intro w'
      go_simp
      with_reducible rfl
    rotate_left
    · simp only [Act.put, List.setIfInBounds_toArray, List.set_cons_zero, List.set_cons_succ, i64_w, i32_w]
      rfl
    refine pure_ (i := 6) (N := some 46) (v := ?_) (a' := ?_) #[true, true, true, true, false, true, true, false, false, false, false] rfl rfl (by kernel_rfl) (fun _ _ _ h => h) (Or.inl ⟨by rfl, ?_⟩) ?_ ?_
    rotate_left
    · intro w'
      go_simp
      with_reducible rfl
    rotate_left
    · simp only [Act.put, List.setIfInBounds_toArray, List.set_cons_zero, List.set_cons_succ, i64_w, i32_w]
      rfl
    refine pure_ (i := 7) (N := some 47) (v := ?_) (a' := ?_) #[true, true, true, true, false, true, true, true, false, false, false] rfl rfl (by kernel_rfl) (fun _ _ _ h => h) (Or.inl ⟨by rfl, ?_⟩) ?_ ?_
    rotate_left
    · intro w'
      go_simp
      with_reducible rfl
    rotate_left
    · simp only [Act.put, List.setIfInBounds_toArray, List.set_cons_zero, List.set_cons_succ, i64_w, i32_w]
      rfl
    refine take_ (i := 4) (N := some 44) (v := ?_) (a' := ?_) #[true, true, true, true, true, true, true, true, false, false, false] rfl rfl (by kernel_rfl) (fun _ _ _ h => h) (Or.inl ⟨by rfl, ?_⟩) hHeld ?_ ?_
    rotate_left
    · rintro w' ⟨s0, s1⟩
      go_simp
      with_reducible rfl
    rotate_left
    · simp only [Act.put, List.setIfInBounds_toArray, List.set_cons_zero, List.set_cons_succ, i64_w, i32_w]
      rfl
    refine take_ (i := 8) (N := some 48) (v := ?_) (a' := ?_) #[true, true, true, true, true, true, true, true, true, false, false] rfl rfl (by kernel_rfl) (fun _ _ _ h => h) (Or.inl ⟨by rfl, ?_⟩) hHeld ?_ ?_
    rotate_left
    · rintro w' ⟨s0, s1⟩
      go_simp
      with_reducible rfl
    rotate_left
    · simp only [Act.put, List.setIfInBounds_toArray, List.set_cons_zero, List.set_cons_succ, i64_w, i32_w]
      rfl
    refine one_ (i := 9) (N := some 49) #[true, true, true, true, true, true, true, true, true, true, false] rfl rfl (by kernel_rfl) (by decide) (fun K hK => ?_)
    refine goesV_ #[.pointer (some ⟨gn, 0, none⟩)] Try.func21 (by kernel_rfl) rfl #[.int .i64 y, .int .i64 x, .pointer (some ⟨gn, 0, none⟩)] (by rfl) rfl rfl (by rfl) (by (try simp only [List.map_toArray, List.map_cons, List.map_nil, List.append_toArray, List.cons_append, List.nil_append]); first | done | rfl) ?_
    refine (HC.out.call w3 y x H2.out.b HOY.out HOK.out.1).mono ?_
    rintro e w4 ⟨rfl, hb⟩
    rw [HR.out]
    refine ⟨_, rfl, ?_⟩
    have H4 := Aside0.mk (H2.out.below hb)
    obtain ⟨cp4, _⟩ := H4.out.cell p HPN.out y (get_snd p h y HP.out HYY.out)
    obtain ⟨ca4, _⟩ := H4.out.cell pa (by have := HLN.out; have := HPA.out; omega) x (get_fst pa 0 x (by have := HPA.out; omega) rfl)
    clear hb cp ca
    refine hK.out _ _ ⟨cp4, ca4⟩ (fun hHeld => ?_)
    clear hK K
    refine norm_ (a' := ?_) ?_ ?_
    rotate_left
    · show Act.put _ (some 49) _ = _
      simp only [Act.put, List.setIfInBounds_toArray, List.set_cons_zero, List.set_cons_succ, i64_w, i32_w]
      rfl
    refine pure_ (i := 10) (N := some 50) (v := ?_) (a' := ?_) #[true, true, true, true, true, true, true, true, true, true, true] rfl rfl (by kernel_rfl) (fun _ _ _ h => h) (Or.inl ⟨by rfl, ?_⟩) ?_ ?_
    rotate_left
    · intro w'
      go_simp
      with_reducible rfl
    rotate_left
    · simp only [Act.put, List.setIfInBounds_toArray, List.set_cons_zero, List.set_cons_succ, i64_w, i32_w]
      rfl
    refine done_ (by kernel_rfl) ?_
    clear cp4 ca4
    by_cases hr0 : r < 0
    · have hrb : decide (r < 0) = true := decide_eq_true hr0
      have HLT := Aside0.mk (show lt cm y x = true by unfold lt; rw [HR.out]; exact decide_eq_true hr0)
      clear hr0
      simp only [hrb]
      go_wp2_with fail
      go_roundg k1
      case measure => omega
      case rel => exact ⟨(p : Int) + 1, j, h + 1, t, rfl, rfl, ⟨by have := HP.out; omega, by have := HI.out; omega, by have := HH.out; omega, by have := HI.out; omega, by have := HI.out; have := HH.out; omega⟩, ⟨bs_lt HC.out.swo HY.out HYY.out HLT.out, HS.out.2⟩, H4⟩
    · have hrb : decide (r < 0) = false := decide_eq_false hr0
      have HLT := Aside0.mk (show lt cm y x = false by unfold lt; rw [HR.out]; exact decide_eq_false hr0)
      clear hr0
      simp only [hrb]
      go_wp2_with fail
      go_roundg k1
      case measure => omega
      case rel => exact ⟨i, (p : Int), s, h, rfl, rfl, ⟨by have := HI.out; omega, by have := HP.out; omega, by have := HH.out; omega, by have := HI.out; have := HH.out; omega, by have := HI.out; have := HH.out; omega⟩, ⟨HS.out.1, bs_ge HC.out.swo HY.out HYY.out HLT.out⟩, H4⟩
  · have hijb : decide (i < j) = false := decide_eq_false hij
    have hst : t = s := by have := HI.out; omega
    subst hst
    have w1 : IntKind.i64.wrap (i - 1) = i - 1 := IntWalk.i64_in _ (by have := HI.out; have := HLN.out; have := HN.out; omega)
    clear hij
    go_wp2_with fail
    go_loopg [13] t (fun kq v13 W' => ∃ (k : Int) (u : Nat), v13 = .int .i64 k ∧ Aside0 (k = P.length + u ∧ u + kq = t) ∧ Aside0 (Rw w0 (some ⟨g, 0, none⟩) n c W' (P ++ Y.take u ++ x :: (Y.drop u ++ Q))))
    case atStart => exact ⟨(pa : Int), 0, rfl, ⟨by have := HPA.out; omega, by omega⟩, ⟨by have := H.out; simpa using this⟩⟩
    case round =>
    clear H
    obtain ⟨k, u, rfl, HK, H⟩ := hrel
    cases gk with
    | zero =>
      have hkb : decide (k < i - 1) = false := decide_eq_false (by have := HK.out; have := HI.out; omega)
      go_wp2_with fail
      (try simp only [Exit.inBlock, Exit.then])
      refine bodyPost_ret (results_none rfl _ _ _) rfl ?_
      have hu : u = t := by have := HK.out; omega
      subst hu
      have hF := inserted (w := HC.out.swo) (A := Y.take u) (B := Y.drop u) (x := x)
      refine ⟨rfl, Y.take u ++ x :: Y.drop u, ?_, ?_, by have := H.out; simpa using this⟩
      · have hY := HY.out
        rw [← List.take_append_drop u Y] at hY
        have h1 := merged HC.out.swo (x := []) (u := [x]) (v := Y.take u) (y := Y.drop u) (M1 := Y.take u) (M2 := [x] ++ Y.drop u) (List.pairwise_singleton _ _) hY (fun a ha b hb => by rw [List.mem_singleton.1 ha]; exact HS.out.1 b hb) (fun a ha => by cases ha) (List.pairwise_append.1 hY).1 (by simpa using Stb.refl (lt cm) (Y.take u)) (List.pairwise_cons.2 ⟨fun b hb => HS.out.2 b hb, (List.pairwise_append.1 hY).2.1⟩) (Stb.refl _ _)
        simpa using h1.1
      · have hY := HY.out
        rw [← List.take_append_drop u Y] at hY
        have h1 := merged HC.out.swo (x := []) (u := [x]) (v := Y.take u) (y := Y.drop u) (M1 := Y.take u) (M2 := [x] ++ Y.drop u) (List.pairwise_singleton _ _) hY (fun a ha b hb => by rw [List.mem_singleton.1 ha]; exact HS.out.1 b hb) (fun a ha => by cases ha) (List.pairwise_append.1 hY).1 (by simpa using Stb.refl (lt cm) (Y.take u)) (List.pairwise_cons.2 ⟨fun b hb => HS.out.2 b hb, (List.pairwise_append.1 hY).2.1⟩) (Stb.refl _ _)
        have h2 := h1.2
        rw [List.take_append_drop] at h2
        simpa using h2
    | succ k1 =>
      have hkb : decide (k < i - 1) = true := decide_eq_true (by have := HK.out; have := HI.out; omega)
      obtain ⟨y, hy⟩ : ∃ y, Y[u]? = some y := ⟨_, List.getElem?_eq_getElem (by have := HK.out; have := HI.out; omega)⟩
      obtain ⟨q, hq⟩ : ∃ q : Nat, q = P.length + u := ⟨_, rfl⟩
      have hkq : k = (q : Int) := by have := HK.out; omega
      subst hkq
      have HQ := Aside0.mk hq
      have HYY := Aside0.mk hy
      have H2 := Aside0.mk (show Rw w0 (some ⟨g, 0, none⟩) n c wr ((P ++ Y.take u) ++ x :: ([] ++ y :: (Y.drop (u + 1) ++ Q))) by have := H.out; rw [drop_get hy] at this; simpa using this)
      have HQL := Aside0.mk (show q = (P ++ Y.take u).length by rw [List.length_append, List.length_take]; have := HI.out; have := HK.out; omega)
      obtain ⟨hpn, cq, fq, cp, c2, c3, fp⟩ := H2.out.two q (q + 1) HQL.out (by have := HQL.out; simp only [List.length_nil]; omega)
      obtain ⟨cp2, fp2⟩ := c2 y
      have w2 : IntKind.i64.wrap ((q : Int) + 1) = (q : Int) + 1 := IntWalk.i64_in _ (by have := HN.out; omega)
      have hpn1 := eq_true hpn
      have hqn1 := eq_true (show q < n by omega)
      have e1 : ((q : Int) + 1).toNat = q + 1 := by omega
      have e0 : (0 ≤ (q : Int) + 1) = True := eq_true (by omega)
      have e2 : ((q : Int) + 1 < (n : Int)) = True := eq_true (by omega)
      clear hq hy hpn c2 c3 H
      go_upto_region 11 with fail
      refine start_ (n := 18) (S := (fun w' => w'.cell? ⟨g, q, none⟩ = some (.int .i64 x) ∧ w'.cell? ⟨g, q + 1, none⟩ = some (.int .i64 y))) (ds := [15, 17]) #[false, false, false, false, false, false, false, false, false, false, false, false, false, false, false, false, false, false] (by kernel_rfl) rfl rfl ?_ ?_
      · exact ⟨cq, cp⟩
      intro hHeld
      refine pure_ (i := 0) (N := some 61) (v := ?_) (a' := ?_) #[true, false, false, false, false, false, false, false, false, false, false, false, false, false, false, false, false, false] rfl rfl (by kernel_rfl) (fun _ _ _ h => h) (Or.inl ⟨by rfl, ?_⟩) ?_ ?_
      rotate_left
      · intro w'
        go_simp
        with_reducible rfl
      rotate_left
      · simp only [Act.put, List.setIfInBounds_toArray, List.set_cons_zero, List.set_cons_succ, i64_w, i32_w]
        rfl
      refine pure_ (i := 1) (N := some 62) (v := ?_) (a' := ?_) #[true, true, false, false, false, false, false, false, false, false, false, false, false, false, false, false, false, false] rfl rfl (by kernel_rfl) (fun _ _ _ h => h) (Or.inl ⟨by rfl, ?_⟩) ?_ ?_
      rotate_left
      · intro w'
        go_simp
        with_reducible rfl
      rotate_left
      · simp only [Act.put, List.setIfInBounds_toArray, List.set_cons_zero, List.set_cons_succ, i64_w, i32_w]
        rfl
      refine pure_ (i := 2) (N := some 63) (v := ?_) (a' := ?_) #[true, true, true, false, false, false, false, false, false, false, false, false, false, false, false, false, false, false] rfl rfl (by kernel_rfl) (fun _ _ _ h => h) (Or.inl ⟨by rfl, ?_⟩) ?_ ?_
      rotate_left
      · intro w'
        go_simp
        with_reducible rfl
      rotate_left
      · simp only [Act.put, List.setIfInBounds_toArray, List.set_cons_zero, List.set_cons_succ, i64_w, i32_w]
        rfl
      refine pure_ (i := 3) (N := some 64) (v := ?_) (a' := ?_) #[true, true, true, true, false, false, false, false, false, false, false, false, false, false, false, false, false, false] rfl rfl (by kernel_rfl) (fun _ _ _ h => h) (Or.inl ⟨by rfl, ?_⟩) ?_ ?_
      rotate_left
      · intro w'
        go_simp
        with_reducible rfl
      rotate_left
      · simp only [Act.put, List.setIfInBounds_toArray, List.set_cons_zero, List.set_cons_succ, i64_w, i32_w]
        rfl
      refine pure_ (i := 4) (N := some 65) (v := ?_) (a' := ?_) #[true, true, true, true, true, false, false, false, false, false, false, false, false, false, false, false, false, false] rfl rfl (by kernel_rfl) (fun _ _ _ h => h) (Or.inl ⟨by rfl, ?_⟩) ?_ ?_
      rotate_left
      · intro w'
        go_simp
        with_reducible rfl
      rotate_left
      · simp only [Act.put, List.setIfInBounds_toArray, List.set_cons_zero, List.set_cons_succ, i64_w, i32_w]
        rfl
      refine pure_ (i := 5) (N := some 66) (v := ?_) (a' := ?_) #[true, true, true, true, true, true, false, false, false, false, false, false, false, false, false, false, false, false] rfl rfl (by kernel_rfl) (fun _ _ _ h => h) (Or.inl ⟨by rfl, ?_⟩) ?_ ?_
      rotate_left
      · intro w'
        go_simp
        with_reducible rfl
      rotate_left
      · simp only [Act.put, List.setIfInBounds_toArray, List.set_cons_zero, List.set_cons_succ, i64_w, i32_w]
        rfl
      refine pure_ (i := 6) (N := some 67) (v := ?_) (a' := ?_) #[true, true, true, true, true, true, true, false, false, false, false, false, false, false, false, false, false, false] rfl rfl (by kernel_rfl) (fun _ _ _ h => h) (Or.inl ⟨by rfl, ?_⟩) ?_ ?_
      rotate_left
      · intro w'
        go_simp
        with_reducible rfl
      rotate_left
      · simp only [Act.put, List.setIfInBounds_toArray, List.set_cons_zero, List.set_cons_succ, i64_w, i32_w]
        rfl
      refine pure_ (i := 7) (N := some 68) (v := ?_) (a' := ?_) #[true, true, true, true, true, true, true, true, false, false, false, false, false, false, false, false, false, false] rfl rfl (by kernel_rfl) (fun _ _ _ h => h) (Or.inl ⟨by rfl, ?_⟩) ?_ ?_
      rotate_left
      · intro w'
        go_simp
        with_reducible rfl
      rotate_left
      · simp only [Act.put, List.setIfInBounds_toArray, List.set_cons_zero, List.set_cons_succ, i64_w, i32_w]
        rfl
      refine pure_ (i := 8) (N := some 69) (v := ?_) (a' := ?_) #[true, true, true, true, true, true, true, true, true, false, false, false, false, false, false, false, false, false] rfl rfl (by kernel_rfl) (fun _ _ _ h => h) (Or.inl ⟨by rfl, ?_⟩) ?_ ?_
      rotate_left
      · intro w'
        go_simp
        with_reducible rfl
      rotate_left
      · simp only [Act.put, List.setIfInBounds_toArray, List.set_cons_zero, List.set_cons_succ, i64_w, i32_w]
        rfl
      refine pure_ (i := 10) (N := some 71) (v := ?_) (a' := ?_) #[true, true, true, true, true, true, true, true, true, false, true, false, false, false, false, false, false, false] rfl rfl (by kernel_rfl) (fun _ _ _ h => h) (Or.inl ⟨by rfl, ?_⟩) ?_ ?_
      rotate_left
      · intro w'
        go_simp
        with_reducible rfl
      rotate_left
      · simp only [Act.put, List.setIfInBounds_toArray, List.set_cons_zero, List.set_cons_succ, i64_w, i32_w]
        rfl
      refine pure_ (i := 11) (N := some 72) (v := ?_) (a' := ?_) #[true, true, true, true, true, true, true, true, true, false, true, true, false, false, false, false, false, false] rfl rfl (by kernel_rfl) (fun _ _ _ h => h) (Or.inl ⟨by rfl, ?_⟩) ?_ ?_
      rotate_left
      · intro w'
        go_simp
        with_reducible rfl
      rotate_left
      · simp only [Act.put, List.setIfInBounds_toArray, List.set_cons_zero, List.set_cons_succ, i64_w, i32_w]
        rfl
      refine pure_ (i := 12) (N := some 73) (v := ?_) (a' := ?_) #[true, true, true, true, true, true, true, true, true, false, true, true, true, false, false, false, false, false] rfl rfl (by kernel_rfl) (fun _ _ _ h => h) (Or.inl ⟨by rfl, ?_⟩) ?_ ?_
      rotate_left
      · intro w'
        go_simp
        with_reducible rfl
      rotate_left
      · simp only [Act.put, List.setIfInBounds_toArray, List.set_cons_zero, List.set_cons_succ, i64_w, i32_w]
        rfl
      refine take_ (i := 9) (N := some 70) (v := ?_) (a' := ?_) #[true, true, true, true, true, true, true, true, true, true, true, true, true, false, false, false, false, false] rfl rfl (by kernel_rfl) (fun _ _ _ h => h) (Or.inl ⟨by rfl, ?_⟩) hHeld ?_ ?_
      rotate_left
      · rintro w' ⟨s0, s1⟩
        go_simp
        with_reducible rfl
      rotate_left
      · simp only [Act.put, List.setIfInBounds_toArray, List.set_cons_zero, List.set_cons_succ, i64_w, i32_w]
        rfl
      refine take_ (i := 13) (N := some 74) (v := ?_) (a' := ?_) #[true, true, true, true, true, true, true, true, true, true, true, true, true, true, false, false, false, false] rfl rfl (by kernel_rfl) (fun _ _ _ h => h) (Or.inl ⟨by rfl, ?_⟩) hHeld ?_ ?_
      rotate_left
      · rintro w' ⟨s0, s1⟩
        go_simp
        with_reducible rfl
      rotate_left
      · simp only [Act.put, List.setIfInBounds_toArray, List.set_cons_zero, List.set_cons_succ, i64_w, i32_w]
        rfl
      refine pure_ (i := 14) (N := some 75) (v := ?_) (a' := ?_) #[true, true, true, true, true, true, true, true, true, true, true, true, true, true, true, false, false, false] rfl rfl (by kernel_rfl) (fun _ _ _ h => h) (Or.inl ⟨by rfl, ?_⟩) ?_ ?_
      rotate_left
      · intro w'
        go_simp
        with_reducible rfl
      rotate_left
      · simp only [Act.put, List.setIfInBounds_toArray, List.set_cons_zero, List.set_cons_succ, i64_w, i32_w]
        rfl
      refine last_ (i := 15) (N := none) #[true, true, true, true, true, true, true, true, true, true, true, true, true, true, true, true, false, false] rfl rfl (by kernel_rfl) (by decide) (fun K hK => ?_)
      refine skip_ (w1 := wr.drew.setCell ⟨g, q, none⟩ (.int .i64 y)) (by rfl) rfl ?_ ?_
      · first | (go_simp; done) | (go_simp; rfl)
      refine hK.out _ _ ?_
      clear hK K
      refine pure_ (i := 16) (N := some 76) (v := ?_) (a' := ?_) #[true, true, true, true, true, true, true, true, true, true, true, true, true, true, true, true, true, false] rfl rfl (by kernel_rfl) (fun _ _ _ h => h) (Or.inl ⟨by rfl, ?_⟩) ?_ ?_
      rotate_left
      · intro w'
        go_simp
        with_reducible rfl
      rotate_left
      · simp only [Act.put, List.setIfInBounds_toArray, List.set_cons_zero, List.set_cons_succ, i64_w, i32_w]
        rfl
      refine last_ (i := 17) (N := none) #[true, true, true, true, true, true, true, true, true, true, true, true, true, true, true, true, true, true] rfl rfl (by kernel_rfl) (by decide) (fun K hK => ?_)
      refine skip_ (w1 := (wr.drew.setCell ⟨g, q, none⟩ (.int .i64 y)).setCell ⟨g, q + 1, none⟩ (.int .i64 x)) (by rfl) rfl ?_ ?_
      · first | (go_simp; done) | (go_simp; rfl)
      refine hK.out _ _ ?_
      clear hK K
      refine done_ (by kernel_rfl) ?_
      clear cq cp fq fp cp2 fp2
      have H5 := Aside0.mk (H2.out.drew.swap q (q + 1) HQL.out (by have := HQL.out; simp only [List.length_nil]; omega))
      obtain ⟨W5, hW5⟩ : ∃ W5, (wr.drew.setCell ⟨g, q, none⟩ (.int .i64 y)).setCell ⟨g, q + 1, none⟩ (.int .i64 x) = W5 := ⟨_, rfl⟩
      rw [hW5] at H5 ⊢
      clear hW5
      go_wp2_with fail
      go_roundg k1
      case measure => omega
      case rel => exact ⟨(q : Int) + 1, u + 1, rfl, ⟨by have := HQ.out; omega, by have := HK.out; omega⟩, ⟨by have := H5.out; rw [take_get HYY.out]; simpa using this⟩⟩
end Go.Proofs.Ytieomcpjakamdaa.G
