/- slices.rotateCmpFunc (numbers): its walk. -/
import Derived.Test.YtieomcpjakamdaaS1
namespace Go.Proofs.Ytieomcpjakamdaa.G
open Go.RowKit Go.Proofs.YtieomcpjakamdaaW.PrintWords Go.Proofs.YtieomcpjakamdaaW.PrintLast Go.Proofs.YtieomcpjakamdaaW.PrintMore Go.Proofs.Ytieomcpjakamdaa.Srt
set_option linter.unusedVariables false
set_option linter.unusedSimpArgs false

theorem split_at {α : Type} (l : List α) (k : Nat) (h : k ≤ l.length) : ∃ u v, l = u ++ v ∧ u.length = k :=
  ⟨l.take k, l.drop k, (List.take_append_drop k l).symm, by rw [List.length_take]; omega⟩

set_option maxHeartbeats 4000000 in
set_option maxRecDepth 100000 in
theorem rotate (w0 : World) (A : Option Addr) (n c : Nat) (hn : n ≤ 140737488351232) (cv : Value) (P X Y Q : List Int) (hX : X ≠ []) (hY : Y ≠ []) (W : World) (h : Rw w0 A n c W (P ++ X ++ Y ++ Q))
    (a m b : Int) (ha : a = P.length) (hm : m = P.length + X.length) (hb : b = P.length + X.length + Y.length) :
    Calls Try.prog 29 #[.slice A n c, .int .i64 a, .int .i64 m, .int .i64 b, cv] W fun e w' => e = .returned (.tuple #[]) ∧ Rw w0 A n c w' (P ++ Y ++ X ++ Q) := by
  have H := Aside0.mk h
  have HN := Aside0.mk hn
  have HM := Aside0.mk (show m ≤ n ∧ 0 ≤ m by have := h.ln; simp at this; omega)
  have HX := Aside0.mk (And.intro hX hY)
  have HMX := Aside0.mk hm
  have e1 : IntKind.i64.wrap (m - a) = (X.length : Int) := by rw [IntWalk.i64_in _ (by have := HM.out; omega)]; omega
  have e2 : IntKind.i64.wrap (b - m) = (Y.length : Int) := by rw [IntWalk.i64_in _ (by have := h.ln; simp at this; omega)]; omega
  clear h hn ha hm hb hX hY
  obtain ⟨xi, hxi⟩ : ∃ xi : Int, (X.length : Int) = xi := ⟨_, rfl⟩
  obtain ⟨yi, hyi⟩ : ∃ yi : Int, (Y.length : Int) = yi := ⟨_, rfl⟩
  rw [hxi] at e1
  rw [hyi] at e2
  have HXI := Aside0.mk (And.intro hxi hyi)
  clear hxi hyi
  go_enter Try.func29, Try.ntmps29
  go_wp2_with fail
  go_loopg [10, 11] (X.length + Y.length) (fun kq v10 v11 W' => ∃ (i j : Int) (P1 X1 Y1 Q1 : List Int), v10 = .int .i64 i ∧ v11 = .int .i64 j ∧ Aside0 (i = X1.length ∧ j = Y1.length ∧ m = P1.length + X1.length ∧ X1 ≠ [] ∧ Y1 ≠ [] ∧ X1.length + Y1.length ≤ kq ∧ P1 ++ Y1 ++ X1 ++ Q1 = P ++ Y ++ X ++ Q) ∧ Aside0 (Rw w0 A n c W' (P1 ++ X1 ++ Y1 ++ Q1)))
  case atStart => exact ⟨xi, yi, P, X, Y, Q, rfl, rfl, ⟨HXI.out.1.symm, HXI.out.2.symm, HMX.out, HX.out.1, HX.out.2, Nat.le_refl _, rfl⟩, H⟩
  case round =>
  clear H HXI HX HMX e1 e2
  obtain ⟨i, j, P1, X1, Y1, Q1, rfl, rfl, HI, H⟩ := hrel
  have HLN := Aside0.mk (show P1.length + X1.length + Y1.length ≤ n by have := H.out.ln; simp at this; omega)
  have HPOS := Aside0.mk (show 0 < X1.length ∧ 0 < Y1.length from ⟨List.length_pos_iff.2 HI.out.2.2.2.1, List.length_pos_iff.2 HI.out.2.2.2.2.1⟩)
  have w1 : IntKind.i64.wrap (m - i) = m - i := IntWalk.i64_in _ (by have := HI.out; have := HN.out; have := HLN.out; omega)
  by_cases hij : i = j
  · have hb1 : (i == j) = true := by simp [hij]
    have hb2 : (i != j) = false := by simp [hij]
    have HIJ := Aside0.mk hij
    clear hij
    go_wp2_with (go_at_call 30; refine (swapRange w0 A n c HN.out cv P1 X1 [] Y1 Q1 X1.length rfl (by have := HI.out; have := HIJ.out; omega) wr (by rw [List.append_nil]; exact H.out) (m - i) m i (by have := HI.out; omega) (by have := HI.out; simp; omega) (by have := HI.out; omega)).mono ?_; rintro e w3 ⟨rfl, hR⟩; have H3 := Aside0.mk hR; clear hR)
    refine bodyPost_end (results_none rfl _ _ _) rfl ?_
    refine ⟨rfl, ?_⟩
    have := H3.out
    rw [List.append_nil, HI.out.2.2.2.2.2.2] at this
    exact this
  · have hb1 : (i == j) = false := by simp [hij]
    have hb2 : (i != j) = true := by simp [hij]
    have HIJ := Aside0.mk hij
    cases gk with
    | zero => exact absurd HI.out.2.2.2.2.2.1 (by have := HPOS.out; omega)
    | succ k1 =>
    by_cases hgt : i > j
    · have g1 : decide (i > j) = true := decide_eq_true hgt
      have g2 : decide (j < i) = true := decide_eq_true hgt
      obtain ⟨U, V, hUV, hU⟩ := split_at X1 Y1.length (by have := HI.out; omega)
      have hl := congrArg List.length hUV
      rw [List.length_append] at hl
      have HUV := Aside0.mk (And.intro hUV (And.intro hU hl))
      have H2 := Aside0.mk (show Rw w0 A n c wr (P1 ++ U ++ V ++ Y1 ++ Q1) by have := H.out; rw [hUV] at this; simpa using this)
      have HG := Aside0.mk hgt
      have w2 : IntKind.i64.wrap (i - j) = i - j := IntWalk.i64_in _ (by have := HI.out; have := HN.out; have := HLN.out; omega)
      clear hij hgt hUV hU hl H
      go_wp2_with (go_at_call 30; refine (swapRange w0 A n c HN.out cv P1 U V Y1 Q1 Y1.length HUV.out.2.1 rfl wr H2.out (m - i) m j (by have := HI.out; omega) (by have := HI.out; have := HUV.out; omega) (by have := HI.out; omega)).mono ?_; rintro e w3 ⟨rfl, hR⟩; have H3 := Aside0.mk hR; clear hR)
      go_roundg k1
      case measure => omega
      case rel =>
        refine ⟨i - j, j, P1 ++ Y1, V, U, Q1, rfl, rfl, ⟨?_, ?_, ?_, ?_, ?_, ?_, ?_⟩, H3⟩
        · have := HI.out; have := HUV.out; omega
        · have := HI.out; have := HUV.out; omega
        · have := HI.out; have := HUV.out; rw [List.length_append]; omega
        · intro e; have := HI.out; have h1 := HUV.out.2; rw [e] at h1; have := HG.out; simp at h1; omega
        · intro e; have := HPOS.out; have h1 := HUV.out.2; rw [e] at h1; simp at h1; omega
        · have := HI.out; have := HUV.out; have := HPOS.out; omega
        · have h1 := HI.out.2.2.2.2.2.2
          rw [HUV.out.1] at h1
          rw [← h1]
          simp
    · have g1 : decide (i > j) = false := decide_eq_false hgt
      have g2 : decide (j < i) = false := decide_eq_false hgt
      obtain ⟨U, V, hUV, hU⟩ := split_at Y1 (Y1.length - X1.length) (by omega)
      have hl := congrArg List.length hUV
      rw [List.length_append] at hl
      have HUV := Aside0.mk (And.intro hUV (And.intro hU hl))
      have H2 := Aside0.mk (show Rw w0 A n c wr (P1 ++ X1 ++ U ++ V ++ Q1) by have := H.out; rw [hUV] at this; simpa using this)
      have HG := Aside0.mk hgt
      have w2 : IntKind.i64.wrap (m + j) = m + j := IntWalk.i64_in _ (by have := HI.out; have := HN.out; have := HLN.out; omega)
      have w3 : IntKind.i64.wrap (m + j - i) = m + j - i := IntWalk.i64_in _ (by have := HI.out; have := HN.out; have := HLN.out; omega)
      have w4 : IntKind.i64.wrap (j - i) = j - i := IntWalk.i64_in _ (by have := HI.out; have := HN.out; have := HLN.out; omega)
      clear hij hgt hUV hU hl H
      go_wp2_with (go_at_call 30; refine (swapRange w0 A n c HN.out cv P1 X1 U V Q1 X1.length rfl (by have := HI.out; have := HUV.out; have := HG.out; omega) wr H2.out (m - i) (m + j - i) i (by have := HI.out; omega) (by have := HI.out; have := HUV.out; have := HG.out; omega) (by have := HI.out; omega)).mono ?_; rintro e w3 ⟨rfl, hR⟩; have H3 := Aside0.mk hR; clear hR)
      go_roundg k1
      case measure => omega
      case rel =>
        refine ⟨i, j - i, P1, V, U, X1 ++ Q1, rfl, rfl, ⟨?_, ?_, ?_, ?_, ?_, ?_, ?_⟩, ⟨by have := H3.out; simpa using this⟩⟩
        · have := HI.out; have := HUV.out; have := HG.out; omega
        · have := HI.out; have := HUV.out; have := HG.out; omega
        · have := HI.out; have := HUV.out; have := HG.out; omega
        · intro e; have := HPOS.out; have := HI.out; have h1 := HUV.out.2; rw [e] at h1; have := HG.out; simp at h1; omega
        · intro e; have := HPOS.out; have := HI.out; have h1 := HUV.out.2; rw [e] at h1; have := HG.out; have := HIJ.out; simp at h1; omega
        · have := HI.out; have := HUV.out; have := HPOS.out; have := HG.out; omega
        · have h1 := HI.out.2.2.2.2.2.2
          rw [HUV.out.1] at h1
          rw [← h1]
          simp
end Go.Proofs.Ytieomcpjakamdaa.G
