/- slices.stableCmpFunc and SortStableFunc (numbers): their walks. -/
import Derived.Test.YtieomcpjakamdaaS6
namespace Go.Proofs.Ytieomcpjakamdaa.G
open Go.RowKit Go.Proofs.YtieomcpjakamdaaW.PrintWords Go.Proofs.YtieomcpjakamdaaW.PrintLast Go.Proofs.YtieomcpjakamdaaW.PrintMore Go.Proofs.Ytieomcpjakamdaa.Srt
set_option linter.unusedVariables false
set_option linter.unusedSimpArgs false

/-- What has been sorted block by block. -/
structure Blk (cm : Int → Int → Int) (X L : List Int) (bs : Nat) (cs : List (List Int)) (last : List Int) : Prop where
  e : L = cs.flatten ++ last
  full : Full (lt cm) bs cs
  ll : last.length < bs
  sl : Srt (lt cm) last
  st : Stb (lt cm) X L
theorem Blk.done {cm : Int → Int → Int} {X L : List Int} {bs : Nat} {cs : List (List Int)} {last : List Int} (h : Blk cm X L bs cs last) (hn : L.length ≤ bs) : Srt (lt cm) L := by
  have hl := congrArg List.length h.e
  rw [List.length_append] at hl
  rw [h.e]
  rcases cs with _ | ⟨c, _ | ⟨c2, cs⟩⟩
  · simpa using h.sl
  · have h1 := h.full c (by simp)
    simp at hl
    obtain rfl : last = [] := List.length_eq_zero_iff.1 (by omega)
    simpa using h1.2
  · have h1 := h.full c (by simp)
    have h2 := h.full c2 (by simp)
    have h3 := h.ll
    simp at hl
    omega

set_option maxHeartbeats 8000000 in
set_option maxRecDepth 100000 in
theorem stable (w0 : World) (A : Option Addr) (n c : Nat) (hn : n ≤ 140737488351232) (gn : Nat) (ok : Int → Prop) (cm : Int → Int → Int) (hc : Cm w0 gn ok cm) (X : List Int) (hok : ∀ x ∈ X, ok x) (W : World) (h : Rw w0 A n c W X) :
    Calls Try.prog 25 #[.slice A n c, .int .i64 (n : Int), .func (.func 21) #[] #[.pointer (some ⟨gn, 0, none⟩)]] W fun e w' => e = .returned (.tuple #[]) ∧ ∃ M, Srt (lt cm) M ∧ Stb (lt cm) X M ∧ Rw w0 A n c w' M := by
  have HN := Aside0.mk hn
  have HC := Aside0.mk hc
  have HOK := Aside0.mk hok
  have H := Aside0.mk h
  have HLX := Aside0.mk h.ln
  obtain ⟨ni, hni⟩ : ∃ ni : Int, (n : Int) = ni := ⟨_, rfl⟩
  rw [hni]
  have HNI := Aside0.mk hni.symm
  clear h hn hc hok hni
  go_enter Try.func25, Try.ntmps25
  go_wp2_with fail
  go_loopg [7, 8] n (fun kq v7 v8 W' => ∃ (a b : Int) (cs : List (List Int)) (X1 R : List Int), v7 = .int .i64 a ∧ v8 = .int .i64 b ∧ Aside0 (a = cs.flatten.length ∧ b = a + 20 ∧ R.length ≤ kq ∧ X = X1 ++ R) ∧ Aside0 (Full (lt cm) 20 cs ∧ Stb (lt cm) X1 cs.flatten) ∧ Aside0 (Rw w0 A n c W' (cs.flatten ++ R)))
  case atStart => exact ⟨0, 20, [], [], X, rfl, rfl, ⟨rfl, rfl, by have := HLX.out; omega, rfl⟩, ⟨(fun c hc => by cases hc), Stb.refl _ _⟩, H⟩
  case round =>
  clear H
  obtain ⟨a, b, cs, X1, R, rfl, rfl, HI, HF, H⟩ := hrel
  have HLN := Aside0.mk (show (n : Int) = a + R.length by have := H.out.ln; rw [List.length_append] at this; have := HI.out.1; omega)
  by_cases hbn : b ≤ ni
  · have hbnb : decide (b ≤ ni) = true := decide_eq_true hbn
    cases gk with
    | zero => exact absurd hbn (by have := HI.out.2.1; have := HI.out.2.2.1; have := HLN.out; have := HNI.out; omega)
    | succ k1 =>
    obtain ⟨C, R', hR, hCl⟩ := split_at R 20 (by have := HI.out.2.1; have := HLN.out; have := HNI.out; omega)
    have HR := Aside0.mk (And.intro hR hCl)
    have w1 : IntKind.i64.wrap (b + 20) = b + 20 := IntWalk.i64_in _ (by have := HI.out.1; have := HI.out.2.1; have := HLN.out; have := HN.out; have := HNI.out; omega)
    have HA0 := Aside0.mk (show 0 ≤ a by have := HI.out.1; omega)
    clear hbn hR hCl
    go_wp2_with (go_at_call 27; refine (insertion w0 A n c HN.out gn ok cm HC.out cs.flatten C R' (fun x hx => HOK.out x (by rw [HI.out.2.2.2, HR.out.1]; simp [hx])) _ (by have := H.out; rw [HR.out.1] at this; simpa using this) a b HI.out.1 (by have := HI.out.1; have := HI.out.2.1; have := HR.out.2; omega)).mono ?_; rintro e w3 ⟨rfl, M, h1, h2, hR⟩; have HM := Aside0.mk (And.intro h1 h2); have H3 := Aside0.mk hR; clear h1 h2 hR)
    go_roundg k1
    case measure => omega
    case rel =>
      refine ⟨b, b + 20, cs ++ [M], X1 ++ C, R', rfl, rfl, ⟨?_, rfl, ?_, ?_⟩, ⟨full_snoc HF.out.1 (by rw [HM.out.2.len, HR.out.2]) HM.out.1, ?_⟩, ⟨by have := H3.out; simpa using this⟩⟩
      · have h1 := HM.out.2.len
        have := HR.out.2
        have := HI.out.1
        have := HI.out.2.1
        simp only [List.flatten_append, List.flatten_cons, List.flatten_nil, List.append_nil, List.length_append]
        omega
      · have h1 := congrArg List.length HR.out.1
        rw [List.length_append] at h1
        have := HR.out.2
        have := HI.out.2.2.1
        omega
      · rw [HI.out.2.2.2, HR.out.1]; simp
      · rw [List.flatten_append]
        refine HF.out.2.app ?_
        simpa using HM.out.2
  have hbnb : decide (b ≤ ni) = false := decide_eq_false hbn
  have HRL := Aside0.mk (show R.length < 20 by have := HI.out.2.1; have := HLN.out; have := HNI.out; omega)
  clear hbn
  go_wp2_with (go_at_call 27; refine (insertion w0 A n c HN.out gn ok cm HC.out cs.flatten R [] (fun x hx => HOK.out x (by rw [HI.out.2.2.2]; simp [hx])) _ (by have := H.out; simpa using this) a ni HI.out.1 (by have := HI.out.1; have := HLN.out; have := HNI.out; omega)).mono ?_; rintro e w3 ⟨rfl, M, h1, h2, hR⟩; have HM := Aside0.mk (And.intro h1 h2); have H3 := Aside0.mk hR; clear h1 h2 hR)
  have HBK := Aside0.mk (show Blk cm X (cs.flatten ++ M) 20 cs M from ⟨rfl, HF.out.1, by rw [HM.out.2.len]; exact HRL.out, HM.out.1, by rw [HI.out.2.2.2]; exact HF.out.2.app HM.out.2⟩)
  replace H3 := Aside0.mk (show Rw w0 A n c w3 (cs.flatten ++ M) by have := H3.out; simpa using this)
  clear H HM HRL HF HLN
  go_loopg [6, 7, 8, 9] n (fun kq v6 v7 v8 v9 W' => ∃ (bi : Int) (bs : Nat) (L : List Int) (cs : List (List Int)) (last : List Int), v6 = .int .i64 bi ∧ Aside0 (bi = bs ∧ n ≤ bs + kq ∧ 20 ≤ bs) ∧ Aside0 (Blk cm X L bs cs last) ∧ Aside0 (Rw w0 A n c W' L))
  case atStart => exact ⟨20, 20, _, cs, M, rfl, ⟨rfl, by omega, by omega⟩, HBK, H3⟩
  case round =>
  clear HBK H3 HI
  obtain ⟨bi, bs, L, cs, last, rfl, HI, HBK, H⟩ := hrel
  by_cases hbn : bi < ni
  case neg =>
    have hbnb : decide (bi < ni) = false := decide_eq_false hbn
    have HD := Aside0.mk (HBK.out.done (by rw [H.out.ln]; have := HI.out.1; have := HNI.out; omega))
    clear hbn
    go_wp2_with fail
    refine bodyPost_end (results_none rfl _ _ _) rfl ?_
    exact ⟨rfl, L, HD.out, HBK.out.st, H.out⟩
  have hbnb : decide (bi < ni) = true := decide_eq_true hbn
  have HBN := Aside0.mk (show bs < n by have := HI.out.1; have := HNI.out; omega)
  have w2 : IntKind.i64.wrap (2 * bi) = 2 * bi := IntWalk.i64_in _ (by have := HI.out.1; have := HBN.out; have := HN.out; omega)
  have w2' : IntKind.i64.wrap (bi * 2) = bi * 2 := IntWalk.i64_in _ (by have := HI.out.1; have := HBN.out; have := HN.out; omega)
  cases gk with
  | zero => exact absurd HI.out.2.1 (by have := HBN.out; omega)
  | succ k1 =>
  clear hbn
  go_wp2_with fail
  go_loopg [7, 8] cs.length (fun kq v7 v8 W' => ∃ (a b : Int) (ds rs : List (List Int)), v7 = .int .i64 a ∧ v8 = .int .i64 b ∧ Aside0 (a = ds.flatten.length ∧ b = a + 2 * bi ∧ rs.length ≤ kq) ∧ Aside0 (Full (lt cm) (2 * bs) ds ∧ Full (lt cm) bs rs ∧ Stb (lt cm) X (ds.flatten ++ (rs.flatten ++ last))) ∧ Aside0 (Rw w0 A n c W' (ds.flatten ++ (rs.flatten ++ last))))
  case atStart => exact ⟨0, 2 * bi, [], cs, rfl, rfl, ⟨rfl, by omega, Nat.le_refl _⟩, ⟨(fun c hc => by cases hc), HBK.out.full, by have := HBK.out.st; rw [HBK.out.e] at this; exact this⟩, ⟨by have := H.out; rw [HBK.out.e] at this; exact this⟩⟩
  case round =>
  clear H
  obtain ⟨a, b, ds, rs, rfl, rfl, HJ, HF, H⟩ := hrel
  have HLN := Aside0.mk (show (n : Int) = a + rs.flatten.length + last.length by have := H.out.ln; rw [List.length_append, List.length_append] at this; have := HJ.out.1; omega)
  have HLL := Aside0.mk HBK.out.ll
  have HLS := Aside0.mk HBK.out.sl
  have HA0 := Aside0.mk (show 0 ≤ a by have := HJ.out.1; omega)
  have HOKL := Aside0.mk (show ∀ z ∈ ds.flatten ++ (rs.flatten ++ last), ok z from fun z hz => HOK.out z ((HF.out.2.2.mem HC.out.swo z).1 hz))
  have w3 : IntKind.i64.wrap (a + bi) = a + bi := IntWalk.i64_in _ (by have := HLN.out; have := HI.out.1; have := HBN.out; have := HN.out; have := HA0.out; omega)
  rcases rs with _ | ⟨c1, _ | ⟨c2, rs⟩⟩
  · have hbb : decide (b ≤ ni) = false := decide_eq_false (by have := HLN.out; simp at this; have := HLL.out; have := HJ.out.2.1; have := HI.out.1; have := HNI.out; omega)
    have hmb : decide (a + bi < ni) = false := decide_eq_false (by have := HLN.out; simp at this; have := HLL.out; have := HI.out.1; have := HNI.out; omega)
    go_wp2_with fail
    go_roundg k1
    case measure => omega
    case rel =>
      exact ⟨bi * 2, 2 * bs, _, ds, last, rfl, ⟨by have := HI.out.1; omega, by have := HI.out; omega, by have := HI.out; omega⟩, ⟨by simp, HF.out.1, by have := HLL.out; omega, HLS.out, HF.out.2.2⟩, H⟩
  · have hc1 := HF.out.2.1 c1 (by simp)
    have HC1 := Aside0.mk hc1
    have HLN2 := Aside0.mk (show (n : Int) = a + bs + last.length by have := HLN.out; simp at this; omega)
    have hbb : decide (b ≤ ni) = false := decide_eq_false (by have := HLN2.out; have := HLL.out; have := HJ.out.2.1; have := HI.out.1; have := HNI.out; omega)
    by_cases hl : last = []
    · have HL := Aside0.mk hl
      have hmb : decide (a + bi < ni) = false := decide_eq_false (by have := HLN2.out; rw [hl] at this; simp at this; have := HI.out.1; have := HNI.out; omega)
      clear hl hc1
      go_wp2_with fail
      go_roundg k1
      case measure => omega
      case rel =>
        refine ⟨bi * 2, 2 * bs, _, ds, c1, rfl, ⟨by have := HI.out.1; omega, by have := HI.out; omega, by have := HI.out; omega⟩, ⟨rfl, HF.out.1, by have := HC1.out.1; have := HI.out; omega, HC1.out.2, ?_⟩, ?_⟩
        · have := HF.out.2.2; rw [HL.out] at this; simpa using this
        · exact ⟨by have := H.out; rw [HL.out] at this; simpa using this⟩
    · have HL := Aside0.mk hl
      have hmb : decide (a + bi < ni) = true := decide_eq_true (by have := List.length_pos_iff.2 hl; have := HLN2.out; have := HI.out.1; have := HNI.out; omega)
      clear hl hc1
      go_wp2_with (go_at_call 28; refine (symAll w0 A n c HN.out gn ok cm HC.out _ ds.flatten c1 last [] _ (List.ne_nil_of_length_pos (by have := HC1.out.1; have := HI.out.2.2; omega)) HL.out (Nat.le_refl _) (fun z hz => HOKL.out z (by simp at hz ⊢; exact .inr hz)) HC1.out.2 HLS.out (by have := H.out; simpa using this) a (a + bi) ni HJ.out.1 (by have := HJ.out.1; have := HC1.out.1; have := HI.out.1; omega) (by have := HJ.out.1; have := HC1.out.1; have := HLN2.out; have := HNI.out; omega)).mono ?_; rintro e w5 ⟨rfl, M, h1, h2, hR⟩; have HM := Aside0.mk (And.intro h1 h2); have H5 := Aside0.mk hR; clear h1 h2 hR)
      go_roundg k1
      case measure => omega
      case rel =>
        refine ⟨bi * 2, 2 * bs, _, ds, M, rfl, ⟨by have := HI.out.1; omega, by have := HI.out; omega, by have := HI.out; omega⟩, ⟨rfl, HF.out.1, by rw [HM.out.2.len, List.length_append]; have := HC1.out.1; have := HLL.out; omega, HM.out.1, ?_⟩, ⟨by have := H5.out; simpa using this⟩⟩
        have h3 := HF.out.2.2
        rw [List.flatten_cons, List.flatten_nil, List.append_nil] at h3
        exact h3.trans ((Stb.refl _ _).app HM.out.2)
  · have hc1 := HF.out.2.1 c1 (by simp)
    have hc2 := HF.out.2.1 c2 (by simp)
    have HC1 := Aside0.mk (And.intro hc1 hc2)
    have HLN2 := Aside0.mk (show (n : Int) = a + bs + bs + rs.flatten.length + last.length by have := HLN.out; simp only [List.flatten_cons, List.length_append] at this; omega)
    have hbb : decide (b ≤ ni) = true := decide_eq_true (by have := HLN2.out; have := HJ.out.2.1; have := HI.out.1; have := HNI.out; omega)
    have w4 : IntKind.i64.wrap (b + 2 * bi) = b + 2 * bi := IntWalk.i64_in _ (by have := HLN2.out; have := HJ.out.2.1; have := HI.out.1; have := HBN.out; have := HN.out; have := HA0.out; omega)
    clear hc1 hc2
    cases gk with
    | zero => exact absurd HJ.out.2.2 (by simp)
    | succ k2 =>
    go_wp2_with (go_at_call 28; refine (symAll w0 A n c HN.out gn ok cm HC.out _ ds.flatten c1 c2 (rs.flatten ++ last) _ (List.ne_nil_of_length_pos (by have := HC1.out.1.1; have := HI.out.2.2; omega)) (List.ne_nil_of_length_pos (by have := HC1.out.2.1; have := HI.out.2.2; omega)) (Nat.le_refl _) (fun z hz => HOKL.out z (by simp only [List.flatten_cons, List.mem_append] at hz ⊢; rcases hz with hz | hz; exact .inr (.inl (.inl hz)); exact .inr (.inl (.inr (.inl hz))))) HC1.out.1.2 HC1.out.2.2 (by have := H.out; simpa using this) a (a + bi) b HJ.out.1 (by have := HJ.out.1; have := HC1.out.1.1; have := HI.out.1; omega) (by have := HJ.out.1; have := HC1.out.1.1; have := HC1.out.2.1; have := HJ.out.2.1; have := HI.out.1; omega)).mono ?_; rintro e w5 ⟨rfl, M, h1, h2, hR⟩; have HM := Aside0.mk (And.intro h1 h2); have H5 := Aside0.mk hR; clear h1 h2 hR)
    go_roundg k2
    case measure => omega
    case rel =>
      have hml := HM.out.2.len
      rw [List.length_append] at hml
      refine ⟨b, b + 2 * bi, ds ++ [M], rs, rfl, rfl, ⟨?_, rfl, ?_⟩, ⟨full_snoc HF.out.1 (by have := HC1.out.1.1; have := HC1.out.2.1; omega) HM.out.1, fun c hc => HF.out.2.1 c (by simp [hc]), ?_⟩, ⟨by have := H5.out; simpa using this⟩⟩
      · rw [List.flatten_append, List.length_append]
        have := HJ.out.1; have := HJ.out.2.1; have := HC1.out.1.1; have := HC1.out.2.1; have := HI.out.1
        simp only [List.flatten_cons, List.flatten_nil, List.append_nil]
        omega
      · have := HJ.out.2.2
        simp at this
        omega
      · have h3 := HF.out.2.2
        have h4 := (Stb.refl (lt cm) ds.flatten).app (HM.out.2.app (Stb.refl (lt cm) (rs.flatten ++ last)))
        have e1 : ds.flatten ++ (c1 ++ c2 ++ (rs.flatten ++ last)) = ds.flatten ++ ((c1 :: c2 :: rs).flatten ++ last) := by simp
        have e2 : (ds ++ [M]).flatten ++ (rs.flatten ++ last) = ds.flatten ++ (M ++ (rs.flatten ++ last)) := by simp
        rw [e1] at h4
        rw [e2]
        exact h3.trans h4

set_option maxHeartbeats 4000000 in
set_option maxRecDepth 100000 in
theorem sortStable (w0 : World) (A : Option Addr) (n c : Nat) (hn : n ≤ 140737488351232) (gn : Nat) (ok : Int → Prop) (cm : Int → Int → Int) (hc : Cm w0 gn ok cm) (X : List Int) (hok : ∀ x ∈ X, ok x) (W : World) (h : Rw w0 A n c W X) :
    Calls Try.prog 20 #[.slice A n c, .func (.func 21) #[] #[.pointer (some ⟨gn, 0, none⟩)]] W fun e w' => e = .returned (.tuple #[]) ∧ ∃ M, Srt (lt cm) M ∧ Stb (lt cm) X M ∧ Rw w0 A n c w' M := by
  have HN := Aside0.mk hn
  have HC := Aside0.mk hc
  have HOK := Aside0.mk hok
  have H := Aside0.mk h
  clear h hn hc hok
  go_enter Try.func20, Try.ntmps20
  go_wp2_with (go_at_call 25; refine (stable w0 A n c HN.out gn ok cm HC.out X HOK.out _ H.out).mono ?_; rintro e w3 ⟨rfl, hR⟩; have H3 := Aside0.mk hR; clear hR)
  refine bodyPost_end (results_none rfl _ _ _) rfl ?_
  exact ⟨rfl, H3.out⟩
end Go.Proofs.Ytieomcpjakamdaa.G
