/- A pool and the document's items, side by side. -/
import Derived.Test.YtgamhkhninogeaaH12
namespace Go.Proofs.Ytgamhkhninogeaa.G
open Go.RowKit Go.Proofs.YtgamhkhninogeaaW.PrintWords Go.Proofs.YtgamhkhninogeaaW.PrintLast Go.Proofs.YtgamhkhninogeaaW.PrintMore
open Go.Proofs.Ytgamhkhninogeaa.Pure (LR Ur Kr ChT SibT place_ref drop_ref new_ref PCase DCase Placed Dropped freeR)
set_option linter.unusedVariables false
set_option linter.unusedSimpArgs false

/-- The pool stands as rp says; the value v holds the items r. -/
structure PSx (W w : World) (p : Nat) (bs : List Nat) (v : Value) (r rp : List S65) : Prop where
  b : Below W.heap.size W w
  pw : ∃ F, PW w W.heap.size p bs F ∧ LR rp F
  len : r.length = bs.length
  lenp : rp.length = bs.length
  small : bs.length ≤ 4096
  rv : Kd.V k65 65 w w.heap.size (fun k => k ∉ bs) v r
theorem bs_lt {W : World} {base p : Nat} {bs : List Nat} {F : FF} (h : PW W base p bs F) {b : Nat} (hb : b ∈ bs) : b < W.heap.size := by
  obtain ⟨i, h0, h1, rfl⟩ := mem_blq hb
  exact blk_lt (h.gw.blk i h0 h1)
theorem PSx.below {W w w' : World} {p : Nat} {bs : List Nat} {v : Value} {r rp : List S65} (h : PSx W w p bs v r rp) (hb : Below w.heap.size w w') : PSx W w' p bs v r rp := by
  obtain ⟨h1, ⟨F, h2, h3⟩, h4, h5, h6, h7⟩ := h
  exact ⟨h1.trans (hb.mono h1.size), ⟨F, h2.below hb, h3⟩, h4, h5, h6, Kd.V_below h7 hb⟩
theorem PSx.kq {W w w' : World} {p : Nat} {bs : List Nat} {v : Value} {r rp rp' : List S65} (h : PSx W w p bs v r rp) (hk : Kq w w' bs) (hp : ∃ F, PW w' W.heap.size p bs F ∧ LR rp' F) (hl : rp'.length = bs.length) : PSx W w' p bs v r rp' := by
  obtain ⟨h1, ⟨F, h2, h3⟩, h4, h5, h6, h7⟩ := h
  exact ⟨h1.trans (h2.bel hk h1.size), hp, h4, hl, h6, Kd.V_step h7 (fun k q1 q2 => hk.block k q2 q1)⟩
theorem PCase.len {r r' : List S65} {x up b c : Int} (h : PCase r x up b r' c) : r'.length = r.length := by
  cases h with
  | none _ => rfl
  | held _ _ _ _ => rfl
  | cycle _ _ _ _ _ _ _ _ => rfl
  | at_ _ _ _ _ _ _ _ _ _ => rfl
  | ok _ _ _ _ _ _ _ _ _ _ _ _ _ hp => exact hp.1
theorem PSx.place {W w : World} {p : Nat} {bs : List Nat} {v : Value} {r rp : List S65} (h : PSx W w p bs v r rp) (x up b : Int) (r' : List S65) (c : Int) (hc : PCase rp x up b r' c) :
    Calls Try.prog 9 #[ptr p, .int .i64 x, .int .i64 up, .int .i64 b] w fun e w' => e = .returned (.int .i64 c) ∧ PSx W w' p bs v r r' := by
  obtain ⟨F, hP, hL⟩ := h.pw
  refine (PPlace_step w W.heap.size p bs F rp hP hL h.lenp x up b r' c hc).mono ?_
  rintro e w' ⟨he, F', hP', hL', hk⟩
  exact ⟨he, h.kq hk ⟨F', hP', hL'⟩ ((PCase.len hc).trans h.lenp)⟩
theorem DCase.len {r r' : List S65} {x c : Int} (h : DCase r x r' c) (hl : ∀ A B : List Int, ∀ u, Dropped r r' x u A B → r'.length = r.length) (hex : 0 ≤ Ur r x → Ur r x < r.length → inP r.length x → ∃ A B, Kr r (Ur r x) = A ++ x :: B) : r'.length = r.length := by
  cases h with
  | none _ => rfl
  | free _ _ => rfl
  | ok _ hx h0 h1 hd =>
    obtain ⟨A, B, e⟩ := hex h0 h1 hx
    exact hl A B _ (hd A B e)
theorem PSx.drop {W w : World} {p : Nat} {bs : List Nat} {v : Value} {r rp : List S65} (h : PSx W w p bs v r rp) (x : Int) (r' : List S65) (c : Int) (hc : DCase rp x r' c) :
    Calls Try.prog 10 #[ptr p, .int .i64 x] w fun e w' => e = .returned (.int .i64 c) ∧ PSx W w' p bs v r r' := by
  obtain ⟨F, hP, hL⟩ := h.pw
  have hlen : r'.length = rp.length := DCase.len hc (fun A B u q => q.1) (fun h0 h1 hx => by
    have hm := (hL.st.kid (Ur rp x) x h0 h1).2 ⟨hx.1, hx.2, rfl⟩
    exact List.append_of_mem hm)
  refine (PDrop_step w W.heap.size p bs F rp hP hL h.lenp x r' c hc).mono ?_
  rintro e w' ⟨he, F', hP', hL', hk⟩
  exact ⟨he, h.kq hk ⟨F', hP', hL'⟩ (hlen.trans h.lenp)⟩
theorem PSx.rplace {W w : World} {p : Nat} {bs : List Nat} {v : Value} {r rp : List S65} (h : PSx W w p bs v r rp) (x up b : Int) (c : Int) (k : Nat) (hk : tendrilref19_Place.f k r x up b = some (rp, c)) :
    Calls Try.prog 16 #[v, .int .i64 x, .int .i64 up, .int .i64 b] w fun e w' => ∃ v', e = .returned (.tuple #[v', .int .i64 c]) ∧ PSx W w' p bs v' rp rp := by
  obtain ⟨F, hP, hL⟩ := h.pw
  obtain ⟨A, c0, rfl⟩ := Kd.V_slice h.rv
  refine (tendrilref19_Place.calls k (fun k => k ∉ bs) A c0 r x up b rp c w h.rv hk).mono ?_
  rintro e w' ⟨v', he, hv, hb⟩
  refine ⟨v', he, h.b.trans (hb.mono h.b.size), ⟨F, hP.below hb, hL⟩, h.lenp, h.lenp, h.small, Kd.V_mono hv (fun k q => ?_)⟩
  rcases q with q | q
  · exact q
  · intro hm; have := bs_lt hP hm; omega
theorem PSx.rdrop {W w : World} {p : Nat} {bs : List Nat} {v : Value} {r rp : List S65} (h : PSx W w p bs v r rp) (x : Int) (c : Int) (k : Nat) (hk : tendrilref19_Drop.f k r x = some (rp, c)) :
    Calls Try.prog 15 #[v, .int .i64 x] w fun e w' => ∃ v', e = .returned (.tuple #[v', .int .i64 c]) ∧ PSx W w' p bs v' rp rp := by
  obtain ⟨F, hP, hL⟩ := h.pw
  obtain ⟨A, c0, rfl⟩ := Kd.V_slice h.rv
  refine (tendrilref19_Drop.calls k (fun k => k ∉ bs) A c0 r x rp c w h.rv hk).mono ?_
  rintro e w' ⟨v', he, hv, hb⟩
  refine ⟨v', he, h.b.trans (hb.mono h.b.size), ⟨F, hP.below hb, hL⟩, h.lenp, h.lenp, h.small, Kd.V_mono hv (fun k q => ?_)⟩
  rcases q with q | q
  · exact q
  · intro hm; have := bs_lt hP hm; omega
theorem PSx.all {W w : World} {p : Nat} {bs : List Nat} {v : Value} {r : List S65} (h : PSx W w p bs v r r) : Calls Try.prog 17 #[ptr p, v] w fun e w' => e = .returned (.bool true) ∧ Below w.heap.size w w' := by
  obtain ⟨F, hP, hL⟩ := h.pw
  obtain ⟨A, c0, rfl⟩ := Kd.V_slice h.rv
  have q := Kd.V_reads' h.rv
  exact all_walk w W.heap.size p bs F r hP hL h.len A c0 q.2.2 q.2.1 (by rw [h.len]; exact h.small)
/-- Placed, and dropped again: as before. -/
theorem PSx.undo {W w : World} {p : Nat} {bs : List Nat} {v : Value} {r r' : List S65} (h : PSx W w p bs v r r') (hr : ∃ F, LR r F) (x up b : Int) (c : Int) (hc0 : c = 0) (hc : PCase r x up b r' c) :
    Calls Try.prog 10 #[ptr p, .int .i64 x] w fun e w' => e = .returned (.int .i64 0) ∧ PSx W w' p bs v r r := by
  obtain ⟨F0, hL0⟩ := hr
  obtain ⟨F, hP, hL⟩ := h.pw
  cases hc with
  | none _ => omega
  | held _ _ _ _ => omega
  | cycle _ _ _ _ _ _ _ _ => omega
  | at_ _ _ _ _ _ _ _ _ _ => omega
  | ok l A B _ hx hu _ hf _ _ _ hK _ hpl =>
    have hl := hpl.1
    have e1 := hpl.2 x hx.1 hx.2
    rw [if_pos rfl] at e1
    have e2 := (hpl.2 up hu.1 hu.2).2
    rw [if_pos rfl] at e2
    obtain ⟨r'', c'', ⟨kd, _⟩, hd⟩ := drop_ref r' F hL (by rw [h.lenp]; have := h.small; omega) x
    cases hd with
    | none hno => exact absurd (hl ▸ hx) hno
    | free _ q => rw [e1.1] at q; exact absurd q (by have := hu.1; omega)
    | ok _ hx' h0 h1 hdd =>
      have hdr := hdd A B (by rw [e1.1]; exact e2)
      rw [e1.1] at hdr
      have hcase : DCase r' x r'' 0 := .ok r'' hx' h0 h1 hdd
      refine (PDrop_step w W.heap.size p bs F r' hP hL h.lenp x r'' 0 hcase).mono ?_
      rintro e w' ⟨he, F', hP', hL', hk⟩
      refine ⟨he, h.kq hk ⟨F', hP', ?_⟩ h.len⟩
      show Go.Proofs.Ytgamhkhninogeaa.Pure.Lk r.length (Ur r) (Kr r) F'
      have hL'' : Go.Proofs.Ytgamhkhninogeaa.Pure.Lk r''.length (Ur r'') (Kr r'') F' := hL'
      rw [hdr.1, hl] at hL''
      refine hL''.congr (fun i i0 i1 => ?_)
      have d := hdr.2 i i0 (by rw [hl]; exact i1)
      have q := hpl.2 i i0 i1
      rw [d.1, d.2]
      constructor
      · by_cases e : i = x
        · subst e
          rw [if_pos rfl]
          have := (hL0.st.up i hx.1 hx.2).1
          omega
        · rw [if_neg e, q.1, if_neg e]
      · by_cases e : i = up
        · subst e; rw [if_pos rfl, hK]
        · rw [if_neg e, q.2, if_neg e]
/-- A pool and the document's items, both new. -/
theorem PSx.start {W w w' : World} {p : Nat} {bs : List Nat} {v : Value} {n : Nat} (hn : n ≤ 4096) (hl : bs.length = n) (hb : Below W.heap.size W w) (hp : PW w W.heap.size p bs F0) (hS : Kd.S k65 65 w' w.heap.size (fun _ => True) v (freeR n)) (hb2 : Below w.heap.size w w') : PSx W w' p bs v (freeR n) (freeR n) := by
  have hf : (freeR n).length = n := by simp [freeR]
  refine ⟨hb.trans (hb2.mono hb.size), ⟨F0, hp.below hb2, Go.Proofs.Ytgamhkhninogeaa.Pure.LR.free n⟩, hf.trans hl.symm, hf.trans hl.symm, by omega, ?_⟩
  refine Kd.V_mono (Kd.S_V (Kd.S_bound hS)) (fun k hk hm => ?_)
  have := bs_lt hp hm
  have := hk.2.1
  omega
end Go.Proofs.Ytgamhkhninogeaa.G
