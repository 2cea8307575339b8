/- A pool's Place and Drop do what the document's do. -/
import Derived.Test.YtgamhkhninogeaaP6
namespace Go.Proofs.Ytgamhkhninogeaa.G
open Go.RowKit Go.Proofs.YtgamhkhninogeaaW.PrintWords Go.Proofs.YtgamhkhninogeaaW.PrintLast Go.Proofs.YtgamhkhninogeaaW.PrintMore
open Go.Proofs.Ytgamhkhninogeaa.Pure (LR Ur Kr Way PCase DCase Placed Dropped und_way)
set_option linter.unusedVariables false
set_option linter.unusedSimpArgs false

theorem GW.kqPW {W w : World} {base p : Nat} {bs : List Nat} {F F' : FF} (hP : PW W base p bs F) (hk : Kq W w bs) (hg : GW w base bs F') : PW w base p bs F' := hP.kq hk hg
theorem PPlace_step (W : World) (base p : Nat) (bs : List Nat) (F : FF) (r : List S65) (hP : PW W base p bs F) (hL : LR r F) (hlen : r.length = bs.length) (x up b : Int) (r' : List S65) (c : Int) (hc : PCase r x up b r' c) :
    Calls Try.prog 9 #[ptr p, .int .i64 x, .int .i64 up, .int .i64 b] W fun e w' => e = .returned (.int .i64 c) ∧ ∃ F', PW w' base p bs F' ∧ LR r' F' ∧ Kq W w' bs := by
  have f1 : ∀ i : Int, 0 ≤ i → i < r.length → F i 1 = Ur r i := fun i h0 h1 => (hL.lk i h0 h1).1
  cases hc with
  | none hno =>
    rw [hlen] at hno
    refine (PPlace_none W base p bs F hP x up b hno).mono ?_
    rintro e w' ⟨he, rfl⟩
    exact ⟨he, F, hP, hL, Kq.refl _ _⟩
  | held hx hu hb hf =>
    rw [hlen] at hx hu hb
    refine PPlace_in W base p bs F hP x up b hx hu hb 15 (fun w' => ∃ F', PW w' base p bs F' ∧ LR r F' ∧ Kq W w' bs) (fun w1 hb1 => ?_)
    have hP1 := hP.below hb1
    refine (Place_held w1 base bs F hP1.gw up x b hu.1 hx.1 hx.2 ?_).mono ?_
    · rw [f1 x hx.1 (by rw [hlen]; exact hx.2)]; exact hf
    · rintro e w' ⟨he, rfl⟩
      exact ⟨he, F, hP1, hL, Kq.of hb1 bs⟩
  | cycle l hx hu hb hf hw hbd hm =>
    have uw := und_way F (Ur r) x l up hw (fun a ha => f1 a (hbd a ha).1 (hbd a ha).2)
    rw [hlen] at hx hu hb
    refine PPlace_in W base p bs F hP x up b hx hu hb 17 (fun w' => ∃ F', PW w' base p bs F' ∧ LR r F' ∧ Kq W w' bs) (fun w1 hb1 => ?_)
    have hP1 := hP.below hb1
    refine (Place_cycle w1 base bs F hP1.gw l.length up x b hu.1 hu.2 hx.1 hx.2 uw.1 ?_ (uw.2.trans (decide_eq_true hm))).mono ?_
    · rw [f1 x hx.1 (by rw [hlen]; exact hx.2)]; exact hf
    · rintro e w' ⟨he, rfl⟩
      exact ⟨he, F, hP1, hL, Kq.of hb1 bs⟩
  | at_ l hx hu hb hf hw hbd hm hne =>
    have uw := und_way F (Ur r) x l up hw (fun a ha => f1 a (hbd a ha).1 (hbd a ha).2)
    have hb2 : F b 1 ≠ up := by rw [f1 b hb.1 hb.2]; exact hne
    rw [hlen] at hx hu hb
    refine PPlace_in W base p bs F hP x up b hx hu (.inr hb) 18 (fun w' => ∃ F', PW w' base p bs F' ∧ LR r F' ∧ Kq W w' bs) (fun w1 hb1 => ?_)
    have hP1 := hP.below hb1
    refine (Place_at w1 base bs F hP1.gw l.length up x b hu.1 hu.2 hx.1 hx.2 hb.1 hb.2 uw.1 ?_ (uw.2.trans (decide_eq_false hm)) hb2).mono ?_
    · rw [f1 x hx.1 (by rw [hlen]; exact hx.2)]; exact hf
    · rintro e w' ⟨he, rfl⟩
      exact ⟨he, F, hP1, hL, Kq.of hb1 bs⟩
  | ok l A B _ hx hu hb hf hw hbd hm hK hAB hpl =>
    have uw := und_way F (Ur r) x l up hw (fun a ha => f1 a (hbd a ha).1 (hbd a ha).2)
    have hLk := Go.Proofs.Ytgamhkhninogeaa.Pure.Lk.place hL up x b hu.1 hu.2 hx.1 hx.2 hf l hw hm A B hK hAB
    have hbB : ¬ b < 0 → F b 1 = up := by
      intro hb0
      rcases hAB with ⟨e, _⟩ | ⟨B', e⟩
      · omega
      · have hbm : b ∈ Kr r up := by rw [hK, e]; simp
        have hk := (hL.st.kid up b hu.1 hu.2).1 hbm
        rw [f1 b hk.1 hk.2.1]; exact hk.2.2
    have hblt : b < bs.length := by
      rcases hb with e | e
      · omega
      · rw [← hlen]; exact e.2
    rw [hlen] at hx hu hb
    refine PPlace_in W base p bs F hP x up b hx hu hb 0 (fun w' => ∃ F', PW w' base p bs F' ∧ LR r' F' ∧ Kq W w' bs) (fun w1 hb1 => ?_)
    have hP1 := hP.below hb1
    refine (Place_ok w1 base bs F hP1.gw l.length up x b hu.1 hu.2 hx.1 hx.2 hblt uw.1 ?_ (uw.2.trans (decide_eq_false hm)) hbB).mono ?_
    · rw [f1 x hx.1 (by rw [hlen]; exact hx.2)]; exact hf
    · rintro e w' ⟨he, hg, hk⟩
      refine ⟨he, _, hP1.kq hk hg, ?_, (Kq.of hb1 bs).trans hk⟩
      show Go.Proofs.Ytgamhkhninogeaa.Pure.Lk r'.length (Ur r') (Kr r') _
      rw [hpl.1]
      exact hLk.congr (fun i i0 i1 => hpl.2 i i0 i1)
theorem PDrop_step (W : World) (base p : Nat) (bs : List Nat) (F : FF) (r : List S65) (hP : PW W base p bs F) (hL : LR r F) (hlen : r.length = bs.length) (x : Int) (r' : List S65) (c : Int) (hc : DCase r x r' c) :
    Calls Try.prog 10 #[ptr p, .int .i64 x] W fun e w' => e = .returned (.int .i64 c) ∧ ∃ F', PW w' base p bs F' ∧ LR r' F' ∧ Kq W w' bs := by
  have f1 : ∀ i : Int, 0 ≤ i → i < r.length → F i 1 = Ur r i := fun i h0 h1 => (hL.lk i h0 h1).1
  cases hc with
  | none hno =>
    rw [hlen] at hno
    refine (PDrop_none W base p bs F hP x hno).mono ?_
    rintro e w' ⟨he, rfl⟩
    exact ⟨he, F, hP, hL, Kq.refl _ _⟩
  | free hx hf =>
    have hf1 := f1 x hx.1 hx.2
    rw [hlen] at hx
    refine PDrop_in W base p bs F hP x hx 16 (fun w' => ∃ F', PW w' base p bs F' ∧ LR r F' ∧ Kq W w' bs) ?_
    refine (Drop_free W base bs F hP.gw x hx.1 hx.2 (hf1 ▸ hf)).mono ?_
    rintro e w' ⟨he, rfl⟩
    exact ⟨he, F, hP, hL, Kq.refl _ _⟩
  | ok _ hx hu hun hd =>
    obtain ⟨A, B, hK, e1, _, _, _, hLk⟩ := Go.Proofs.Ytgamhkhninogeaa.Pure.Lk.drop hL x (Ur r x) hx.1 hx.2 rfl hu
    have hdr := hd A B hK
    rw [hlen] at hx
    refine PDrop_in W base p bs F hP x hx 0 (fun w' => ∃ F', PW w' base p bs F' ∧ LR r' F' ∧ Kq W w' bs) ?_
    refine (Drop_ok W base bs F hP.gw x hx.1 hx.2 (by rw [e1]; exact hu)).mono ?_
    rintro e w' ⟨he, hg, hk⟩
    refine ⟨he, _, hP.kq hk hg, ?_, hk⟩
    show Go.Proofs.Ytgamhkhninogeaa.Pure.Lk r'.length (Ur r') (Kr r') _
    rw [hdr.1]
    exact hLk.congr (fun i i0 i1 => hdr.2 i i0 i1)
end Go.Proofs.Ytgamhkhninogeaa.G
