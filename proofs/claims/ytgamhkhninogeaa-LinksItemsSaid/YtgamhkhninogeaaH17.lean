/- Single items: Place, Drop and Under as the document has them; a row of items and the document's, side by side. -/
import Derived.Test.YtgamhkhninogeaaH16
namespace Go.Proofs.Ytgamhkhninogeaa.G
open Go.RowKit Go.Proofs.YtgamhkhninogeaaW.PrintWords Go.Proofs.YtgamhkhninogeaaW.PrintLast Go.Proofs.YtgamhkhninogeaaW.PrintMore
open Go.Proofs.Ytgamhkhninogeaa.Pure (LR Ur Kr Way ChT SibT place_ref drop_ref new_ref under_ev PCase DCase Placed Dropped freeR und_way)
set_option linter.unusedVariables false
set_option linter.unusedSimpArgs false

theorem Place_nil1 (W : World) (o1 o2 : Option Addr) : Calls Try.prog 21 #[.pointer none, .pointer o1, .pointer o2] W fun e w' => e = .returned (.int .i64 1) ∧ w' = W := by
  go_enter Try.func21, Try.ntmps21
  go_wp2_with fail
  refine bodyPost_ret (results_tmp rfl _ _ _) rfl ?_
  exact ⟨rfl, rfl⟩
theorem Place_nil2 (W : World) (a : Addr) (o2 : Option Addr) : Calls Try.prog 21 #[.pointer (some a), .pointer none, .pointer o2] W fun e w' => e = .returned (.int .i64 1) ∧ w' = W := by
  go_enter Try.func21, Try.ntmps21
  go_wp2_with fail
  refine bodyPost_ret (results_tmp rfl _ _ _) rfl ?_
  exact ⟨rfl, rfl⟩
theorem Drop_nil (W : World) : Calls Try.prog 20 #[.pointer none] W fun e w' => e = .returned (.int .i64 1) ∧ w' = W := by
  go_enter Try.func20, Try.ntmps20
  go_wp2_with fail
  refine bodyPost_ret (results_tmp rfl _ _ _) rfl ?_
  exact ⟨rfl, rfl⟩
theorem Under_nil (W : World) (o : Option Addr) : Calls Try.prog 25 #[.pointer o, .pointer none] W fun e w' => e = .returned (.bool false) ∧ w' = W := by
  go_enter Try.func25, Try.ntmps25
  go_wp2_with fail
  refine bodyPost_ret (results_tmp rfl _ _ _) rfl ?_
  exact ⟨rfl, rfl⟩
theorem IPlace_step (W : World) (base : Nat) (bs : List Nat) (F : FF) (r : List S65) (hG : GW W base bs F) (hL : LR r F) (hlen : r.length = bs.length) (x up b : Int) (hx' : inP bs.length x) (hu' : inP bs.length up) (hb' : b = -1 ∨ inP bs.length b) (r' : List S65) (c : Int) (hc : PCase r x up b r' c) :
    Calls Try.prog 21 #[pv bs up, pv bs x, pv bs b] W fun e w' => e = .returned (.int .i64 c) ∧ ∃ F', GW w' base bs F' ∧ LR r' F' ∧ Kq W w' bs := by
  have f1 : ∀ i : Int, 0 ≤ i → i < r.length → F i 1 = Ur r i := fun i h0 h1 => (hL.lk i h0 h1).1
  cases hc with
  | none hno =>
    rw [hlen] at hno
    exact absurd ⟨hx', hu', hb'⟩ hno
  | held hx hu hb hf =>
    rw [hlen] at hx hu hb
    refine (Place_held W base bs F hG up x b hu.1 hx.1 hx.2 ?_).mono ?_
    · rw [f1 x hx.1 (by rw [hlen]; exact hx.2)]; exact hf
    · rintro e w' ⟨he, rfl⟩
      exact ⟨he, F, hG, hL, Kq.refl _ _⟩
  | cycle l hx hu hb hf hw hbd hm =>
    have uw := und_way F (Ur r) x l up hw (fun a ha => f1 a (hbd a ha).1 (hbd a ha).2)
    rw [hlen] at hx hu hb
    refine (Place_cycle W base bs F hG l.length up x b hu.1 hu.2 hx.1 hx.2 uw.1 ?_ (uw.2.trans (decide_eq_true hm))).mono ?_
    · rw [f1 x hx.1 (by rw [hlen]; exact hx.2)]; exact hf
    · rintro e w' ⟨he, rfl⟩
      exact ⟨he, F, hG, hL, Kq.refl _ _⟩
  | at_ l hx hu hb hf hw hbd hm hne =>
    have uw := und_way F (Ur r) x l up hw (fun a ha => f1 a (hbd a ha).1 (hbd a ha).2)
    have hb2 : F b 1 ≠ up := by rw [f1 b hb.1 hb.2]; exact hne
    rw [hlen] at hx hu hb
    refine (Place_at W base bs F hG l.length up x b hu.1 hu.2 hx.1 hx.2 hb.1 hb.2 uw.1 ?_ (uw.2.trans (decide_eq_false hm)) hb2).mono ?_
    · rw [f1 x hx.1 (by rw [hlen]; exact hx.2)]; exact hf
    · rintro e w' ⟨he, rfl⟩
      exact ⟨he, F, hG, hL, Kq.refl _ _⟩
  | ok l A B _ hx hu hb hf hw hbd hm hK hAB hpl =>
    have uw := und_way F (Ur r) x l up hw (fun a ha => f1 a (hbd a ha).1 (hbd a ha).2)
    have hLk := Go.Proofs.Ytgamhkhninogeaa.Pure.Lk.place hL up x b hu.1 hu.2 hx.1 hx.2 hf l hw hm A B hK hAB
    have hbB : ¬ b < 0 → F b 1 = up := by
      intro hb0
      rcases hAB with ⟨e, _⟩ | ⟨B', e⟩
      · omega
      · have hbm : b ∈ Kr r up := by rw [hK, e]; simp
        have hk := (hL.st.kid up b hu.1 hu.2).1 hbm
        rw [f1 b hk.1 hk.2.1]; exact hk.2.2
    have hblt : b < bs.length := by
      rcases hb with e | e
      · omega
      · rw [← hlen]; exact e.2
    rw [hlen] at hx hu hb
    refine (Place_ok W base bs F hG l.length up x b hu.1 hu.2 hx.1 hx.2 hblt uw.1 ?_ (uw.2.trans (decide_eq_false hm)) hbB).mono ?_
    · rw [f1 x hx.1 (by rw [hlen]; exact hx.2)]; exact hf
    · rintro e w' ⟨he, hg, hk⟩
      refine ⟨he, _, hg, ?_, hk⟩
      show Go.Proofs.Ytgamhkhninogeaa.Pure.Lk r'.length (Ur r') (Kr r') _
      rw [hpl.1]
      exact hLk.congr (fun i i0 i1 => hpl.2 i i0 i1)
theorem IDrop_step (W : World) (base : Nat) (bs : List Nat) (F : FF) (r : List S65) (hG : GW W base bs F) (hL : LR r F) (hlen : r.length = bs.length) (x : Int) (hx' : inP bs.length x) (r' : List S65) (c : Int) (hc : DCase r x r' c) :
    Calls Try.prog 20 #[pv bs x] W fun e w' => e = .returned (.int .i64 c) ∧ ∃ F', GW w' base bs F' ∧ LR r' F' ∧ Kq W w' bs := by
  have f1 : ∀ i : Int, 0 ≤ i → i < r.length → F i 1 = Ur r i := fun i h0 h1 => (hL.lk i h0 h1).1
  cases hc with
  | none hno =>
    rw [hlen] at hno
    exact absurd hx' hno
  | free hx hf =>
    have hf1 := f1 x hx.1 hx.2
    rw [hlen] at hx
    refine (Drop_free W base bs F hG x hx.1 hx.2 (hf1 ▸ hf)).mono ?_
    rintro e w' ⟨he, rfl⟩
    exact ⟨he, F, hG, hL, Kq.refl _ _⟩
  | ok _ hx hu hun hd =>
    obtain ⟨A, B, hK, e1, _, _, _, hLk⟩ := Go.Proofs.Ytgamhkhninogeaa.Pure.Lk.drop hL x (Ur r x) hx.1 hx.2 rfl hu
    have hdr := hd A B hK
    rw [hlen] at hx
    refine (Drop_ok W base bs F hG x hx.1 hx.2 (by rw [e1]; exact hu)).mono ?_
    rintro e w' ⟨he, hg, hk⟩
    refine ⟨he, _, hg, ?_, hk⟩
    show Go.Proofs.Ytgamhkhninogeaa.Pure.Lk r'.length (Ur r') (Kr r') _
    rw [hdr.1]
    exact hLk.congr (fun i i0 i1 => hdr.2 i i0 i1)
/-- The items stand as rp says; the value v holds the items r. -/
structure ISx (W w : World) (g : Nat) (bs : List Nat) (v : Value) (r rp : List S65) : Prop where
  b : Below W.heap.size W w
  iw : ∃ F, IW w W.heap.size g bs F ∧ LR rp F
  len : r.length = bs.length
  lenp : rp.length = bs.length
  small : bs.length ≤ 30
  rv : Kd.V k65 65 w w.heap.size (fun k => k ∉ bs) v r
theorem ibs_lt {W : World} {base g : Nat} {bs : List Nat} {F : FF} (h : IW W base g bs F) {b : Nat} (hb : b ∈ bs) : b < W.heap.size := by
  obtain ⟨i, h0, h1, rfl⟩ := mem_blq hb
  exact blk_lt (h.gw.blk i h0 h1)
theorem ISx.below {W w w' : World} {g : Nat} {bs : List Nat} {v : Value} {r rp : List S65} (h : ISx W w g bs v r rp) (hb : Below w.heap.size w w') : ISx W w' g bs v r rp := by
  obtain ⟨h1, ⟨F, h2, h3⟩, h4, h5, h6, h7⟩ := h
  exact ⟨h1.trans (hb.mono h1.size), ⟨F, h2.below hb, h3⟩, h4, h5, h6, Kd.V_below h7 hb⟩
theorem IW.bel {W w : World} {base g : Nat} {bs : List Nat} {F : FF} (h : IW W base g bs F) (hk : Kq W w bs) (hs : base ≤ W.heap.size) : Below base W w :=
  hk.below (fun b hb => by obtain ⟨i, h0, h1, rfl⟩ := mem_blq hb; exact h.gw.ge i h0 h1) hs
theorem ISx.kq {W w w' : World} {g : Nat} {bs : List Nat} {v : Value} {r rp rp' : List S65} (h : ISx W w g bs v r rp) (hk : Kq w w' bs) (hp : ∃ F, GW w' W.heap.size bs F ∧ LR rp' F) (hl : rp'.length = bs.length) : ISx W w' g bs v r rp' := by
  obtain ⟨h1, ⟨F, h2, h3⟩, h4, h5, h6, h7⟩ := h
  obtain ⟨F', q1, q2⟩ := hp
  exact ⟨h1.trans (h2.bel hk h1.size), ⟨F', h2.kq hk q1, q2⟩, h4, hl, h6, Kd.V_step h7 (fun k q1 q2 => hk.block k q2 q1)⟩
theorem ISx.at_ {W w : World} {g c : Nat} {bs : List Nat} {v : Value} {r rp : List S65} (h : ISx W w g bs v r rp) (x j : Int) (hj : nrm bs.length x = j) : Calls Try.prog 19 #[.slice (some ⟨g, 0, none⟩) bs.length c, .int .i64 x] w fun e w' => e = .returned (pv bs j) ∧ w' = w := by
  obtain ⟨F, h2, h3⟩ := h.iw
  exact at19 w W.heap.size g c bs F h2 x j hj
theorem ISx.next_place {W w : World} {g : Nat} {bs : List Nat} {v : Value} {r rp : List S65} (h : ISx W w g bs v r rp) (x up b : Int) : ∃ r' c k, tendrilref19_Place.f k rp x up b = some (r', c) ∧ PCase rp x up b r' c ∧ r'.length = bs.length := by
  obtain ⟨F, _, hL⟩ := h.iw
  obtain ⟨r', c, ⟨k, hk⟩, hc⟩ := place_ref rp F hL (by rw [h.lenp]; have := h.small; omega) x up b
  exact ⟨r', c, k, hk, hc, (PCase.len hc).trans h.lenp⟩
theorem ISx.next_drop {W w : World} {g : Nat} {bs : List Nat} {v : Value} {r rp : List S65} (h : ISx W w g bs v r rp) (x : Int) : ∃ r' c k, tendrilref19_Drop.f k rp x = some (r', c) ∧ DCase rp x r' c ∧ r'.length = bs.length := by
  obtain ⟨F, _, hL⟩ := h.iw
  obtain ⟨r', c, ⟨k, hk⟩, hc⟩ := drop_ref rp F hL (by rw [h.lenp]; have := h.small; omega) x
  exact ⟨r', c, k, hk, hc, (DCase.len hc (fun A B u q => q.1) (fun h0 h1 hx => List.append_of_mem ((hL.st.kid (Ur rp x) x h0 h1).2 ⟨hx.1, hx.2, rfl⟩))).trans h.lenp⟩
theorem ISx.place {W w : World} {g : Nat} {bs : List Nat} {v : Value} {r rp : List S65} (h : ISx W w g bs v r rp) (x up b : Int) (hx : inP bs.length x) (hu : inP bs.length up) (hb : b = -1 ∨ inP bs.length b) (r' : List S65) (c : Int) (hc : PCase rp x up b r' c) {q : Nat} {o : Obj} (hq : w.heap[q]? = some o) (hn : q ∉ bs) :
    Calls Try.prog 21 #[pv bs up, pv bs x, pv bs b] w fun e w' => e = .returned (.int .i64 c) ∧ ISx W w' g bs v r r' ∧ w'.heap[q]? = some o := by
  obtain ⟨F, hP, hL⟩ := h.iw
  refine (IPlace_step w W.heap.size bs F rp hP.gw hL h.lenp x up b hx hu hb r' c hc).mono ?_
  rintro e w' ⟨he, F', hG', hL', hk⟩
  exact ⟨he, h.kq hk ⟨F', hG', hL'⟩ ((PCase.len hc).trans h.lenp), (hk.block q (blk_lt hq) hn).trans hq⟩
theorem ISx.drop {W w : World} {g : Nat} {bs : List Nat} {v : Value} {r rp : List S65} (h : ISx W w g bs v r rp) (x : Int) (hx : inP bs.length x) (r' : List S65) (c : Int) (hc : DCase rp x r' c) (hl : r'.length = bs.length) {q : Nat} {o : Obj} (hq : w.heap[q]? = some o) (hn : q ∉ bs) :
    Calls Try.prog 20 #[pv bs x] w fun e w' => e = .returned (.int .i64 c) ∧ ISx W w' g bs v r r' ∧ w'.heap[q]? = some o := by
  obtain ⟨F, hP, hL⟩ := h.iw
  refine (IDrop_step w W.heap.size bs F rp hP.gw hL h.lenp x hx r' c hc).mono ?_
  rintro e w' ⟨he, F', hG', hL', hk⟩
  exact ⟨he, h.kq hk ⟨F', hG', hL'⟩ hl, (hk.block q (blk_lt hq) hn).trans hq⟩
theorem ISx.rplace {W w : World} {g : Nat} {bs : List Nat} {v : Value} {r rp : List S65} (h : ISx W w g bs v r rp) (x up b : Int) (c : Int) (k : Nat) (hk : tendrilref19_Place.f k r x up b = some (rp, c)) :
    Calls Try.prog 16 #[v, .int .i64 x, .int .i64 up, .int .i64 b] w fun e w' => ∃ v', e = .returned (.tuple #[v', .int .i64 c]) ∧ ISx W w' g bs v' rp rp := by
  obtain ⟨F, hP, hL⟩ := h.iw
  obtain ⟨A, c0, rfl⟩ := Kd.V_slice h.rv
  refine (tendrilref19_Place.calls k (fun k => k ∉ bs) A c0 r x up b rp c w h.rv hk).mono ?_
  rintro e w' ⟨v', he, hv, hb⟩
  refine ⟨v', he, h.b.trans (hb.mono h.b.size), ⟨F, hP.below hb, hL⟩, h.lenp, h.lenp, h.small, Kd.V_mono hv (fun k q => ?_)⟩
  rcases q with q | q
  · exact q
  · intro hm; have := ibs_lt hP hm; omega
theorem ISx.rdrop {W w : World} {g : Nat} {bs : List Nat} {v : Value} {r rp : List S65} (h : ISx W w g bs v r rp) (x : Int) (c : Int) (k : Nat) (hk : tendrilref19_Drop.f k r x = some (rp, c)) :
    Calls Try.prog 15 #[v, .int .i64 x] w fun e w' => ∃ v', e = .returned (.tuple #[v', .int .i64 c]) ∧ ISx W w' g bs v' rp rp := by
  obtain ⟨F, hP, hL⟩ := h.iw
  obtain ⟨A, c0, rfl⟩ := Kd.V_slice h.rv
  refine (tendrilref19_Drop.calls k (fun k => k ∉ bs) A c0 r x rp c w h.rv hk).mono ?_
  rintro e w' ⟨v', he, hv, hb⟩
  refine ⟨v', he, h.b.trans (hb.mono h.b.size), ⟨F, hP.below hb, hL⟩, h.lenp, h.lenp, h.small, Kd.V_mono hv (fun k q => ?_)⟩
  rcases q with q | q
  · exact q
  · intro hm; have := ibs_lt hP hm; omega
/-- A row of items and the document's items, both new. -/
theorem ISx.start {W w w' : World} {g : Nat} {bs : List Nat} {v : Value} {n : Nat} (hn : n ≤ 30) (hl : bs.length = n) (hb : Below W.heap.size W w) (hp : IW w W.heap.size g bs F0) (hS : Kd.S k65 65 w' w.heap.size (fun _ => True) v (freeR n)) (hb2 : Below w.heap.size w w') : ISx W w' g bs v (freeR n) (freeR n) := by
  have hf : (freeR n).length = n := by simp [freeR]
  refine ⟨hb.trans (hb2.mono hb.size), ⟨F0, hp.below hb2, Go.Proofs.Ytgamhkhninogeaa.Pure.LR.free n⟩, hf.trans hl.symm, hf.trans hl.symm, by omega, ?_⟩
  refine Kd.V_mono (Kd.S_V (Kd.S_bound hS)) (fun k hk hm => ?_)
  have := ibs_lt hp hm
  have := hk.2.1
  omega
/-- Whether an item is under another, as the items stand and as the document says. -/
theorem ISx.under {W w : World} {g : Nat} {bs : List Nat} {v : Value} {r : List S65} (h : ISx W w g bs v r r) (x y : Int) (hx : inP bs.length x) (hy : inP bs.length y) : ∃ b k, tendrilref19_Under.f k r x y = some b ∧ Calls Try.prog 25 #[pv bs x, pv bs y] w fun e w' => e = .returned (.bool b) ∧ w' = w := by
  obtain ⟨F, hP, hL⟩ := h.iw
  obtain ⟨l, q1, q2, q3⟩ := hL.st.way1 x hx.1 (by rw [h.len]; exact hx.2)
  have f1 : ∀ a ∈ x :: l, F a 1 = Ur r a := fun a ha => (hL.lk a (q2 a ha).1 (q2 a ha).2).1
  have uw := und_way F (Ur r) y (x :: l) x q1 f1
  obtain ⟨k, hk⟩ := (under_ev r y (x :: l) x q1 q2).ex
  exact ⟨_, k, hk, Under w W.heap.size bs F hP.gw _ x y hx.2 hy.1 hy.2 uw.1 _ uw.2⟩
/-- An item's links, as the items stand and as the document says. -/
theorem ISx.five {W w : World} {g : Nat} {bs : List Nat} {v : Value} {r : List S65} (h : ISx W w g bs v r r) (i : Int) (hi : inP bs.length i) : ∃ v1 v2 v3 v4 v5, (∀ w', Below w.heap.size w w' → Calls Try.prog 22 #[pv bs i] w' fun e w'' => e = .returned (A5 v1 v2 v3 v4 v5) ∧ Below w'.heap.size w' w'') ∧
    (∀ w', Below w.heap.size w w' → Calls Try.prog 23 #[v, .int .i64 i] w' fun e w'' => e = .returned (A5 v1 v2 v3 v4 v5) ∧ Below w'.heap.size w' w'') := by
  obtain ⟨F, hP, hL⟩ := h.iw
  have hir : inP r.length i := by rw [h.len]; exact hi
  have hge := lr_ge hL i hir
  have e (k : Nat) : lnk F i k = F i k := by unfold lnk; rw [if_neg (by have := hi.1; omega)]
  refine ⟨F i 1, F i 2, F i 3, F i 4, F i 5, fun w' hb => ?_, fun w' hb => ?_⟩
  · have q := five22 w' W.heap.size bs F (hP.below hb).gw i hi.2
    rw [e, e, e, e, e, num_of hge.1, num_of hge.2.1, num_of hge.2.2.1, num_of hge.2.2.2.1, num_of hge.2.2.2.2] at q
    exact q
  · obtain ⟨A, c0, rfl⟩ := Kd.V_slice h.rv
    have q := Kd.V_reads' h.rv
    exact Five_walk w' A c0 r F (Kd.C_below q.2.2 hb) q.2.1 hL (by rw [h.len]; have := h.small; omega) i hir
end Go.Proofs.Ytgamhkhninogeaa.G
