import Derived.Test.YtcebfldagnjddaaH2a
namespace Go.Proofs.Ytcebfldagnjddaa.G
open Go.RowKit Go.Proofs.YtcebfldagnjddaaW.PrintWords Go.Proofs.YtcebfldagnjddaaW.PrintLast Go.Proofs.YtcebfldagnjddaaW.PrintMore
set_option linter.unusedVariables false
set_option linter.unusedSimpArgs false
theorem info63b : (Try.prog.info? 63).map (fun i => (i.zero, i.size, i.bytes)) = some (some (.agg #[(.string ⟨#[]⟩), (.string ⟨#[]⟩), (.string ⟨#[]⟩), (.slice none 0 0), (.slice none 0 0), (.int .i64 0), (.int .i64 0)]), 7, 112) := by kernel_rfl
theorem at_T25F {w : World} {ok : Nat → Prop} {A : Option Addr} {n : Nat} {xs : List S25} (h : Kd.F k25 w ok A n xs) (i : Int) (h0 : 0 ≤ i) (h1 : i < n) : ∃ ad A3 c3 A4 c4, A = some ad ∧ w.cell? (ad.add (i.toNat * 5)) = some (.string (rd_T25 xs i).f0) ∧ w.cell? ⟨(ad.add (i.toNat * 5)).block, (ad.add (i.toNat * 5)).off + 1, none⟩ = some (.string (rd_T25 xs i).f1) ∧ w.cell? ⟨(ad.add (i.toNat * 5)).block, (ad.add (i.toNat * 5)).off + 2, none⟩ = some (.string (rd_T25 xs i).f2) ∧ w.cell? ⟨(ad.add (i.toNat * 5)).block, (ad.add (i.toNat * 5)).off + 3, none⟩ = some (.slice A3 (rd_T25 xs i).f3.length c3) ∧ w.cell? ⟨(ad.add (i.toNat * 5)).block, (ad.add (i.toNat * 5)).off + 4, none⟩ = some (.slice A4 (rd_T25 xs i).f4.length c4) ∧ (rd_T25 xs i).f3.length ≤ c3 ∧ Kd.F k69 w ok A3 (rd_T25 xs i).f3.length (rd_T25 xs i).f3 ∧ (rd_T25 xs i).f4.length ≤ c4 ∧ Kd.F k25 w ok A4 (rd_T25 xs i).f4.length (rd_T25 xs i).f4 := by
  obtain ⟨ad, c, e, _, hK, hc0, _⟩ := Kd.F_get h z25 i h0 h1
  have hc : ∀ j u, c[j]? = some u → w.cell? (ad.add (i.toNat * 5 + j)) = some u := hc0
  obtain ⟨A3, c3, A4, c4, rfl, l3, g3, l4, g4⟩ := k25_openF hK
  exact ⟨ad, A3, c3, A4, c4, e, hc 0 _ rfl, by rw [← add_field _ _ 1 (by omega)]; exact hc 1 _ rfl, by rw [← add_field _ _ 2 (by omega)]; exact hc 2 _ rfl, by rw [← add_field _ _ 3 (by omega)]; exact hc 3 _ rfl, by rw [← add_field _ _ 4 (by omega)]; exact hc 4 _ rfl, l3, g3, l4, g4⟩
/-- What blocks a call leaves as they are: all that were there, but for the row's own. -/
structure Fw (v : Value) (w w' : World) (v' : Value) : Prop where
  size : w.heap.size ≤ w'.heap.size
  same : ∀ b, b < w.heap.size → some b ≠ v.ownBlock → w'.heap[b]? = w.heap[b]?
  own : v'.ownBlock = v.ownBlock ∨ ∃ b, v'.ownBlock = some b ∧ w.heap.size ≤ b
theorem Fw.refl (v : Value) (w : World) : Fw v w w v := ⟨Nat.le_refl _, fun _ _ _ => rfl, .inl rfl⟩
theorem Fw.trans {v1 v2 v3 : Value} {a b c : World} (h : Fw v1 a b v2) (k : Fw v2 b c v3) : Fw v1 a c v3 := by
  refine ⟨Nat.le_trans h.size k.size, fun x hx hne => ?_, ?_⟩
  · refine (k.same x (Nat.lt_of_lt_of_le hx h.size) ?_).trans (h.same x hx hne)
    rcases h.own with e | ⟨y, e, hy⟩
    · rw [e]; exact hne
    · rw [e]; intro e2; injection e2 with e2; omega
  · rcases k.own with e | ⟨y, e, hy⟩
    · rw [e]; exact h.own
    · exact .inr ⟨y, e, Nat.le_trans h.size hy⟩
theorem Fw.low {v : Value} {a b : World} (h : Below a.heap.size a b) : Fw v a b v := ⟨h.size, fun x hx _ => h.block x hx, .inl rfl⟩
theorem Fw.blk {v v' : Value} {a b : World} (h : Fw v a b v') {g : Nat} {o : Obj} (hb : a.heap[g]? = some o) (hn : some g ≠ v.ownBlock) : b.heap[g]? = some o := (h.same g (blk_lt hb) hn).trans hb
def BOK (w0 : World) (okB : Nat → Prop) (k : Nat) : Prop := ∀ (x : S25) (A3 : Option Addr) (c3 : Nat) (A4 : Option Addr) (c4 : Nat) (depth up : Int) (l : List S63) (v : Value) (r : List S63) (w : World),
    Kd.F k69 w0 okB A3 x.f3.length x.f3 → x.f3.length ≤ c3 → Kd.F k25 w0 okB A4 x.f4.length x.f4 → x.f4.length ≤ c4 → Below w0.heap.size w0 w → Kd.N k63 63 w w0.heap.size (fun k => okB k ∨ w0.heap.size ≤ k) v l → l.length ≤ 4097 → 0 ≤ depth → depth ≤ 65 →
    blw1 k l x depth up = some r →
    Calls Try.prog 48 #[v, .agg #[.string x.f0, .string x.f1, .string x.f2, .slice A3 x.f3.length c3, .slice A4 x.f4.length c4], .int .i64 depth, .int .i64 up] w fun e w' =>
      ∃ v', e = .returned v' ∧ Kd.N k63 63 w' w0.heap.size (fun k => okB k ∨ w0.heap.size ≤ k) v' r ∧ Below w0.heap.size w0 w' ∧ Fw v w w' v'
set_option maxHeartbeats 4000000 in
set_option maxRecDepth 100000 in
theorem below (w0 : World) (okB : Nat → Prop) (hokB : ∀ k, okB k → k < w0.heap.size) (k : Nat) : BOK w0 okB k := by
  induction k using Nat.strongRecOn with
  | _ k ih =>
  intro x A3 c3 A4 c4 depth up l v r w h3 hc3 h4 hc4 hb hN hl hd0 hd1 h
  have H3 := Aside0.mk h3
  have H4 := Aside0.mk h4
  have H := Aside0.mk h
  have IH := Aside0.mk ih
  have BW := Aside0.mk hb
  obtain ⟨A, c, rfl⟩ := Kd.N_slice hN
  have HN := Aside0.mk hN
  have OKB := Aside0.mk hokB
  clear h3 h4 h ih hb hN hokB
  go_enter Try.func48, Try.ntmps48
  go_upto_region 1 with ((with_reducible refine gate_dst (N := 5) rfl ?_); refine box_event ?hg (N := 5) ?hd (cs := #[.string x.f0, .string x.f1, .string x.f2, .slice A3 x.f3.length c3, .slice A4 x.f4.length c4]) (t := 25) ?hr ?_; (case hd => rfl); (case hg => rfl); (case hr => first | (go_simp; done) | (go_simp; rfl)); intro g hg w1 hbox hb1; have HG := Aside0.mk hg; have HX := Aside0.mk hbox; have HB1 := Aside0.mk hb1; clear hbox hb1 hg)
  have hG : Aside0 (some g ≠ (Value.slice A l.length c).ownBlock) := ⟨fun e => by have := Kd.N_lt HN.out g e.symm; have := HG.out; omega⟩
  have N1 := Aside0.mk (Kd.N_below HN.out HB1.out)
  have B1 := Aside0.mk (BW.out.trans (HB1.out.mono BW.out.size))
  have F1 := Aside0.mk (Fw.low (v := .slice A l.length c) HB1.out)
  clear HN BW HB1
  by_cases cl : (l.length : Int) > 4096
  · have hr : r = l := by have h := H.out; unfold blw1 at h; rw [if_pos cl] at h; exact (Option.some.inj h).symm
    have clb : decide (4096 < (l.length : Int)) = true := decide_eq_true cl; subst hr; clear cl H
    go_wp2_with fail
    go_ret
    exact ⟨_, rfl, N1.out, B1.out, F1.out⟩
  have clb : decide (4096 < (l.length : Int)) = false := decide_eq_false cl
  obtain ⟨q, hq⟩ : ∃ q : S63, (⟨x, depth, up⟩ : S63) = q := ⟨_, rfl⟩
  have HP := Aside0.mk (show Kd.FK k63 w1 okB q [.string x.f0, .string x.f1, .string x.f2, .slice A3 x.f3.length c3, .slice A4 x.f4.length c4, .int .i64 depth, .int .i64 up] from hq ▸ k63_mkF w1 okB ⟨x, depth, up⟩ hc3 (Kd.F_below H3.out B1.out) hc4 (Kd.F_below H4.out B1.out))
  replace H := Aside0.mk (show (if depth > 64 then some (l ++ [q]) else blw k (l ++ [q]) x.f4 (depth + 1) l.length) = some r by have h := H.out; unfold blw1 at h; rw [if_neg cl, hq] at h; exact h)
  have CL := Aside0.mk cl
  clear hq cl
  have g0 : w1.cell? ⟨g, 0, none⟩ = some (.string x.f0) := (blk_cell HX.out 0).trans rfl
  have g1 : w1.cell? ⟨g, 1, none⟩ = some (.string x.f1) := (blk_cell HX.out 1).trans rfl
  have g2 : w1.cell? ⟨g, 2, none⟩ = some (.string x.f2) := (blk_cell HX.out 2).trans rfl
  have g3 : w1.cell? ⟨g, 3, none⟩ = some (.slice A3 x.f3.length c3) := (blk_cell HX.out 3).trans rfl
  have g4 : w1.cell? ⟨g, 4, none⟩ = some (.slice A4 x.f4.length c4) := (blk_cell HX.out 4).trans rfl
  go_upto_region 5 with (at_builtin; refine Kd.N_append k63 (w0 := w0) w0.heap.size rfl _ _ 59 63 _ 112 rfl Try.underlying59 info63b rfl (by decide) (by decide) (.slice A l.length c) l q [.string x.f0, .string x.f1, .string x.f2, .slice A3 x.f3.length c3, .slice A4 x.f4.length c4, .int .i64 depth, .int .i64 up] (fun k => okB k ∨ w0.heap.size ≤ k) okB rfl rfl HP.out (fun k hk => ⟨.inl hk, fun e => by have := Kd.N_base N1.out k e.symm; have := OKB.out k hk; omega⟩) (fun k hk => .inr (Nat.le_trans B1.out.size hk)) N1.out B1.out B1.out.size (by omega) ?_; intro v1 w2 hn2 hb2 hg2 ho2; have N2 := Aside0.mk hn2; have B2 := Aside0.mk hb2; have GR := Aside0.mk hg2; have HO2 := Aside0.mk ho2; clear hn2 hb2 hg2 ho2)
  have F2 := Aside0.mk (F1.out.trans (show Fw (.slice A l.length c) w1 w2 v1 from ⟨GR.out.size, fun b hb hne => GR.out.block b hb hne, HO2.out⟩))
  have X2 := Aside0.mk (blk_grown HX.out GR.out hG.out)
  clear HP GR HO2 HX N1 B1 F1 g0 g1 g2 g3 g4
  obtain ⟨lq, hlq⟩ : ∃ lq, l ++ [q] = lq := ⟨_, rfl⟩
  rw [hlq] at N2 H
  have HLQ := Aside0.mk (show lq.length = l.length + 1 by rw [← hlq]; simp)
  clear hlq
  obtain ⟨A2, c2, ev⟩ := Kd.N_slice N2.out
  subst ev
  by_cases cd : depth > 64
  · have hr : r = lq := by have h := H.out; rw [if_pos cd] at h; exact (Option.some.inj h).symm
    have cdb : decide (64 < depth) = true := decide_eq_true cd; subst hr; clear cd H
    go_wp2_with fail
    go_ret
    exact ⟨_, rfl, N2.out, B2.out, F2.out⟩
  have cdb : decide (64 < depth) = false := decide_eq_false cd
  replace H := Aside0.mk (show blw k lq x.f4 (depth + 1) l.length = some r by have h := H.out; rwa [if_neg cd] at h)
  have CD := Aside0.mk cd
  clear cd
  have g4 : w2.cell? ⟨g, 4, none⟩ = some (.slice A4 x.f4.length c4) := (blk_cell X2.out 4).trans rfl
  go_wp2_with fail
  go_loopg [0, 30] k (fun kq v0 v30 w' => ∃ (i : Int) (l2 : List S63) (A2 : Option Addr) (c2 : Nat), v0 = .slice A2 l2.length c2 ∧ v30 = .int .i64 i ∧ Aside0 (0 ≤ i ∧ i ≤ x.f4.length ∧ i ≤ 5000 ∧ (i : Int) ≤ l2.length ∧ blw kq l2 (x.f4.drop i.toNat) (depth + 1) l.length = some r ∧ kq ≤ k ∧ l2.length ≤ 4097) ∧ Aside0 (Kd.N k63 63 w' w0.heap.size (fun k => okB k ∨ w0.heap.size ≤ k) (.slice A2 l2.length c2) l2) ∧ Aside0 (Below w0.heap.size w0 w') ∧ Aside0 (Fw (.slice A l.length c) w w' (.slice A2 l2.length c2)) ∧ Aside0 (w'.heap[g]? = some (.cells #[.string x.f0, .string x.f1, .string x.f2, .slice A3 x.f3.length c3, .slice A4 x.f4.length c4] 25 (0, 0))))
  case atStart => exact ⟨0, lq, A2, c2, rfl, rfl, ⟨by omega, by omega, by omega, by omega, by simpa using H.out, by omega, by have := HLQ.out; have := CL.out; omega⟩, N2, B2, F2, X2⟩
  case round =>
  clear N2 B2 F2 X2 H HLQ g4
  obtain ⟨i, l2, A2, c2, rfl, rfl, HI, N, B, F, X⟩ := hrel
  cases gk with
  | zero => exact absurd HI.out.2.2.2.2.1 (by simp [blw])
  | succ k1 =>
  by_cases hi : i < x.f4.length
  case neg =>
    have hr : r = l2 := by
      have h := HI.out.2.2.2.2.1; rw [List.drop_eq_nil_of_le (by omega)] at h
      exact (Option.some.inj h).symm
    have hib : decide (i < (x.f4.length : Int)) = false := decide_eq_false hi; clear HI hi; subst hr
    go_wp2_with fail
    go_ret
    exact ⟨_, rfl, N.out, B.out, F.out⟩
  obtain ⟨h0, hi2, hi5, hil, hblw, hkk, hl2⟩ := HI.out
  clear HI
  have hib : decide (i < (x.f4.length : Int)) = true := decide_eq_true hi
  have hi0 : decide (0 ≤ i) = true := decide_eq_true h0
  rw [drop_T25 _ _ h0 hi, blw_cons] at hblw
  by_cases c5 : (l2.length : Int) > 4096
  · have hr : r = l2 := by rw [if_pos c5] at hblw; exact (Option.some.inj hblw).symm
    have c5b : decide (4096 < (l2.length : Int)) = true := decide_eq_true c5; clear hblw c5; subst hr
    go_wp2_with fail
    go_ret
    exact ⟨_, rfl, N.out, B.out, F.out⟩
  have c5b : decide (4096 < (l2.length : Int)) = false := decide_eq_false c5
  rw [if_neg c5] at hblw
  obtain ⟨l3, hb1, hb2⟩ := Option.bind_eq_some_iff.1 hblw
  have C5 := Aside0.mk c5
  have HB1 := Aside0.mk hb1
  have HB2 := Aside0.mk hb2
  clear c5 hblw hb1 hb2
  obtain ⟨ad, a3, d3, a4, d4, eA, t0, t1, t2, t3, t4, hd3, hC3, hd4, hC4⟩ := at_T25F H4.out i h0 hi
  subst eA
  obtain ⟨y, hy⟩ : ∃ y, rd_T25 x.f4 i = y := ⟨_, rfl⟩
  rw [hy] at t0 t1 t2 t3 t4 hd3 hC3 hd4 hC4 HB1
  replace t0 := (B.out.cell (World.block_lt_of_cell? w0 _ t0)).trans t0
  replace t1 := (B.out.cell (World.block_lt_of_cell? w0 _ t1)).trans t1
  replace t2 := (B.out.cell (World.block_lt_of_cell? w0 _ t2)).trans t2
  replace t3 := (B.out.cell (World.block_lt_of_cell? w0 _ t3)).trans t3
  replace t4 := (B.out.cell (World.block_lt_of_cell? w0 _ t4)).trans t4
  have C3 := Aside0.mk hC3
  have C4 := Aside0.mk hC4
  have D3 := Aside0.mk hd3
  have D4 := Aside0.mk hd4
  have HY := Aside0.mk hy
  clear hC3 hC4 hd3 hd4 hy
  have g4 : wr.cell? ⟨g, 4, none⟩ = some (.slice (some ad) x.f4.length c4) := (blk_cell X.out 4).trans rfl
  have hwd : IntKind.i64.wrap (depth + 1) = depth + 1 := IntWalk.i64_in _ (by omega)
  have hwi : IntKind.i64.wrap (i + 1) = i + 1 := IntWalk.i64_in _ (by omega)
  have hgn : Aside0 (some g ≠ (Value.slice A2 l2.length c2).ownBlock) := ⟨by
    intro e; have h1 := Kd.N_typed N.out g e.symm; obtain ⟨cells, h1⟩ := h1; have h2 := X.out; rw [h1] at h2
    injection h2 with h2
    injection h2 with _ h2
    cases h2⟩
  go_wp2_with (go_at_call 48; refine (IH.out k1 (by omega) y _ d3 _ d4 (depth + 1) l.length l2 (.slice A2 l2.length c2) l3 _ C3.out D3.out C4.out D4.out B.out N.out hl2 (by omega) (by have := CD.out; omega) HB1.out).mono ?_; rintro e w9 ⟨v9, rfl, hn9, hb9, hf9⟩; have N9 := Aside0.mk hn9; have B9 := Aside0.mk hb9; have F9 := Aside0.mk hf9; clear hn9 hb9 hf9)
  obtain ⟨A9, c9, ev9⟩ := Kd.N_slice N9.out
  subst ev9
  obtain ⟨m1, m2⟩ := blw1_more HB1.out (fun h => by have := C5.out; omega)
  go_roundg k1
  case measure => omega
  case rel => exact ⟨i + 1, l3, A9, c9, rfl, rfl, ⟨by omega, by omega, by omega, by omega, HB2.out, by omega, m2⟩, N9, B9, ⟨F.out.trans F9.out⟩, ⟨F9.out.blk X.out hgn.out⟩⟩
set_option maxHeartbeats 4000000 in
set_option maxRecDepth 100000 in
theorem tendrilref11_Items.calls (k : Nat) (a0_0 : ByteArray) (a0_1 : ByteArray) (a0_2 : ByteArray) (ok0_3 : Nat → Prop) (A0_3 : Option Addr) (c0_3 : Nat) (l0_3 : List (S69)) (ok0_4 : Nat → Prop) (A0_4 : Option Addr) (c0_4 : Nat) (l0_4 : List (S25)) (r : List S63) (w : World) (hs0_3 : Kd.V k69 69 w w.heap.size ok0_3 (.slice A0_3 l0_3.length c0_3) l0_3) (hs0_4 : Kd.V k25 25 w w.heap.size ok0_4 (.slice A0_4 l0_4.length c0_4) l0_4) (h : tendrilref11_Items.f k a0_0 a0_1 a0_2 l0_3 l0_4 = some r) :
    Calls Try.prog 31 #[.agg #[.string a0_0, .string a0_1, .string a0_2, .slice A0_3 l0_3.length c0_3, .slice A0_4 l0_4.length c0_4]] w fun e w' => ∃ v0_ : Value, e = .returned (v0_) ∧ Kd.N k63 63 w' w.heap.size (fun k_ => (ok0_3 k_ ∨ ok0_4 k_) ∨ w.heap.size ≤ k_) v0_ r ∧ Below w.heap.size w w' := by
  obtain ⟨A3, c3, e3, l3, f3⟩ := hs0_3
  obtain ⟨A4, c4, e4, l4, f4⟩ := hs0_4
  injection e3 with e31 e32 e33
  injection e4 with e41 e42 e43
  subst e31 e33 e41 e43
  have FA := Aside0.mk (Kd.F_mono (ok' := fun k => (ok0_3 k ∨ ok0_4 k) ∧ k < w.heap.size) (Kd.F_bound f3) (fun k hk => ⟨.inl hk.1, hk.2⟩))
  have FB := Aside0.mk (Kd.F_mono (ok' := fun k => (ok0_3 k ∨ ok0_4 k) ∧ k < w.heap.size) (Kd.F_bound f4) (fun k hk => ⟨.inr hk.1, hk.2⟩))
  have L3 := Aside0.mk l3
  have L4 := Aside0.mk l4
  have H := Aside0.mk h
  clear l3 l4 f3 f4 e32 e42 h
  go_enter Try.func31, Try.ntmps31
  go_wp2_with (first
    | ((with_reducible refine gate_dst (N := 1) rfl ?_); refine box_event ?hg (N := 1) ?hd (cs := #[.string a0_0, .string a0_1, .string a0_2, .slice A0_3 l0_3.length c0_3, .slice A0_4 l0_4.length c0_4]) (t := 25) ?hr ?_; (case hd => rfl); (case hg => rfl); (case hr => first | (go_simp; done) | (go_simp; rfl)); intro g hg w1 hbox hb1; have HX := Aside0.mk hbox; have HB1 := Aside0.mk hb1; have g0 : w1.cell? ⟨g, 0, none⟩ = some (.string a0_0) := (blk_cell hbox 0).trans rfl; have g1 : w1.cell? ⟨g, 1, none⟩ = some (.string a0_1) := (blk_cell hbox 1).trans rfl; have g2 : w1.cell? ⟨g, 2, none⟩ = some (.string a0_2) := (blk_cell hbox 2).trans rfl; have g3 : w1.cell? ⟨g, 3, none⟩ = some (.slice A0_3 l0_3.length c0_3) := (blk_cell hbox 3).trans rfl; have g4 : w1.cell? ⟨g, 4, none⟩ = some (.slice A0_4 l0_4.length c0_4) := (blk_cell hbox 4).trans rfl; have HG := Aside0.mk hg; clear hbox hb1 hg)
    | (go_at_call 48; refine (below w (fun k => (ok0_3 k ∨ ok0_4 k) ∧ k < w.heap.size) (fun k hk => hk.2) k ⟨a0_0, a0_1, a0_2, l0_3, l0_4⟩ _ c0_3 _ c0_4 1 (-1) [] (.slice none 0 0) r _ FA.out L3.out FB.out L4.out HB1.out (Kd.N_nil _ _ _ _ _) (by simp) (by omega) (by omega) H.out).mono ?_; rintro e w9 ⟨v9, rfl, hn9, hb9, hf9⟩; have N9 := Aside0.mk hn9; have B9 := Aside0.mk hb9; clear hn9 hb9 hf9; obtain ⟨A9, c9, ev⟩ := Kd.N_slice N9.out; subst ev))
  go_ret
  exact ⟨_, rfl, Kd.N_mono N9.out (fun k hk => hk.elim (fun h => .inl h.1) .inr), B9.out⟩
end Go.Proofs.Ytcebfldagnjddaa.G
