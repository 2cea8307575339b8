/- tendrilref13.Rows: its walk. -/
import Derived.Test.YtcebfldagnjddaaH2
import Derived.Test.YtcebfldagnjddaaGx12
namespace Go.Proofs.Ytcebfldagnjddaa.G
open Go.RowKit Go.Proofs.YtcebfldagnjddaaW.PrintWords Go.Proofs.YtcebfldagnjddaaW.PrintLast Go.Proofs.YtcebfldagnjddaaW.PrintMore
set_option linter.unusedVariables false
set_option linter.unusedSimpArgs false
set_option maxHeartbeats 4000000 in
set_option maxRecDepth 100000 in
theorem rowCalls (s0 s1 s2 : ByteArray) (A3 : Option Addr) (n3 c3 : Nat) (A4 : Option Addr) (n4 c4 : Nat) (dp up : Int) (W : World) :
    Calls Try.prog 32 #[.agg #[.string s0, .string s1, .string s2, .slice A3 n3 c3, .slice A4 n4 c4, .int .i64 dp, .int .i64 up]] W fun e w' => e = .returned (.agg #[.int .i64 0, .int .i64 (wrap64 (up + 1)), .string s0, .string s1, .string s2, .slice A3 n3 c3]) ∧ Below W.heap.size W w' := by
  have hu63 := Try.underlying63
  have hu25 := Try.underlying25
  go_enter Try.func32, Try.ntmps32
  go_upto_region 1 with (first
    | ((with_reducible refine gate_dst (N := 1) rfl ?_); refine box_event ?hg (N := 1) ?hd (cs := #[.string s0, .string s1, .string s2, .slice A3 n3 c3, .slice A4 n4 c4, .int .i64 dp, .int .i64 up]) (t := 63) ?hr ?_; (case hd => rfl); (case hg => rfl); (case hr => first | (go_simp; done) | (go_simp; rfl)); intro g hg w1 hbox hb1; have HX := Aside0.mk hbox; have HB1 := Aside0.mk hb1; have HG := Aside0.mk hg; clear hbox hb1 hg)
    | ((with_reducible refine gate_dst (N := 2) rfl ?_); refine box_event ?hg (N := 2) ?hd (cs := #[.int .i64 0, .int .i64 0, .string ⟨#[]⟩, .string ⟨#[]⟩, .string ⟨#[]⟩, .slice none 0 0]) (t := 53) ?hr ?_; (case hd => rfl); (case hg => rfl); (case hr => first | (go_simp; done) | (go_simp; rfl)); intro g2 hg w2 hbox hb1; have HX2 := Aside0.mk hbox; have HB2 := Aside0.mk hb1; have HG2 := Aside0.mk hg; clear hbox hb1 hg))
  have X1 := Aside0.mk (blk_below HX.out HB2.out)
  have g0 : w2.cell? ⟨g, 0, none⟩ = some (.string s0) := (blk_cell X1.out 0).trans rfl
  have g1 : w2.cell? ⟨g, 1, none⟩ = some (.string s1) := (blk_cell X1.out 1).trans rfl
  have g2' : w2.cell? ⟨g, 2, none⟩ = some (.string s2) := (blk_cell X1.out 2).trans rfl
  have g3 : w2.cell? ⟨g, 3, none⟩ = some (.slice A3 n3 c3) := (blk_cell X1.out 3).trans rfl
  have g6 : w2.cell? ⟨g, 6, none⟩ = some (.int .i64 up) := (blk_cell X1.out 6).trans rfl
  have q0 : w2.cell? ⟨g2, 0, none⟩ = some (.int .i64 0) := (blk_cell HX2.out 0).trans rfl
  have q1 : w2.cell? ⟨g2, 1, none⟩ = some (.int .i64 0) := (blk_cell HX2.out 1).trans rfl
  have q2 : w2.cell? ⟨g2, 2, none⟩ = some (.string ⟨#[]⟩) := (blk_cell HX2.out 2).trans rfl
  have q3 : w2.cell? ⟨g2, 3, none⟩ = some (.string ⟨#[]⟩) := (blk_cell HX2.out 3).trans rfl
  have q4 : w2.cell? ⟨g2, 4, none⟩ = some (.string ⟨#[]⟩) := (blk_cell HX2.out 4).trans rfl
  have q5 : w2.cell? ⟨g2, 5, none⟩ = some (.slice none 0 0) := (blk_cell HX2.out 5).trans rfl
  have z0 := blk_frozen HX2.out 0
  have z1 := blk_frozen HX2.out 1
  have z2 := blk_frozen HX2.out 2
  have z3 := blk_frozen HX2.out 3
  have z4 := blk_frozen HX2.out 4
  have z5 := blk_frozen HX2.out 5
  have hsz := Aside0.mk (show W.heap.size ≤ g2 by have := HG2.out; have := HB1.out.size; omega)
  go_wp2_with fail
  refine bodyPost_ret (results_cell_row rfl _ _ g2 53 #[.int .i64 0, .int .i64 (wrap64 (up + 1)), .string s0, .string s1, .string s2, .slice A3 n3 c3] (0, 0) _ rfl (blk_put (blk_put (blk_put (blk_put (blk_put (blk_put HX2.out 0 _ rfl) 1 _ rfl) 2 _ rfl) 3 _ rfl) 4 _ rfl) 5 _ rfl) Try.underlying53 rfl (by kernel_rfl)) rfl ?_
  have b := HB1.out.trans (HB2.out.mono HB1.out.size)
  exact ⟨rfl, below_set (below_set (below_set (below_set (below_set (below_set b hsz.out) hsz.out) hsz.out) hsz.out) hsz.out) hsz.out⟩
def rowI (it : S63) : S53 := ⟨0, wrap64 (it.f2 + 1), it.f0.f0, it.f0.f1, it.f0.f2, it.f0.f3⟩
def tendrilref13_Rows.f (k : Nat) (a0_0 : ByteArray) (a0_1 : ByteArray) (a0_2 : ByteArray) (l0_3 : List S69) (l0_4 : List S25) : Option (List S53 × Int) :=
  (tendrilref11_Check.f k a0_0 a0_1 a0_2 l0_3 l0_4).bind fun t => if t.2 = 0 then (tendrilref11_Items.f k a0_0 a0_1 a0_2 l0_3 l0_4).bind fun L => (if L.length ≤ 1000000 then some (L.map rowI, 0) else none) else some ([], t.2)
theorem at_T63N {w : World} {base : Nat} {ok : Nat → Prop} {ad : Addr} {n cap : Nat} {xs : List S63} (h : Kd.N k63 63 w base ok (.slice (some ad) n cap) xs) (i : Int) (h0 : 0 ≤ i) (h1 : i < n) :
    ∃ A3 c3 A4 c4, (∀ j u, ([.string (rd_T63 xs i).f0.f0, .string (rd_T63 xs i).f0.f1, .string (rd_T63 xs i).f0.f2, .slice A3 (rd_T63 xs i).f0.f3.length c3, .slice A4 (rd_T63 xs i).f0.f4.length c4, .int .i64 (rd_T63 xs i).f1, .int .i64 (rd_T63 xs i).f2] : List Value)[j]? = some u → w.cell? (ad.add (i.toNat * 7 + j)) = some u) ∧ (rd_T63 xs i).f0.f3.length ≤ c3 ∧ Kd.F k69 w ok A3 (rd_T63 xs i).f0.f3.length (rd_T63 xs i).f0.f3 := by
  obtain ⟨c, _, hK, hc0⟩ := Kd.N_get h z63 i h0 h1
  obtain ⟨A3, c3, A4, c4, rfl, l3, f3, _, _⟩ := k63_openF hK
  exact ⟨A3, c3, A4, c4, hc0, l3, Kd.F_mono f3 (fun _ hk => hk.1)⟩
set_option maxHeartbeats 4000000 in
set_option maxRecDepth 100000 in
theorem tendrilref13_Rows.calls (k : Nat) (a0_0 : ByteArray) (a0_1 : ByteArray) (a0_2 : ByteArray) (ok0_3 : Nat → Prop) (A0_3 : Option Addr) (c0_3 : Nat) (l0_3 : List (S69)) (ok0_4 : Nat → Prop) (A0_4 : Option Addr) (c0_4 : Nat) (l0_4 : List (S25)) (r1 : List S53) (r2 : Int) (w : World) (hs0_3 : Kd.V k69 69 w w.heap.size ok0_3 (.slice A0_3 l0_3.length c0_3) l0_3) (hs0_4 : Kd.V k25 25 w w.heap.size ok0_4 (.slice A0_4 l0_4.length c0_4) l0_4) (h : tendrilref13_Rows.f k a0_0 a0_1 a0_2 l0_3 l0_4 = some (r1, r2)) :
    Calls Try.prog 10 #[.agg #[.string a0_0, .string a0_1, .string a0_2, .slice A0_3 l0_3.length c0_3, .slice A0_4 l0_4.length c0_4]] w fun e w' => ∃ v0_ : Value, e = .returned (.tuple #[v0_, .int .i64 r2]) ∧ Kd.N k53 53 w' w.heap.size (fun k_ => (ok0_3 k_ ∨ ok0_4 k_) ∨ w.heap.size ≤ k_) v0_ r1 ∧ Below w.heap.size w w' := by
  unfold tendrilref13_Rows.f at h
  obtain ⟨⟨t1, t2⟩, hc, h⟩ := Option.bind_eq_some_iff.1 h
  obtain ⟨_, _, e3, l3, f3⟩ := hs0_3
  obtain ⟨_, _, e4, l4, f4⟩ := hs0_4
  injection e3 with e31 e32 e33
  injection e4 with e41 e42 e43
  subst e31 e33 e41 e43
  have HV3 := Aside0.mk (show ∀ W, Below w.heap.size w W → Kd.V k69 69 W W.heap.size ok0_3 (.slice A0_3 l0_3.length c0_3) l0_3 from fun W hW => ⟨_, _, rfl, l3, Kd.F_below f3 hW⟩)
  have HV4 := Aside0.mk (show ∀ W, Below w.heap.size w W → Kd.V k25 25 W W.heap.size ok0_4 (.slice A0_4 l0_4.length c0_4) l0_4 from fun W hW => ⟨_, _, rfl, l4, Kd.F_below f4 hW⟩)
  have H3 := Aside0.mk (Kd.F_now f3)
  have H4 := Aside0.mk (Kd.F_now f4)
  have D3 := Aside0.mk l3
  have D4 := Aside0.mk l4
  have HC := Aside0.mk hc
  dsimp only at h
  by_cases h0 : t2 = 0
  case neg =>
    rw [if_neg h0] at h
    obtain ⟨rfl, rfl⟩ := Prod.mk.inj (Option.some.inj h); have hb : (t2 != 0) = true := by simp [h0]
    have hb2 : (t2 == 0) = false := by simp [h0]
    clear h hc f3 f4 l3 l4 h0 e32 e42
    go_enter Try.func10, Try.ntmps10
    go_wp2_with (first
      | ((with_reducible refine gate_dst (N := 1) rfl ?_); refine box_event ?hg (N := 1) ?hd (cs := #[.string a0_0, .string a0_1, .string a0_2, .slice A0_3 l0_3.length c0_3, .slice A0_4 l0_4.length c0_4]) (t := 25) ?hr ?_; (case hd => rfl); (case hg => rfl); (case hr => first | (go_simp; done) | (go_simp; rfl)); intro g hg w1 hbox hb1; have HX := Aside0.mk hbox; have HB1 := Aside0.mk hb1; have g0 : w1.cell? ⟨g, 0, none⟩ = some (.string a0_0) := (blk_cell hbox 0).trans rfl; have g1 : w1.cell? ⟨g, 1, none⟩ = some (.string a0_1) := (blk_cell hbox 1).trans rfl; have g2 : w1.cell? ⟨g, 2, none⟩ = some (.string a0_2) := (blk_cell hbox 2).trans rfl; have g3 : w1.cell? ⟨g, 3, none⟩ = some (.slice A0_3 l0_3.length c0_3) := (blk_cell hbox 3).trans rfl; have g4 : w1.cell? ⟨g, 4, none⟩ = some (.slice A0_4 l0_4.length c0_4) := (blk_cell hbox 4).trans rfl; have HG := Aside0.mk hg; clear hbox hb1 hg)
      | (go_at_call 30; refine (tendrilref11_Check.calls k a0_0 a0_1 a0_2 A0_3 c0_3 l0_3 A0_4 c0_4 l0_4 t1 t2 _ (Kd.C_below H3.out HB1.out) D3.out (Kd.C_below H4.out HB1.out) D4.out HC.out).mono ?_; rintro e w3 ⟨rfl, hb3⟩; have B3 := Aside0.mk (HB1.out.trans (hb3.mono HB1.out.size)); clear hb3))
    go_ret2
    exact ⟨_, rfl, Kd.N_nil _ _ _ _ _, B3.out⟩
  rw [if_pos h0] at h
  obtain ⟨L, hit, h⟩ := Option.bind_eq_some_iff.1 h
  split at h
  case isFalse => cases h
  rename_i hL
  obtain ⟨rfl, rfl⟩ := Prod.mk.inj (Option.some.inj h)
  have HIT := Aside0.mk hit
  have HL := Aside0.mk hL
  have hb : (t2 != 0) = false := by simp [h0]
  have hb2 : (t2 == 0) = true := by simp [h0]
  clear h hc hit hL f3 f4 l3 l4 h0 e32 e42
  go_enter Try.func10, Try.ntmps10
  go_upto_region 6 with (first
    | ((with_reducible refine gate_dst (N := 1) rfl ?_); refine box_event ?hg (N := 1) ?hd (cs := #[.string a0_0, .string a0_1, .string a0_2, .slice A0_3 l0_3.length c0_3, .slice A0_4 l0_4.length c0_4]) (t := 25) ?hr ?_; (case hd => rfl); (case hg => rfl); (case hr => first | (go_simp; done) | (go_simp; rfl)); intro g hg w1 hbox hb1; have HX := Aside0.mk hbox; have HB1 := Aside0.mk hb1; have g0 : w1.cell? ⟨g, 0, none⟩ = some (.string a0_0) := (blk_cell hbox 0).trans rfl; have g1 : w1.cell? ⟨g, 1, none⟩ = some (.string a0_1) := (blk_cell hbox 1).trans rfl; have g2 : w1.cell? ⟨g, 2, none⟩ = some (.string a0_2) := (blk_cell hbox 2).trans rfl; have g3 : w1.cell? ⟨g, 3, none⟩ = some (.slice A0_3 l0_3.length c0_3) := (blk_cell hbox 3).trans rfl; have g4 : w1.cell? ⟨g, 4, none⟩ = some (.slice A0_4 l0_4.length c0_4) := (blk_cell hbox 4).trans rfl; have HG := Aside0.mk hg; clear hbox hb1 hg)
    | (go_at_call 30; refine (tendrilref11_Check.calls k a0_0 a0_1 a0_2 A0_3 c0_3 l0_3 A0_4 c0_4 l0_4 t1 t2 _ (Kd.C_below H3.out HB1.out) D3.out (Kd.C_below H4.out HB1.out) D4.out HC.out).mono ?_; rintro e w3 ⟨rfl, hb3⟩; have B3 := Aside0.mk (HB1.out.trans (hb3.mono HB1.out.size)); have X3 := Aside0.mk (blk_below HX.out hb3); clear hb3 g0 g1 g2 g3 g4; have g0 : w3.cell? ⟨g, 0, none⟩ = some (.string a0_0) := (blk_cell X3.out 0).trans rfl; have g1 : w3.cell? ⟨g, 1, none⟩ = some (.string a0_1) := (blk_cell X3.out 1).trans rfl; have g2 : w3.cell? ⟨g, 2, none⟩ = some (.string a0_2) := (blk_cell X3.out 2).trans rfl; have g3 : w3.cell? ⟨g, 3, none⟩ = some (.slice A0_3 l0_3.length c0_3) := (blk_cell X3.out 3).trans rfl; have g4 : w3.cell? ⟨g, 4, none⟩ = some (.slice A0_4 l0_4.length c0_4) := (blk_cell X3.out 4).trans rfl)
    | (go_at_call 31; refine (tendrilref11_Items.calls k a0_0 a0_1 a0_2 ok0_3 A0_3 c0_3 l0_3 ok0_4 A0_4 c0_4 l0_4 L _ (HV3.out _ B3.out) (HV4.out _ B3.out) HIT.out).mono ?_; rintro e w5 ⟨v5, rfl, hn5, hb5⟩; have N5 := Aside0.mk (Kd.N_mono (ok' := fun k => ((ok0_3 k ∨ ok0_4 k) ∨ w.heap.size ≤ k) ∧ k < w5.heap.size) (Kd.N_bound hn5) (fun k hk => ⟨hk.1.elim .inl (fun h => .inr (Nat.le_trans B3.out.size h)), hk.2⟩)); have B5 := Aside0.mk (B3.out.trans (hb5.mono B3.out.size)); clear hn5 hb5; obtain ⟨A5, c5, ev⟩ := Kd.N_slice N5.out; subst ev))
  obtain ⟨n, hn⟩ : ∃ n, L.length = n := ⟨_, rfl⟩
  rw [hn] at N5 HL
  have HLN := Aside0.mk hn
  rw [hn]
  clear hn g0 g1 g2 g3 g4
  have B0 := Aside0.mk (Below.refl w5.heap.size w5)
  go_wp2_with fail
  go_loopg [7, 21] n (fun kq v7 v21 W' => ∃ (j : Int) (q : Nat), v21 = .int .i64 j ∧ Aside0 (j = q ∧ q + kq = n) ∧ Aside0 (Kd.N k53 53 W' w5.heap.size (fun k => (((ok0_3 k ∨ ok0_4 k) ∨ w.heap.size ≤ k) ∧ k < w5.heap.size) ∨ w5.heap.size ≤ k) v7 ((L.take q).map rowI)) ∧ Aside0 (Below w5.heap.size w5 W'))
  case atStart => exact ⟨0, 0, rfl, ⟨rfl, by omega⟩, ⟨by simpa using Kd.N_nil _ _ _ _ _⟩, B0⟩
  case round =>
  clear B0
  obtain ⟨j, q, rfl, HK, HN, HB⟩ := hrel
  cases gk with
  | zero =>
    have hjb : decide (j < (n : Int)) = false := decide_eq_false (by have := HK.out; omega)
    go_wp2_with fail
    go_ret2
    have h1 := HN.out; rw [List.take_of_length_le (by have := HK.out; have := HLN.out; omega)] at h1
    exact ⟨_, rfl, Kd.N_lower (Kd.N_mono h1 (fun k hk => hk.elim (fun h => h.1) (fun h => .inr (Nat.le_trans B5.out.size h)))) B5.out.size, B5.out.trans (HB.out.mono B5.out.size)⟩
  | succ k1 =>
    have hjb : decide (j < (n : Int)) = true := decide_eq_true (by have := HK.out; omega); have hj0 : decide (0 ≤ j) = true := decide_eq_true (by have := HK.out; omega); have p0 := eq_true (show 0 ≤ j by have := HK.out; omega); have p1 := eq_true (show j < (n : Int) by have := HK.out; omega); have hw1 : IntKind.i64.wrap (j + 1) = j + 1 := IntWalk.i64_in _ (by have := HK.out; have := HL.out; omega); obtain ⟨ad, hA⟩ : ∃ ad, A5 = some ad := by
      obtain ⟨g5, cc, e, _⟩ := Kd.N_form N5.out (by have := HLN.out; have := HK.out; omega)
      injection e with e
      exact ⟨_, e⟩
    subst hA; obtain ⟨A3, c3, A4, c4, hcells, hl3, hF3⟩ := at_T63N N5.out j (by have := HK.out; omega) (by have := HK.out; omega); obtain ⟨y, hy⟩ : ∃ y, rd_T63 L j = y := ⟨_, rfl⟩; rw [hy] at hcells hl3 hF3
    have HF := Aside0.mk hF3; have HL3 := Aside0.mk hl3; have HY := Aside0.mk (show L[q]? = some y by
      have h1 : q < L.length := by have := HK.out; have := HLN.out; omega
      rw [← hy, List.getElem?_eq_getElem h1]; unfold rd_T63; rw [show j.toNat = q by have := HK.out; omega, List.getD_eq_getElem?_getD, List.getElem?_eq_getElem h1]
      rfl)
    have hs := fun (i : Nat) (v : Value) (h : w5.cell? (ad.add (j.toNat * 7 + i)) = some v) => (HB.out.cell (World.block_lt_of_cell? w5 _ h)).trans h
    have t0 : wr.cell? (ad.add (j.toNat * 7)) = some (.string y.f0.f0) := hs 0 _ (hcells 0 _ rfl); have t1 : wr.cell? ⟨(ad.add (j.toNat * 7)).block, (ad.add (j.toNat * 7)).off + 1, none⟩ = some (.string y.f0.f1) := by rw [← add_field _ _ 1 (by omega)]; exact hs 1 _ (hcells 1 _ rfl)
    have t2 : wr.cell? ⟨(ad.add (j.toNat * 7)).block, (ad.add (j.toNat * 7)).off + 2, none⟩ = some (.string y.f0.f2) := by rw [← add_field _ _ 2 (by omega)]; exact hs 2 _ (hcells 2 _ rfl)
    have t3 : wr.cell? ⟨(ad.add (j.toNat * 7)).block, (ad.add (j.toNat * 7)).off + 3, none⟩ = some (.slice A3 y.f0.f3.length c3) := by rw [← add_field _ _ 3 (by omega)]; exact hs 3 _ (hcells 3 _ rfl)
    have t4 : wr.cell? ⟨(ad.add (j.toNat * 7)).block, (ad.add (j.toNat * 7)).off + 4, none⟩ = some (.slice A4 y.f0.f4.length c4) := by rw [← add_field _ _ 4 (by omega)]; exact hs 4 _ (hcells 4 _ rfl)
    have t5 : wr.cell? ⟨(ad.add (j.toNat * 7)).block, (ad.add (j.toNat * 7)).off + 5, none⟩ = some (.int .i64 y.f1) := by rw [← add_field _ _ 5 (by omega)]; exact hs 5 _ (hcells 5 _ rfl)
    have t6 : wr.cell? ⟨(ad.add (j.toNat * 7)).block, (ad.add (j.toNat * 7)).off + 6, none⟩ = some (.int .i64 y.f2) := by rw [← add_field _ _ 6 (by omega)]; exact hs 6 _ (hcells 6 _ rfl)
    have HQ := Aside0.mk (show ((L.take q).map rowI).length ≤ n by rw [List.length_map, List.length_take]; have := HLN.out; omega); clear hy hcells hl3 hF3 hs
    go_wp2_with (first
      | (go_at_call 32; refine (rowCalls y.f0.f0 y.f0.f1 y.f0.f2 A3 y.f0.f3.length c3 A4 y.f0.f4.length c4 y.f1 y.f2 _).mono ?_; rintro e w7 ⟨rfl, hb7⟩; have N7 := Aside0.mk (Kd.N_below HN.out hb7); have B7 := Aside0.mk (HB.out.trans (hb7.mono HB.out.size)); clear hb7)
      | (refine Kd.N_append k53 (w0 := w5) w5.heap.size rfl (.tmp 24) (.tmp 30) 28 53 (.agg #[(.int .i64 0), (.int .i64 0), (.string ⟨#[]⟩), (.string ⟨#[]⟩), (.string ⟨#[]⟩), (.slice none 0 0)]) 88 rfl Try.underlying28 info53 rfl (by decide) (by decide) u7 ((L.take q).map rowI) (rowI y) [.int .i64 0, .int .i64 (wrap64 (y.f2 + 1)), .string y.f0.f0, .string y.f0.f1, .string y.f0.f2, .slice A3 y.f0.f3.length c3] (fun k => (((ok0_3 k ∨ ok0_4 k) ∨ w.heap.size ≤ k) ∧ k < w5.heap.size) ∨ w5.heap.size ≤ k) (fun k => ((ok0_3 k ∨ ok0_4 k) ∨ w.heap.size ≤ k) ∧ k < w5.heap.size) rfl rfl (k53_mkF _ _ (rowI y) HL3.out (Kd.F_below HF.out B7.out)) (fun k hk => ⟨.inl hk, fun e => by have := Kd.N_base N7.out k e.symm; have := hk.2; omega⟩) (fun k hk => .inr (Nat.le_trans B7.out.size hk)) N7.out B7.out B7.out.size (by have := HQ.out; have := HL.out; omega) ?_; intro v9 w9 ho hb hg hat; have N9 := Aside0.mk ho; have B9 := Aside0.mk hb; clear ho hb hg hat))
    go_roundg k1
    case measure => omega
    case rel => exact ⟨j + 1, q + 1, rfl, ⟨by have := HK.out; omega, by have := HK.out; omega⟩, ⟨by rw [List.take_add_one, HY.out]; simpa using N9.out⟩, B9⟩
end Go.Proofs.Ytcebfldagnjddaa.G
