import Derived.Test.YtahjlbbliihgpaaH4
namespace Go.Proofs.Ytahjlbbliihgpaa.G
open Go.RowKit Go.Proofs.YtahjlbbliihgpaaW.PrintWords Go.Proofs.YtahjlbbliihgpaaW.PrintLast Go.Proofs.YtahjlbbliihgpaaW.PrintMore
set_option linter.unusedVariables false
set_option linter.unusedSimpArgs false

/-- The game, and the room for the choice. -/
structure LongW (w W : World) (g : Nat) (Ap : Option Addr) (cp : Nat) (ps : List (List Int)) (Aa : Option Addr) (ca : Nat) (ah : List Int) (gr n cr : Nat) (xs : List Int) : Prop where
  blk : W.heap[g]? = some (.cells #[.slice Ap ps.length cp, .slice Aa ah.length ca] 32 (0, 0))
  g0 : w.heap.size ≤ g
  RA : Kd.R (Kd.int .i64) 3 W w.heap.size (fun k => k ≠ gr) (.slice Aa ah.length ca) ah
  RR : Kd.R (Kd.int .i64) 3 W w.heap.size (fun _ => True) (.slice (some ⟨gr, 0, none⟩) n cr) xs
  B : Below w.heap.size w W

theorem LongW.start {w w1 w2 : World} {g : Nat} {Ap : Option Addr} {cp : Nat} {ps : List (List Int)} {Aa : Option Addr} {ca : Nat} {ah : List Int} {gr cr n : Nat} {ok : Nat → Prop}
    (hg : w1.heap[g]? = some (.cells #[.slice Ap ps.length cp, .slice Aa ah.length ca] 32 (0, 0))) (hg0 : w.heap.size ≤ g)
    (hS : Kd.S (Kd.slice 3 (Kd.int .i64)) 22 w1 w.heap.size ok (.slice Ap ps.length cp) ps) (hA : Kd.R (Kd.int .i64) 3 w1 w.heap.size (fun _ => True) (.slice Aa ah.length ca) ah)
    (hR2 : Kd.R (Kd.int .i64) 3 w2 w.heap.size (fun _ => True) (.slice (some ⟨gr, 0, none⟩) n cr) (List.replicate n 0)) (hgr : w1.heap.size ≤ gr) (hb : Below w1.heap.size w1 w2) (hB2 : Below w.heap.size w w2) :
    LongW w w2 g Ap cp ps Aa ca ah gr n cr (List.replicate n 0) ∧ Kd.C (Kd.slice 3 (Kd.int .i64)) w2 Ap ps.length ps := by
  refine ⟨⟨(hb.block _ (blk_lt hg)).trans hg, hg0, ?_, hR2, hB2⟩, Kd.C_below (Kd.S_reads' hS).2.2 hb⟩
  refine Kd.R_mono (Kd.R_tight rfl (Kd.R_below hA hb)) (fun k hk he => ?_)
  have := Kd.R_lt hA k hk.symm
  omega
theorem LongW.put {w W : World} {g : Nat} {Ap : Option Addr} {cp : Nat} {ps : List (List Int)} {Aa : Option Addr} {ca : Nat} {ah : List Int} {gr n cr : Nat} {xs : List Int} (h : LongW w W g Ap cp ps Aa ca ah gr n cr xs) (j : Nat) (x : Int) :
    LongW w (W.setCell ⟨gr, j, none⟩ (.int .i64 x)) g Ap cp ps Aa ca ah gr n cr (xs.set j x) := by
  obtain ⟨r1, r2⟩ := Rint_store h.RR j x
  have hgr : w.heap.size ≤ gr := Kd.R_base h.RR gr (by simp [Value.ownBlock])
  obtain ⟨cells, hc⟩ := Kd.R_typed h.RR gr (by simp [Value.ownBlock])
  exact ⟨blk_far h.blk (blk_ne h.blk hc (by decide)) _, h.g0, Kd.R_far (p := ⟨gr, j, none⟩) h.RA (fun k hk => hk) _, r1, below_set h.B hgr⟩

set_option maxHeartbeats 4000000 in
theorem lis_Longest.calls (A0 : Option Addr) (c0 : Nat) (l0 : List Int) (r : List Int) (w : World) (hr0 : Kd.C (Kd.int .i64) w A0 l0.length l0) (hc0 : l0.length ≤ c0) (h : lis_Longest.f l0 = some r) :
    Calls Try.prog 10 #[.slice A0 l0.length c0] w fun e w' => ∃ v0_ : Value, e = .returned (v0_) ∧ Kd.R (Kd.int .i64) 3 w' w.heap.size (fun _ => True) v0_ r ∧ Below w.heap.size w w' := by
  obtain ⟨hl, rfl⟩ : l0.length ≤ 1000000 ∧ r = longestOf l0 := by
    unfold lis_Longest.f at h; split at h
    · exact ⟨by assumption, (Option.some.inj h).symm⟩
    · cases h
  have HP := Aside0.mk (play_calls A0 c0 l0 w hr0 hc0 hl)
  have HPI := Aside0.mk (playN_inv l0 l0.length (Nat.le_refl _))
  have HAI := Aside0.mk (playN_ainv l0 l0.length (Nat.le_refl _))
  have HLO := Aside0.mk (show longestOf l0 = chainOf (playN l0 l0.length).2 (playN l0 l0.length).1.length (topAt (playN l0 l0.length).1 ((playN l0 l0.length).1.length - 1)) from rfl)
  obtain ⟨st, hst⟩ : ∃ st, playN l0 l0.length = st := ⟨_, rfl⟩
  rw [hst] at HP HPI HAI HLO
  clear hr0 h hst
  have hpl : st.1.length ≤ 1000000 := by have := HPI.out.psl; omega
  have hu32 := Try.underlying32
  go_enter Try.func10, Try.ntmps10
  go_wp2_with (first | (go_at_call 19; refine HP.out.mono ?_; rintro e w1 ⟨g, rfl, hG⟩; obtain ⟨PV, AV, hg, hg0, hS, hA, hB⟩ := hG; obtain ⟨Ap, cp, rfl⟩ := Kd.S_slice hS; obtain ⟨Aa, ca, rfl⟩ := Kd.R_slice hA; have hc0 := (blk_cell hg 0).trans rfl; have HG := Aside0.mk hg; have HB := Aside0.mk hB; have HS := Aside0.mk hS; have HA := Aside0.mk hA; clear hg hS hA hB) | (at_make; refine make_ints (w0 := w) w.heap.size 3 .i64 8 rfl rfl 22 _ _ rfl st.1.length rfl rfl Try.underlying22 hinfo3 (by decide) (by omega) HB.out HB.out.size ?_; intro gr cr w2 hR2 hgr hlt hb2 hB2; have HW := Aside0.mk (LongW.start HG.out hg0 HS.out HA.out hR2 hgr hb2 hB2); clear hR2 hgr hb2 hB2 HG HS HA HB hc0) | (go_at_call 20; refine (top_calls g st.1 Ap cp _ (st.1.length - 1) _ HW.out.1.blk HW.out.2 (fun h0 h1 => by have := HPI.out.at_ (Nat.le_refl _) _ h0 h1; omega)).mono ?_; rintro e w' ⟨rfl, rfl⟩))
  go_loopg [5, 6] st.1.length (fun k v5 v6 w' => ∃ (a x : Int) (xs : List Int), v5 = .int .i64 a ∧ v6 = .int .i64 x ∧ Aside0 (a = k) ∧ Aside0 (k ≤ st.1.length ∧ (k = 0 → x = -1) ∧ (∀ k', k = k' + 1 → x ∈ st.1.getD k' []) ∧ chainOf st.2 k x ++ xs.drop k = longestOf l0) ∧ Aside0 (LongW w w' g Ap cp st.1 Aa ca st.2 gr st.1.length cr xs))
  case atStart =>
    refine ⟨_, _, _, rfl, rfl, ⟨rfl⟩, ⟨Nat.le_refl _, fun h => ?_, fun k' h => ?_, ?_⟩, ⟨HW.out.1⟩⟩
    · rw [h]; rfl
    · have := (topAt_mem HPI.out k' (by omega)).1
      rwa [show (st.1.length : Int) - 1 = (k' : Int) by omega]
    · rw [List.drop_of_length_le (by simp), List.append_nil, HLO.out]
  case round =>
    clear HW
    obtain ⟨a, x, xs, rfl, rfl, HAK, HI, HW⟩ := hrel
    have HLEN := Aside0.mk (Kd.R_reads' HW.out.RR).1
    cases gk with
    | zero =>
      obtain rfl := HI.out.2.1 rfl
      obtain rfl : a = 0 := HAK.out
      have HX := Aside0.mk (show xs = longestOf l0 from by have h := HI.out.2.2.2; rw [chainOf, List.nil_append, List.drop_zero] at h; exact h)
      clear HI
      go_wp2_with (first | (at_make; refine make_ints (w0 := w) w.heap.size 3 .i64 8 rfl rfl 22 _ _ rfl st.1.length rfl rfl Try.underlying22 hinfo3 (by decide) (by omega) HW.out.B HW.out.B.size ?_; intro go co w4 hR4 hgo hlt4 hb4 hB4; have HC := Aside0.mk (And.intro hR4 (And.intro (Kd.C_below (Kd.R_reads' HW.out.RR).2.2 hb4) hB4)); clear hR4 hgo hlt4 hb4 hB4) | (refine Kd.R_copy (enc := Value.int .i64) (h1 := fun _ => rfl) 0 (w0 := w) w.heap.size rfl (.tmp 43) (.tmp 46) 22 22 3 rfl Try.underlying22 (by kernel_rfl) (.slice (some ⟨go, 0, none⟩) st.1.length co) (List.replicate st.1.length 0) xs (some ⟨gr, 0, none⟩) st.1.length cr (fun _ => True) rfl rfl HC.out.1 (by rw [HLEN.out]; exact HC.out.2.1) HC.out.2.2 HC.out.2.2.size ?_; intro w5 hR5 hB5 _; have H5 := Aside0.mk (And.intro hR5 hB5); clear hR5 hB5))
      go_ret
      refine ⟨_, rfl, ?_, H5.out.2⟩
      have h := H5.out.1
      have hlen := HLEN.out
      rw [List.length_replicate, Nat.min_self, List.take_of_length_le (by omega), List.drop_of_length_le (by simp), List.append_nil, HX.out] at h
      exact h
    | succ k =>
      have hx := HI.out.2.2.1 k rfl
      obtain rfl : a = ((k + 1 : Nat) : Int) := HAK.out
      obtain ⟨a0, a1, a2, a3⟩ := HAI.out k x hx
      have hkn : k < st.1.length := by have := HI.out.1; omega
      obtain ⟨hcr, hfr⟩ := Rint_at HW.out.RR k hkn
      go_upto_region 6 with (fail)
      obtain ⟨W3, hW3⟩ : ∃ W3 : World, wr.setCell ⟨gr, k, none⟩ (.int .i64 x) = W3 := ⟨_, rfl⟩
      rw [hW3]
      replace HW := Aside0.mk (hW3 ▸ HW.out.put k x)
      clear hcr hfr hW3
      have hc1 := (blk_cell HW.out.blk 1).trans rfl
      have hal := HPI.out.ahl
      obtain ⟨ga, ca', e, _, _, _⟩ := Kd.R_form HW.out.RA (by omega)
      injection e with e _ e2
      subst e
      subst e2
      obtain ⟨hca, _⟩ := Rint_at HW.out.RA x.toNat (by omega)
      have hxa : x < (st.2.length : Int) := by omega
      have HR := Aside0.mk (show rd st.2 x = st.2.getD x.toNat 0 from rfl)
      obtain ⟨y, hy⟩ : ∃ y, st.2.getD x.toNat 0 = y := ⟨_, rfl⟩
      rw [hy] at hca HR
      clear hy hal
      have HZ := Aside0.mk (And.intro a2 a3)
      clear a2 a3 hx
      go_wp2_with fail
      go_roundg k
      case measure => omega
      case rel =>
        have hlen := HLEN.out
        refine ⟨_, y, xs.set k x, rfl, rfl, ⟨rfl⟩, ⟨by omega, fun h => ?_, fun k' h => ?_, ?_⟩, HW⟩
        · rw [← HR.out]; exact HZ.out.1 h
        · rw [← HR.out]; exact (HZ.out.2 k' h).1
        · have h := HI.out.2.2.2
          rw [chainOf, HR.out] at h
          rw [← h, List.append_assoc]
          congr 1
          rw [List.drop_eq_getElem_cons (by rw [List.length_set]; omega), List.getElem_set_self, List.drop_set_of_lt (by omega)]
          rfl
end Go.Proofs.Ytahjlbbliihgpaa.G
