import Derived.Test.YtahjlbbliihgpaaH2
import Derived.Deep.DrawnRows
import Derived.Deep.AppendLies
import Derived.StillTailTactics
import Derived.IntWalk
namespace Go.Proofs.Ytahjlbbliihgpaa.G
open Go.RowKit Go.Proofs.YtahjlbbliihgpaaW.PrintWords Go.Proofs.YtahjlbbliihgpaaW.PrintLast Go.Proofs.YtahjlbbliihgpaaW.PrintMore
set_option linter.unusedVariables false
set_option linter.unusedSimpArgs false
attribute [local go_sem ↓] Go.wp_at_zero Go.wp_at_succ

/-- The game lies at block g; piles and what lay ahead are its own. -/
structure Lay (w0 W : World) (g : Nat) (Ap : Option Addr) (cp : Nat) (ps : List (List Int)) (ga ca : Nat) (ah : List Int) : Prop where
  blk : W.heap[g]? = some (.cells #[.slice Ap ps.length cp, .slice (some ⟨ga, 0, none⟩) ah.length ca] 32 (0, 0))
  g0 : w0.heap.size ≤ g
  S : Kd.S (Kd.slice 3 (Kd.int .i64)) 22 W w0.heap.size (fun k => k ≠ ga) (.slice Ap ps.length cp) ps
  R : Kd.R (Kd.int .i64) 3 W w0.heap.size (fun _ => True) (.slice (some ⟨ga, 0, none⟩) ah.length ca) ah
  B : Below w0.heap.size w0 W

theorem Lay.below {w0 W W1 : World} {g : Nat} {Ap : Option Addr} {cp : Nat} {ps : List (List Int)} {ga ca : Nat} {ah : List Int} (h : Lay w0 W g Ap cp ps ga ca ah) (hb : Below W.heap.size W W1) : Lay w0 W1 g Ap cp ps ga ca ah :=
  ⟨(hb.block _ (blk_lt h.blk)).trans h.blk, h.g0, Kd.S_below h.S hb, Kd.R_below h.R hb, h.B.trans (hb.mono h.B.size)⟩
theorem Lay.reads {w0 W : World} {g : Nat} {Ap : Option Addr} {cp : Nat} {ps : List (List Int)} {ga ca : Nat} {ah : List Int} (h : Lay w0 W g Ap cp ps ga ca ah) : Kd.C (Kd.slice 3 (Kd.int .i64)) W Ap ps.length ps := (Kd.S_reads' h.S).2.2
theorem Lay.ga {w0 W : World} {g : Nat} {Ap : Option Addr} {cp : Nat} {ps : List (List Int)} {ga ca : Nat} {ah : List Int} (h : Lay w0 W g Ap cp ps ga ca ah) : w0.heap.size ≤ ga ∧ ga < W.heap.size ∧ (∃ cells, W.heap[ga]? = some (.cells cells 3 (0, 0))) ∧ g ≠ ga := by
  obtain ⟨cells, hc⟩ := Kd.R_typed h.R ga (by simp [Value.ownBlock])
  exact ⟨Kd.R_base h.R ga (by simp [Value.ownBlock]), blk_lt hc, ⟨cells, hc⟩, blk_ne h.blk hc (by decide)⟩
theorem Lay.ahead {w0 W : World} {g : Nat} {Ap : Option Addr} {cp : Nat} {ps : List (List Int)} {ga ca : Nat} {ah : List Int} (h : Lay w0 W g Ap cp ps ga ca ah) (i : Nat) (x : Int) :
    Lay w0 (W.setCell ⟨ga, i, none⟩ (.int .i64 x)) g Ap cp ps ga ca (ah.set i x) := by
  obtain ⟨h1, h2, _, h4⟩ := h.ga
  obtain ⟨r1, r2⟩ := Rint_store h.R i x
  exact ⟨by rw [List.length_set]; exact blk_far h.blk h4 _, h.g0, Kd.S_far h.S (fun _ hk => hk) _, by rw [List.length_set]; exact r1, below_set h.B h1⟩

theorem Lay.more {w0 W W1 : World} {g : Nat} {Ap : Option Addr} {cp : Nat} {ps ps1 : List (List Int)} {ga ca : Nat} {ah : List Int} (h : Lay w0 W g Ap cp ps ga ca ah) {v1 : Value}
    (hS : Kd.S (Kd.slice 3 (Kd.int .i64)) 22 W1 w0.heap.size (fun k => k ≠ ga) v1 ps1) (hB : Below w0.heap.size w0 W1) (hg : W.grownBy W1 (Value.slice Ap ps.length cp).ownBlock) :
    (∃ A1 c1, v1 = .slice A1 ps1.length c1) ∧ W1.heap[g]? = some (.cells #[.slice Ap ps.length cp, .slice (some ⟨ga, 0, none⟩) ah.length ca] 32 (0, 0)) ∧
      ∀ A1 c1, v1 = .slice A1 ps1.length c1 → Lay w0 (W1.setCell ⟨g, 0, none⟩ v1) g A1 c1 ps1 ga ca ah := by
  have hb := blk_grown h.blk hg (Kd.S_ne h.S h.blk (by decide))
  refine ⟨Kd.S_slice hS, hb, fun A1 c1 e => ?_⟩
  subst e
  have hR : Kd.R (Kd.int .i64) 3 W1 w0.heap.size (fun _ => True) (.slice (some ⟨ga, 0, none⟩) ah.length ca) ah :=
    Kd.R_grown1 h.R rfl hg (fun he => (Kd.S_R h.S).1 ga he rfl)
  exact ⟨blk_set hb 0 _, h.g0, Kd.S_set hS hb (by decide) 0 _, Kd.R_set hR hb (by decide) 0 _, below_set hB h.g0⟩

theorem Lay.elem {w0 W : World} {g po : Nat} {cp : Nat} {ps : List (List Int)} {ga ca : Nat} {ah : List Int} (h : Lay w0 W g (some ⟨po, 0, none⟩) cp ps ga ca ah) (k : Int) (h0 : 0 ≤ k) (h1 : k < ps.length) :
    ∃ Av cv, ∃ ok5 : Nat → Prop, W.cell? ⟨po, k.toNat, none⟩ = some (.slice Av (ps.getD k.toNat []).length cv) ∧ W.frozen? ⟨po, k.toNat, none⟩ = false ∧ (∀ j, W.heap.size ≤ j → ok5 j) ∧
      Kd.R (Kd.int .i64) 3 W w0.heap.size ok5 (.slice Av (ps.getD k.toNat []).length cv) (ps.getD k.toNat []) ∧
      ∀ v5 w5 xs5, Kd.R (Kd.int .i64) 3 w5 w0.heap.size ok5 v5 xs5 → W.grownBy w5 (Value.slice Av (ps.getD k.toNat []).length cv).ownBlock → Below w0.heap.size w0 w5 →
        (∃ A5 c5, v5 = .slice A5 xs5.length c5) ∧ w5.cell? ⟨g, 0, none⟩ = some (.slice (some ⟨po, 0, none⟩) ps.length cp) ∧ w5.cell? ⟨po, k.toNat, none⟩ = some (.slice Av (ps.getD k.toNat []).length cv) ∧ w5.frozen? ⟨po, k.toNat, none⟩ = false ∧
        Lay w0 (w5.setCell ⟨po, k.toNat, none⟩ v5) g (some ⟨po, 0, none⟩) cp (ps.set k.toNat xs5) ga ca ah := by
  obtain ⟨oki, c, hcl, hM, hcc, hfr, hok, hH⟩ := Kd.S_elem h.S [] k h0 h1
  obtain ⟨v, rfl, hRv⟩ := hM
  obtain ⟨Av, cv, rfl⟩ := Kd.R_slice hRv
  have ek : k.toNat * (Kd.slice 3 (Kd.int .i64)).sz + 0 = k.toNat := by show k.toNat * 1 + 0 = _; omega
  have hci := hcc 0 _ rfl
  have hfi := hfr 0
  rw [ek] at hci hfi
  obtain ⟨hga1, hga2, hga3, hgg⟩ := h.ga
  have hpob : w0.heap.size ≤ po := Kd.S_base h.S po (by simp [Value.ownBlock])
  have hpoga : po ≠ ga := (Kd.S_R h.S).1 po (by simp [Value.ownBlock])
  have hgpo : g ≠ po := fun he => Kd.S_ne h.S h.blk (by decide) (by rw [he]; simp [Value.ownBlock])
  have hH2 := Kd.H_widen hH
  refine ⟨Av, cv, fun j => oki j ∨ (j ≠ ga ∧ W.heap.size ≤ j), hci, hfi, fun j hj => .inr ⟨by omega, hj⟩, Kd.R_mono hRv (fun j hj => .inl hj), ?_⟩
  intro v5 w5 xs5 hR5 hg5 hB5
  have hrow : ∀ j, (Value.slice Av (ps.getD k.toNat []).length cv).ownBlock = some j → oki j := fun j hj => hRv.1 j hj
  have hgn : ∀ j, (∀ i, oki i → i ≠ j) → some j ≠ (Value.slice Av (ps.getD k.toNat []).length cv).ownBlock := fun j hj he => hj j (hrow j he.symm) rfl
  have hpo : w5.heap[po]? = W.heap[po]? := hg5.block po (Kd.S_lt h.S po (by simp [Value.ownBlock])) (hgn po (fun i hi => (hok i hi).2))
  have hbg : w5.heap[g]? = W.heap[g]? := by
    refine hg5.block g (blk_lt h.blk) (fun he => ?_)
    obtain ⟨cells, hc⟩ := Kd.R_typed hRv g he.symm
    exact blk_ne h.blk hc (by decide) rfl
  have hga : w5.heap[ga]? = W.heap[ga]? := hg5.block ga hga2 (hgn ga (fun i hi => (hok i hi).1))
  refine ⟨Kd.R_slice hR5, ?_, (World.cell?_of_block (a := ⟨po, k.toNat, none⟩) hpo).trans hci, (World.frozen?_of_block (a := ⟨po, k.toNat, none⟩) hpo).trans hfi, ?_⟩
  · exact (World.cell?_of_block (a := ⟨g, 0, none⟩) hbg).trans ((blk_cell h.blk 0).trans rfl)
  · have hH5 := Kd.H_grown hH2 hg5 (fun j hj => .inl (hrow j hj))
    obtain ⟨hH6, hg6⟩ := Kd.H_seg (seg := [v5]) (j := 0) hH5 h0 h1 (by show 0 + 1 ≤ 1; omega) (fun q hq => by simp at hq; subst hq; obtain ⟨a, b, rfl⟩ := Kd.R_slice hR5; rfl)
    have es : w5.setCells po (k.toNat * (Kd.slice 3 (Kd.int .i64)).sz + 0) [v5] = w5.setCell ⟨po, k.toNat, none⟩ v5 := by rw [ek]; rfl
    rw [es] at hH6 hg6
    have hS7 := Kd.H_back hH6 (x' := xs5) (okp := fun j => oki j ∨ j ≠ ga ∧ W.heap.size ≤ j) ⟨v5, rfl, Kd.R_far hR5 (fun j hj => by
      rcases hj with hj | hj
      · exact (hok j hj).2
      · have := Kd.S_lt h.S po (by simp [Value.ownBlock]); show j ≠ po; omega) _⟩ (fun j hj => by rcases hj with hj | hj; exact .inl hj; exact .inr hj)
    refine ⟨by rw [List.length_set]; exact blk_far (hbg.trans h.blk) hgpo _, h.g0, by rw [List.length_set]; exact hS7, ?_, below_set hB5 hpob⟩
    have hRa : Kd.R (Kd.int .i64) 3 w5 w0.heap.size (fun _ => True) (.slice (some ⟨ga, 0, none⟩) ah.length ca) ah := Kd.R_move (Kd.R_tight rfl h.R) (fun j hj => by
      have : j = ga := by simpa [Value.ownBlock] using hj
      subst this; exact hga) |> fun h => Kd.R_mono h (fun _ _ => trivial)
    exact Kd.R_mono (Kd.R_far (Kd.R_tight rfl hRa) (p := ⟨po, k.toNat, none⟩) (fun j hj => by
      have : j = ga := by simpa [Value.ownBlock] using hj
      subst this; exact fun he => hpoga he.symm) v5) (fun _ _ => trivial)

def Game (w0 W : World) (g : Nat) (ps : List (List Int)) (ah : List Int) : Prop :=
  ∃ PV AV, W.heap[g]? = some (.cells #[PV, AV] 32 (0, 0)) ∧ w0.heap.size ≤ g ∧
    Kd.S (Kd.slice 3 (Kd.int .i64)) 22 W w0.heap.size (fun k => some k ≠ AV.ownBlock) PV ps ∧
    Kd.R (Kd.int .i64) 3 W w0.heap.size (fun _ => True) AV ah ∧ Below w0.heap.size w0 W

theorem Game.lay {w0 W : World} {g : Nat} {ps : List (List Int)} {ah : List Int} (h : Game w0 W g ps ah) (h0 : 0 < ah.length) : ∃ Ap cp ga ca, Lay w0 W g Ap cp ps ga ca ah := by
  obtain ⟨PV, AV, hg, hgb, hS, hA, hB⟩ := h
  obtain ⟨Ap, cp, rfl⟩ := Kd.S_slice hS
  obtain ⟨ga, ca, rfl, hga1, hga2, _⟩ := Kd.R_form hA h0
  exact ⟨Ap, cp, ga, ca, hg, hgb, Kd.S_mono hS (fun k hk he => hk (by rw [he]; rfl)), hA, hB⟩
theorem Lay.game {w0 W : World} {g : Nat} {Ap : Option Addr} {cp : Nat} {ps : List (List Int)} {ga ca : Nat} {ah : List Int} (h : Lay w0 W g Ap cp ps ga ca ah) : Game w0 W g ps ah :=
  ⟨_, _, h.blk, h.g0, Kd.S_mono h.S (fun k hk he => hk (by simpa [Value.ownBlock] using he)), h.R, h.B⟩

set_option maxHeartbeats 4000000 in
theorem play_calls (A0 : Option Addr) (c0 : Nat) (l : List Int) (w : World) (hr0 : Kd.C (Kd.int .i64) w A0 l.length l) (hc0 : l.length ≤ c0) (hl : l.length ≤ 1000000) :
    Calls Try.prog 19 #[.slice A0 l.length c0] w fun e w' => ∃ g, e = .returned (.pointer (some ⟨g, 0, none⟩)) ∧ Game w w' g (playN l l.length).1 (playN l l.length).2 := by
  have HR := Aside0.mk hr0
  have hu32 := Try.underlying32
  clear hr0
  go_enter Try.func19, Try.ntmps19
  go_wp2_with ((at_make; refine Kd.R_make (Kd.int .i64) w.heap.size 3 rfl rfl 22 _ _ rfl (l.length : Int) rfl rfl Try.underlying22 (.int .i64 0) 8 hinfo3 rfl (by decide) (by decide) 0 (ok := fun _ => True) (okp := fun _ => True) rfl (fun _ _ => trivial) trivial (by omega) (by rw [Int.toNat_natCast]; omega) (Below.refl _ w) (Nat.le_refl _) ?_; intro AV w1 HA HB _ hAB; obtain ⟨A1, c1, eAV⟩ := Kd.R_slice HA; rw [List.length_replicate, Int.toNat_natCast] at eAV; subst eAV; have HA1 := Aside0.mk HA; have HB1 := Aside0.mk HB; have HAB := Aside0.mk hAB; clear HA HB hAB))
  go_loopg [14] l.length (fun k v14 w' => ∃ i : Nat, v14 = .int .i64 i ∧ Aside0 (i + k = l.length ∧ Game w w' w1.heap.size (playN l i).1 (playN l i).2))
  case atStart =>
    refine ⟨0, rfl, ⟨by omega, .slice none 0 0, _, heap_alloc_new w1 _, HB1.out.size, Kd.S_nil _ _ _ _ _, ?_, below_alloc HB1.out _⟩⟩
    have h := Kd.R_alloc HA1.out (.cells #[.slice none 0 0, .slice A1 l.length c1] 32)
    rw [Int.toNat_natCast] at h
    exact h
  case round =>
    obtain ⟨i, rfl, HI⟩ := hrel
    by_cases hlt : i < l.length
    · obtain ⟨hik, hgame⟩ := HI.out
      have HPI := Aside0.mk (playN_inv l i (by omega))
      obtain ⟨Ap, cp, ga, ca, hLay⟩ := hgame.lay (by rw [HPI.out.ahl]; omega)
      obtain ⟨st, hst⟩ : ∃ st, playN l i = st := ⟨_, rfl⟩
      rw [hst] at hLay HPI
      have HST := Aside0.mk hst
      have HLC := Aside0.mk (Kd.C_below HR.out hLay.B)
      obtain ⟨ad, ead, hxl⟩ := Kd.at_int HLC.out (i : Int) (by omega) (by omega)
      cases ead
      rw [Int.toNat_natCast] at hxl
      have HY := Aside0.mk hLay
      have HPS : st.1.length ≤ i := HPI.out.psl
      clear hst hLay hgame
      by_cases hneg : rd l i < 0
      · have HEN := Aside0.mk (show playN l (i + 1) = st by
          rw [show playN l (i + 1) = playStep l (playN l i) i from rfl, HST.out]
          unfold playStep
          rw [if_pos hneg])
        go_wp2_with fail
        go_roundg (l.length - (i + 1))
        case measure => omega
        case rel => exact ⟨i + 1, by go_num, ⟨by omega, by rw [HEN.out]; exact HY.out.game⟩⟩
      · have HNG := Aside0.mk hneg
        obtain ⟨hk0, hk1⟩ := findL_range l st.1 (rd l i) st.1.length 0 st.1.length (by omega)
        have HFC := find_calls w1.heap.size st.1 l Ap cp _ (some ad) c0 (rd l i) _ HY.out.blk HY.out.reads HLC.out (by omega) (by omega) (fun j h0 h1 => by have := HPI.out.at_ (by omega) j h0 h1; omega)
        obtain ⟨k, hk⟩ : ∃ k, findL st.1.length l st.1 (rd l i) 0 st.1.length = k := ⟨_, rfl⟩
        rw [hk] at HFC hk0 hk1
        have HK := Aside0.mk hk
        have HFC := Aside0.mk HFC
        clear hk HI
        go_wp2_with ((go_at_call 21; refine HFC.out.mono ?_; rintro e w' ⟨rfl, ⟨m, rfl⟩⟩))
        refine wp_region_still_tail 9 (by kernel_rfl) (by kernel_rfl) ?_
        obtain ⟨W2, hW2⟩ : ∃ W2 : World, (⟨(wr.drewN m).heap, (wr.drewN m).tape, (wr.drewN m).drawn + 1, (wr.drewN m).os, (wr.drewN m).output⟩ : World) = W2 := ⟨_, rfl⟩
        rw [hW2]
        have hB2 : Below wr.heap.size wr W2 := by subst hW2; exact ⟨rfl, rfl, rfl, Nat.le_refl _, fun _ _ => rfl⟩
        replace HY := Aside0.mk (HY.out.below hB2)
        clear HFC hW2 hxl HLC hB2
        have hcg1 := (blk_cell HY.out.blk 1).trans rfl
        obtain ⟨hcA, hfA⟩ := Rint_at HY.out.R i (by rw [HPI.out.ahl]; omega)
        have HTC := Aside0.mk (top_calls w1.heap.size st.1 Ap cp _ (k - 1) W2 HY.out.blk HY.out.reads (fun h0 h1 => by have := HPI.out.at_ (by omega) _ h0 h1; omega))
        have hwk : IntKind.i64.wrap (k - 1) = k - 1 := IntWalk.i64_in _ (by omega)
        have hil : (i : Int) < (st.2.length : Int) := by rw [HPI.out.ahl]; omega
        simp only [List.take_succ_cons, List.take_zero, List.drop_succ_cons, List.drop_zero]
        iterate 8 still_step
        still_call HTC.out
        refine wpStill_nil ?_
        clear hwk HTC
        go_upto_region 8 with (fail)
        obtain ⟨W3, hW3⟩ : ∃ W3 : World, W2.setCell ⟨ga, i, none⟩ (.int .i64 (topAt st.1 (k - 1))) = W3 := ⟨_, rfl⟩
        rw [hW3]
        replace HY := Aside0.mk (hW3 ▸ HY.out.ahead i (topAt st.1 (k - 1)))
        clear hcg1 hcA hfA hW3 hil
        have hcg0 := (blk_cell HY.out.blk 0).trans rfl
        go_upto_if 41 with (fail)
        go_cut [] (fun wc => ∃ (ps2 : List (List Int)) (Ap2 : Option Addr) (cp2 : Nat), Aside0 (ps2 = if k = st.1.length then st.1 ++ [[]] else st.1) ∧ Aside0 (Lay w wc w1.heap.size Ap2 cp2 ps2 ga ca (st.2.set i (topAt st.1 (k - 1)))))
        case first =>
          by_cases hkl : k = st.1.length
          · have hkd : (k == (st.1.length : Int)) = true := by simpa using hkl
            have HKL := Aside0.mk hkl
            clear hkl
            go_wp2_with ((at_builtin; refine Kd.S_append (Kd.slice 3 (Kd.int .i64)) (w0 := w) w.heap.size rfl _ _ 28 22 (.slice none 0 0) 24 rfl Try.underlying28 hinfo22 rfl (by decide) (by decide) _ st.1 [] [.slice none 0 0] (fun k => k ≠ ga) (fun _ => False) rfl rfl ⟨_, rfl, Kd.R_nil _ _ _ _ _⟩ (fun _ h => h.elim) (fun j hj => by have := HY.out.ga.2.1; omega) (Kd.S_mono HY.out.S (fun _ h => ⟨h, fun h2 => h2⟩)) HY.out.B HY.out.B.size (by omega) ?_; intro v4 w4 hS4 hB4 hg4 _; obtain ⟨⟨A4, c4, rfl⟩, hb4, hL4⟩ := HY.out.more hS4 hB4 hg4; have H4 := Aside0.mk (hL4 _ _ rfl); have hc4 := (blk_cell hb4 0).trans rfl; have hf4 := blk_frozen hb4 0; clear hS4 hB4 hg4 hL4 hb4))
            go_meet
            case rel => exact ⟨st.1 ++ [[]], A4, c4, ⟨(if_pos HKL.out).symm⟩, ⟨by have h := H4.out; rw [show (st.1 ++ [([] : List Int)]).length = st.1.length + 1 from by simp] at h; exact h⟩⟩
          · have hkd : (k == (st.1.length : Int)) = false := by simpa using hkl
            have HKL := Aside0.mk hkl
            clear hkl
            go_wp2_with fail
            go_meet
            case rel => exact ⟨st.1, Ap, cp, ⟨(if_neg HKL.out).symm⟩, HY⟩
        case rest =>
          obtain ⟨ps2, Ap2, cp2, HP2, HY2⟩ := hcut
          have hk2 : k < (ps2.length : Int) := by rw [HP2.out]; split <;> (try simp only [List.length_append, List.length_cons, List.length_nil]) <;> omega
          obtain ⟨po, _, ePo, hpo1, hpo2, _⟩ := Kd.S_form HY2.out.S (by omega)
          injection ePo with ePo _ eCp
          subst ePo
          subst eCp
          obtain ⟨Av, cv, ok5, hci, hfi, hok5, hRv, hput⟩ := HY2.out.elem k hk0 hk2
          have hgp : ¬ po = w1.heap.size := fun he => Kd.S_ne HY2.out.S HY2.out.blk (by decide) (by rw [he]; simp [Value.ownBlock])
          have hgp2 : ¬ w1.heap.size = po := fun he => hgp he.symm
          obtain ⟨pk, hpk⟩ : ∃ pk, ps2.getD k.toNat [] = pk := ⟨_, rfl⟩
          rw [hpk] at hci hRv hput
          have HPK := Aside0.mk hpk
          have HPL := Aside0.mk (show pk.length ≤ 1000000 by
            rw [← hpk, HP2.out]
            split
            · by_cases hx : k.toNat < st.1.length
              · rw [List.getD_eq_getElem?_getD, List.getElem?_append_left hx, List.getElem?_eq_getElem hx]
                have := (HPI.out.pile _ (List.getElem_mem hx)).2.1
                simp only [Option.getD_some]; omega
              · rw [List.getD_eq_getElem?_getD, List.getElem?_append_right (by omega), show k.toNat - st.1.length = 0 from by omega]
                simp
            · rename_i hx
              rw [List.getD_eq_getElem?_getD, List.getElem?_eq_getElem (show k.toNat < st.1.length by omega)]
              have := (HPI.out.pile _ (List.getElem_mem (show k.toNat < st.1.length by omega))).2.1
              simp only [Option.getD_some]; omega)
          clear hpk
          have hc0 := (blk_cell HY2.out.blk 0).trans rfl
          have HM := Aside0.mk (And.intro hok5 (And.intro hRv hput))
          clear hok5 hRv hput
          go_wp2_with fail
          refine start_ (n := 17) (S := (fun w' => w'.cell? ⟨w1.heap.size, 0, none⟩ = some (.slice (some ⟨po, 0, none⟩) ps2.length cp2) ∧ w'.cell? ⟨po, k.toNat, none⟩ = some (.slice Av pk.length cv))) (ds := [16]) #[false, false, false, false, false, false, false, false, false, false, false, false, false, false, false, false, false] (by kernel_rfl) rfl rfl ?_ ?_
          · exact ⟨hc0, hci⟩
          intro hHeld
          refine pure_ (i := 0) (N := some 51) (v := ?_) (a' := ?_) #[true, false, false, false, false, false, false, false, false, false, false, false, false, false, false, false, false] rfl rfl (by kernel_rfl) (fun _ _ _ h => h) (Or.inl ⟨by rfl, ?_⟩) ?_ ?_
          rotate_left
          · intro w'
            go_simp
            with_reducible rfl
          rotate_left
          · simp only [Act.put, List.setIfInBounds_toArray, List.set_cons_zero, List.set_cons_succ, i64_w, i32_w]
            rfl
          refine pure_ (i := 1) (N := some 52) (v := ?_) (a' := ?_) #[true, true, false, false, false, false, false, false, false, false, false, false, false, false, false, false, false] rfl rfl (by kernel_rfl) (fun _ _ _ h => h) (Or.inl ⟨by rfl, ?_⟩) ?_ ?_
          rotate_left
          · intro w'
            go_simp
            with_reducible rfl
          rotate_left
          · simp only [Act.put, List.setIfInBounds_toArray, List.set_cons_zero, List.set_cons_succ, i64_w, i32_w]
            rfl
          refine pure_ (i := 2) (N := some 53) (v := ?_) (a' := ?_) #[true, true, true, false, false, false, false, false, false, false, false, false, false, false, false, false, false] rfl rfl (by kernel_rfl) (fun _ _ _ h => h) (Or.inl ⟨by rfl, ?_⟩) ?_ ?_
          rotate_left
          · intro w'
            go_simp
            with_reducible rfl
          rotate_left
          · simp only [Act.put, List.setIfInBounds_toArray, List.set_cons_zero, List.set_cons_succ, i64_w, i32_w]
            rfl
          refine pure_ (i := 4) (N := some 55) (v := ?_) (a' := ?_) #[true, true, true, false, true, false, false, false, false, false, false, false, false, false, false, false, false] rfl rfl (by kernel_rfl) (fun _ _ _ h => h) (Or.inl ⟨by rfl, ?_⟩) ?_ ?_
          rotate_left
          · intro w'
            go_simp
            with_reducible rfl
          rotate_left
          · simp only [Act.put, List.setIfInBounds_toArray, List.set_cons_zero, List.set_cons_succ, i64_w, i32_w]
            rfl
          refine pure_ (i := 5) (N := some 56) (v := ?_) (a' := ?_) #[true, true, true, false, true, true, false, false, false, false, false, false, false, false, false, false, false] rfl rfl (by kernel_rfl) (fun _ _ _ h => h) (Or.inl ⟨by rfl, ?_⟩) ?_ ?_
          rotate_left
          · intro w'
            go_simp
            with_reducible rfl
          rotate_left
          · simp only [Act.put, List.setIfInBounds_toArray, List.set_cons_zero, List.set_cons_succ, i64_w, i32_w]
            rfl
          refine pure_ (i := 6) (N := some 57) (v := ?_) (a' := ?_) #[true, true, true, false, true, true, true, false, false, false, false, false, false, false, false, false, false] rfl rfl (by kernel_rfl) (fun _ _ _ h => h) (Or.inl ⟨by rfl, ?_⟩) ?_ ?_
          rotate_left
          · intro w'
            go_simp
            with_reducible rfl
          rotate_left
          · simp only [Act.put, List.setIfInBounds_toArray, List.set_cons_zero, List.set_cons_succ, i64_w, i32_w]
            rfl
          refine pure_ (i := 7) (N := some 58) (v := ?_) (a' := ?_) #[true, true, true, false, true, true, true, true, false, false, false, false, false, false, false, false, false] rfl rfl (by kernel_rfl) (fun _ _ _ h => h) (Or.inl ⟨by rfl, ?_⟩) ?_ ?_
          rotate_left
          · intro w'
            go_simp
            with_reducible rfl
          rotate_left
          · simp only [Act.put, List.setIfInBounds_toArray, List.set_cons_zero, List.set_cons_succ, i64_w, i32_w]
            rfl
          refine pure_ (i := 9) (N := some 60) (v := ?_) (a' := ?_) #[true, true, true, false, true, true, true, true, false, true, false, false, false, false, false, false, false] rfl rfl (by kernel_rfl) (fun _ _ _ h => h) (Or.inl ⟨by rfl, ?_⟩) ?_ ?_
          rotate_left
          · intro w'
            go_simp
            with_reducible rfl
          rotate_left
          · simp only [Act.put, List.setIfInBounds_toArray, List.set_cons_zero, List.set_cons_succ, i64_w, i32_w]
            rfl
          refine pure_ (i := 12) (N := some 63) (v := ?_) (a' := ?_) #[true, true, true, false, true, true, true, true, false, true, false, false, true, false, false, false, false] rfl rfl (by kernel_rfl) (fun _ _ _ h => h) (Or.inl ⟨by rfl, ?_⟩) ?_ ?_
          rotate_left
          · intro w'
            go_simp
            with_reducible rfl
          rotate_left
          · simp only [Act.put, List.setIfInBounds_toArray, List.set_cons_zero, List.set_cons_succ, i64_w, i32_w]
            rfl
          refine take_ (i := 3) (N := some 54) (v := ?_) (a' := ?_) #[true, true, true, true, true, true, true, true, false, true, false, false, true, false, false, false, false] rfl rfl (by kernel_rfl) (fun _ _ _ h => h) (Or.inl ⟨by rfl, ?_⟩) hHeld ?_ ?_
          rotate_left
          · rintro w' ⟨s0, s1⟩
            go_simp
            with_reducible rfl
          rotate_left
          · simp only [Act.put, List.setIfInBounds_toArray, List.set_cons_zero, List.set_cons_succ, i64_w, i32_w]
            rfl
          refine take_ (i := 8) (N := some 59) (v := ?_) (a' := ?_) #[true, true, true, true, true, true, true, true, true, true, false, false, true, false, false, false, false] rfl rfl (by kernel_rfl) (fun _ _ _ h => h) (Or.inl ⟨by rfl, ?_⟩) hHeld ?_ ?_
          rotate_left
          · rintro w' ⟨s0, s1⟩
            go_simp
            with_reducible rfl
          rotate_left
          · simp only [Act.put, List.setIfInBounds_toArray, List.set_cons_zero, List.set_cons_succ, i64_w, i32_w]
            rfl
          refine pure_ (i := 10) (N := some 61) (v := ?_) (a' := ?_) #[true, true, true, true, true, true, true, true, true, true, true, false, true, false, false, false, false] rfl rfl (by kernel_rfl) (fun _ _ _ h => h) (Or.inl ⟨by rfl, ?_⟩) ?_ ?_
          rotate_left
          · intro w'
            go_simp
            with_reducible rfl
          rotate_left
          · simp only [Act.put, List.setIfInBounds_toArray, List.set_cons_zero, List.set_cons_succ, i64_w, i32_w]
            rfl
          refine take_ (i := 11) (N := some 62) (v := ?_) (a' := ?_) #[true, true, true, true, true, true, true, true, true, true, true, true, true, false, false, false, false] rfl rfl (by kernel_rfl) (fun _ _ _ h => h) (Or.inl ⟨by rfl, ?_⟩) hHeld ?_ ?_
          rotate_left
          · rintro w' ⟨s0, s1⟩
            go_simp
            with_reducible rfl
          rotate_left
          · simp only [Act.put, List.setIfInBounds_toArray, List.set_cons_zero, List.set_cons_succ, i64_w, i32_w]
            rfl
          refine one_ (i := 13) (N := some 64) #[true, true, true, true, true, true, true, true, true, true, true, true, true, true, false, false, false] rfl rfl (by kernel_rfl) (by decide) (fun K hK => ?_)
          refine value_ (w1 := ?_) (v := ?_) (by rfl) rfl ?_ ?_
          rotate_left 2
          · go_simp
            constructor
            · rfl
            · rfl
          refine hK.out _ _ ⟨(World.cell?_alloc_lt _ _ _ (World.block_lt_of_cell? _ _ hc0)).trans hc0, (World.cell?_alloc_lt _ _ _ (World.block_lt_of_cell? _ _ hci)).trans hci⟩ (fun hHeld => ?_)
          clear hK K
          refine norm_ (a' := ?_) ?_ ?_
          rotate_left
          · show Act.put _ (some 64) _ = _
            simp only [Act.put, List.setIfInBounds_toArray, List.set_cons_zero, List.set_cons_succ, i64_w, i32_w]
            rfl
          refine one_ (i := 14) (N := some 65) #[true, true, true, true, true, true, true, true, true, true, true, true, true, true, true, false, false] rfl rfl (by kernel_rfl) (by decide) (fun K hK => ?_)
          refine Kd.R_append_step (Kd.int .i64) (w0 := w) (W := wc.drew) w.heap.size (by rfl) (.tmp 62) (.tmp 64) 22 3 (.int .i64 0) 8 (by rfl) Try.underlying22 hinfo3 rfl (by decide) (by decide) (.slice Av pk.length cv) pk (i : Int) [.int .i64 i] ok5 (fun _ => False) (by rfl) (by rfl) rfl (fun _ h => h.elim) HM.out.1 (Kd.R_below HM.out.2.1 ⟨rfl, rfl, rfl, Nat.le_refl _, fun _ _ => rfl⟩) (HY2.out.B.trans ⟨rfl, rfl, rfl, Nat.le_refl _, fun _ _ => rfl⟩) HY2.out.B.size (by have := HPL.out; omega) ?_
          intro v5 w5 hR5 hB5 hg5 _
          obtain ⟨⟨A5, c5, rfl⟩, hcg5, hci5, hfi5, hL5⟩ := HM.out.2.2 v5 w5 _ hR5 ⟨hg5.os, hg5.tape, hg5.output, hg5.size, hg5.block⟩ hB5
          have HL5 := Aside0.mk hL5
          clear hR5 hB5 hg5 hL5
          refine hK.out _ _ ⟨hcg5, hci5⟩ (fun hHeld => ?_)
          clear hK K
          refine norm_ (a' := ?_) ?_ ?_
          rotate_left
          · show Act.put _ (some 65) _ = _
            simp only [Act.put, List.setIfInBounds_toArray, List.set_cons_zero, List.set_cons_succ, i64_w, i32_w]
            rfl
          refine pure_ (i := 15) (N := some 66) (v := ?_) (a' := ?_) #[true, true, true, true, true, true, true, true, true, true, true, true, true, true, true, true, false] rfl rfl (by kernel_rfl) (fun _ _ _ h => h) (Or.inl ⟨by rfl, ?_⟩) ?_ ?_
          rotate_left
          · intro w'
            go_simp
            with_reducible rfl
          rotate_left
          · simp only [Act.put, List.setIfInBounds_toArray, List.set_cons_zero, List.set_cons_succ, i64_w, i32_w]
            rfl
          refine last_ (i := 16) (N := none) #[true, true, true, true, true, true, true, true, true, true, true, true, true, true, true, true, true] rfl rfl (by kernel_rfl) (by decide) (fun K hK => ?_)
          refine skip_ (w1 := ?_) (by rfl) rfl ?_ ?_
          rotate_left
          · go_simp
            rfl
          refine hK.out _ _ ?_
          clear hK K
          refine done_ (by kernel_rfl) ?_
          · have HEND := Aside0.mk (show playN l (i + 1) = (ps2.set k.toNat (pk ++ [(i : Int)]), st.2.set i (topAt st.1 (k - 1))) by
              rw [show playN l (i + 1) = playStep l (playN l i) i from rfl, HST.out]
              unfold playStep
              rw [if_neg (by have := HNG.out; omega), HK.out]
              show (((if k = (st.1.length : Int) then st.1 ++ [[]] else st.1).set k.toNat ((if k = (st.1.length : Int) then st.1 ++ [[]] else st.1).getD k.toNat [] ++ [(i : Int)])), st.2.set i (topAt st.1 (k - 1))) = _
              rw [← HP2.out, HPK.out])
            go_wp2_with fail
            go_roundg (l.length - (i + 1))
            case measure => omega
            case rel => exact ⟨i + 1, by go_num, ⟨by omega, by rw [HEND.out]; have h := HL5.out.game; rw [show (pk ++ [(i : Int)]).length = pk.length + 1 from by simp] at h; exact h⟩⟩
    · go_wp2_with fail
      go_ret
      obtain rfl : i = l.length := by have := HI.out.1; omega
      exact ⟨_, rfl, HI.out.2⟩
end Go.Proofs.Ytahjlbbliihgpaa.G
