import Derived.Test.YtahjlbbliihgpaaH5
namespace Go.Proofs.Ytahjlbbliihgpaa.G
open Go.RowKit Go.Proofs.YtahjlbbliihgpaaW.PrintWords Go.Proofs.YtahjlbbliihgpaaW.PrintLast Go.Proofs.YtahjlbbliihgpaaW.PrintMore
set_option linter.unusedVariables false
set_option linter.unusedSimpArgs false

structure EndW (w W : World) (go n co : Nat) (out : List Int) (Ap : Option Addr) (cp : Nat) (ps : List (List Int)) : Prop where
  O : Kd.R (Kd.int .i64) 3 W w.heap.size (fun _ => True) (.slice (some ⟨go, 0, none⟩) n co) out
  S : Kd.S (Kd.slice 3 (Kd.int .i64)) 22 W w.heap.size (fun k => k ≠ go) (.slice Ap ps.length cp) ps
  B : Below w.heap.size w W

theorem EndW.put {w W : World} {go n co : Nat} {out : List Int} {Ap : Option Addr} {cp : Nat} {ps : List (List Int)} (h : EndW w W go n co out Ap cp ps) (j : Nat) (x : Int) :
    EndW w (W.setCell ⟨go, j, none⟩ (.int .i64 x)) go n co (out.set j x) Ap cp ps ∧
      ∀ v p, Kd.R (Kd.int .i64) 3 W w.heap.size (fun k => k ≠ go) v p → Kd.R (Kd.int .i64) 3 (W.setCell ⟨go, j, none⟩ (.int .i64 x)) w.heap.size (fun k => k ≠ go) v p := by
  obtain ⟨r1, _⟩ := Rint_store h.O j x
  have hgo : w.heap.size ≤ go := Kd.R_base h.O go (by simp [Value.ownBlock])
  exact ⟨⟨r1, Kd.S_far (p := ⟨go, j, none⟩) h.S (fun _ hk => hk) _, below_set h.B hgo⟩, fun v p hp => Kd.R_far (p := ⟨go, j, none⟩) hp (fun _ hk => hk) _⟩

theorem EndW.elem {w W : World} {go n co : Nat} {out : List Int} {Ap : Option Addr} {cp : Nat} {ps : List (List Int)} (h : EndW w W go n co out Ap cp ps) (k : Nat) (hk : k < ps.length) :
    ∃ po Ai ci, Ap = some ⟨po, 0, none⟩ ∧ W.cell? ⟨po, k, none⟩ = some (.slice Ai (ps.getD k []).length ci) ∧ Kd.R (Kd.int .i64) 3 W w.heap.size (fun k => k ≠ go) (.slice Ai (ps.getD k []).length ci) (ps.getD k []) := by
  obtain ⟨po, _, ePo, _, _, _⟩ := Kd.S_form h.S (by omega)
  injection ePo with ePo _ eCp
  subst ePo
  obtain ⟨oki, c, hcl, hM, hcc, hfr, hok, hH⟩ := Kd.S_elem h.S [] (k : Int) (by omega) (by omega)
  obtain ⟨v, rfl, hRv⟩ := hM
  rw [Int.toNat_natCast] at hRv
  obtain ⟨Av, cv, rfl⟩ := Kd.R_slice hRv
  have hci := hcc 0 _ rfl
  have ek : (k : Int).toNat * (Kd.slice 3 (Kd.int .i64)).sz + 0 = k := by show (k : Int).toNat * 1 + 0 = _; omega
  rw [ek] at hci
  exact ⟨po, Av, cv, rfl, hci, Kd.R_mono hRv (fun j hj => (hok j hj).1)⟩

theorem endsIn_length (k : Int) : ∀ (p out : List Int), (endsIn k out p).length = out.length
  | [], out => rfl
  | x :: p, out => by rw [endsIn, endsIn_length k p, List.length_set]

set_option maxHeartbeats 4000000 in
theorem lis_Ends.calls (A0 : Option Addr) (c0 : Nat) (l0 : List Int) (r : List Int) (w : World) (hr0 : Kd.C (Kd.int .i64) w A0 l0.length l0) (hc0 : l0.length ≤ c0) (h : lis_Ends.f l0 = some r) :
    Calls Try.prog 12 #[.slice A0 l0.length c0] w fun e w' => ∃ v0_ : Value, e = .returned (v0_) ∧ Kd.R (Kd.int .i64) 3 w' w.heap.size (fun _ => True) v0_ r ∧ Below w.heap.size w w' := by
  obtain ⟨hl, rfl⟩ : l0.length ≤ 1000000 ∧ r = endsOf l0 := by
    unfold lis_Ends.f at h; split at h
    · exact ⟨by assumption, (Option.some.inj h).symm⟩
    · cases h
  have HR := Aside0.mk hr0
  have HPI := Aside0.mk (playN_inv l0 l0.length (Nat.le_refl _))
  have HEO := Aside0.mk (show endsOf l0 = endsFrom 0 (List.replicate l0.length 0) (playN l0 l0.length).1 from rfl)
  obtain ⟨st, hst⟩ : ∃ st, playN l0 l0.length = st := ⟨_, rfl⟩
  rw [hst] at HPI HEO
  have HST := Aside0.mk hst
  clear hr0 h hst
  have hpl : st.1.length ≤ 1000000 := by have := HPI.out.psl; omega
  have hu32 := Try.underlying32
  go_enter Try.func12, Try.ntmps12
  go_wp2_with (first | (at_make; refine make_ints (w0 := w) w.heap.size 3 .i64 8 rfl rfl 22 _ _ rfl l0.length rfl rfl Try.underlying22 hinfo3 (by decide) (by omega) (Below.refl _ _) (Nat.le_refl _) ?_; intro go co w1 hO hgo hlt hb1 hB1; have HO := Aside0.mk (And.intro hO (And.intro hgo (And.intro hb1 hB1))); have HP := Aside0.mk (play_calls A0 c0 l0 w1 (Kd.C_below HR.out hb1) hc0 hl); clear hO hgo hb1 hB1) | (go_at_call 19; refine HP.out.mono ?_; rintro e w2 ⟨g, rfl, hG⟩; rw [HST.out] at hG; obtain ⟨PV, AV, hg, hg0, hS, hA, hB⟩ := hG; obtain ⟨Ap, cp, rfl⟩ := Kd.S_slice hS; have hc0 := (blk_cell hg 0).trans rfl; have HW := Aside0.mk (show EndW w w2 go l0.length co (List.replicate l0.length 0) Ap cp st.1 from ⟨Kd.R_below HO.out.1 hB, Kd.S_lower (Kd.S_mono (Kd.S_bound hS) (fun k hk he => by have := hk.2.1; omega)) HO.out.2.2.2.size, HO.out.2.2.2.trans (hB.mono HO.out.2.2.2.size)⟩); clear hg hg0 hS hA hB HP HO))
  go_loopg [17] st.1.length (fun n v17 w' => ∃ (k : Nat) (out : List Int), v17 = .int .i64 (k : Int) ∧ Aside0 (k + n = st.1.length ∧ out.length = l0.length ∧ endsFrom k out (st.1.drop k) = endsOf l0) ∧ Aside0 (EndW w w' go l0.length co out Ap cp st.1))
  case atStart => exact ⟨0, _, rfl, ⟨by omega, by simp, HEO.out.symm⟩, HW⟩
  case round =>
    clear HW hc0
    obtain ⟨k, out, rfl, HI, HW⟩ := hrel
    by_cases hk : k < st.1.length
    · obtain ⟨po, Ai, ci, rfl, hci, hRp⟩ := HW.out.elem k hk
      obtain ⟨p, hp⟩ : ∃ p, st.1.getD k [] = p := ⟨_, rfl⟩
      rw [hp] at hci hRp
      have hp0 : st.1[k] = p := by rw [← hp, List.getD_eq_getElem?_getD, List.getElem?_eq_getElem hk]; rfl
      have HPP := Aside0.mk (And.intro (HPI.out.pile p (hp0 ▸ List.getElem_mem hk)) (show st.1.drop k = p :: st.1.drop (k + 1) from by rw [List.drop_eq_getElem_cons hk, hp0]))
      have HRP := Aside0.mk hRp
      clear hp hp0 hRp
      have hpl2 : p.length ≤ 1000000 := by have := HPP.out.1.2.1; omega
      go_wp2_with fail
      go_loopg [24] p.length (fun m v24 w' => ∃ (j : Nat) (o2 : List Int), v24 = .int .i64 (j : Int) ∧ Aside0 (j + m = p.length ∧ o2.length = l0.length ∧ endsIn k o2 (p.drop j) = endsIn k out p) ∧ Aside0 (EndW w w' go l0.length co o2 (some ⟨po, 0, none⟩) cp st.1 ∧ Kd.R (Kd.int .i64) 3 w' w.heap.size (fun k => k ≠ go) (.slice Ai p.length ci) p))
      case atStart => exact ⟨0, out, rfl, ⟨by omega, HI.out.2.1, rfl⟩, ⟨HW.out, HRP.out⟩⟩
      case round =>
        clear HW HRP hci
        obtain ⟨j, o2, rfl, HJ, HW⟩ := hrel
        by_cases hj : j < p.length
        · obtain ⟨gi, ci', e, _, _, _⟩ := Kd.R_form HW.out.2 (by omega)
          injection e with e _ e2
          subst e
          subst e2
          obtain ⟨hcx, _⟩ := Rint_at HW.out.2 j hj
          obtain ⟨x, hx⟩ : ∃ x, p.getD j 0 = x := ⟨_, rfl⟩
          rw [hx] at hcx
          have hpj : p[j] = x := by rw [← hx, List.getD_eq_getElem?_getD, List.getElem?_eq_getElem hj]; rfl
          obtain ⟨x0, x1⟩ := HPP.out.1.2.2 x (hpj ▸ List.getElem_mem hj)
          have HD := Aside0.mk (show p.drop j = x :: p.drop (j + 1) from by rw [List.drop_eq_getElem_cons hj, hpj])
          clear hx hpj
          obtain ⟨hco, hfo⟩ := Rint_at HW.out.1.O x.toNat (by omega)
          have hx1 : x < (l0.length : Int) := x1
          go_wp2_with fail
          go_roundg (p.length - (j + 1))
          case measure => have := HJ.out.1; omega
          case rel =>
            obtain ⟨e1, e2⟩ := HW.out.1.put x.toNat (k + 1)
            refine ⟨j + 1, _, by go_num, ⟨by have := HJ.out.1; omega, by rw [List.length_set]; exact HJ.out.2.1, ?_⟩, ⟨e1, e2 _ _ HW.out.2⟩⟩
            have h := HJ.out.2.2
            rw [HD.out] at h
            exact h
        · have HE := Aside0.mk (show o2 = endsIn k out p from by
            have h := HJ.out.2.2
            rw [List.drop_of_length_le (by omega)] at h
            exact h)
          go_wp2_with fail
          go_roundg (st.1.length - (k + 1))
          case measure => have := HI.out.1; omega
          case rel =>
            refine ⟨k + 1, o2, by go_num, ⟨by have := HI.out.1; omega, HJ.out.2.1, ?_⟩, ⟨HW.out.1⟩⟩
            have h := HI.out.2.2
            rw [HPP.out.2] at h
            rw [HE.out]
            exact h
    · have HE := Aside0.mk (show out = endsOf l0 from by
        have h := HI.out.2.2
        rw [List.drop_of_length_le (by omega)] at h
        exact h)
      go_wp2_with fail
      go_ret
      exact ⟨_, rfl, HE.out ▸ HW.out.O, HW.out.B⟩
end Go.Proofs.Ytahjlbbliihgpaa.G
