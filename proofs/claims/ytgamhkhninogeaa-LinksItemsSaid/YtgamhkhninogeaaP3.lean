/- The plain law of links: placing keeps it. -/
import Derived.Test.YtgamhkhninogeaaP2
namespace Go.Proofs.Ytgamhkhninogeaa.Pure
open Go.RowKit Go.Proofs.Ytgamhkhninogeaa.G Go.Proofs.YtgamhkhninogeaaW.PrintWords Go.Proofs.YtgamhkhninogeaaW.PrintLast
set_option linter.unusedVariables false
set_option linter.unusedSimpArgs false

theorem Lk.place {n : Nat} {U : Int → Int} {K : Int → List Int} {F : FF} (h : Lk n U K F) (x y b : Int) (hx0 : 0 ≤ x) (hx : x < n) (hy0 : 0 ≤ y) (hy : y < n) (hf : U y < 0) (l : List Int) (hw : Way U x l) (hyl : y ∉ l) (A B : List Int) (hK : K x = A ++ B)
    (hb : (b = -1 ∧ B = []) ∨ ∃ B', B = b :: B') : Lk n (fun i => if i = y then x else U i) (fun i => if i = x then A ++ y :: B else K i) (placeF F x y b) := by
  have hxy : x ≠ y := by
    intro e
    cases l with
    | nil => have : x < 0 := hw; omega
    | cons a l => obtain ⟨rfl, _⟩ := hw; exact hyl (e ▸ List.mem_cons_self ..)
  have hkx : ∀ a, a ∈ A ++ B → 0 ≤ a ∧ a < n ∧ U a = x := fun a ha => (h.st.kid x a hx0 hx).1 (hK ▸ ha)
  have hyk : y ∉ A ++ B := fun m => by have := (hkx y m).2.2; omega
  have hnd := h.st.nd x hx0 hx
  rw [hK, List.nodup_append] at hnd
  obtain ⟨ndA, ndB, dAB⟩ := hnd
  have hbB : b < 0 ∨ b ∈ B := by
    rcases hb with ⟨e, _⟩ | ⟨B', e⟩
    · exact .inl (by omega)
    · exact .inr (by rw [e]; exact List.mem_cons_self ..)
  have hby : b ≠ y := by
    rcases hbB with e | e
    · omega
    · intro q; exact hyk (q ▸ List.mem_append_right A e)
  obtain ⟨x1, xc, xs⟩ := h.lk x hx0 hx
  rw [hK] at xc xs
  obtain ⟨t0, cA, cB⟩ := ChT.app.1 xc
  obtain ⟨p, sA, sB⟩ := SibT.app.1 xs
  have ht0 : t0 = b := by
    rcases hb with ⟨e, e2⟩ | ⟨B', e⟩
    · subst e2; have : t0 = -1 := cB; omega
    · subst e; exact cB.1
  subst ht0
  have hp : p = if t0 < 0 then F x 3 else F t0 4 := by
    rcases hb with ⟨e, e2⟩ | ⟨B', e⟩
    · subst e2
      rw [if_pos (by omega)]
      exact sB
    · have : 0 ≤ t0 := (hkx t0 (by rw [e]; simp)).1
      rw [if_neg (by omega)]
      subst e
      exact sB.2.1.symm
  have hpA : (A = [] ∧ p = -1) ∨ ∃ A0, A = A0 ++ [p] := by
    have hl := SibT.last sA
    rcases snoc_or_nil A with e | ⟨A0, q, e⟩
    · subst e; exact .inl ⟨rfl, hl⟩
    · rw [e, lastD_snoc] at hl
      exact .inr ⟨A0, by rw [e, hl]⟩
  have hpm : p < 0 ∨ p ∈ A := by
    rcases hpA with ⟨_, e⟩ | ⟨A0, e⟩
    · exact .inl (by omega)
    · exact .inr (by rw [e]; simp)
  have hpy : p ≠ y := by
    rcases hpm with e | e
    · omega
    · intro q; exact hyk (q ▸ List.mem_append_left B e)
  have at_ := placeF_at F x y t0 p hby hp
  obtain ⟨F', hF'⟩ : ∃ F', placeF F x y t0 = F' := ⟨_, rfl⟩
  rw [hF'] at at_ ⊢
  -- what is not near keeps its links
  have far (a : Int) (h1 : a ≠ y) (h2 : a ∉ A ++ B) (h0 : 0 ≤ a) : F' a 1 = F a 1 ∧ F' a 4 = F a 4 ∧ F' a 5 = F a 5 := by
    have q1 : a ≠ t0 := by
      rcases hbB with e | e
      · omega
      · intro q; exact h2 (q ▸ List.mem_append_right A e)
    have q2 : a ≠ p := by
      rcases hpm with e | e
      · omega
      · intro q; exact h2 (q ▸ List.mem_append_left B e)
    obtain ⟨e1, _, _, e4, e5⟩ := at_ a
    refine ⟨by rw [e1, if_neg h1], ?_, ?_⟩
    · rw [e4, if_neg (fun q => q1 q.2), if_neg h1]
    · rw [e5, if_neg (fun q => q2 q.2), if_neg h1]
  refine ⟨h.st.place x y hx0 hx hy0 hy hf l hw hyl A B hK, fun i i0 i1 => ?_, fun i i0 i1 hu => ?_⟩
  · obtain ⟨e1, e2, e3, _, _⟩ := at_ i
    obtain ⟨l1, lc, ls⟩ := h.lk i i0 i1
    refine ⟨by rw [e1, l1], ?_⟩
    by_cases c : i = x
    · subst c
      simp only [if_pos]
      obtain ⟨y1, _, _, y4, y5⟩ := at_ y
      rw [if_pos rfl] at y1
      rw [if_neg (fun q => hby q.2.symm), if_pos rfl] at y4
      rw [if_neg (fun q => hpy q.2.symm), if_pos rfl] at y5
      constructor
      · refine ChT.app.2 ⟨y, ?_, rfl, hy0, ?_⟩
        · rcases hpA with ⟨eA, ep⟩ | ⟨A0, eA⟩
          · subst eA
            show F' i 2 = y
            rw [e2, if_pos ⟨by omega, rfl⟩]
          · have p0 : 0 ≤ p := (hkx p (by rw [eA]; simp)).1
            rw [eA] at cA ndA
            obtain ⟨v, c1, c2⟩ := ChT.app.1 cA
            rw [e2, if_neg (fun q => by have := q.1; omega), eA]
            refine ChT.app.2 ⟨v, ChT.congr (fun a ha => ?_) c1, c2.1, c2.2.1, ?_⟩
            · have q1 : a ≠ y := fun q => hyk (by rw [eA, ← q]; simp [ha])
              have q2 : a ≠ p := fun q => by
                rw [List.nodup_append] at ndA
                exact ndA.2.2 a ha p (by simp) q
              rw [(at_ a).2.2.2.2, if_neg (fun q => q2 q.2), if_neg q1]
            · show F' p 5 = y
              rw [(at_ p).2.2.2.2, if_pos ⟨by omega, rfl⟩]
        · rw [y5]
          refine ChT.congr (fun a ha => ?_) cB
          have q1 : a ≠ y := fun q => hyk (q ▸ List.mem_append_right A ha)
          have q2 : a ≠ p := by
            rcases hpm with e | e
            · have := (hkx a (List.mem_append_right A ha)).1; omega
            · intro q; exact dAB p e a ha q.symm
          rw [(at_ a).2.2.2.2, if_neg (fun q => q2 q.2), if_neg q1]
      · refine SibT.app.2 ⟨p, SibT.congr (fun a ha => ?_) sA, y1, y4, ?_⟩
        · have q1 : a ≠ y := fun q => hyk (q ▸ List.mem_append_left B ha)
          have q2 : a ≠ t0 := by
            rcases hbB with e | e
            · have := (hkx a (List.mem_append_left B ha)).1; omega
            · intro q; exact dAB a ha t0 e q
          exact ⟨by rw [(at_ a).1, if_neg q1], by rw [(at_ a).2.2.2.1, if_neg (fun q => q2 q.2), if_neg q1]⟩
        · rcases hb with ⟨eb, eB⟩ | ⟨B', eB⟩
          · subst eB
            show y = F' i 3
            rw [e3, if_pos ⟨by omega, rfl⟩]
          · have b0 : 0 ≤ t0 := (hkx t0 (by rw [eB]; simp)).1
            rw [eB] at sB ndB ⊢
            have hn := List.nodup_cons.1 ndB
            refine ⟨?_, ?_, ?_⟩
            · rw [(at_ t0).1, if_neg hby]; exact sB.1
            · rw [(at_ t0).2.2.2.1, if_pos ⟨by omega, rfl⟩]
            · rw [e3, if_neg (fun q => by have := q.1; omega)]
              refine SibT.congr (fun a ha => ?_) sB.2.2
              have q1 : a ≠ y := fun q => hyk (by rw [eB, ← q]; simp [ha])
              have q2 : a ≠ t0 := fun q => hn.1 (q ▸ ha)
              exact ⟨by rw [(at_ a).1, if_neg q1], by rw [(at_ a).2.2.2.1, if_neg (fun q => q2 q.2), if_neg q1]⟩
    · simp only [if_neg c]
      have hfar : ∀ a ∈ K i, F' a 1 = F a 1 ∧ F' a 4 = F a 4 ∧ F' a 5 = F a 5 := by
        intro a ha
        have hk := (h.st.kid i a i0 i1).1 ha
        refine far a (fun q => ?_) (fun q => ?_) hk.1
        · subst q; have := hk.2.2; omega
        · have := (hkx a q).2.2; exact c (hk.2.2.symm.trans this)
      rw [e2, e3, if_neg (fun q => c q.2), if_neg (fun q => c q.2)]
      exact ⟨ChT.congr (fun a ha => (hfar a ha).2.2) lc, SibT.congr (fun a ha => ⟨(hfar a ha).1, (hfar a ha).2.1⟩) ls⟩
  · have c : i ≠ y := by
      intro c
      rw [if_pos c] at hu
      omega
    simp only [if_neg c] at hu
    have hfi := far i c (fun q => by have := (hkx i q).2.2; omega) i0
    rw [hfi.2.1, hfi.2.2]
    exact h.fr i i0 i1 hu

theorem Lk.drop {n : Nat} {U : Int → Int} {K : Int → List Int} {F : FF} (h : Lk n U K F) (x u : Int) (hx0 : 0 ≤ x) (hx : x < n) (hu : U x = u) (hu0 : 0 ≤ u) :
    ∃ A B, K u = A ++ x :: B ∧ F x 1 = u ∧ F x 4 ≠ x ∧ F x 5 ≠ x ∧ F x 1 ≠ x ∧ Lk n (fun i => if i = x then -1 else U i) (fun i => if i = u then A ++ B else K i) (dropF F x) := by
  have hun : u < n := hu ▸ (h.st.up x hx0 hx).2
  have hxm : x ∈ K u := (h.st.kid u x hu0 hun).2 ⟨hx0, hx, hu⟩
  obtain ⟨A, B, hK⟩ := List.append_of_mem hxm
  have hux : u ≠ x := by
    intro e
    obtain ⟨ρ, hρ⟩ := h.st.rk
    have := hρ x hx0 hx (by omega)
    rw [hu, e] at this
    omega
  have hku : ∀ a, a ∈ A ++ x :: B → 0 ≤ a ∧ a < n ∧ U a = u := fun a ha => (h.st.kid u a hu0 hun).1 (hK ▸ ha)
  have hnd := h.st.nd u hu0 hun
  rw [hK, List.nodup_append, List.nodup_cons] at hnd
  obtain ⟨ndA, ⟨nxB, ndB⟩, dAB⟩ := hnd
  have nxA : x ∉ A := fun m => dAB x m x (List.mem_cons_self ..) rfl
  obtain ⟨u1, uc, us⟩ := h.lk u hu0 hun
  rw [hK] at uc us
  obtain ⟨t0, cA, cX, _, cB⟩ := ChT.app.1 uc
  subst cX
  obtain ⟨p, sA, s1, s4, sB⟩ := SibT.app.1 us
  obtain ⟨q, hq⟩ : ∃ q, F t0 5 = q := ⟨_, rfl⟩
  rw [hq] at cB
  have hqB : (B = [] ∧ q = -1) ∨ ∃ B', B = q :: B' := ChT.head cB
  have hqm : q < 0 ∨ q ∈ B := by
    rcases hqB with ⟨_, e⟩ | ⟨B', e⟩
    · exact .inl (by omega)
    · exact .inr (by rw [e]; exact List.mem_cons_self ..)
  have hpA : (A = [] ∧ p = -1) ∨ ∃ A0, A = A0 ++ [p] := by
    have hl := SibT.last sA
    rcases snoc_or_nil A with e | ⟨A0, r, e⟩
    · subst e; exact .inl ⟨rfl, hl⟩
    · rw [e, lastD_snoc] at hl
      exact .inr ⟨A0, by rw [e, hl]⟩
  have hpm : p < 0 ∨ p ∈ A := by
    rcases hpA with ⟨_, e⟩ | ⟨A0, e⟩
    · exact .inl (by omega)
    · exact .inr (by rw [e]; simp)
  have hpx : p ≠ t0 := by
    rcases hpm with e | e
    · omega
    · intro r; exact nxA (r ▸ e)
  have hqx : q ≠ t0 := by
    rcases hqm with e | e
    · omega
    · intro r; exact nxB (r ▸ e)
  have x1 : F t0 1 = u := by rw [(h.lk t0 hx0 hx).1, hu]
  have at_ := dropF_at F t0 (x1 ▸ hux) (s4 ▸ hpx) (hq ▸ hqx)
  rw [x1, s4, hq] at at_
  refine ⟨A, B, hK, x1, s4 ▸ hpx, hq ▸ hqx, x1 ▸ hux, h.st.drop t0 u hx0 hx hu hu0 A B hK, fun i i0 i1 => ?_, fun i i0 i1 hui => ?_⟩
  · obtain ⟨e1, e2, e3, _, _⟩ := at_ i
    obtain ⟨l1, lc, ls⟩ := h.lk i i0 i1
    refine ⟨by rw [e1, l1], ?_⟩
    by_cases c : i = u
    · subst c
      simp only [if_pos]
      have cB' : ChT (dropF F t0) 5 q B (-1) := by
        refine ChT.congr (fun a ha => ?_) cB
        have q1 : a ≠ t0 := fun e => nxB (e ▸ ha)
        have q2 : a ≠ p := by
          rcases hpm with e | e
          · have := (hku a (List.mem_append_right A (List.mem_cons_of_mem _ ha))).1; omega
          · intro r; exact dAB p e a (List.mem_cons_of_mem _ ha) r.symm
        rw [(at_ a).2.2.2.2, if_neg q1, if_neg (fun r => q2 r.2)]
      have sA' : SibT (dropF F t0) i (-1) A p := by
        refine SibT.congr (fun a ha => ?_) sA
        have q1 : a ≠ t0 := fun e => nxA (e ▸ ha)
        have q2 : a ≠ q := by
          rcases hqm with e | e
          · have := (hku a (List.mem_append_left _ ha)).1; omega
          · intro r; exact dAB a ha q (List.mem_cons_of_mem _ e) r
        exact ⟨by rw [(at_ a).1, if_neg q1], by rw [(at_ a).2.2.2.1, if_neg q1, if_neg (fun r => q2 r.2)]⟩
      constructor
      · refine ChT.app.2 ⟨q, ?_, cB'⟩
        rcases hpA with ⟨eA, ep⟩ | ⟨A0, eA⟩
        · subst eA
          show dropF F t0 i 2 = q
          rw [e2, if_pos ⟨by omega, rfl⟩]
        · have p0 : 0 ≤ p := (hku p (by rw [eA]; simp)).1
          rw [eA] at cA ndA
          obtain ⟨v, c1, c2⟩ := ChT.app.1 cA
          rw [e2, if_neg (fun r => by have := r.1; omega), eA]
          refine ChT.app.2 ⟨v, ChT.congr (fun a ha => ?_) c1, c2.1, c2.2.1, ?_⟩
          · have q1 : a ≠ t0 := fun e => nxA (by rw [eA, ← e]; simp [ha])
            have q2 : a ≠ p := fun r => by
              rw [List.nodup_append] at ndA
              exact ndA.2.2 a ha p (by simp) r
            rw [(at_ a).2.2.2.2, if_neg q1, if_neg (fun r => q2 r.2)]
          · show dropF F t0 p 5 = q
            rw [(at_ p).2.2.2.2, if_neg hpx, if_pos ⟨by omega, rfl⟩]
      · refine SibT.app.2 ⟨p, sA', ?_⟩
        rcases hqB with ⟨eB, eq⟩ | ⟨B', eB⟩
        · subst eB
          show p = dropF F t0 i 3
          rw [e3, if_pos ⟨by omega, rfl⟩]
        · have q0 : 0 ≤ q := (hku q (by rw [eB]; simp)).1
          rw [eB] at sB ndB ⊢
          have hn := List.nodup_cons.1 ndB
          refine ⟨?_, ?_, ?_⟩
          · rw [(at_ q).1, if_neg hqx]; exact sB.1
          · rw [(at_ q).2.2.2.1, if_neg hqx, if_pos ⟨by omega, rfl⟩]
          · rw [e3, if_neg (fun r => by have := r.1; omega)]
            refine SibT.congr (fun a ha => ?_) sB.2.2
            have q1 : a ≠ t0 := fun e => nxB (by rw [eB, ← e]; simp [ha])
            have q2 : a ≠ q := fun r => hn.1 (r ▸ ha)
            exact ⟨by rw [(at_ a).1, if_neg q1], by rw [(at_ a).2.2.2.1, if_neg q1, if_neg (fun r => q2 r.2)]⟩
    · simp only [if_neg c]
      have hfar : ∀ a ∈ K i, dropF F t0 a 1 = F a 1 ∧ dropF F t0 a 4 = F a 4 ∧ dropF F t0 a 5 = F a 5 := by
        intro a ha
        have hk := (h.st.kid i a i0 i1).1 ha
        have hna : a ∉ A ++ t0 :: B := fun m => c (hk.2.2.symm.trans (hku a m).2.2)
        have q1 : a ≠ t0 := fun e => hna (by rw [e]; simp)
        have q2 : a ≠ p := by
          rcases hpm with e | e
          · have := hk.1; omega
          · intro r; exact hna (by rw [r]; simp [e])
        have q3 : a ≠ q := by
          rcases hqm with e | e
          · have := hk.1; omega
          · intro r; exact hna (by rw [r]; simp [e])
        obtain ⟨g1, _, _, g4, g5⟩ := at_ a
        exact ⟨by rw [g1, if_neg q1], by rw [g4, if_neg q1, if_neg (fun r => q3 r.2)], by rw [g5, if_neg q1, if_neg (fun r => q2 r.2)]⟩
      rw [e2, e3, if_neg (fun r => c r.2), if_neg (fun r => c r.2)]
      exact ⟨ChT.congr (fun a ha => (hfar a ha).2.2) lc, SibT.congr (fun a ha => ⟨(hfar a ha).1, (hfar a ha).2.1⟩) ls⟩
  · obtain ⟨_, _, _, g4, g5⟩ := at_ i
    by_cases c : i = t0
    · rw [g4, g5, if_pos c, if_pos c]
      exact ⟨rfl, rfl⟩
    · simp only [if_neg c] at hui
      have hna : i ∉ A ++ t0 :: B := fun m => by have := (hku i m).2.2; omega
      have q2 : i ≠ p := by
        rcases hpm with e | e
        · omega
        · intro r; exact hna (by rw [r]; simp [e])
      have q3 : i ≠ q := by
        rcases hqm with e | e
        · omega
        · intro r; exact hna (by rw [r]; simp [e])
      rw [g4, g5, if_neg c, if_neg c, if_neg (fun r => q3 r.2), if_neg (fun r => q2 r.2)]
      exact h.fr i i0 i1 hui
end Go.Proofs.Ytgamhkhninogeaa.Pure
