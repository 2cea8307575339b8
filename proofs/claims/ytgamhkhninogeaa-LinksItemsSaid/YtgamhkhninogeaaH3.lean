/- An item that can't be placed; an item dropped (links.Item.Place, Drop), walked. -/
import Derived.Test.YtgamhkhninogeaaH2
namespace Go.Proofs.Ytgamhkhninogeaa.G
open Go.RowKit Go.Proofs.YtgamhkhninogeaaW.PrintWords Go.Proofs.YtgamhkhninogeaaW.PrintLast Go.Proofs.YtgamhkhninogeaaW.PrintMore
set_option linter.unusedVariables false
set_option linter.unusedSimpArgs false

set_option maxHeartbeats 4000000 in
set_option maxRecDepth 100000 in
theorem Place_held (W : World) (base : Nat) (bs : List Nat) (F : FF) (h : GW W base bs F) (x y b : Int) (hx0 : 0 ≤ x) (hy0 : 0 ≤ y) (hy : y < bs.length) (hup : 0 ≤ F y 1) :
    Calls Try.prog 21 #[pv bs x, pv bs y, pv bs b] W fun e w' => e = .returned (.int .i64 15) ∧ w' = W := by
  rw [pv_pos bs (show ¬ x < 0 by omega), pv_pos bs (show ¬ y < 0 by omega)]
  have c1 := h.cell y hy0 hy 1 (by decide)
  rw [pv_pos bs (show ¬ F y 1 < 0 by omega)] at c1
  obtain ⟨o, ho⟩ : ∃ o, pv bs b = .pointer o := ⟨_, rfl⟩
  rw [ho]
  clear ho h hx0 hy0 hy hup
  go_enter Try.func21, Try.ntmps21
  go_wp2_with fail
  refine bodyPost_ret (results_tmp rfl _ _ _) rfl ?_
  exact ⟨rfl, rfl⟩
set_option maxHeartbeats 4000000 in
set_option maxRecDepth 100000 in
theorem Place_cycle (W : World) (base : Nat) (bs : List Nat) (F : FF) (h : GW W base bs F) (k : Nat) (x y b : Int) (hx0 : 0 ≤ x) (hx : x < bs.length) (hy0 : 0 ≤ y) (hy : y < bs.length) (hf : fin F k x) (hup : F y 1 < 0) (hun : und F k x y = true) :
    Calls Try.prog 21 #[pv bs x, pv bs y, pv bs b] W fun e w' => e = .returned (.int .i64 17) ∧ w' = W := by
  have HU := Aside0.mk (Under W base bs F h k x y hx hy0 hy hf true hun)
  rw [pv_pos bs (show ¬ x < 0 by omega), pv_pos bs (show ¬ y < 0 by omega)] at *
  have c1 := h.cell y hy0 hy 1 (by decide)
  rw [pv_neg bs hup] at c1
  obtain ⟨o, ho⟩ : ∃ o, pv bs b = .pointer o := ⟨_, rfl⟩
  rw [ho]
  clear ho h hx0 hx hy0 hy hf hup hun
  go_enter Try.func21, Try.ntmps21
  go_wp2_with (go_at_call 25; refine HU.out.mono ?_; rintro e w9 ⟨rfl, hw⟩; rw [hw]; clear hw w9 HU)
  refine bodyPost_ret (results_tmp rfl _ _ _) rfl ?_
  exact ⟨rfl, rfl⟩
set_option maxHeartbeats 4000000 in
set_option maxRecDepth 100000 in
theorem Place_at (W : World) (base : Nat) (bs : List Nat) (F : FF) (h : GW W base bs F) (k : Nat) (x y b : Int) (hx0 : 0 ≤ x) (hx : x < bs.length) (hy0 : 0 ≤ y) (hy : y < bs.length) (hb0 : 0 ≤ b) (hb : b < bs.length) (hf : fin F k x) (hup : F y 1 < 0) (hun : und F k x y = false) (hbx : F b 1 ≠ x) :
    Calls Try.prog 21 #[pv bs x, pv bs y, pv bs b] W fun e w' => e = .returned (.int .i64 18) ∧ w' = W := by
  have HU := Aside0.mk (Under W base bs F h k x y hx hy0 hy hf false hun)
  rw [pv_pos bs (show ¬ x < 0 by omega), pv_pos bs (show ¬ y < 0 by omega)] at *
  rw [pv_pos bs (show ¬ b < 0 by omega)]
  have c1 := h.cell y hy0 hy 1 (by decide)
  rw [pv_neg bs hup] at c1
  have cb := h.cell b hb0 hb 1 (by decide)
  by_cases hn : F b 1 < 0
  · rw [pv_neg bs hn] at cb
    have q1 : (binOp .neq 47 (.pointer none) (.pointer (some ⟨blq bs x, 0, none⟩))).run Try.prog W = .ok (.bool true) W := by
      have h : ∀ d : Nat, (Op.equalIn (d + 1) 47 (.pointer none) (.pointer (some ⟨blq bs x, 0, none⟩))).run Try.prog W = .ok false W := fun d => by simp [Op.equalIn, run_underlying Try.underlying47]
      simp only [binOp]
      simp [Op.equal, Op.maxDepth, h 9999]
    clear h hx0 hx hy0 hy hf hup hun hb0 hb hbx hn
    go_enter Try.func21, Try.ntmps21
    go_wp2_with (go_at_call 25; refine HU.out.mono ?_; rintro e w9 ⟨rfl, hw⟩; rw [hw]; clear hw w9 HU)
    refine bodyPost_ret (results_tmp rfl _ _ _) rfl ?_
    exact ⟨rfl, rfl⟩
  · have q1 := h.neq_other (F b 1) x (by omega) (h.rng b 1 hb0 hb) hx0 hx hbx
    rw [pv_pos bs hn] at cb
    clear h hx0 hx hy0 hy hf hup hun hb0 hb hbx hn
    go_enter Try.func21, Try.ntmps21
    go_wp2_with (go_at_call 25; refine HU.out.mono ?_; rintro e w9 ⟨rfl, hw⟩; rw [hw]; clear hw w9 HU)
    refine bodyPost_ret (results_tmp rfl _ _ _) rfl ?_
    exact ⟨rfl, rfl⟩

/-- The links behind x's being dropped. -/
def drop1 (F : FF) (x : Int) : FF := if F x 4 < 0 then setF F (F x 1) 2 (F x 5) else setF F (F x 4) 5 (F x 5)
def drop2 (F : FF) (x : Int) : FF := if F x 5 < 0 then setF F (F x 1) 3 (F x 4) else setF F (F x 5) 4 (F x 4)
def drop3 (F : FF) (x : Int) : FF := setF (setF (setF F x 1 (-1)) x 4 (-1)) x 5 (-1)
def dropF (F : FF) (x : Int) : FF := drop3 (drop2 (drop1 F x) x) x
theorem Drop_free (W : World) (base : Nat) (bs : List Nat) (F : FF) (h : GW W base bs F) (x : Int) (hx0 : 0 ≤ x) (hx : x < bs.length) (hup : F x 1 < 0) :
    Calls Try.prog 20 #[pv bs x] W fun e w' => e = .returned (.int .i64 16) ∧ w' = W := by
  rw [pv_pos bs (show ¬ x < 0 by omega)]
  have c1 := h.cell x hx0 hx 1 (by decide)
  rw [pv_neg bs hup] at c1
  clear h hx0 hx hup
  go_enter Try.func20, Try.ntmps20
  go_wp2_with fail
  refine bodyPost_ret (results_tmp rfl _ _ _) rfl ?_
  exact ⟨rfl, rfl⟩
set_option maxHeartbeats 4000000 in
set_option maxRecDepth 100000 in
theorem Drop_ok (W0 : World) (base : Nat) (bs : List Nat) (F : FF) (h : GW W0 base bs F) (x : Int) (hx0 : 0 ≤ x) (hx : x < bs.length) (hup : 0 ≤ F x 1) :
    Calls Try.prog 20 #[pv bs x] W0 fun e w' => e = .returned (.int .i64 0) ∧ GW w' base bs (dropF F x) ∧ Kq W0 w' bs := by
  have HG := Aside0.mk h
  have HX := Aside0.mk (And.intro hx0 hx)
  have HUP := Aside0.mk (fun (F1 : FF) (e : drop1 F x = F1) => show ¬ F1 x 1 < 0 from by
    subst e
    unfold drop1
    split <;> (unfold setF; simp; omega))
  rw [pv_pos bs (show ¬ x < 0 by omega)]
  have c1 := h.cell x hx0 hx 1 (by decide)
  obtain ⟨u, hu⟩ : ∃ u, F x 1 = u := ⟨_, rfl⟩
  have HU := Aside0.mk hu
  have hu0 : ¬ u < 0 := by omega
  rw [hu, pv_pos bs hu0] at c1
  by_cases hp : F x 4 < 0
  · have HP := Aside0.mk hp
    have c4 := h.cell x hx0 hx 4 (by decide)
    rw [pv_neg bs hp] at c4
    have HM1 := Aside0.mk (show 0 ≤ u ∧ u < bs.length from ⟨by omega, hu ▸ h.rng x 1 hx0 hx⟩)
    have hmu : pv bs (F x 1) = .pointer (some ⟨blq bs u, 0, none⟩) := by rw [hu, pv_pos bs hu0]
    clear h hx0 hx hup hp hu hu0
    go_enter Try.func20, Try.ntmps20
    obtain ⟨ob1, hob1⟩ : ∃ o, pv bs (F x 5) = .pointer o := ⟨_, rfl⟩
    have ca := HG.out.cell x HX.out.1 HX.out.2 1 (by decide)
    have cb := HG.out.cell x HX.out.1 HX.out.2 5 (by decide)
    rw [hmu] at ca
    rw [hob1] at cb
    obtain ⟨ot1, hot1⟩ : ∃ o, pv bs (F u 2) = .pointer o := ⟨_, rfl⟩
    have ct := HG.out.cell u HM1.out.1 HM1.out.2 2 (by decide)
    rw [hot1] at ct
    have zt := HG.out.frozen u HM1.out.1 HM1.out.2 2
    have HOB1 := Aside0.mk hob1
    clear hob1 hot1
    clear hmu
    go_upto_region 6 with fail
    clear c4 c1
    refine start_ (n := 11) (S := (fun w' => w'.cell? ⟨blq bs x, 1, none⟩ = some (.pointer (some ⟨blq bs u, 0, none⟩)) ∧ w'.cell? ⟨blq bs x, 5, none⟩ = some (.pointer ob1))) (ds := [10]) #[false, false, false, false, false, false, false, false, false, false, false] (by kernel_rfl) rfl rfl ?_ ?_
    · exact ⟨ca, cb⟩
    intro hHeld
    refine pure_ (i := 0) (N := some 17) (v := ?_) (a' := ?_) #[true, false, false, false, false, false, false, false, false, false, false] rfl rfl (by kernel_rfl) (fun _ _ _ h => h) (Or.inl ⟨by rfl, ?_⟩) ?_ ?_
    rotate_left
    · intro w'
      go_simp
      with_reducible rfl
    rotate_left
    · simp only [Act.put, List.setIfInBounds_toArray, List.set_cons_zero, List.set_cons_succ, i64_w, i32_w]
      rfl
    refine pure_ (i := 1) (N := some 18) (v := ?_) (a' := ?_) #[true, true, false, false, false, false, false, false, false, false, false] rfl rfl (by kernel_rfl) (fun _ _ _ h => h) (Or.inl ⟨by rfl, ?_⟩) ?_ ?_
    rotate_left
    · intro w'
      go_simp
      with_reducible rfl
    rotate_left
    · simp only [Act.put, List.setIfInBounds_toArray, List.set_cons_zero, List.set_cons_succ, i64_w, i32_w]
      rfl
    refine pure_ (i := 2) (N := some 19) (v := ?_) (a' := ?_) #[true, true, true, false, false, false, false, false, false, false, false] rfl rfl (by kernel_rfl) (fun _ _ _ h => h) (Or.inl ⟨by rfl, ?_⟩) ?_ ?_
    rotate_left
    · intro w'
      go_simp
      with_reducible rfl
    rotate_left
    · simp only [Act.put, List.setIfInBounds_toArray, List.set_cons_zero, List.set_cons_succ, i64_w, i32_w]
      rfl
    refine pure_ (i := 4) (N := some 21) (v := ?_) (a' := ?_) #[true, true, true, false, true, false, false, false, false, false, false] rfl rfl (by kernel_rfl) (fun _ _ _ h => h) (Or.inl ⟨by rfl, ?_⟩) ?_ ?_
    rotate_left
    · intro w'
      go_simp
      with_reducible rfl
    rotate_left
    · simp only [Act.put, List.setIfInBounds_toArray, List.set_cons_zero, List.set_cons_succ, i64_w, i32_w]
      rfl
    refine pure_ (i := 5) (N := some 22) (v := ?_) (a' := ?_) #[true, true, true, false, true, true, false, false, false, false, false] rfl rfl (by kernel_rfl) (fun _ _ _ h => h) (Or.inl ⟨by rfl, ?_⟩) ?_ ?_
    rotate_left
    · intro w'
      go_simp
      with_reducible rfl
    rotate_left
    · simp only [Act.put, List.setIfInBounds_toArray, List.set_cons_zero, List.set_cons_succ, i64_w, i32_w]
      rfl
    refine pure_ (i := 6) (N := some 23) (v := ?_) (a' := ?_) #[true, true, true, false, true, true, true, false, false, false, false] rfl rfl (by kernel_rfl) (fun _ _ _ h => h) (Or.inl ⟨by rfl, ?_⟩) ?_ ?_
    rotate_left
    · intro w'
      go_simp
      with_reducible rfl
    rotate_left
    · simp only [Act.put, List.setIfInBounds_toArray, List.set_cons_zero, List.set_cons_succ, i64_w, i32_w]
      rfl
    refine take_ (i := 3) (N := some 20) (v := ?_) (a' := ?_) #[true, true, true, true, true, true, true, false, false, false, false] rfl rfl (by kernel_rfl) (fun _ _ _ h => h) (Or.inl ⟨by rfl, ?_⟩) hHeld ?_ ?_
    rotate_left
    · rintro w' ⟨s0, s1⟩
      go_simp
      with_reducible rfl
    rotate_left
    · simp only [Act.put, List.setIfInBounds_toArray, List.set_cons_zero, List.set_cons_succ, i64_w, i32_w]
      rfl
    refine take_ (i := 7) (N := some 24) (v := ?_) (a' := ?_) #[true, true, true, true, true, true, true, true, false, false, false] rfl rfl (by kernel_rfl) (fun _ _ _ h => h) (Or.inl ⟨by rfl, ?_⟩) hHeld ?_ ?_
    rotate_left
    · rintro w' ⟨s0, s1⟩
      go_simp
      with_reducible rfl
    rotate_left
    · simp only [Act.put, List.setIfInBounds_toArray, List.set_cons_zero, List.set_cons_succ, i64_w, i32_w]
      rfl
    refine pure_ (i := 8) (N := some 25) (v := ?_) (a' := ?_) #[true, true, true, true, true, true, true, true, true, false, false] rfl rfl (by kernel_rfl) (fun _ _ _ h => h) (Or.inl ⟨by rfl, ?_⟩) ?_ ?_
    rotate_left
    · intro w'
      go_simp
      with_reducible rfl
    rotate_left
    · simp only [Act.put, List.setIfInBounds_toArray, List.set_cons_zero, List.set_cons_succ, i64_w, i32_w]
      rfl
    refine pure_ (i := 9) (N := some 26) (v := ?_) (a' := ?_) #[true, true, true, true, true, true, true, true, true, true, false] rfl rfl (by kernel_rfl) (fun _ _ _ h => h) (Or.inl ⟨by rfl, ?_⟩) ?_ ?_
    rotate_left
    · intro w'
      go_simp
      with_reducible rfl
    rotate_left
    · simp only [Act.put, List.setIfInBounds_toArray, List.set_cons_zero, List.set_cons_succ, i64_w, i32_w]
      rfl
    refine last_ (i := 10) (N := none) #[true, true, true, true, true, true, true, true, true, true, true] rfl rfl (by kernel_rfl) (by decide) (fun K hK => ?_)
    have ct : W0.drew.cell? ⟨blq bs u, 2, none⟩ = some (.pointer ot1) := ct
    have zt : W0.drew.frozen? ⟨blq bs u, 2, none⟩ = false := zt
    refine skip_ (w1 := W0.drew.setCell ⟨blq bs u, 2, none⟩ (.pointer ob1)) (by rfl) rfl ?_ ?_
    · first | (go_simp; done) | (go_simp; rfl)
    refine hK.out _ _ ?_
    clear hK K
    refine done_ (by kernel_rfl) ?_
    clear ca cb ct zt
    obtain ⟨W1, hW1⟩ : ∃ W1, W0.drew.setCell ⟨blq bs u, 2, none⟩ (.pointer ob1) = W1 := ⟨_, rfl⟩
    rw [hW1]
    have G1 := Aside0.mk (show GW W1 base bs (setF F u 2 (F x 5)) from hW1 ▸ (HG.out.below (Below.refl _ W0).drew).set u HM1.out.1 HM1.out.2 2 (by decide) (F x 5) (HG.out.rng x 5 HX.out.1 HX.out.2) _ HOB1.out)
    have K1 := Aside0.mk (show Kq W0 W1 bs from hW1 ▸ (Kq.of (Below.refl _ W0).drew bs).trans (Kq.set u HM1.out.1 HM1.out.2 2 _))
    clear hW1
    have G1 := Aside0.mk (show GW W1 base bs (drop1 F x) from by
      unfold drop1
      rw [if_pos HP.out, HU.out]
      exact G1.out)
    obtain ⟨F1, hF1⟩ : ∃ F1, drop1 F x = F1 := ⟨_, rfl⟩
    rw [hF1] at G1
    have HF1 := Aside0.mk hF1
    clear hF1
    by_cases hn : F1 x 5 < 0
    · have HNn := Aside0.mk hn
      obtain ⟨u1, hu1⟩ : ∃ u, F1 x 1 = u := ⟨_, rfl⟩
      have HU1 := Aside0.mk hu1
      have hu0 : ¬ u1 < 0 := by rw [← hu1]; exact HUP.out F1 HF1.out
      have HM2 := Aside0.mk (show 0 ≤ u1 ∧ u1 < bs.length from ⟨by omega, hu1 ▸ G1.out.rng x 1 HX.out.1 HX.out.2⟩)
      have hmu : pv bs (F1 x 1) = .pointer (some ⟨blq bs u1, 0, none⟩) := by rw [hu1, pv_pos bs hu0]
      have c5 := G1.out.cell x HX.out.1 HX.out.2 5 (by decide)
      rw [pv_neg bs hn] at c5
      clear hn hu1 hu0
      obtain ⟨ob2, hob2⟩ : ∃ o, pv bs (F1 x 4) = .pointer o := ⟨_, rfl⟩
      have ca := G1.out.cell x HX.out.1 HX.out.2 1 (by decide)
      have cb := G1.out.cell x HX.out.1 HX.out.2 4 (by decide)
      rw [hmu] at ca
      rw [hob2] at cb
      obtain ⟨ot2, hot2⟩ : ∃ o, pv bs (F1 u1 3) = .pointer o := ⟨_, rfl⟩
      have ct := G1.out.cell u1 HM2.out.1 HM2.out.2 3 (by decide)
      rw [hot2] at ct
      have zt := G1.out.frozen u1 HM2.out.1 HM2.out.2 3
      have HOB2 := Aside0.mk hob2
      clear hob2 hot2
      clear hmu
      go_upto_region 9 with fail
      clear c5
      refine start_ (n := 11) (S := (fun w' => w'.cell? ⟨blq bs x, 1, none⟩ = some (.pointer (some ⟨blq bs u1, 0, none⟩)) ∧ w'.cell? ⟨blq bs x, 4, none⟩ = some (.pointer ob2))) (ds := [10]) #[false, false, false, false, false, false, false, false, false, false, false] (by kernel_rfl) rfl rfl ?_ ?_
      · exact ⟨ca, cb⟩
      intro hHeld
      refine pure_ (i := 0) (N := some 42) (v := ?_) (a' := ?_) #[true, false, false, false, false, false, false, false, false, false, false] rfl rfl (by kernel_rfl) (fun _ _ _ h => h) (Or.inl ⟨by rfl, ?_⟩) ?_ ?_
      rotate_left
      · intro w'
        go_simp
        with_reducible rfl
      rotate_left
      · simp only [Act.put, List.setIfInBounds_toArray, List.set_cons_zero, List.set_cons_succ, i64_w, i32_w]
        rfl
      refine pure_ (i := 1) (N := some 43) (v := ?_) (a' := ?_) #[true, true, false, false, false, false, false, false, false, false, false] rfl rfl (by kernel_rfl) (fun _ _ _ h => h) (Or.inl ⟨by rfl, ?_⟩) ?_ ?_
      rotate_left
      · intro w'
        go_simp
        with_reducible rfl
      rotate_left
      · simp only [Act.put, List.setIfInBounds_toArray, List.set_cons_zero, List.set_cons_succ, i64_w, i32_w]
        rfl
      refine pure_ (i := 2) (N := some 44) (v := ?_) (a' := ?_) #[true, true, true, false, false, false, false, false, false, false, false] rfl rfl (by kernel_rfl) (fun _ _ _ h => h) (Or.inl ⟨by rfl, ?_⟩) ?_ ?_
      rotate_left
      · intro w'
        go_simp
        with_reducible rfl
      rotate_left
      · simp only [Act.put, List.setIfInBounds_toArray, List.set_cons_zero, List.set_cons_succ, i64_w, i32_w]
        rfl
      refine pure_ (i := 4) (N := some 46) (v := ?_) (a' := ?_) #[true, true, true, false, true, false, false, false, false, false, false] rfl rfl (by kernel_rfl) (fun _ _ _ h => h) (Or.inl ⟨by rfl, ?_⟩) ?_ ?_
      rotate_left
      · intro w'
        go_simp
        with_reducible rfl
      rotate_left
      · simp only [Act.put, List.setIfInBounds_toArray, List.set_cons_zero, List.set_cons_succ, i64_w, i32_w]
        rfl
      refine pure_ (i := 5) (N := some 47) (v := ?_) (a' := ?_) #[true, true, true, false, true, true, false, false, false, false, false] rfl rfl (by kernel_rfl) (fun _ _ _ h => h) (Or.inl ⟨by rfl, ?_⟩) ?_ ?_
      rotate_left
      · intro w'
        go_simp
        with_reducible rfl
      rotate_left
      · simp only [Act.put, List.setIfInBounds_toArray, List.set_cons_zero, List.set_cons_succ, i64_w, i32_w]
        rfl
      refine pure_ (i := 6) (N := some 48) (v := ?_) (a' := ?_) #[true, true, true, false, true, true, true, false, false, false, false] rfl rfl (by kernel_rfl) (fun _ _ _ h => h) (Or.inl ⟨by rfl, ?_⟩) ?_ ?_
      rotate_left
      · intro w'
        go_simp
        with_reducible rfl
      rotate_left
      · simp only [Act.put, List.setIfInBounds_toArray, List.set_cons_zero, List.set_cons_succ, i64_w, i32_w]
        rfl
      refine take_ (i := 3) (N := some 45) (v := ?_) (a' := ?_) #[true, true, true, true, true, true, true, false, false, false, false] rfl rfl (by kernel_rfl) (fun _ _ _ h => h) (Or.inl ⟨by rfl, ?_⟩) hHeld ?_ ?_
      rotate_left
      · rintro w' ⟨s0, s1⟩
        go_simp
        with_reducible rfl
      rotate_left
      · simp only [Act.put, List.setIfInBounds_toArray, List.set_cons_zero, List.set_cons_succ, i64_w, i32_w]
        rfl
      refine take_ (i := 7) (N := some 49) (v := ?_) (a' := ?_) #[true, true, true, true, true, true, true, true, false, false, false] rfl rfl (by kernel_rfl) (fun _ _ _ h => h) (Or.inl ⟨by rfl, ?_⟩) hHeld ?_ ?_
      rotate_left
      · rintro w' ⟨s0, s1⟩
        go_simp
        with_reducible rfl
      rotate_left
      · simp only [Act.put, List.setIfInBounds_toArray, List.set_cons_zero, List.set_cons_succ, i64_w, i32_w]
        rfl
      refine pure_ (i := 8) (N := some 50) (v := ?_) (a' := ?_) #[true, true, true, true, true, true, true, true, true, false, false] rfl rfl (by kernel_rfl) (fun _ _ _ h => h) (Or.inl ⟨by rfl, ?_⟩) ?_ ?_
      rotate_left
      · intro w'
        go_simp
        with_reducible rfl
      rotate_left
      · simp only [Act.put, List.setIfInBounds_toArray, List.set_cons_zero, List.set_cons_succ, i64_w, i32_w]
        rfl
      refine pure_ (i := 9) (N := some 51) (v := ?_) (a' := ?_) #[true, true, true, true, true, true, true, true, true, true, false] rfl rfl (by kernel_rfl) (fun _ _ _ h => h) (Or.inl ⟨by rfl, ?_⟩) ?_ ?_
      rotate_left
      · intro w'
        go_simp
        with_reducible rfl
      rotate_left
      · simp only [Act.put, List.setIfInBounds_toArray, List.set_cons_zero, List.set_cons_succ, i64_w, i32_w]
        rfl
      refine last_ (i := 10) (N := none) #[true, true, true, true, true, true, true, true, true, true, true] rfl rfl (by kernel_rfl) (by decide) (fun K hK => ?_)
      have ct : W1.drew.cell? ⟨blq bs u1, 3, none⟩ = some (.pointer ot2) := ct
      have zt : W1.drew.frozen? ⟨blq bs u1, 3, none⟩ = false := zt
      refine skip_ (w1 := W1.drew.setCell ⟨blq bs u1, 3, none⟩ (.pointer ob2)) (by rfl) rfl ?_ ?_
      · first | (go_simp; done) | (go_simp; rfl)
      refine hK.out _ _ ?_
      clear hK K
      refine done_ (by kernel_rfl) ?_
      clear ca cb ct zt
      obtain ⟨W2, hW2⟩ : ∃ W2, W1.drew.setCell ⟨blq bs u1, 3, none⟩ (.pointer ob2) = W2 := ⟨_, rfl⟩
      rw [hW2]
      have G2 := Aside0.mk (show GW W2 base bs (setF F1 u1 3 (F1 x 4)) from hW2 ▸ (G1.out.below (Below.refl _ W1).drew).set u1 HM2.out.1 HM2.out.2 3 (by decide) (F1 x 4) (G1.out.rng x 4 HX.out.1 HX.out.2) _ HOB2.out)
      have K2 := Aside0.mk (show Kq W0 W2 bs from hW2 ▸ (K1.out.trans (Kq.of (Below.refl _ W1).drew bs)).trans (Kq.set u1 HM2.out.1 HM2.out.2 3 _))
      clear hW2
      have G2 := Aside0.mk (show GW W2 base bs (drop2 F1 x) from by
        unfold drop2
        rw [if_pos HNn.out, HU1.out]
        exact G2.out)
      obtain ⟨F2, hF2⟩ : ∃ F2, drop2 F1 x = F2 := ⟨_, rfl⟩
      rw [hF2] at G2
      have HF2 := Aside0.mk hF2
      clear hF2
      have d1 := G2.out.cell x HX.out.1 HX.out.2 1 (by decide)
      have d4 := G2.out.cell x HX.out.1 HX.out.2 4 (by decide)
      have d5 := G2.out.cell x HX.out.1 HX.out.2 5 (by decide)
      obtain ⟨e1, he1⟩ : ∃ o, pv bs (F2 x 1) = .pointer o := ⟨_, rfl⟩
      obtain ⟨e4, he4⟩ : ∃ o, pv bs (F2 x 4) = .pointer o := ⟨_, rfl⟩
      obtain ⟨e5, he5⟩ : ∃ o, pv bs (F2 x 5) = .pointer o := ⟨_, rfl⟩
      rw [he1] at d1
      rw [he4] at d4
      rw [he5] at d5
      have f1 := G2.out.frozen x HX.out.1 HX.out.2 1
      have f4 := G2.out.frozen x HX.out.1 HX.out.2 4
      have f5 := G2.out.frozen x HX.out.1 HX.out.2 5
      have N := Aside0.mk (pv_neg bs (show (-1 : Int) < 0 by decide))
      have NL := Aside0.mk (show (-1 : Int) < bs.length by omega)
      clear he1 he4 he5
      go_wp2_with fail
      refine bodyPost_ret (results_tmp rfl _ _ _) rfl ?_
      refine ⟨rfl, ?_, ((K2.out.trans (Kq.set x HX.out.1 HX.out.2 1 _)).trans (Kq.set x HX.out.1 HX.out.2 4 _)).trans (Kq.set x HX.out.1 HX.out.2 5 _)⟩
      have e : dropF F x = drop3 F2 x := by
        unfold dropF
        rw [HF1.out, HF2.out]
      rw [e]
      exact ((G2.out.set x HX.out.1 HX.out.2 1 (by decide) (-1) NL.out _ N.out).set x HX.out.1 HX.out.2 4 (by decide) (-1) NL.out _ N.out).set x HX.out.1 HX.out.2 5 (by decide) (-1) NL.out _ N.out
    · have HNn := Aside0.mk hn
      obtain ⟨u1, hu1⟩ : ∃ u, F1 x 5 = u := ⟨_, rfl⟩
      have HU1 := Aside0.mk hu1
      have hu0 : ¬ u1 < 0 := by rw [← hu1]; exact hn
      have HM2 := Aside0.mk (show 0 ≤ u1 ∧ u1 < bs.length from ⟨by omega, hu1 ▸ G1.out.rng x 5 HX.out.1 HX.out.2⟩)
      have hmu : pv bs (F1 x 5) = .pointer (some ⟨blq bs u1, 0, none⟩) := by rw [hu1, pv_pos bs hu0]
      clear hn hu1 hu0
      obtain ⟨ob2, hob2⟩ : ∃ o, pv bs (F1 x 4) = .pointer o := ⟨_, rfl⟩
      have ca := G1.out.cell x HX.out.1 HX.out.2 5 (by decide)
      have cb := G1.out.cell x HX.out.1 HX.out.2 4 (by decide)
      rw [hmu] at ca
      rw [hob2] at cb
      obtain ⟨ot2, hot2⟩ : ∃ o, pv bs (F1 u1 4) = .pointer o := ⟨_, rfl⟩
      have ct := G1.out.cell u1 HM2.out.1 HM2.out.2 4 (by decide)
      rw [hot2] at ct
      have zt := G1.out.frozen u1 HM2.out.1 HM2.out.2 4
      have HOB2 := Aside0.mk hob2
      clear hob2 hot2
      clear hmu
      go_upto_region 10 with fail
      refine start_ (n := 11) (S := (fun w' => w'.cell? ⟨blq bs x, 5, none⟩ = some (.pointer (some ⟨blq bs u1, 0, none⟩)) ∧ w'.cell? ⟨blq bs x, 4, none⟩ = some (.pointer ob2))) (ds := [10]) #[false, false, false, false, false, false, false, false, false, false, false] (by kernel_rfl) rfl rfl ?_ ?_
      · exact ⟨ca, cb⟩
      intro hHeld
      refine pure_ (i := 0) (N := some 52) (v := ?_) (a' := ?_) #[true, false, false, false, false, false, false, false, false, false, false] rfl rfl (by kernel_rfl) (fun _ _ _ h => h) (Or.inl ⟨by rfl, ?_⟩) ?_ ?_
      rotate_left
      · intro w'
        go_simp
        with_reducible rfl
      rotate_left
      · simp only [Act.put, List.setIfInBounds_toArray, List.set_cons_zero, List.set_cons_succ, i64_w, i32_w]
        rfl
      refine pure_ (i := 1) (N := some 53) (v := ?_) (a' := ?_) #[true, true, false, false, false, false, false, false, false, false, false] rfl rfl (by kernel_rfl) (fun _ _ _ h => h) (Or.inl ⟨by rfl, ?_⟩) ?_ ?_
      rotate_left
      · intro w'
        go_simp
        with_reducible rfl
      rotate_left
      · simp only [Act.put, List.setIfInBounds_toArray, List.set_cons_zero, List.set_cons_succ, i64_w, i32_w]
        rfl
      refine pure_ (i := 2) (N := some 54) (v := ?_) (a' := ?_) #[true, true, true, false, false, false, false, false, false, false, false] rfl rfl (by kernel_rfl) (fun _ _ _ h => h) (Or.inl ⟨by rfl, ?_⟩) ?_ ?_
      rotate_left
      · intro w'
        go_simp
        with_reducible rfl
      rotate_left
      · simp only [Act.put, List.setIfInBounds_toArray, List.set_cons_zero, List.set_cons_succ, i64_w, i32_w]
        rfl
      refine pure_ (i := 4) (N := some 56) (v := ?_) (a' := ?_) #[true, true, true, false, true, false, false, false, false, false, false] rfl rfl (by kernel_rfl) (fun _ _ _ h => h) (Or.inl ⟨by rfl, ?_⟩) ?_ ?_
      rotate_left
      · intro w'
        go_simp
        with_reducible rfl
      rotate_left
      · simp only [Act.put, List.setIfInBounds_toArray, List.set_cons_zero, List.set_cons_succ, i64_w, i32_w]
        rfl
      refine pure_ (i := 5) (N := some 57) (v := ?_) (a' := ?_) #[true, true, true, false, true, true, false, false, false, false, false] rfl rfl (by kernel_rfl) (fun _ _ _ h => h) (Or.inl ⟨by rfl, ?_⟩) ?_ ?_
      rotate_left
      · intro w'
        go_simp
        with_reducible rfl
      rotate_left
      · simp only [Act.put, List.setIfInBounds_toArray, List.set_cons_zero, List.set_cons_succ, i64_w, i32_w]
        rfl
      refine pure_ (i := 6) (N := some 58) (v := ?_) (a' := ?_) #[true, true, true, false, true, true, true, false, false, false, false] rfl rfl (by kernel_rfl) (fun _ _ _ h => h) (Or.inl ⟨by rfl, ?_⟩) ?_ ?_
      rotate_left
      · intro w'
        go_simp
        with_reducible rfl
      rotate_left
      · simp only [Act.put, List.setIfInBounds_toArray, List.set_cons_zero, List.set_cons_succ, i64_w, i32_w]
        rfl
      refine take_ (i := 3) (N := some 55) (v := ?_) (a' := ?_) #[true, true, true, true, true, true, true, false, false, false, false] rfl rfl (by kernel_rfl) (fun _ _ _ h => h) (Or.inl ⟨by rfl, ?_⟩) hHeld ?_ ?_
      rotate_left
      · rintro w' ⟨s0, s1⟩
        go_simp
        with_reducible rfl
      rotate_left
      · simp only [Act.put, List.setIfInBounds_toArray, List.set_cons_zero, List.set_cons_succ, i64_w, i32_w]
        rfl
      refine take_ (i := 7) (N := some 59) (v := ?_) (a' := ?_) #[true, true, true, true, true, true, true, true, false, false, false] rfl rfl (by kernel_rfl) (fun _ _ _ h => h) (Or.inl ⟨by rfl, ?_⟩) hHeld ?_ ?_
      rotate_left
      · rintro w' ⟨s0, s1⟩
        go_simp
        with_reducible rfl
      rotate_left
      · simp only [Act.put, List.setIfInBounds_toArray, List.set_cons_zero, List.set_cons_succ, i64_w, i32_w]
        rfl
      refine pure_ (i := 8) (N := some 60) (v := ?_) (a' := ?_) #[true, true, true, true, true, true, true, true, true, false, false] rfl rfl (by kernel_rfl) (fun _ _ _ h => h) (Or.inl ⟨by rfl, ?_⟩) ?_ ?_
      rotate_left
      · intro w'
        go_simp
        with_reducible rfl
      rotate_left
      · simp only [Act.put, List.setIfInBounds_toArray, List.set_cons_zero, List.set_cons_succ, i64_w, i32_w]
        rfl
      refine pure_ (i := 9) (N := some 61) (v := ?_) (a' := ?_) #[true, true, true, true, true, true, true, true, true, true, false] rfl rfl (by kernel_rfl) (fun _ _ _ h => h) (Or.inl ⟨by rfl, ?_⟩) ?_ ?_
      rotate_left
      · intro w'
        go_simp
        with_reducible rfl
      rotate_left
      · simp only [Act.put, List.setIfInBounds_toArray, List.set_cons_zero, List.set_cons_succ, i64_w, i32_w]
        rfl
      refine last_ (i := 10) (N := none) #[true, true, true, true, true, true, true, true, true, true, true] rfl rfl (by kernel_rfl) (by decide) (fun K hK => ?_)
      have ct : W1.drew.cell? ⟨blq bs u1, 4, none⟩ = some (.pointer ot2) := ct
      have zt : W1.drew.frozen? ⟨blq bs u1, 4, none⟩ = false := zt
      refine skip_ (w1 := W1.drew.setCell ⟨blq bs u1, 4, none⟩ (.pointer ob2)) (by rfl) rfl ?_ ?_
      · first | (go_simp; done) | (go_simp; rfl)
      refine hK.out _ _ ?_
      clear hK K
      refine done_ (by kernel_rfl) ?_
      clear ca cb ct zt
      obtain ⟨W2, hW2⟩ : ∃ W2, W1.drew.setCell ⟨blq bs u1, 4, none⟩ (.pointer ob2) = W2 := ⟨_, rfl⟩
      rw [hW2]
      have G2 := Aside0.mk (show GW W2 base bs (setF F1 u1 4 (F1 x 4)) from hW2 ▸ (G1.out.below (Below.refl _ W1).drew).set u1 HM2.out.1 HM2.out.2 4 (by decide) (F1 x 4) (G1.out.rng x 4 HX.out.1 HX.out.2) _ HOB2.out)
      have K2 := Aside0.mk (show Kq W0 W2 bs from hW2 ▸ (K1.out.trans (Kq.of (Below.refl _ W1).drew bs)).trans (Kq.set u1 HM2.out.1 HM2.out.2 4 _))
      clear hW2
      have G2 := Aside0.mk (show GW W2 base bs (drop2 F1 x) from by
        unfold drop2
        rw [if_neg (by have := HNn.out; omega), HU1.out]
        exact G2.out)
      obtain ⟨F2, hF2⟩ : ∃ F2, drop2 F1 x = F2 := ⟨_, rfl⟩
      rw [hF2] at G2
      have HF2 := Aside0.mk hF2
      clear hF2
      have d1 := G2.out.cell x HX.out.1 HX.out.2 1 (by decide)
      have d4 := G2.out.cell x HX.out.1 HX.out.2 4 (by decide)
      have d5 := G2.out.cell x HX.out.1 HX.out.2 5 (by decide)
      obtain ⟨e1, he1⟩ : ∃ o, pv bs (F2 x 1) = .pointer o := ⟨_, rfl⟩
      obtain ⟨e4, he4⟩ : ∃ o, pv bs (F2 x 4) = .pointer o := ⟨_, rfl⟩
      obtain ⟨e5, he5⟩ : ∃ o, pv bs (F2 x 5) = .pointer o := ⟨_, rfl⟩
      rw [he1] at d1
      rw [he4] at d4
      rw [he5] at d5
      have f1 := G2.out.frozen x HX.out.1 HX.out.2 1
      have f4 := G2.out.frozen x HX.out.1 HX.out.2 4
      have f5 := G2.out.frozen x HX.out.1 HX.out.2 5
      have N := Aside0.mk (pv_neg bs (show (-1 : Int) < 0 by decide))
      have NL := Aside0.mk (show (-1 : Int) < bs.length by omega)
      clear he1 he4 he5
      go_wp2_with fail
      refine bodyPost_ret (results_tmp rfl _ _ _) rfl ?_
      refine ⟨rfl, ?_, ((K2.out.trans (Kq.set x HX.out.1 HX.out.2 1 _)).trans (Kq.set x HX.out.1 HX.out.2 4 _)).trans (Kq.set x HX.out.1 HX.out.2 5 _)⟩
      have e : dropF F x = drop3 F2 x := by
        unfold dropF
        rw [HF1.out, HF2.out]
      rw [e]
      exact ((G2.out.set x HX.out.1 HX.out.2 1 (by decide) (-1) NL.out _ N.out).set x HX.out.1 HX.out.2 4 (by decide) (-1) NL.out _ N.out).set x HX.out.1 HX.out.2 5 (by decide) (-1) NL.out _ N.out
  · have HP := Aside0.mk hp
    obtain ⟨q, hq⟩ : ∃ q, F x 4 = q := ⟨_, rfl⟩
    have HQ := Aside0.mk hq
    have hq0 : ¬ q < 0 := by omega
    have HM1 := Aside0.mk (show 0 ≤ q ∧ q < bs.length from ⟨by omega, hq ▸ h.rng x 4 hx0 hx⟩)
    have hmu : pv bs (F x 4) = .pointer (some ⟨blq bs q, 0, none⟩) := by rw [hq, pv_pos bs hq0]
    clear h hx0 hx hup hp hu hu0 hq hq0
    go_enter Try.func20, Try.ntmps20
    obtain ⟨ob1, hob1⟩ : ∃ o, pv bs (F x 5) = .pointer o := ⟨_, rfl⟩
    have ca := HG.out.cell x HX.out.1 HX.out.2 4 (by decide)
    have cb := HG.out.cell x HX.out.1 HX.out.2 5 (by decide)
    rw [hmu] at ca
    rw [hob1] at cb
    obtain ⟨ot1, hot1⟩ : ∃ o, pv bs (F q 5) = .pointer o := ⟨_, rfl⟩
    have ct := HG.out.cell q HM1.out.1 HM1.out.2 5 (by decide)
    rw [hot1] at ct
    have zt := HG.out.frozen q HM1.out.1 HM1.out.2 5
    have HOB1 := Aside0.mk hob1
    clear hob1 hot1
    clear hmu
    go_upto_region 7 with fail
    clear c1
    refine start_ (n := 11) (S := (fun w' => w'.cell? ⟨blq bs x, 4, none⟩ = some (.pointer (some ⟨blq bs q, 0, none⟩)) ∧ w'.cell? ⟨blq bs x, 5, none⟩ = some (.pointer ob1))) (ds := [10]) #[false, false, false, false, false, false, false, false, false, false, false] (by kernel_rfl) rfl rfl ?_ ?_
    · exact ⟨ca, cb⟩
    intro hHeld
    refine pure_ (i := 0) (N := some 27) (v := ?_) (a' := ?_) #[true, false, false, false, false, false, false, false, false, false, false] rfl rfl (by kernel_rfl) (fun _ _ _ h => h) (Or.inl ⟨by rfl, ?_⟩) ?_ ?_
    rotate_left
    · intro w'
      go_simp
      with_reducible rfl
    rotate_left
    · simp only [Act.put, List.setIfInBounds_toArray, List.set_cons_zero, List.set_cons_succ, i64_w, i32_w]
      rfl
    refine pure_ (i := 1) (N := some 28) (v := ?_) (a' := ?_) #[true, true, false, false, false, false, false, false, false, false, false] rfl rfl (by kernel_rfl) (fun _ _ _ h => h) (Or.inl ⟨by rfl, ?_⟩) ?_ ?_
    rotate_left
    · intro w'
      go_simp
      with_reducible rfl
    rotate_left
    · simp only [Act.put, List.setIfInBounds_toArray, List.set_cons_zero, List.set_cons_succ, i64_w, i32_w]
      rfl
    refine pure_ (i := 2) (N := some 29) (v := ?_) (a' := ?_) #[true, true, true, false, false, false, false, false, false, false, false] rfl rfl (by kernel_rfl) (fun _ _ _ h => h) (Or.inl ⟨by rfl, ?_⟩) ?_ ?_
    rotate_left
    · intro w'
      go_simp
      with_reducible rfl
    rotate_left
    · simp only [Act.put, List.setIfInBounds_toArray, List.set_cons_zero, List.set_cons_succ, i64_w, i32_w]
      rfl
    refine pure_ (i := 4) (N := some 31) (v := ?_) (a' := ?_) #[true, true, true, false, true, false, false, false, false, false, false] rfl rfl (by kernel_rfl) (fun _ _ _ h => h) (Or.inl ⟨by rfl, ?_⟩) ?_ ?_
    rotate_left
    · intro w'
      go_simp
      with_reducible rfl
    rotate_left
    · simp only [Act.put, List.setIfInBounds_toArray, List.set_cons_zero, List.set_cons_succ, i64_w, i32_w]
      rfl
    refine pure_ (i := 5) (N := some 32) (v := ?_) (a' := ?_) #[true, true, true, false, true, true, false, false, false, false, false] rfl rfl (by kernel_rfl) (fun _ _ _ h => h) (Or.inl ⟨by rfl, ?_⟩) ?_ ?_
    rotate_left
    · intro w'
      go_simp
      with_reducible rfl
    rotate_left
    · simp only [Act.put, List.setIfInBounds_toArray, List.set_cons_zero, List.set_cons_succ, i64_w, i32_w]
      rfl
    refine pure_ (i := 6) (N := some 33) (v := ?_) (a' := ?_) #[true, true, true, false, true, true, true, false, false, false, false] rfl rfl (by kernel_rfl) (fun _ _ _ h => h) (Or.inl ⟨by rfl, ?_⟩) ?_ ?_
    rotate_left
    · intro w'
      go_simp
      with_reducible rfl
    rotate_left
    · simp only [Act.put, List.setIfInBounds_toArray, List.set_cons_zero, List.set_cons_succ, i64_w, i32_w]
      rfl
    refine take_ (i := 3) (N := some 30) (v := ?_) (a' := ?_) #[true, true, true, true, true, true, true, false, false, false, false] rfl rfl (by kernel_rfl) (fun _ _ _ h => h) (Or.inl ⟨by rfl, ?_⟩) hHeld ?_ ?_
    rotate_left
    · rintro w' ⟨s0, s1⟩
      go_simp
      with_reducible rfl
    rotate_left
    · simp only [Act.put, List.setIfInBounds_toArray, List.set_cons_zero, List.set_cons_succ, i64_w, i32_w]
      rfl
    refine take_ (i := 7) (N := some 34) (v := ?_) (a' := ?_) #[true, true, true, true, true, true, true, true, false, false, false] rfl rfl (by kernel_rfl) (fun _ _ _ h => h) (Or.inl ⟨by rfl, ?_⟩) hHeld ?_ ?_
    rotate_left
    · rintro w' ⟨s0, s1⟩
      go_simp
      with_reducible rfl
    rotate_left
    · simp only [Act.put, List.setIfInBounds_toArray, List.set_cons_zero, List.set_cons_succ, i64_w, i32_w]
      rfl
    refine pure_ (i := 8) (N := some 35) (v := ?_) (a' := ?_) #[true, true, true, true, true, true, true, true, true, false, false] rfl rfl (by kernel_rfl) (fun _ _ _ h => h) (Or.inl ⟨by rfl, ?_⟩) ?_ ?_
    rotate_left
    · intro w'
      go_simp
      with_reducible rfl
    rotate_left
    · simp only [Act.put, List.setIfInBounds_toArray, List.set_cons_zero, List.set_cons_succ, i64_w, i32_w]
      rfl
    refine pure_ (i := 9) (N := some 36) (v := ?_) (a' := ?_) #[true, true, true, true, true, true, true, true, true, true, false] rfl rfl (by kernel_rfl) (fun _ _ _ h => h) (Or.inl ⟨by rfl, ?_⟩) ?_ ?_
    rotate_left
    · intro w'
      go_simp
      with_reducible rfl
    rotate_left
    · simp only [Act.put, List.setIfInBounds_toArray, List.set_cons_zero, List.set_cons_succ, i64_w, i32_w]
      rfl
    refine last_ (i := 10) (N := none) #[true, true, true, true, true, true, true, true, true, true, true] rfl rfl (by kernel_rfl) (by decide) (fun K hK => ?_)
    have ct : W0.drew.cell? ⟨blq bs q, 5, none⟩ = some (.pointer ot1) := ct
    have zt : W0.drew.frozen? ⟨blq bs q, 5, none⟩ = false := zt
    refine skip_ (w1 := W0.drew.setCell ⟨blq bs q, 5, none⟩ (.pointer ob1)) (by rfl) rfl ?_ ?_
    · first | (go_simp; done) | (go_simp; rfl)
    refine hK.out _ _ ?_
    clear hK K
    refine done_ (by kernel_rfl) ?_
    clear ca cb ct zt
    obtain ⟨W1, hW1⟩ : ∃ W1, W0.drew.setCell ⟨blq bs q, 5, none⟩ (.pointer ob1) = W1 := ⟨_, rfl⟩
    rw [hW1]
    have G1 := Aside0.mk (show GW W1 base bs (setF F q 5 (F x 5)) from hW1 ▸ (HG.out.below (Below.refl _ W0).drew).set q HM1.out.1 HM1.out.2 5 (by decide) (F x 5) (HG.out.rng x 5 HX.out.1 HX.out.2) _ HOB1.out)
    have K1 := Aside0.mk (show Kq W0 W1 bs from hW1 ▸ (Kq.of (Below.refl _ W0).drew bs).trans (Kq.set q HM1.out.1 HM1.out.2 5 _))
    clear hW1
    have G1 := Aside0.mk (show GW W1 base bs (drop1 F x) from by
      unfold drop1
      rw [if_neg (by have := HP.out; omega), HQ.out]
      exact G1.out)
    obtain ⟨F1, hF1⟩ : ∃ F1, drop1 F x = F1 := ⟨_, rfl⟩
    rw [hF1] at G1
    have HF1 := Aside0.mk hF1
    clear hF1
    by_cases hn : F1 x 5 < 0
    · have HNn := Aside0.mk hn
      obtain ⟨u1, hu1⟩ : ∃ u, F1 x 1 = u := ⟨_, rfl⟩
      have HU1 := Aside0.mk hu1
      have hu0 : ¬ u1 < 0 := by rw [← hu1]; exact HUP.out F1 HF1.out
      have HM2 := Aside0.mk (show 0 ≤ u1 ∧ u1 < bs.length from ⟨by omega, hu1 ▸ G1.out.rng x 1 HX.out.1 HX.out.2⟩)
      have hmu : pv bs (F1 x 1) = .pointer (some ⟨blq bs u1, 0, none⟩) := by rw [hu1, pv_pos bs hu0]
      have c5 := G1.out.cell x HX.out.1 HX.out.2 5 (by decide)
      rw [pv_neg bs hn] at c5
      clear hn hu1 hu0
      obtain ⟨ob2, hob2⟩ : ∃ o, pv bs (F1 x 4) = .pointer o := ⟨_, rfl⟩
      have ca := G1.out.cell x HX.out.1 HX.out.2 1 (by decide)
      have cb := G1.out.cell x HX.out.1 HX.out.2 4 (by decide)
      rw [hmu] at ca
      rw [hob2] at cb
      obtain ⟨ot2, hot2⟩ : ∃ o, pv bs (F1 u1 3) = .pointer o := ⟨_, rfl⟩
      have ct := G1.out.cell u1 HM2.out.1 HM2.out.2 3 (by decide)
      rw [hot2] at ct
      have zt := G1.out.frozen u1 HM2.out.1 HM2.out.2 3
      have HOB2 := Aside0.mk hob2
      clear hob2 hot2
      clear hmu
      go_upto_region 9 with fail
      clear c5
      refine start_ (n := 11) (S := (fun w' => w'.cell? ⟨blq bs x, 1, none⟩ = some (.pointer (some ⟨blq bs u1, 0, none⟩)) ∧ w'.cell? ⟨blq bs x, 4, none⟩ = some (.pointer ob2))) (ds := [10]) #[false, false, false, false, false, false, false, false, false, false, false] (by kernel_rfl) rfl rfl ?_ ?_
      · exact ⟨ca, cb⟩
      intro hHeld
      refine pure_ (i := 0) (N := some 42) (v := ?_) (a' := ?_) #[true, false, false, false, false, false, false, false, false, false, false] rfl rfl (by kernel_rfl) (fun _ _ _ h => h) (Or.inl ⟨by rfl, ?_⟩) ?_ ?_
      rotate_left
      · intro w'
        go_simp
        with_reducible rfl
      rotate_left
      · simp only [Act.put, List.setIfInBounds_toArray, List.set_cons_zero, List.set_cons_succ, i64_w, i32_w]
        rfl
      refine pure_ (i := 1) (N := some 43) (v := ?_) (a' := ?_) #[true, true, false, false, false, false, false, false, false, false, false] rfl rfl (by kernel_rfl) (fun _ _ _ h => h) (Or.inl ⟨by rfl, ?_⟩) ?_ ?_
      rotate_left
      · intro w'
        go_simp
        with_reducible rfl
      rotate_left
      · simp only [Act.put, List.setIfInBounds_toArray, List.set_cons_zero, List.set_cons_succ, i64_w, i32_w]
        rfl
      refine pure_ (i := 2) (N := some 44) (v := ?_) (a' := ?_) #[true, true, true, false, false, false, false, false, false, false, false] rfl rfl (by kernel_rfl) (fun _ _ _ h => h) (Or.inl ⟨by rfl, ?_⟩) ?_ ?_
      rotate_left
      · intro w'
        go_simp
        with_reducible rfl
      rotate_left
      · simp only [Act.put, List.setIfInBounds_toArray, List.set_cons_zero, List.set_cons_succ, i64_w, i32_w]
        rfl
      refine pure_ (i := 4) (N := some 46) (v := ?_) (a' := ?_) #[true, true, true, false, true, false, false, false, false, false, false] rfl rfl (by kernel_rfl) (fun _ _ _ h => h) (Or.inl ⟨by rfl, ?_⟩) ?_ ?_
      rotate_left
      · intro w'
        go_simp
        with_reducible rfl
      rotate_left
      · simp only [Act.put, List.setIfInBounds_toArray, List.set_cons_zero, List.set_cons_succ, i64_w, i32_w]
        rfl
      refine pure_ (i := 5) (N := some 47) (v := ?_) (a' := ?_) #[true, true, true, false, true, true, false, false, false, false, false] rfl rfl (by kernel_rfl) (fun _ _ _ h => h) (Or.inl ⟨by rfl, ?_⟩) ?_ ?_
      rotate_left
      · intro w'
        go_simp
        with_reducible rfl
      rotate_left
      · simp only [Act.put, List.setIfInBounds_toArray, List.set_cons_zero, List.set_cons_succ, i64_w, i32_w]
        rfl
      refine pure_ (i := 6) (N := some 48) (v := ?_) (a' := ?_) #[true, true, true, false, true, true, true, false, false, false, false] rfl rfl (by kernel_rfl) (fun _ _ _ h => h) (Or.inl ⟨by rfl, ?_⟩) ?_ ?_
      rotate_left
      · intro w'
        go_simp
        with_reducible rfl
      rotate_left
      · simp only [Act.put, List.setIfInBounds_toArray, List.set_cons_zero, List.set_cons_succ, i64_w, i32_w]
        rfl
      refine take_ (i := 3) (N := some 45) (v := ?_) (a' := ?_) #[true, true, true, true, true, true, true, false, false, false, false] rfl rfl (by kernel_rfl) (fun _ _ _ h => h) (Or.inl ⟨by rfl, ?_⟩) hHeld ?_ ?_
      rotate_left
      · rintro w' ⟨s0, s1⟩
        go_simp
        with_reducible rfl
      rotate_left
      · simp only [Act.put, List.setIfInBounds_toArray, List.set_cons_zero, List.set_cons_succ, i64_w, i32_w]
        rfl
      refine take_ (i := 7) (N := some 49) (v := ?_) (a' := ?_) #[true, true, true, true, true, true, true, true, false, false, false] rfl rfl (by kernel_rfl) (fun _ _ _ h => h) (Or.inl ⟨by rfl, ?_⟩) hHeld ?_ ?_
      rotate_left
      · rintro w' ⟨s0, s1⟩
        go_simp
        with_reducible rfl
      rotate_left
      · simp only [Act.put, List.setIfInBounds_toArray, List.set_cons_zero, List.set_cons_succ, i64_w, i32_w]
        rfl
      refine pure_ (i := 8) (N := some 50) (v := ?_) (a' := ?_) #[true, true, true, true, true, true, true, true, true, false, false] rfl rfl (by kernel_rfl) (fun _ _ _ h => h) (Or.inl ⟨by rfl, ?_⟩) ?_ ?_
      rotate_left
      · intro w'
        go_simp
        with_reducible rfl
      rotate_left
      · simp only [Act.put, List.setIfInBounds_toArray, List.set_cons_zero, List.set_cons_succ, i64_w, i32_w]
        rfl
      refine pure_ (i := 9) (N := some 51) (v := ?_) (a' := ?_) #[true, true, true, true, true, true, true, true, true, true, false] rfl rfl (by kernel_rfl) (fun _ _ _ h => h) (Or.inl ⟨by rfl, ?_⟩) ?_ ?_
      rotate_left
      · intro w'
        go_simp
        with_reducible rfl
      rotate_left
      · simp only [Act.put, List.setIfInBounds_toArray, List.set_cons_zero, List.set_cons_succ, i64_w, i32_w]
        rfl
      refine last_ (i := 10) (N := none) #[true, true, true, true, true, true, true, true, true, true, true] rfl rfl (by kernel_rfl) (by decide) (fun K hK => ?_)
      have ct : W1.drew.cell? ⟨blq bs u1, 3, none⟩ = some (.pointer ot2) := ct
      have zt : W1.drew.frozen? ⟨blq bs u1, 3, none⟩ = false := zt
      refine skip_ (w1 := W1.drew.setCell ⟨blq bs u1, 3, none⟩ (.pointer ob2)) (by rfl) rfl ?_ ?_
      · first | (go_simp; done) | (go_simp; rfl)
      refine hK.out _ _ ?_
      clear hK K
      refine done_ (by kernel_rfl) ?_
      clear ca cb ct zt
      obtain ⟨W2, hW2⟩ : ∃ W2, W1.drew.setCell ⟨blq bs u1, 3, none⟩ (.pointer ob2) = W2 := ⟨_, rfl⟩
      rw [hW2]
      have G2 := Aside0.mk (show GW W2 base bs (setF F1 u1 3 (F1 x 4)) from hW2 ▸ (G1.out.below (Below.refl _ W1).drew).set u1 HM2.out.1 HM2.out.2 3 (by decide) (F1 x 4) (G1.out.rng x 4 HX.out.1 HX.out.2) _ HOB2.out)
      have K2 := Aside0.mk (show Kq W0 W2 bs from hW2 ▸ (K1.out.trans (Kq.of (Below.refl _ W1).drew bs)).trans (Kq.set u1 HM2.out.1 HM2.out.2 3 _))
      clear hW2
      have G2 := Aside0.mk (show GW W2 base bs (drop2 F1 x) from by
        unfold drop2
        rw [if_pos HNn.out, HU1.out]
        exact G2.out)
      obtain ⟨F2, hF2⟩ : ∃ F2, drop2 F1 x = F2 := ⟨_, rfl⟩
      rw [hF2] at G2
      have HF2 := Aside0.mk hF2
      clear hF2
      have d1 := G2.out.cell x HX.out.1 HX.out.2 1 (by decide)
      have d4 := G2.out.cell x HX.out.1 HX.out.2 4 (by decide)
      have d5 := G2.out.cell x HX.out.1 HX.out.2 5 (by decide)
      obtain ⟨e1, he1⟩ : ∃ o, pv bs (F2 x 1) = .pointer o := ⟨_, rfl⟩
      obtain ⟨e4, he4⟩ : ∃ o, pv bs (F2 x 4) = .pointer o := ⟨_, rfl⟩
      obtain ⟨e5, he5⟩ : ∃ o, pv bs (F2 x 5) = .pointer o := ⟨_, rfl⟩
      rw [he1] at d1
      rw [he4] at d4
      rw [he5] at d5
      have f1 := G2.out.frozen x HX.out.1 HX.out.2 1
      have f4 := G2.out.frozen x HX.out.1 HX.out.2 4
      have f5 := G2.out.frozen x HX.out.1 HX.out.2 5
      have N := Aside0.mk (pv_neg bs (show (-1 : Int) < 0 by decide))
      have NL := Aside0.mk (show (-1 : Int) < bs.length by omega)
      clear he1 he4 he5
      go_wp2_with fail
      refine bodyPost_ret (results_tmp rfl _ _ _) rfl ?_
      refine ⟨rfl, ?_, ((K2.out.trans (Kq.set x HX.out.1 HX.out.2 1 _)).trans (Kq.set x HX.out.1 HX.out.2 4 _)).trans (Kq.set x HX.out.1 HX.out.2 5 _)⟩
      have e : dropF F x = drop3 F2 x := by
        unfold dropF
        rw [HF1.out, HF2.out]
      rw [e]
      exact ((G2.out.set x HX.out.1 HX.out.2 1 (by decide) (-1) NL.out _ N.out).set x HX.out.1 HX.out.2 4 (by decide) (-1) NL.out _ N.out).set x HX.out.1 HX.out.2 5 (by decide) (-1) NL.out _ N.out
    · have HNn := Aside0.mk hn
      obtain ⟨u1, hu1⟩ : ∃ u, F1 x 5 = u := ⟨_, rfl⟩
      have HU1 := Aside0.mk hu1
      have hu0 : ¬ u1 < 0 := by rw [← hu1]; exact hn
      have HM2 := Aside0.mk (show 0 ≤ u1 ∧ u1 < bs.length from ⟨by omega, hu1 ▸ G1.out.rng x 5 HX.out.1 HX.out.2⟩)
      have hmu : pv bs (F1 x 5) = .pointer (some ⟨blq bs u1, 0, none⟩) := by rw [hu1, pv_pos bs hu0]
      clear hn hu1 hu0
      obtain ⟨ob2, hob2⟩ : ∃ o, pv bs (F1 x 4) = .pointer o := ⟨_, rfl⟩
      have ca := G1.out.cell x HX.out.1 HX.out.2 5 (by decide)
      have cb := G1.out.cell x HX.out.1 HX.out.2 4 (by decide)
      rw [hmu] at ca
      rw [hob2] at cb
      obtain ⟨ot2, hot2⟩ : ∃ o, pv bs (F1 u1 4) = .pointer o := ⟨_, rfl⟩
      have ct := G1.out.cell u1 HM2.out.1 HM2.out.2 4 (by decide)
      rw [hot2] at ct
      have zt := G1.out.frozen u1 HM2.out.1 HM2.out.2 4
      have HOB2 := Aside0.mk hob2
      clear hob2 hot2
      clear hmu
      go_upto_region 10 with fail
      refine start_ (n := 11) (S := (fun w' => w'.cell? ⟨blq bs x, 5, none⟩ = some (.pointer (some ⟨blq bs u1, 0, none⟩)) ∧ w'.cell? ⟨blq bs x, 4, none⟩ = some (.pointer ob2))) (ds := [10]) #[false, false, false, false, false, false, false, false, false, false, false] (by kernel_rfl) rfl rfl ?_ ?_
      · exact ⟨ca, cb⟩
      intro hHeld
      refine pure_ (i := 0) (N := some 52) (v := ?_) (a' := ?_) #[true, false, false, false, false, false, false, false, false, false, false] rfl rfl (by kernel_rfl) (fun _ _ _ h => h) (Or.inl ⟨by rfl, ?_⟩) ?_ ?_
      rotate_left
      · intro w'
        go_simp
        with_reducible rfl
      rotate_left
      · simp only [Act.put, List.setIfInBounds_toArray, List.set_cons_zero, List.set_cons_succ, i64_w, i32_w]
        rfl
      refine pure_ (i := 1) (N := some 53) (v := ?_) (a' := ?_) #[true, true, false, false, false, false, false, false, false, false, false] rfl rfl (by kernel_rfl) (fun _ _ _ h => h) (Or.inl ⟨by rfl, ?_⟩) ?_ ?_
      rotate_left
      · intro w'
        go_simp
        with_reducible rfl
      rotate_left
      · simp only [Act.put, List.setIfInBounds_toArray, List.set_cons_zero, List.set_cons_succ, i64_w, i32_w]
        rfl
      refine pure_ (i := 2) (N := some 54) (v := ?_) (a' := ?_) #[true, true, true, false, false, false, false, false, false, false, false] rfl rfl (by kernel_rfl) (fun _ _ _ h => h) (Or.inl ⟨by rfl, ?_⟩) ?_ ?_
      rotate_left
      · intro w'
        go_simp
        with_reducible rfl
      rotate_left
      · simp only [Act.put, List.setIfInBounds_toArray, List.set_cons_zero, List.set_cons_succ, i64_w, i32_w]
        rfl
      refine pure_ (i := 4) (N := some 56) (v := ?_) (a' := ?_) #[true, true, true, false, true, false, false, false, false, false, false] rfl rfl (by kernel_rfl) (fun _ _ _ h => h) (Or.inl ⟨by rfl, ?_⟩) ?_ ?_
      rotate_left
      · intro w'
        go_simp
        with_reducible rfl
      rotate_left
      · simp only [Act.put, List.setIfInBounds_toArray, List.set_cons_zero, List.set_cons_succ, i64_w, i32_w]
        rfl
      refine pure_ (i := 5) (N := some 57) (v := ?_) (a' := ?_) #[true, true, true, false, true, true, false, false, false, false, false] rfl rfl (by kernel_rfl) (fun _ _ _ h => h) (Or.inl ⟨by rfl, ?_⟩) ?_ ?_
      rotate_left
      · intro w'
        go_simp
        with_reducible rfl
      rotate_left
      · simp only [Act.put, List.setIfInBounds_toArray, List.set_cons_zero, List.set_cons_succ, i64_w, i32_w]
        rfl
      refine pure_ (i := 6) (N := some 58) (v := ?_) (a' := ?_) #[true, true, true, false, true, true, true, false, false, false, false] rfl rfl (by kernel_rfl) (fun _ _ _ h => h) (Or.inl ⟨by rfl, ?_⟩) ?_ ?_
      rotate_left
      · intro w'
        go_simp
        with_reducible rfl
      rotate_left
      · simp only [Act.put, List.setIfInBounds_toArray, List.set_cons_zero, List.set_cons_succ, i64_w, i32_w]
        rfl
      refine take_ (i := 3) (N := some 55) (v := ?_) (a' := ?_) #[true, true, true, true, true, true, true, false, false, false, false] rfl rfl (by kernel_rfl) (fun _ _ _ h => h) (Or.inl ⟨by rfl, ?_⟩) hHeld ?_ ?_
      rotate_left
      · rintro w' ⟨s0, s1⟩
        go_simp
        with_reducible rfl
      rotate_left
      · simp only [Act.put, List.setIfInBounds_toArray, List.set_cons_zero, List.set_cons_succ, i64_w, i32_w]
        rfl
      refine take_ (i := 7) (N := some 59) (v := ?_) (a' := ?_) #[true, true, true, true, true, true, true, true, false, false, false] rfl rfl (by kernel_rfl) (fun _ _ _ h => h) (Or.inl ⟨by rfl, ?_⟩) hHeld ?_ ?_
      rotate_left
      · rintro w' ⟨s0, s1⟩
        go_simp
        with_reducible rfl
      rotate_left
      · simp only [Act.put, List.setIfInBounds_toArray, List.set_cons_zero, List.set_cons_succ, i64_w, i32_w]
        rfl
      refine pure_ (i := 8) (N := some 60) (v := ?_) (a' := ?_) #[true, true, true, true, true, true, true, true, true, false, false] rfl rfl (by kernel_rfl) (fun _ _ _ h => h) (Or.inl ⟨by rfl, ?_⟩) ?_ ?_
      rotate_left
      · intro w'
        go_simp
        with_reducible rfl
      rotate_left
      · simp only [Act.put, List.setIfInBounds_toArray, List.set_cons_zero, List.set_cons_succ, i64_w, i32_w]
        rfl
      refine pure_ (i := 9) (N := some 61) (v := ?_) (a' := ?_) #[true, true, true, true, true, true, true, true, true, true, false] rfl rfl (by kernel_rfl) (fun _ _ _ h => h) (Or.inl ⟨by rfl, ?_⟩) ?_ ?_
      rotate_left
      · intro w'
        go_simp
        with_reducible rfl
      rotate_left
      · simp only [Act.put, List.setIfInBounds_toArray, List.set_cons_zero, List.set_cons_succ, i64_w, i32_w]
        rfl
      refine last_ (i := 10) (N := none) #[true, true, true, true, true, true, true, true, true, true, true] rfl rfl (by kernel_rfl) (by decide) (fun K hK => ?_)
      have ct : W1.drew.cell? ⟨blq bs u1, 4, none⟩ = some (.pointer ot2) := ct
      have zt : W1.drew.frozen? ⟨blq bs u1, 4, none⟩ = false := zt
      refine skip_ (w1 := W1.drew.setCell ⟨blq bs u1, 4, none⟩ (.pointer ob2)) (by rfl) rfl ?_ ?_
      · first | (go_simp; done) | (go_simp; rfl)
      refine hK.out _ _ ?_
      clear hK K
      refine done_ (by kernel_rfl) ?_
      clear ca cb ct zt
      obtain ⟨W2, hW2⟩ : ∃ W2, W1.drew.setCell ⟨blq bs u1, 4, none⟩ (.pointer ob2) = W2 := ⟨_, rfl⟩
      rw [hW2]
      have G2 := Aside0.mk (show GW W2 base bs (setF F1 u1 4 (F1 x 4)) from hW2 ▸ (G1.out.below (Below.refl _ W1).drew).set u1 HM2.out.1 HM2.out.2 4 (by decide) (F1 x 4) (G1.out.rng x 4 HX.out.1 HX.out.2) _ HOB2.out)
      have K2 := Aside0.mk (show Kq W0 W2 bs from hW2 ▸ (K1.out.trans (Kq.of (Below.refl _ W1).drew bs)).trans (Kq.set u1 HM2.out.1 HM2.out.2 4 _))
      clear hW2
      have G2 := Aside0.mk (show GW W2 base bs (drop2 F1 x) from by
        unfold drop2
        rw [if_neg (by have := HNn.out; omega), HU1.out]
        exact G2.out)
      obtain ⟨F2, hF2⟩ : ∃ F2, drop2 F1 x = F2 := ⟨_, rfl⟩
      rw [hF2] at G2
      have HF2 := Aside0.mk hF2
      clear hF2
      have d1 := G2.out.cell x HX.out.1 HX.out.2 1 (by decide)
      have d4 := G2.out.cell x HX.out.1 HX.out.2 4 (by decide)
      have d5 := G2.out.cell x HX.out.1 HX.out.2 5 (by decide)
      obtain ⟨e1, he1⟩ : ∃ o, pv bs (F2 x 1) = .pointer o := ⟨_, rfl⟩
      obtain ⟨e4, he4⟩ : ∃ o, pv bs (F2 x 4) = .pointer o := ⟨_, rfl⟩
      obtain ⟨e5, he5⟩ : ∃ o, pv bs (F2 x 5) = .pointer o := ⟨_, rfl⟩
      rw [he1] at d1
      rw [he4] at d4
      rw [he5] at d5
      have f1 := G2.out.frozen x HX.out.1 HX.out.2 1
      have f4 := G2.out.frozen x HX.out.1 HX.out.2 4
      have f5 := G2.out.frozen x HX.out.1 HX.out.2 5
      have N := Aside0.mk (pv_neg bs (show (-1 : Int) < 0 by decide))
      have NL := Aside0.mk (show (-1 : Int) < bs.length by omega)
      clear he1 he4 he5
      go_wp2_with fail
      refine bodyPost_ret (results_tmp rfl _ _ _) rfl ?_
      refine ⟨rfl, ?_, ((K2.out.trans (Kq.set x HX.out.1 HX.out.2 1 _)).trans (Kq.set x HX.out.1 HX.out.2 4 _)).trans (Kq.set x HX.out.1 HX.out.2 5 _)⟩
      have e : dropF F x = drop3 F2 x := by
        unfold dropF
        rw [HF1.out, HF2.out]
      rw [e]
      exact ((G2.out.set x HX.out.1 HX.out.2 1 (by decide) (-1) NL.out _ N.out).set x HX.out.1 HX.out.2 4 (by decide) (-1) NL.out _ N.out).set x HX.out.1 HX.out.2 5 (by decide) (-1) NL.out _ N.out
end Go.Proofs.Ytgamhkhninogeaa.G
