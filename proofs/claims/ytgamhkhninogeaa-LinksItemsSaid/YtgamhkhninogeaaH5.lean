/- A pool's own Place and Drop (links.Pool), walked over what the items' do. -/
import Derived.Test.YtgamhkhninogeaaH4
namespace Go.Proofs.Ytgamhkhninogeaa.G
open Go.RowKit Go.Proofs.YtgamhkhninogeaaW.PrintWords Go.Proofs.YtgamhkhninogeaaW.PrintLast Go.Proofs.YtgamhkhninogeaaW.PrintMore
set_option linter.unusedVariables false
set_option linter.unusedSimpArgs false

/-- Is there such an item? -/
def inP (n : Nat) (x : Int) : Prop := 0 ≤ x ∧ x < n
instance (n : Nat) (x : Int) : Decidable (inP n x) := inferInstanceAs (Decidable (_ ∧ _))
def hasB (n : Nat) (x : Int) : Bool := decide (inP n x)
theorem hasB_true {n : Nat} {x : Int} (h : inP n x) : hasB n x = true := decide_eq_true h
theorem hasB_false {n : Nat} {x : Int} (h : ¬ inP n x) : hasB n x = false := decide_eq_false h
theorem PW.sl {W : World} {base p : Nat} {bs : List Nat} {F : FF} (h : PW W base p bs F) : ∃ A c, W.cell? ⟨p, 0, none⟩ = some (.slice A bs.length c) := by
  obtain ⟨v, h1, h2⟩ := h.row
  have hc : W.cell? ⟨p, 0, none⟩ = some v := (blk_cell h1 0).trans rfl
  rcases h2.2 with ⟨rfl, h0⟩ | ⟨g, cap, cur, rfl, _⟩
  · exact ⟨none, 0, by rw [hc, h0]⟩
  · exact ⟨_, _, hc⟩
theorem PW.items {W : World} {base p : Nat} {bs : List Nat} {F : FF} (h : PW W base p bs F) (hn : 0 < bs.length) : ∃ g c, W.cell? ⟨p, 0, none⟩ = some (.slice (some ⟨g, 0, none⟩) bs.length c) ∧ ∀ x : Int, inP bs.length x → W.cell? ⟨g, x.toNat, none⟩ = some (ptr (blq bs x)) := by
  obtain ⟨v, h1, h2⟩ := h.row
  have hc : W.cell? ⟨p, 0, none⟩ = some v := (blk_cell h1 0).trans rfl
  rcases h2.2 with ⟨rfl, h0⟩ | ⟨g, cap, cur, rfl, _, hcell, hnc, _, hsz, htk⟩
  · omega
  · refine ⟨g, cap, hc, fun x hx => ?_⟩
    rw [blk_cell hcell]
    have hx1 : x.toNat < bs.length := by have := hx.1; have := hx.2; omega
    have e : (cur.toList.take (bs.length * 1))[x.toNat]? = (bs.map ptr)[x.toNat]? := by rw [htk]
    rw [List.getElem?_take_of_lt (by omega)] at e
    have e2 : cur[x.toNat]? = cur.toList[x.toNat]? := by simp
    rw [e2, e]
    unfold blq
    simp [hx1]
set_option maxHeartbeats 4000000 in
set_option maxRecDepth 100000 in
theorem has (W : World) (base p : Nat) (bs : List Nat) (F : FF) (h : PW W base p bs F) (x : Int) (b : Bool) (hb : hasB bs.length x = b) : Calls Try.prog 28 #[ptr p, .int .i64 x] W fun e w' => e = .returned (.bool b) ∧ w' = W := by
  obtain ⟨A, c, hc⟩ := h.sl
  have HB := Aside0.mk hb
  clear h hb
  by_cases h0 : 0 ≤ x
  · have d0 : decide (0 ≤ x) = true := decide_eq_true h0
    by_cases h1 : x < bs.length
    · have d1 : decide (x < (bs.length : Int)) = true := decide_eq_true h1
      obtain rfl : true = b := (hasB_true (show inP bs.length x from ⟨h0, h1⟩)).symm.trans HB.out
      clear h0 h1 HB
      go_enter Try.func28, Try.ntmps28
      go_wp2_with fail
      refine bodyPost_ret (results_tmp rfl _ _ _) rfl ?_
      exact ⟨rfl, rfl⟩
    · have d1 : decide (x < (bs.length : Int)) = false := decide_eq_false h1
      obtain rfl : false = b := (hasB_false (fun q : inP bs.length x => h1 q.2)).symm.trans HB.out
      clear h0 h1 HB
      go_enter Try.func28, Try.ntmps28
      go_wp2_with fail
      refine bodyPost_ret (results_tmp rfl _ _ _) rfl ?_
      exact ⟨rfl, rfl⟩
  · have d0 : decide (0 ≤ x) = false := decide_eq_false h0
    obtain rfl : false = b := (hasB_false (fun q : inP bs.length x => h0 q.1)).symm.trans HB.out
    clear h0 HB
    go_enter Try.func28, Try.ntmps28
    go_wp2_with fail
    refine bodyPost_ret (results_tmp rfl _ _ _) rfl ?_
    exact ⟨rfl, rfl⟩
theorem has_nil (W : World) (x : Int) : Calls Try.prog 28 #[.pointer none, .int .i64 x] W fun e w' => e = .returned (.bool false) ∧ w' = W := by
  go_enter Try.func28, Try.ntmps28
  go_wp2_with fail
  refine bodyPost_ret (results_tmp rfl _ _ _) rfl ?_
  exact ⟨rfl, rfl⟩
set_option maxHeartbeats 4000000 in
set_option maxRecDepth 100000 in
theorem PPlace_none (W : World) (base p : Nat) (bs : List Nat) (F : FF) (h : PW W base p bs F) (x up before : Int) (hno : ¬ (inP bs.length x ∧ inP bs.length up ∧ (before = -1 ∨ inP bs.length before))) :
    Calls Try.prog 9 #[ptr p, .int .i64 x, .int .i64 up, .int .i64 before] W fun e w' => e = .returned (.int .i64 13) ∧ w' = W := by
  have HH := Aside0.mk (fun (z : Int) (b : Bool) (hb : hasB bs.length z = b) => has W base p bs F h z b hb)
  clear h
  by_cases h1 : inP bs.length x
  · have b1 := hasB_true h1
    by_cases h2 : inP bs.length up
    · have b2 := hasB_true h2
      have h3 : ¬ inP bs.length before := fun e => hno ⟨h1, h2, .inr e⟩
      have h4 : ¬ before = -1 := fun e => hno ⟨h1, h2, .inl e⟩
      have b3 := hasB_false h3
      have d3 : (before == -1) = false := by simp [h4]
      have d4 : (before != -1) = true := by simp [h4]
      clear h1 h2 h3 hno
      go_enter Try.func9, Try.ntmps9
      go_wp2_with (go_at_call 28; refine (HH.out _ _ rfl).mono ?_; rintro e w9 ⟨rfl, hw⟩; rw [hw]; clear hw w9)
      refine bodyPost_ret (results_tmp rfl _ _ _) rfl ?_
      exact ⟨rfl, rfl⟩
    · have b2 := hasB_false h2
      clear h1 h2 hno
      go_enter Try.func9, Try.ntmps9
      go_wp2_with (go_at_call 28; refine (HH.out _ _ rfl).mono ?_; rintro e w9 ⟨rfl, hw⟩; rw [hw]; clear hw w9)
      refine bodyPost_ret (results_tmp rfl _ _ _) rfl ?_
      exact ⟨rfl, rfl⟩
  · have b1 := hasB_false h1
    clear h1 hno
    go_enter Try.func9, Try.ntmps9
    go_wp2_with (go_at_call 28; refine (HH.out _ _ rfl).mono ?_; rintro e w9 ⟨rfl, hw⟩; rw [hw]; clear hw w9)
    refine bodyPost_ret (results_tmp rfl _ _ _) rfl ?_
    exact ⟨rfl, rfl⟩
theorem PPlace_nil (W : World) (x up before : Int) : Calls Try.prog 9 #[.pointer none, .int .i64 x, .int .i64 up, .int .i64 before] W fun e w' => e = .returned (.int .i64 1) ∧ w' = W := by
  go_enter Try.func9, Try.ntmps9
  go_wp2_with fail
  refine bodyPost_ret (results_tmp rfl _ _ _) rfl ?_
  exact ⟨rfl, rfl⟩
set_option maxHeartbeats 4000000 in
set_option maxRecDepth 100000 in
/-- Behind the numbers' being looked at, what the items' Place does. -/
theorem PPlace_in (W : World) (base p : Nat) (bs : List Nat) (F : FF) (h : PW W base p bs F) (x up before : Int) (h1 : inP bs.length x) (h2 : inP bs.length up) (h3 : before = -1 ∨ inP bs.length before) (c : Int) (Q : World → Prop)
    (hR : ∀ w1, Below W.heap.size W w1 → Calls Try.prog 21 #[pv bs up, pv bs x, pv bs before] w1 fun e w' => e = .returned (.int .i64 c) ∧ Q w') :
    Calls Try.prog 9 #[ptr p, .int .i64 x, .int .i64 up, .int .i64 before] W fun e w' => e = .returned (.int .i64 c) ∧ Q w' := by
  have HH := Aside0.mk (fun (z : Int) (b : Bool) (hb : hasB bs.length z = b) => has W base p bs F h z b hb)
  have HR := Aside0.mk hR
  have b1 := hasB_true h1
  have b2 := hasB_true h2
  obtain ⟨g, cap, hp0, hit⟩ := h.items (by have := h1.1; have := h1.2; omega)
  have c1 := hit x h1
  have c2 := hit up h2
  have PX := Aside0.mk (pv_pos bs (show ¬ x < 0 by have := h1.1; omega))
  have PU := Aside0.mk (pv_pos bs (show ¬ up < 0 by have := h2.1; omega))
  have r1 : 0 ≤ x := h1.1
  have r2 : x < (bs.length : Int) := h1.2
  have r3 : 0 ≤ up := h2.1
  have r4 : up < (bs.length : Int) := h2.2
  by_cases h4 : before = -1
  · subst h4
    have PB := Aside0.mk (pv_neg bs (show (-1 : Int) < 0 by decide))
    clear h h1 h2 h3 hR hit
    go_enter Try.func9, Try.ntmps9
    go_upto_region 8 with (go_at_call 28; refine (HH.out _ _ rfl).mono ?_; rintro e w9 ⟨rfl, hw⟩; rw [hw]; clear hw w9)
    refine start_ (n := 17) (S := (fun w' => w'.cell? ⟨p, 0, none⟩ = some (.slice (some ⟨g, 0, none⟩) bs.length cap) ∧ w'.cell? ⟨g, x.toNat, none⟩ = some (ptr (blq bs x)) ∧ w'.cell? ⟨g, up.toNat, none⟩ = some (ptr (blq bs up)))) (ds := [15]) #[false, false, false, false, false, false, false, false, false, false, false, false, false, false, false, false, false] (by kernel_rfl) rfl rfl ?_ ?_
    · exact ⟨hp0, c1, c2⟩
    intro hHeld
    refine pure_ (i := 0) (N := some 43) (v := ?_) (a' := ?_) #[true, false, false, false, false, false, false, false, false, false, false, false, false, false, false, false, false] rfl rfl (by kernel_rfl) (fun _ _ _ h => h) (Or.inl ⟨by rfl, ?_⟩) ?_ ?_
    rotate_left
    · intro w'
      go_simp
      with_reducible rfl
    rotate_left
    · simp only [Act.put, List.setIfInBounds_toArray, List.set_cons_zero, List.set_cons_succ, i64_w, i32_w]
      rfl
    refine pure_ (i := 1) (N := some 44) (v := ?_) (a' := ?_) #[true, true, false, false, false, false, false, false, false, false, false, false, false, false, false, false, false] rfl rfl (by kernel_rfl) (fun _ _ _ h => h) (Or.inl ⟨by rfl, ?_⟩) ?_ ?_
    rotate_left
    · intro w'
      go_simp
      with_reducible rfl
    rotate_left
    · simp only [Act.put, List.setIfInBounds_toArray, List.set_cons_zero, List.set_cons_succ, i64_w, i32_w]
      rfl
    refine pure_ (i := 2) (N := some 45) (v := ?_) (a' := ?_) #[true, true, true, false, false, false, false, false, false, false, false, false, false, false, false, false, false] rfl rfl (by kernel_rfl) (fun _ _ _ h => h) (Or.inl ⟨by rfl, ?_⟩) ?_ ?_
    rotate_left
    · intro w'
      go_simp
      with_reducible rfl
    rotate_left
    · simp only [Act.put, List.setIfInBounds_toArray, List.set_cons_zero, List.set_cons_succ, i64_w, i32_w]
      rfl
    refine pure_ (i := 4) (N := some 47) (v := ?_) (a' := ?_) #[true, true, true, false, true, false, false, false, false, false, false, false, false, false, false, false, false] rfl rfl (by kernel_rfl) (fun _ _ _ h => h) (Or.inl ⟨by rfl, ?_⟩) ?_ ?_
    rotate_left
    · intro w'
      go_simp
      with_reducible rfl
    rotate_left
    · simp only [Act.put, List.setIfInBounds_toArray, List.set_cons_zero, List.set_cons_succ, i64_w, i32_w]
      rfl
    refine pure_ (i := 7) (N := some 50) (v := ?_) (a' := ?_) #[true, true, true, false, true, false, false, true, false, false, false, false, false, false, false, false, false] rfl rfl (by kernel_rfl) (fun _ _ _ h => h) (Or.inl ⟨by rfl, ?_⟩) ?_ ?_
    rotate_left
    · intro w'
      go_simp
      with_reducible rfl
    rotate_left
    · simp only [Act.put, List.setIfInBounds_toArray, List.set_cons_zero, List.set_cons_succ, i64_w, i32_w]
      rfl
    refine pure_ (i := 8) (N := some 51) (v := ?_) (a' := ?_) #[true, true, true, false, true, false, false, true, true, false, false, false, false, false, false, false, false] rfl rfl (by kernel_rfl) (fun _ _ _ h => h) (Or.inl ⟨by rfl, ?_⟩) ?_ ?_
    rotate_left
    · intro w'
      go_simp
      with_reducible rfl
    rotate_left
    · simp only [Act.put, List.setIfInBounds_toArray, List.set_cons_zero, List.set_cons_succ, i64_w, i32_w]
      rfl
    refine pure_ (i := 9) (N := some 52) (v := ?_) (a' := ?_) #[true, true, true, false, true, false, false, true, true, true, false, false, false, false, false, false, false] rfl rfl (by kernel_rfl) (fun _ _ _ h => h) (Or.inl ⟨by rfl, ?_⟩) ?_ ?_
    rotate_left
    · intro w'
      go_simp
      with_reducible rfl
    rotate_left
    · simp only [Act.put, List.setIfInBounds_toArray, List.set_cons_zero, List.set_cons_succ, i64_w, i32_w]
      rfl
    refine pure_ (i := 11) (N := some 54) (v := ?_) (a' := ?_) #[true, true, true, false, true, false, false, true, true, true, false, true, false, false, false, false, false] rfl rfl (by kernel_rfl) (fun _ _ _ h => h) (Or.inl ⟨by rfl, ?_⟩) ?_ ?_
    rotate_left
    · intro w'
      go_simp
      with_reducible rfl
    rotate_left
    · simp only [Act.put, List.setIfInBounds_toArray, List.set_cons_zero, List.set_cons_succ, i64_w, i32_w]
      rfl
    refine pure_ (i := 14) (N := some 57) (v := ?_) (a' := ?_) #[true, true, true, false, true, false, false, true, true, true, false, true, false, false, true, false, false] rfl rfl (by kernel_rfl) (fun _ _ _ h => h) (Or.inl ⟨by rfl, ?_⟩) ?_ ?_
    rotate_left
    · intro w'
      go_simp
      with_reducible rfl
    rotate_left
    · simp only [Act.put, List.setIfInBounds_toArray, List.set_cons_zero, List.set_cons_succ, i64_w, i32_w]
      rfl
    refine take_ (i := 3) (N := some 46) (v := ?_) (a' := ?_) #[true, true, true, true, true, false, false, true, true, true, false, true, false, false, true, false, false] rfl rfl (by kernel_rfl) (fun _ _ _ h => h) (Or.inl ⟨by rfl, ?_⟩) hHeld ?_ ?_
    rotate_left
    · rintro w' ⟨s0, s1, s2⟩
      go_simp
      with_reducible rfl
    rotate_left
    · simp only [Act.put, List.setIfInBounds_toArray, List.set_cons_zero, List.set_cons_succ, i64_w, i32_w]
      rfl
    refine pure_ (i := 5) (N := some 48) (v := ?_) (a' := ?_) #[true, true, true, true, true, true, false, true, true, true, false, true, false, false, true, false, false] rfl rfl (by kernel_rfl) (fun _ _ _ h => h) (Or.inl ⟨by rfl, ?_⟩) ?_ ?_
    rotate_left
    · intro w'
      go_simp
      with_reducible rfl
    rotate_left
    · simp only [Act.put, List.setIfInBounds_toArray, List.set_cons_zero, List.set_cons_succ, i64_w, i32_w]
      rfl
    refine take_ (i := 6) (N := some 49) (v := ?_) (a' := ?_) #[true, true, true, true, true, true, true, true, true, true, false, true, false, false, true, false, false] rfl rfl (by kernel_rfl) (fun _ _ _ h => h) (Or.inl ⟨by rfl, ?_⟩) hHeld ?_ ?_
    rotate_left
    · rintro w' ⟨s0, s1, s2⟩
      go_simp
      with_reducible rfl
    rotate_left
    · simp only [Act.put, List.setIfInBounds_toArray, List.set_cons_zero, List.set_cons_succ, i64_w, i32_w]
      rfl
    refine take_ (i := 10) (N := some 53) (v := ?_) (a' := ?_) #[true, true, true, true, true, true, true, true, true, true, true, true, false, false, true, false, false] rfl rfl (by kernel_rfl) (fun _ _ _ h => h) (Or.inl ⟨by rfl, ?_⟩) hHeld ?_ ?_
    rotate_left
    · rintro w' ⟨s0, s1, s2⟩
      go_simp
      with_reducible rfl
    rotate_left
    · simp only [Act.put, List.setIfInBounds_toArray, List.set_cons_zero, List.set_cons_succ, i64_w, i32_w]
      rfl
    refine pure_ (i := 12) (N := some 55) (v := ?_) (a' := ?_) #[true, true, true, true, true, true, true, true, true, true, true, true, true, false, true, false, false] rfl rfl (by kernel_rfl) (fun _ _ _ h => h) (Or.inl ⟨by rfl, ?_⟩) ?_ ?_
    rotate_left
    · intro w'
      go_simp
      with_reducible rfl
    rotate_left
    · simp only [Act.put, List.setIfInBounds_toArray, List.set_cons_zero, List.set_cons_succ, i64_w, i32_w]
      rfl
    refine take_ (i := 13) (N := some 56) (v := ?_) (a' := ?_) #[true, true, true, true, true, true, true, true, true, true, true, true, true, true, true, false, false] rfl rfl (by kernel_rfl) (fun _ _ _ h => h) (Or.inl ⟨by rfl, ?_⟩) hHeld ?_ ?_
    rotate_left
    · rintro w' ⟨s0, s1, s2⟩
      go_simp
      with_reducible rfl
    rotate_left
    · simp only [Act.put, List.setIfInBounds_toArray, List.set_cons_zero, List.set_cons_succ, i64_w, i32_w]
      rfl
    refine last_ (i := 15) (N := some 58) #[true, true, true, true, true, true, true, true, true, true, true, true, true, true, true, true, false] rfl rfl (by kernel_rfl) (by decide) (fun K hK => ?_)
    refine goes_ Try.func21 (by kernel_rfl) rfl #[ptr (blq bs up), ptr (blq bs x), .pointer none] (by rfl) rfl rfl (by (try simp only [List.map_toArray, List.map_cons, List.map_nil]); first | done | rfl) ?_
    have q := HR.out W.drew (Below.refl _ W).drew
    rw [PX.out, PU.out, PB.out] at q
    refine q.mono ?_
    rintro e w9 ⟨rfl, hq⟩
    have HQ := Aside0.mk hq
    clear hq q
    refine ⟨_, rfl, ?_⟩
    refine hK.out _ _ ?_
    clear hK K
    refine norm_ (a' := ?_) ?_ ?_
    rotate_left
    · show Act.put _ (some 58) _ = _
      simp only [Act.put, List.setIfInBounds_toArray, List.set_cons_zero, List.set_cons_succ, i64_w, i32_w]
      rfl
    refine pure_ (i := 16) (N := some 8) (v := ?_) (a' := ?_) #[true, true, true, true, true, true, true, true, true, true, true, true, true, true, true, true, true] rfl rfl (by kernel_rfl) (fun _ _ _ h => h) (Or.inl ⟨by rfl, ?_⟩) ?_ ?_
    rotate_left
    · intro w'
      go_simp
      with_reducible rfl
    rotate_left
    · simp only [Act.put, List.setIfInBounds_toArray, List.set_cons_zero, List.set_cons_succ, i64_w, i32_w]
      rfl
    refine done_ (by kernel_rfl) ?_
    go_wp2_with fail
    refine bodyPost_ret (results_tmp rfl _ _ _) rfl ?_
    exact ⟨rfl, HQ.out⟩
  · have h5 : inP bs.length before := by
      rcases h3 with e | e
      · exact absurd e h4
      · exact e
    have b3 := hasB_true h5
    have d3 : (before == -1) = false := by simp [h4]
    have c3 := hit before h5
    have PB := Aside0.mk (pv_pos bs (show ¬ before < 0 by have := h5.1; omega))
    have r5 : 0 ≤ before := h5.1
    have r6 : before < (bs.length : Int) := h5.2
    clear h h1 h2 h3 h4 h5 hR hit
    go_enter Try.func9, Try.ntmps9
    go_upto_region 8 with (go_at_call 28; refine (HH.out _ _ rfl).mono ?_; rintro e w9 ⟨rfl, hw⟩; rw [hw]; clear hw w9)
    clear c3
    refine start_ (n := 17) (S := (fun w' => w'.cell? ⟨p, 0, none⟩ = some (.slice (some ⟨g, 0, none⟩) bs.length cap) ∧ w'.cell? ⟨g, x.toNat, none⟩ = some (ptr (blq bs x)) ∧ w'.cell? ⟨g, up.toNat, none⟩ = some (ptr (blq bs up)))) (ds := [15]) #[false, false, false, false, false, false, false, false, false, false, false, false, false, false, false, false, false] (by kernel_rfl) rfl rfl ?_ ?_
    · exact ⟨hp0, c1, c2⟩
    intro hHeld
    refine pure_ (i := 0) (N := some 43) (v := ?_) (a' := ?_) #[true, false, false, false, false, false, false, false, false, false, false, false, false, false, false, false, false] rfl rfl (by kernel_rfl) (fun _ _ _ h => h) (Or.inl ⟨by rfl, ?_⟩) ?_ ?_
    rotate_left
    · intro w'
      go_simp
      with_reducible rfl
    rotate_left
    · simp only [Act.put, List.setIfInBounds_toArray, List.set_cons_zero, List.set_cons_succ, i64_w, i32_w]
      rfl
    refine pure_ (i := 1) (N := some 44) (v := ?_) (a' := ?_) #[true, true, false, false, false, false, false, false, false, false, false, false, false, false, false, false, false] rfl rfl (by kernel_rfl) (fun _ _ _ h => h) (Or.inl ⟨by rfl, ?_⟩) ?_ ?_
    rotate_left
    · intro w'
      go_simp
      with_reducible rfl
    rotate_left
    · simp only [Act.put, List.setIfInBounds_toArray, List.set_cons_zero, List.set_cons_succ, i64_w, i32_w]
      rfl
    refine pure_ (i := 2) (N := some 45) (v := ?_) (a' := ?_) #[true, true, true, false, false, false, false, false, false, false, false, false, false, false, false, false, false] rfl rfl (by kernel_rfl) (fun _ _ _ h => h) (Or.inl ⟨by rfl, ?_⟩) ?_ ?_
    rotate_left
    · intro w'
      go_simp
      with_reducible rfl
    rotate_left
    · simp only [Act.put, List.setIfInBounds_toArray, List.set_cons_zero, List.set_cons_succ, i64_w, i32_w]
      rfl
    refine pure_ (i := 4) (N := some 47) (v := ?_) (a' := ?_) #[true, true, true, false, true, false, false, false, false, false, false, false, false, false, false, false, false] rfl rfl (by kernel_rfl) (fun _ _ _ h => h) (Or.inl ⟨by rfl, ?_⟩) ?_ ?_
    rotate_left
    · intro w'
      go_simp
      with_reducible rfl
    rotate_left
    · simp only [Act.put, List.setIfInBounds_toArray, List.set_cons_zero, List.set_cons_succ, i64_w, i32_w]
      rfl
    refine pure_ (i := 7) (N := some 50) (v := ?_) (a' := ?_) #[true, true, true, false, true, false, false, true, false, false, false, false, false, false, false, false, false] rfl rfl (by kernel_rfl) (fun _ _ _ h => h) (Or.inl ⟨by rfl, ?_⟩) ?_ ?_
    rotate_left
    · intro w'
      go_simp
      with_reducible rfl
    rotate_left
    · simp only [Act.put, List.setIfInBounds_toArray, List.set_cons_zero, List.set_cons_succ, i64_w, i32_w]
      rfl
    refine pure_ (i := 8) (N := some 51) (v := ?_) (a' := ?_) #[true, true, true, false, true, false, false, true, true, false, false, false, false, false, false, false, false] rfl rfl (by kernel_rfl) (fun _ _ _ h => h) (Or.inl ⟨by rfl, ?_⟩) ?_ ?_
    rotate_left
    · intro w'
      go_simp
      with_reducible rfl
    rotate_left
    · simp only [Act.put, List.setIfInBounds_toArray, List.set_cons_zero, List.set_cons_succ, i64_w, i32_w]
      rfl
    refine pure_ (i := 9) (N := some 52) (v := ?_) (a' := ?_) #[true, true, true, false, true, false, false, true, true, true, false, false, false, false, false, false, false] rfl rfl (by kernel_rfl) (fun _ _ _ h => h) (Or.inl ⟨by rfl, ?_⟩) ?_ ?_
    rotate_left
    · intro w'
      go_simp
      with_reducible rfl
    rotate_left
    · simp only [Act.put, List.setIfInBounds_toArray, List.set_cons_zero, List.set_cons_succ, i64_w, i32_w]
      rfl
    refine pure_ (i := 11) (N := some 54) (v := ?_) (a' := ?_) #[true, true, true, false, true, false, false, true, true, true, false, true, false, false, false, false, false] rfl rfl (by kernel_rfl) (fun _ _ _ h => h) (Or.inl ⟨by rfl, ?_⟩) ?_ ?_
    rotate_left
    · intro w'
      go_simp
      with_reducible rfl
    rotate_left
    · simp only [Act.put, List.setIfInBounds_toArray, List.set_cons_zero, List.set_cons_succ, i64_w, i32_w]
      rfl
    refine pure_ (i := 14) (N := some 57) (v := ?_) (a' := ?_) #[true, true, true, false, true, false, false, true, true, true, false, true, false, false, true, false, false] rfl rfl (by kernel_rfl) (fun _ _ _ h => h) (Or.inl ⟨by rfl, ?_⟩) ?_ ?_
    rotate_left
    · intro w'
      go_simp
      with_reducible rfl
    rotate_left
    · simp only [Act.put, List.setIfInBounds_toArray, List.set_cons_zero, List.set_cons_succ, i64_w, i32_w]
      rfl
    refine take_ (i := 3) (N := some 46) (v := ?_) (a' := ?_) #[true, true, true, true, true, false, false, true, true, true, false, true, false, false, true, false, false] rfl rfl (by kernel_rfl) (fun _ _ _ h => h) (Or.inl ⟨by rfl, ?_⟩) hHeld ?_ ?_
    rotate_left
    · rintro w' ⟨s0, s1, s2⟩
      go_simp
      with_reducible rfl
    rotate_left
    · simp only [Act.put, List.setIfInBounds_toArray, List.set_cons_zero, List.set_cons_succ, i64_w, i32_w]
      rfl
    refine pure_ (i := 5) (N := some 48) (v := ?_) (a' := ?_) #[true, true, true, true, true, true, false, true, true, true, false, true, false, false, true, false, false] rfl rfl (by kernel_rfl) (fun _ _ _ h => h) (Or.inl ⟨by rfl, ?_⟩) ?_ ?_
    rotate_left
    · intro w'
      go_simp
      with_reducible rfl
    rotate_left
    · simp only [Act.put, List.setIfInBounds_toArray, List.set_cons_zero, List.set_cons_succ, i64_w, i32_w]
      rfl
    refine take_ (i := 6) (N := some 49) (v := ?_) (a' := ?_) #[true, true, true, true, true, true, true, true, true, true, false, true, false, false, true, false, false] rfl rfl (by kernel_rfl) (fun _ _ _ h => h) (Or.inl ⟨by rfl, ?_⟩) hHeld ?_ ?_
    rotate_left
    · rintro w' ⟨s0, s1, s2⟩
      go_simp
      with_reducible rfl
    rotate_left
    · simp only [Act.put, List.setIfInBounds_toArray, List.set_cons_zero, List.set_cons_succ, i64_w, i32_w]
      rfl
    refine take_ (i := 10) (N := some 53) (v := ?_) (a' := ?_) #[true, true, true, true, true, true, true, true, true, true, true, true, false, false, true, false, false] rfl rfl (by kernel_rfl) (fun _ _ _ h => h) (Or.inl ⟨by rfl, ?_⟩) hHeld ?_ ?_
    rotate_left
    · rintro w' ⟨s0, s1, s2⟩
      go_simp
      with_reducible rfl
    rotate_left
    · simp only [Act.put, List.setIfInBounds_toArray, List.set_cons_zero, List.set_cons_succ, i64_w, i32_w]
      rfl
    refine pure_ (i := 12) (N := some 55) (v := ?_) (a' := ?_) #[true, true, true, true, true, true, true, true, true, true, true, true, true, false, true, false, false] rfl rfl (by kernel_rfl) (fun _ _ _ h => h) (Or.inl ⟨by rfl, ?_⟩) ?_ ?_
    rotate_left
    · intro w'
      go_simp
      with_reducible rfl
    rotate_left
    · simp only [Act.put, List.setIfInBounds_toArray, List.set_cons_zero, List.set_cons_succ, i64_w, i32_w]
      rfl
    refine take_ (i := 13) (N := some 56) (v := ?_) (a' := ?_) #[true, true, true, true, true, true, true, true, true, true, true, true, true, true, true, false, false] rfl rfl (by kernel_rfl) (fun _ _ _ h => h) (Or.inl ⟨by rfl, ?_⟩) hHeld ?_ ?_
    rotate_left
    · rintro w' ⟨s0, s1, s2⟩
      go_simp
      with_reducible rfl
    rotate_left
    · simp only [Act.put, List.setIfInBounds_toArray, List.set_cons_zero, List.set_cons_succ, i64_w, i32_w]
      rfl
    refine last_ (i := 15) (N := some 58) #[true, true, true, true, true, true, true, true, true, true, true, true, true, true, true, true, false] rfl rfl (by kernel_rfl) (by decide) (fun K hK => ?_)
    refine goes_ Try.func21 (by kernel_rfl) rfl #[ptr (blq bs up), ptr (blq bs x), ptr (blq bs before)] (by rfl) rfl rfl (by (try simp only [List.map_toArray, List.map_cons, List.map_nil]); first | done | rfl) ?_
    have q := HR.out W.drew (Below.refl _ W).drew
    rw [PX.out, PU.out, PB.out] at q
    refine q.mono ?_
    rintro e w9 ⟨rfl, hq⟩
    have HQ := Aside0.mk hq
    clear hq q
    refine ⟨_, rfl, ?_⟩
    refine hK.out _ _ ?_
    clear hK K
    refine norm_ (a' := ?_) ?_ ?_
    rotate_left
    · show Act.put _ (some 58) _ = _
      simp only [Act.put, List.setIfInBounds_toArray, List.set_cons_zero, List.set_cons_succ, i64_w, i32_w]
      rfl
    refine pure_ (i := 16) (N := some 8) (v := ?_) (a' := ?_) #[true, true, true, true, true, true, true, true, true, true, true, true, true, true, true, true, true] rfl rfl (by kernel_rfl) (fun _ _ _ h => h) (Or.inl ⟨by rfl, ?_⟩) ?_ ?_
    rotate_left
    · intro w'
      go_simp
      with_reducible rfl
    rotate_left
    · simp only [Act.put, List.setIfInBounds_toArray, List.set_cons_zero, List.set_cons_succ, i64_w, i32_w]
      rfl
    refine done_ (by kernel_rfl) ?_
    go_wp2_with fail
    refine bodyPost_ret (results_tmp rfl _ _ _) rfl ?_
    exact ⟨rfl, HQ.out⟩
theorem PDrop_nil (W : World) (x : Int) : Calls Try.prog 10 #[.pointer none, .int .i64 x] W fun e w' => e = .returned (.int .i64 1) ∧ w' = W := by
  go_enter Try.func10, Try.ntmps10
  go_wp2_with fail
  refine bodyPost_ret (results_tmp rfl _ _ _) rfl ?_
  exact ⟨rfl, rfl⟩
theorem PDrop_none (W : World) (base p : Nat) (bs : List Nat) (F : FF) (h : PW W base p bs F) (x : Int) (hno : ¬ inP bs.length x) : Calls Try.prog 10 #[ptr p, .int .i64 x] W fun e w' => e = .returned (.int .i64 13) ∧ w' = W := by
  have HH := Aside0.mk (fun (z : Int) (b : Bool) (hb : hasB bs.length z = b) => has W base p bs F h z b hb)
  have b1 := hasB_false hno
  clear h hno
  go_enter Try.func10, Try.ntmps10
  go_wp2_with (go_at_call 28; refine (HH.out _ _ rfl).mono ?_; rintro e w9 ⟨rfl, hw⟩; rw [hw]; clear hw w9)
  refine bodyPost_ret (results_tmp rfl _ _ _) rfl ?_
  exact ⟨rfl, rfl⟩
set_option maxHeartbeats 4000000 in
set_option maxRecDepth 100000 in
theorem PDrop_in (W : World) (base p : Nat) (bs : List Nat) (F : FF) (h : PW W base p bs F) (x : Int) (h1 : inP bs.length x) (c : Int) (Q : World → Prop)
    (hR : Calls Try.prog 20 #[pv bs x] W fun e w' => e = .returned (.int .i64 c) ∧ Q w') : Calls Try.prog 10 #[ptr p, .int .i64 x] W fun e w' => e = .returned (.int .i64 c) ∧ Q w' := by
  have HH := Aside0.mk (fun (z : Int) (b : Bool) (hb : hasB bs.length z = b) => has W base p bs F h z b hb)
  have b1 := hasB_true h1
  obtain ⟨g, cap, hp0, hit⟩ := h.items (by have := h1.1; have := h1.2; omega)
  have c1 := hit x h1
  rw [pv_pos bs (show ¬ x < 0 by have := h1.1; omega)] at hR
  have HR := Aside0.mk hR
  have r1 : 0 ≤ x := h1.1
  have r2 : x < (bs.length : Int) := h1.2
  clear h h1 hR hit
  go_enter Try.func10, Try.ntmps10
  go_wp2_with (first | (go_at_call 28; refine (HH.out _ _ rfl).mono ?_; rintro e w9 ⟨rfl, hw⟩; rw [hw]; clear hw w9) | (go_at_call 20; refine HR.out.mono ?_; rintro e w9 ⟨rfl, hq⟩; have HQ := Aside0.mk hq; clear hq))
  refine bodyPost_ret (results_tmp rfl _ _ _) rfl ?_
  exact ⟨rfl, HQ.out⟩
end Go.Proofs.Ytgamhkhninogeaa.G
