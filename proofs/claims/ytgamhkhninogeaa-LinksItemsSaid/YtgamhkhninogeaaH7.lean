/- What a pool tells of its items: kids and level (links.Pool), walked. -/
import Derived.Test.YtgamhkhninogeaaH6
namespace Go.Proofs.Ytgamhkhninogeaa.G
open Go.RowKit Go.Proofs.YtgamhkhninogeaaW.PrintWords Go.Proofs.YtgamhkhninogeaaW.PrintLast Go.Proofs.YtgamhkhninogeaaW.PrintMore
set_option linter.unusedVariables false
set_option linter.unusedSimpArgs false

/-- From k on, the links number c lead over just these items. -/
def Ch (F : FF) (c : Nat) : Int → List Int → Prop
  | k, [] => k < 0
  | k, a :: l => k = a ∧ 0 ≤ a ∧ Ch F c (F a c) l
theorem Kids_no (W : World) (x : Int) (P : Value) (hP : Calls Try.prog 28 #[P, .int .i64 x] W fun e w' => e = .returned (.bool false) ∧ w' = W) (o : Option Addr) (ho : P = .pointer o) : Calls Try.prog 11 #[P, .int .i64 x] W fun e w' => e = .returned (.slice none 0 0) ∧ w' = W := by
  subst ho
  have HP := Aside0.mk hP
  clear hP
  go_enter Try.func11, Try.ntmps11
  go_wp2_with (go_at_call 28; refine HP.out.mono ?_; rintro e w9 ⟨rfl, hw⟩; rw [hw]; clear hw w9)
  refine bodyPost_ret (results_tmp rfl _ _ _) rfl ?_
  exact ⟨rfl, rfl⟩
theorem Level_no (W : World) (x : Int) (P : Value) (hP : Calls Try.prog 28 #[P, .int .i64 x] W fun e w' => e = .returned (.bool false) ∧ w' = W) (o : Option Addr) (ho : P = .pointer o) : Calls Try.prog 12 #[P, .int .i64 x] W fun e w' => e = .returned (.int .i64 (-1)) ∧ w' = W := by
  subst ho
  have HP := Aside0.mk hP
  clear hP
  go_enter Try.func12, Try.ntmps12
  go_wp2_with (go_at_call 28; refine HP.out.mono ?_; rintro e w9 ⟨rfl, hw⟩; rw [hw]; clear hw w9)
  refine bodyPost_ret (results_tmp rfl _ _ _) rfl ?_
  exact ⟨rfl, rfl⟩
theorem Links_no (W : World) (x : Int) (base p : Nat) (bs : List Nat) (F : FF) (h : PW W base p bs F) (hno : ¬ inP bs.length x) : Calls Try.prog 8 #[ptr p, .int .i64 x] W fun e w' => e = .returned (.tuple #[.agg #[.int .i64 0, .int .i64 0, .int .i64 0, .int .i64 0, .int .i64 0], .bool false]) ∧ Below W.heap.size W w' := by
  have HP := Aside0.mk h
  have b1 := hasB_false hno
  clear h hno
  go_enter Try.func8, Try.ntmps8
  go_wp2_with (go_at_call 28; refine (has _ base p bs F (HP.out.below (below_alloc (Below.refl _ W) _)) x _ rfl).mono ?_; rintro e w9 ⟨rfl, hw⟩; rw [hw]; clear hw w9)
  refine bodyPost_ret (results_ct rfl _ _ W.heap.size 27 #[.int .i64 0, .int .i64 0, .int .i64 0, .int .i64 0, .int .i64 0] (0, 0) _ rfl (heap_alloc_new W _) Try.underlying27 rfl (by kernel_rfl)) rfl ?_
  exact ⟨rfl, below_alloc (Below.refl _ W) _⟩

set_option maxHeartbeats 4000000 in
set_option maxRecDepth 100000 in
theorem Level_in (W : World) (base p : Nat) (bs : List Nat) (F : FF) (h : PW W base p bs F) (x : Int) (h1 : inP bs.length x) (l : List Int) (hl : Ch F 1 (F x 1) l) (hn : l.length ≤ 1000000) :
    Calls Try.prog 12 #[ptr p, .int .i64 x] W fun e w' => e = .returned (.int .i64 (l.length : Int)) ∧ w' = W := by
  have HP := Aside0.mk h
  have HX := Aside0.mk h1
  have HC := Aside0.mk hl
  have HN := Aside0.mk hn
  have b1 := hasB_true h1
  have r1 : 0 ≤ x := h1.1
  have r2 : x < (bs.length : Int) := h1.2
  obtain ⟨g, cap, hp0, hit⟩ := h.items (by have := h1.1; have := h1.2; omega)
  have c1 := hit x h1
  obtain ⟨o, ho⟩ : ∃ o, pv bs (F x 1) = .pointer o := ⟨_, rfl⟩
  have e1 := h.gw.cell x h1.1 h1.2 1 (by decide)
  rw [ho] at e1
  have HO := Aside0.mk ho
  clear h h1 hl hn hit ho
  go_enter Try.func12, Try.ntmps12
  go_wp2_with (go_at_call 28; refine (has _ base p bs F HP.out x _ rfl).mono ?_; rintro e w9 ⟨rfl, hw⟩; rw [hw]; clear hw w9)
  clear b1 r1 r2 hp0 c1 e1
  go_loopg [5, 6] l.length (fun kq v5 v6 w => ∃ (m : Int) (l2 : List Int) (n : Nat), v5 = .int .i64 (n : Int) ∧ Aside0 (v6 = pv bs m) ∧ Aside0 (m < bs.length ∧ Ch F 1 m l2 ∧ n + l2.length = l.length ∧ kq = l2.length) ∧ w = W)
  case atStart => exact ⟨F x 1, l, 0, rfl, ⟨HO.out.symm⟩, ⟨HP.out.gw.rng x 1 HX.out.1 HX.out.2, HC.out, by omega, rfl⟩, rfl⟩
  case round =>
  clear HO HC
  obtain ⟨v, hv⟩ : ∃ v, u6 = v := ⟨_, rfl⟩
  subst hv
  obtain ⟨m, l2, n, rfl, HM, HL, rfl⟩ := hrel
  cases l2 with
  | nil =>
    have hu : u6 = .pointer none := by rw [HM.out, pv_neg bs HL.out.2.1]
    subst hu
    go_wp2_with fail
    refine bodyPost_ret (results_tmp rfl _ _ _) rfl ?_
    have := HL.out.2.2.1
    refine ⟨?_, rfl⟩
    have e : n = l.length := by simpa using this
    rw [← e]
    rfl
  | cons a l3 =>
    have hc := HL.out.2.1
    obtain ⟨rfl, ha0, hc2⟩ := hc
    have hu : u6 = ptr (blq bs m) := by rw [HM.out, pv_pos bs (by omega)]
    subst hu
    have HA := Aside0.mk (And.intro ha0 hc2)
    obtain ⟨o, ho⟩ : ∃ o, pv bs (F m 1) = .pointer o := ⟨_, rfl⟩
    have e1 := HP.out.gw.cell m ha0 HL.out.1 1 (by decide)
    rw [ho] at e1
    have HO := Aside0.mk ho
    have hwi : Aside0 (wrap64 ((n : Int) + 1) = ((n + 1 : Nat) : Int)) := ⟨by have := HL.out.2.2.1; have := HN.out; unfold wrap64; omega⟩
    clear ho ha0 hc2
    cases gk with
    | zero => exact absurd HL.out.2.2.2 (by simp)
    | succ k1 =>
      go_wp2_with fail
      go_roundg k1
      case measure => omega
      case rel =>
        refine ⟨F m 1, l3, n + 1, by rw [hwi.out], ⟨HO.out.symm⟩, ⟨HP.out.gw.rng m 1 HA.out.1 HL.out.1, HA.out.2, ?_, ?_⟩, rfl⟩
        · have := HL.out.2.2.1
          simp at this
          omega
        · have := HL.out.2.2.2
          simp at this
          omega

set_option maxHeartbeats 4000000 in
set_option maxRecDepth 100000 in
theorem Kids_in (W : World) (base p : Nat) (bs : List Nat) (F : FF) (h : PW W base p bs F) (x : Int) (h1 : inP bs.length x) (l : List Int) (hl : Ch F 5 (F x 2) l) (hn : l.length ≤ 1000000) :
    Calls Try.prog 11 #[ptr p, .int .i64 x] W fun e w' => ∃ v, e = .returned v ∧ Kd.R (Kd.int .i64) 3 w' W.heap.size (fun _ => True) v l ∧ Below W.heap.size W w' := by
  have HP := Aside0.mk h
  have HX := Aside0.mk h1
  have HC := Aside0.mk hl
  have HN := Aside0.mk hn
  have b1 := hasB_true h1
  have r1 : 0 ≤ x := h1.1
  have r2 : x < (bs.length : Int) := h1.2
  obtain ⟨g, cap, hp0, hit⟩ := h.items (by have := h1.1; have := h1.2; omega)
  have c1 := hit x h1
  obtain ⟨o, ho⟩ : ∃ o, pv bs (F x 2) = .pointer o := ⟨_, rfl⟩
  have e1 := h.gw.cell x h1.1 h1.2 2 (by decide)
  rw [ho] at e1
  have HO := Aside0.mk ho
  clear h h1 hl hn hit ho
  go_enter Try.func11, Try.ntmps11
  go_wp2_with (go_at_call 28; refine (has _ base p bs F HP.out x _ rfl).mono ?_; rintro e w9 ⟨rfl, hw⟩; rw [hw]; clear hw w9)
  clear b1 r1 r2 hp0 c1 e1
  go_loopg [5, 6] l.length (fun kq v5 v6 w => ∃ (m : Int) (l2 acc : List Int), Aside0 (v6 = pv bs m) ∧ Aside0 (m < bs.length ∧ Ch F 5 m l2 ∧ acc ++ l2 = l ∧ kq = l2.length) ∧ Aside0 (Below W.heap.size W w) ∧ Aside0 (Kd.R (Kd.int .i64) 3 w W.heap.size (fun _ => True) v5 acc))
  case atStart => exact ⟨F x 2, l, [], ⟨HO.out.symm⟩, ⟨HP.out.gw.rng x 2 HX.out.1 HX.out.2, HC.out, rfl, rfl⟩, ⟨Below.refl _ _⟩, ⟨Kd.R_nil _ _ _ _ _⟩⟩
  case round =>
  clear HO HC
  obtain ⟨v, hv⟩ : ∃ v, u6 = v := ⟨_, rfl⟩
  subst hv
  obtain ⟨v, hv⟩ : ∃ v, u5 = v := ⟨_, rfl⟩
  subst hv
  obtain ⟨m, l2, acc, HM, HL, HB, HR⟩ := hrel
  cases l2 with
  | nil =>
    have hu : u6 = .pointer none := by rw [HM.out, pv_neg bs HL.out.2.1]
    subst hu
    go_wp2_with fail
    refine bodyPost_ret (results_tmp rfl _ _ _) rfl ?_
    have e : acc = l := by simpa using HL.out.2.2.1
    exact ⟨u5, rfl, e ▸ HR.out, HB.out⟩
  | cons a l3 =>
    have hc := HL.out.2.1
    obtain ⟨rfl, ha0, hc2⟩ := hc
    have hu : u6 = ptr (blq bs m) := by rw [HM.out, pv_pos bs (by omega)]
    subst hu
    have HA := Aside0.mk (And.intro ha0 hc2)
    have HLa := Aside0.mk (show acc.length ≤ 1000000 from by
      have := congrArg List.length HL.out.2.2.1
      rw [List.length_append] at this
      have := HN.out
      omega)
    have e0 := (HP.out.below HB.out).gw.mark m ha0 HL.out.1
    clear ha0 hc2
    cases gk with
    | zero => exact absurd HL.out.2.2.2 (by simp)
    | succ k1 =>
      go_upto_region 6 with ((with_reducible refine gate_builtin (b := .append) (xs := #[.tmp 28, .tmp 33]) rfl ?_); at_builtin; refine Kd.R_append (Kd.int .i64) (w0 := W) W.heap.size rfl (.tmp 28) (.tmp 33) 33 3 (.int .i64 0) 8 rfl Try.underlying33 info3 rfl (by decide) (by omega) u5 acc m [.int .i64 m] (fun _ => True) (fun _ => False) rfl rfl ?aP (fun _ hk => hk.elim) ?aF ?aO ?aB ?aS ?aL ?_; (case aP => rfl); (case aF => exact fun _ _ => trivial); (case aO => exact HR.out); (case aB => exact HB.out); (case aS => exact HB.out.size); (case aL => have := HLa.out; omega); intro v7 w7 ho hb hg hat; have R7 := Aside0.mk ho; have B7 := Aside0.mk hb; clear ho hb hg hat e0)
      obtain ⟨o, ho⟩ : ∃ o, pv bs (F m 5) = .pointer o := ⟨_, rfl⟩
      have e1 := (HP.out.below B7.out).gw.cell m HA.out.1 HL.out.1 5 (by decide)
      rw [ho] at e1
      have HO := Aside0.mk ho
      clear ho
      go_wp2_with fail
      go_roundg k1
      case measure => omega
      case rel =>
        refine ⟨F m 5, l3, acc ++ [m], ⟨HO.out.symm⟩, ⟨HP.out.gw.rng m 5 HA.out.1 HL.out.1, HA.out.2, ?_, ?_⟩, B7, R7⟩
        · have := HL.out.2.2.1
          simpa using this
        · have := HL.out.2.2.2
          simp at this
          omega
end Go.Proofs.Ytgamhkhninogeaa.G
