/- slices.Insert of one attribute into a row of the caller's own: its walk. -/
import Derived.Test.YtnellpilmjjbcaaH6a
namespace Go.Proofs.Ytnellpilmjjbcaa.G
open Go.RowKit Go.Proofs.YtnellpilmjjbcaaW.PrintWords Go.Proofs.YtnellpilmjjbcaaW.PrintLast Go.Proofs.YtnellpilmjjbcaaW.PrintMore
set_option linter.unusedVariables false
set_option linter.unusedSimpArgs false

theorem row_one (W : World) (gv : Nat) (x : S45) (hv : W.heap[gv]? = some (.cells #[.string x.f0, .string x.f1] 45 (0, 0))) : Kd.C k45 W (some ⟨gv, 0, none⟩) 1 [x] := by
  refine ⟨rfl, by omega, fun _ => ⟨_, rfl, fun j p hj => ?_⟩⟩
  cases j with
  | zero =>
    simp only [List.getElem?_cons_zero, Option.some.injEq] at hj
    subst hj
    refine ⟨[.string x.f0, .string x.f1], rfl, k45_mk W x, fun q u hq => ?_⟩
    have := blk_cell hv q
    simp only [Nat.zero_mul, Nat.zero_add, Addr.add_lit] at *
    rw [this]
    simpa using hq
  | succ j => simp at hj
set_option maxHeartbeats 4000000 in
set_option maxRecDepth 100000 in
theorem insert (w0 W : World) (ok : Nat → Prop) (A : Option Addr) (n c : Nat) (l : List S45) (i : Nat) (x : S45) (gv : Nat)
    (hR : Kd.R k45 45 W w0.heap.size ok (.slice A n c) l) (hB : Below w0.heap.size w0 W) (hv : W.heap[gv]? = some (.cells #[.string x.f0, .string x.f1] 45 (0, 0))) (hgv : w0.heap.size ≤ gv) (hne : some gv ≠ (Value.slice A n c).ownBlock) (hi : i ≤ n) (hl : (n + 1) * 32 ≤ 140737488355328) (res : List S45) (hres : res = l.take i ++ [x] ++ l.drop i) :
    Calls Try.prog 29 #[.slice A n c, .int .i64 i, .slice (some ⟨gv, 0, none⟩) 1 1] W fun e w' => ∃ v', e = .returned v' ∧ Kd.R k45 45 w' w0.heap.size (fun _ => True) v' res ∧ Below w0.heap.size w0 w' := by
  have hn : n = l.length := (Kd.R_reads' hR).1
  have hnc : n ≤ c := (Kd.R_reads' hR).2.1
  have HR := Aside0.mk hR
  have HB := Aside0.mk hB
  have HV := Aside0.mk hv
  have HGV := Aside0.mk hgv
  have HNE := Aside0.mk hne
  have HI := Aside0.mk hi
  have HL := Aside0.mk hl
  have HN := Aside0.mk hn
  have HNC := Aside0.mk hnc
  have a1 : decide ((0 : Int) ≤ (i : Int)) = true := decide_eq_true (by omega)
  have a2 : decide ((i : Int) ≤ (n : Int)) = true := decide_eq_true (by omega)
  have HRES := Aside0.mk hres
  clear hres hR hB hv hgv hne hl hn
  by_cases hin : i = n
  · have HIN := Aside0.mk hin
    have a3 : ((i : Int) == (n : Int)) = true := by simp [hin]
    clear hin
    go_enter Try.func29, Try.ntmps29
    have HRV := Aside0.mk (row_one W gv x HV.out)
    have HR2 := Aside0.mk (Kd.R_mono (ok' := fun _ => True) HR.out (fun _ _ => trivial))
    go_wp2_with (at_builtin; refine Kd.R_append_rows k45 (Rr := k45.K W) (w0 := w0) w0.heap.size rfl _ _ 22 45 _ 32 rfl Try.underlying22 info45 rfl (by decide) (by decide) _ l [x] (some ⟨gv, 0, none⟩) 1 1 (fun _ => True) (fun _ => False) rfl rfl HR2.out HRV.out (fun y cs hy => by have hy := k45_open hy; subst hy; exact k45_mkM _ _ _ y) (fun _ h => h.elim) (fun _ _ => trivial) HB.out HB.out.size (by have := HL.out; have := HN.out; omega) ?_; intro v1 w1 hr1 hb1 hg1 ho1; have R1 := Aside0.mk (show Kd.R k45 45 w1 w0.heap.size (fun _ => True) v1 res from by rw [HRES.out, List.take_of_length_le (by have := HIN.out; have := HN.out; omega), List.drop_eq_nil_of_le (by have := HIN.out; have := HN.out; omega), List.append_nil]; exact hr1); have B1 := Aside0.mk hb1; clear hr1 hb1 hg1 ho1)
    all_goals
      go_ret
      exact ⟨_, rfl, R1.out, B1.out⟩
  · have HIN := Aside0.mk hin
    have a3 : ((i : Int) == (n : Int)) = false := by simp; omega
    have hlt := Aside0.mk (show i < n by omega)
    clear hin
    obtain ⟨hok, inner, hown, hrep⟩ := HR.out
    rcases hown.2 with ⟨e, _⟩ | ⟨g, cap, cur, e, hbg, hg, hnc', hcm, hcs, htake⟩
    · injection e with e1 e2 e3
      exact absurd e2 (by have := hlt.out; omega)
    injection e with e1 e2 e3
    subst e1 e3
    have ha : (i : Int) < (c : Int) := by have := hlt.out; omega
    have HG := Aside0.mk hg
    have HBG := Aside0.mk hbg
    have HCS := Aside0.mk (show cur.size = c * 2 from hcs)
    have HCM := Aside0.mk hcm
    have HT := Aside0.mk (show cur.toList.take (n * 2) = inner by have h2 := htake; rw [← HN.out] at h2; exact h2)
    have HREP := Aside0.mk hrep
    have HIL := Aside0.mk hown.1
    clear hown hrep hg hbg hcs hcm htake hok hnc' e2
    by_cases hcap : n + 1 ≤ c
    · have a5 : decide ((c : Int) < (n : Int) + 1) = false := decide_eq_false (by omega)
      have hw1 : wrap64 ((n : Int) + 1) = (n : Int) + 1 := by have := HL.out; unfold wrap64; omega
      have hw2 : wrap64 ((i : Int) + 1) = (i : Int) + 1 := by have := HL.out; unfold wrap64; omega
      go_enter Try.func29, Try.ntmps29
      have b1 : (0 : Int) ≤ (i : Int) + 1 := by omega
      have b2 : (i : Int) ≤ (n : Int) + 1 := by omega
      have q1 : ¬ c = i := by have := hlt.out; omega
      have q2 : ¬ c = i + 1 := by have := hlt.out; omega
      have q3 : i < n := hlt.out
      have q4 : i < c := by have := hlt.out; omega
      have q5 : i + 1 < c := by have := hlt.out; omega
      go_upto_region 14 with (fail)
      go_wp2
      have HGN := Aside0.mk (show gv ≠ g from fun e => HNE.out (by rw [e]; rfl))
      rw [run_callFunc_extern Try.func39 (by kernel_rfl) (by kernel_rfl) (by kernel_rfl) (e := Extern.SlicesOverlaps.overlaps #[22, 22] #[4]) (by kernel_rfl), run_overlaps W gv g _ _ _ _ _ _ _ HV.out HG.out HGN.out]
      simp only [Result.andThen]
      rw [Oper.upon_value]
      have HIN2 := Aside0.mk (show inner = fl l from reps_fl (fun _ _ h => k45_openM h) l inner HREP.out)
      go_upto_region 15 with (fail)
      refine start_ (n := 9) (S := (fun w' => True)) (ds := [8]) #[false, false, false, false, false, false, false, false, false] (by kernel_rfl) rfl rfl ?_ ?_
      · exact trivial
      intro hHeld
      obtain ⟨W5, hW5⟩ : ∃ W5, W.drew = W5 := ⟨_, rfl⟩; rw [hW5]; have HG5 := Aside0.mk (show W5.heap[g]? = some (.cells cur 45 (0, 0)) from hW5 ▸ HG.out); have HV5 := Aside0.mk (show W5.heap[gv]? = some (.cells #[.string x.f0, .string x.f1] 45 (0, 0)) from hW5 ▸ HV.out); have HB5 := Aside0.mk (show Below w0.heap.size w0 W5 from hW5 ▸ below_drew HB.out); clear hW5
      refine pure_ (i := 0) (N := some 69) (v := ?_) (a' := ?_) #[true, false, false, false, false, false, false, false, false] rfl rfl (by kernel_rfl) (fun _ _ _ h => h) (Or.inl ⟨by rfl, ?_⟩) ?_ ?_
      rotate_left
      · intro w'
        go_simp
        with_reducible rfl
      rotate_left
      · simp only [Act.put, List.setIfInBounds_toArray, List.set_cons_zero, List.set_cons_succ, i64_w, i32_w]
        rfl
      refine pure_ (i := 1) (N := some 70) (v := ?_) (a' := ?_) #[true, true, false, false, false, false, false, false, false] rfl rfl (by kernel_rfl) (fun _ _ _ h => h) (Or.inl ⟨by rfl, ?_⟩) ?_ ?_
      rotate_left
      · intro w'
        go_simp
        with_reducible rfl
      rotate_left
      · simp only [Act.put, List.setIfInBounds_toArray, List.set_cons_zero, List.set_cons_succ, i64_w, i32_w]
        rfl
      refine pure_ (i := 2) (N := some 71) (v := ?_) (a' := ?_) #[true, true, true, false, false, false, false, false, false] rfl rfl (by kernel_rfl) (fun _ _ _ h => h) (Or.inl ⟨by rfl, ?_⟩) ?_ ?_
      rotate_left
      · intro w'
        go_simp
        with_reducible rfl
      rotate_left
      · simp only [Act.put, List.setIfInBounds_toArray, List.set_cons_zero, List.set_cons_succ, i64_w, i32_w]
        rfl
      refine pure_ (i := 3) (N := some 72) (v := ?_) (a' := ?_) #[true, true, true, true, false, false, false, false, false] rfl rfl (by kernel_rfl) (fun _ _ _ h => h) (Or.inl ⟨by rfl, ?_⟩) ?_ ?_
      rotate_left
      · intro w'
        go_simp
        with_reducible rfl
      rotate_left
      · simp only [Act.put, List.setIfInBounds_toArray, List.set_cons_zero, List.set_cons_succ, i64_w, i32_w]
        rfl
      refine pure_ (i := 4) (N := some 73) (v := ?_) (a' := ?_) #[true, true, true, true, true, false, false, false, false] rfl rfl (by kernel_rfl) (fun _ _ _ h => h) (Or.inl ⟨by rfl, ?_⟩) ?_ ?_
      rotate_left
      · intro w'
        go_simp
        with_reducible rfl
      rotate_left
      · simp only [Act.put, List.setIfInBounds_toArray, List.set_cons_zero, List.set_cons_succ, i64_w, i32_w]
        rfl
      refine pure_ (i := 5) (N := some 74) (v := ?_) (a' := ?_) #[true, true, true, true, true, true, false, false, false] rfl rfl (by kernel_rfl) (fun _ _ _ h => h) (Or.inl ⟨by rfl, ?_⟩) ?_ ?_
      rotate_left
      · intro w'
        go_simp
        with_reducible rfl
      rotate_left
      · simp only [Act.put, List.setIfInBounds_toArray, List.set_cons_zero, List.set_cons_succ, i64_w, i32_w]
        rfl
      refine pure_ (i := 6) (N := some 75) (v := ?_) (a' := ?_) #[true, true, true, true, true, true, true, false, false] rfl rfl (by kernel_rfl) (fun _ _ _ h => h) (Or.inl ⟨by rfl, ?_⟩) ?_ ?_
      rotate_left
      · intro w'
        go_simp
        with_reducible rfl
      rotate_left
      · simp only [Act.put, List.setIfInBounds_toArray, List.set_cons_zero, List.set_cons_succ, i64_w, i32_w]
        rfl
      refine pure_ (i := 7) (N := some 76) (v := ?_) (a' := ?_) #[true, true, true, true, true, true, true, true, false] rfl rfl (by kernel_rfl) (fun _ _ _ h => h) (Or.inl ⟨by rfl, ?_⟩) ?_ ?_
      rotate_left
      · intro w'
        go_simp
        with_reducible rfl
      rotate_left
      · simp only [Act.put, List.setIfInBounds_toArray, List.set_cons_zero, List.set_cons_succ, i64_w, i32_w]
        rfl
      refine last_ (i := 8) (N := some 77) #[true, true, true, true, true, true, true, true, true] rfl rfl (by kernel_rfl) (by decide) (fun K hK => ?_)
      have hrun := run_copy2 (P := Try.prog) W5 22 22 3 45 g ((i + 1) * 2) (n - i) (c - (i + 1)) ⟨g, i * 2, none⟩ (n + 1 - i) (c - i) cur 45 (fl (l.drop i)) Try.underlying22 (by kernel_rfl) HG5.out (by rw [fl_len, List.length_drop]; have := HN.out; have : Nat.min (n + 1 - i) (n - i) = n - i := Nat.min_eq_right (by omega); rw [this]; omega) (by
        intro j v hj
        rw [Addr.add_lit, blk_cell HG5.out, ← Array.getElem?_toList]
        rw [← fl_drop, ← HIN2.out, ← HT.out, List.getElem?_drop, List.getElem?_take] at hj
        split at hj
        · exact hj
        · cases hj) (by rw [fl_len, List.length_drop, HCS.out]; have := HN.out; have := hlt.out; omega) (fl_one _)
      refine value_ (w1 := _) (v := _) (by rfl) rfl (run_copy_op (s := .tmp 73) (x := .tmp 76) rfl rfl rfl hrun) ?_
      refine hK.out _ _ ?_
      clear hK K
      refine norm_ (a' := ?_) ?_ ?_
      rotate_left
      · show Act.put _ (some 77) _ = _
        simp only [Act.put, List.setIfInBounds_toArray, List.set_cons_zero, List.set_cons_succ, i64_w, i32_w]
        rfl
      refine done_ (by kernel_rfl) ?_
      obtain ⟨L1, hL1⟩ : ∃ L1 : List Value, cur.toList.take ((i + 1) * 2) ++ fl (l.drop i) ++ cur.toList.drop ((i + 1) * 2 + (fl (l.drop i)).length) = L1 := ⟨_, rfl⟩
      obtain ⟨W6, hW6⟩ : ∃ W6, W5.setRow g (cur.toList.take ((i + 1) * 2) ++ fl (l.drop i) ++ cur.toList.drop ((i + 1) * 2 + (fl (l.drop i)).length)).toArray = W6 := ⟨_, rfl⟩
      rw [hW6]
      rw [hL1] at hW6
      have HL1 := Aside0.mk hL1
      have HG6 := Aside0.mk (show W6.heap[g]? = some (.cells L1.toArray 45 (0, 0)) from hW6 ▸ setRow_heap W5 g cur _ 45 _ HG5.out)
      have HV6 := Aside0.mk (show W6.heap[gv]? = some (.cells #[.string x.f0, .string x.f1] 45 (0, 0)) from hW6 ▸ (setRow_other W5 g gv _ HGN.out).trans HV5.out)
      have HB6 := Aside0.mk (show Below w0.heap.size w0 W6 from hW6 ▸ below_setRow HB5.out HBG.out _)
      clear hW6 hL1
      have hrun2 := Aside0.mk (run_copy2 (P := Try.prog) W6 22 22 3 45 g (i * 2) (n + 1 - i) (c - i) ⟨gv, 0, none⟩ 1 1 L1.toArray 45 [.string x.f0, .string x.f1] Try.underlying22 (by kernel_rfl) HG6.out (by have : Nat.min 1 (n + 1 - i) = 1 := Nat.min_eq_left (by omega); rw [this]; rfl) (by
        intro j v hj
        rw [Addr.add_lit, blk_cell HV6.out, Nat.zero_add]
        simpa using hj) (by
        rw [← HL1.out]
        simp only [List.size_toArray, List.length_append, List.length_take, List.length_drop, Array.length_toList, fl_len, HCS.out, List.length_cons, List.length_nil]
        have := HN.out
        have := hlt.out
        omega) (by intro u hu; simp at hu; rcases hu with rfl | rfl <;> rfl))
      go_wp2_with fail
      rw [hrun2.out]
      simp only [Result.andThen]
      rw [Oper.upon_value]
      go_wp2_with fail
      go_ret
      have hins := ins_take cur.toList L1 l i n x HN.out hi (by rw [HT.out, HIN2.out]) (by rw [Array.length_toList, HCS.out]; omega) HL1.out
      have hl1 := hins.1.trans (show cur.toList.length = c * 2 by rw [Array.length_toList, HCS.out])
      refine ⟨_, rfl, ?_, ?_⟩
      · refine R_raw HBG.out (setRow_heap W6 g _ _ 45 _ HG6.out) hcap HCM.out ?_ ?_ ?_
        · simpa using hl1
        · rw [HRES.out]
          simpa using hins.2
        · rw [HRES.out]
          simp only [List.length_append, List.length_take, List.length_drop, List.length_cons, List.length_nil]
          have := HN.out
          omega
      · exact below_setRow HB6.out HBG.out _
    · have a5 : decide ((c : Int) < (n : Int) + 1) = true := decide_eq_true (by omega)
      have hw1 : wrap64 ((n : Int) + 1) = (n : Int) + 1 := by have := HL.out; unfold wrap64; omega
      have hw2 : wrap64 ((i : Int) + 1) = (i : Int) + 1 := by have := HL.out; unfold wrap64; omega
      obtain ⟨m, hm⟩ : ∃ m : Nat, n + 1 = i + m := ⟨n + 1 - i, by omega⟩
      have hm1 : 2 ≤ m := by have := hlt.out; omega
      have hw3 : wrap64 ((n : Int) + 1 - (i : Int)) = (m : Int) := by have := HL.out; unfold wrap64; omega
      have HM := Aside0.mk hm
      have q0 : ¬ c = i := by have := hlt.out; omega
      have q1 : i ≤ c := by have := hlt.out; omega
      have HCAP := Aside0.mk hcap
      clear hm hcap
      have HIN2 := Aside0.mk (show inner = fl l from reps_fl (fun _ _ h => k45_openM h) l inner HREP.out)
      obtain ⟨i0, hi0, hzz⟩ := Option.map_eq_some_iff.1 info45
      simp only [Prod.mk.injEq] at hzz
      obtain ⟨hz0, hz1, hz2⟩ := hzz
      have hxs : ∀ j v, (fl (l.take i))[j]? = some v → W.cell? ((⟨g, 0, none⟩ : Addr).add j) = some v := by
        intro j v hj
        rw [Addr.add_lit, blk_cell HG.out, ← Array.getElem?_toList, Nat.zero_add]
        rw [← fl_take, ← HIN2.out, ← HT.out, List.getElem?_take] at hj
        split at hj
        · rw [List.getElem?_take] at hj
          split at hj
          · exact hj
          · cases hj
        · cases hj
      have hrunA := run_append_make (P := Try.prog) W 22 3 22 45 i0 _ 2 32 Try.underlying22 (k := .i64) (by kernel_rfl) hi0 hz0 hz1 hz2 rfl (by omega) (by omega) g i c (fl (l.take i)) (by rw [fl_len, List.length_take]; have := HN.out; omega) hxs .i64 m (by omega) (by have := HM.out; have := HCAP.out; omega) (by have := HM.out; have := HL.out; omega)
      have hge := grownCap_ge W (i + m) c 45
      have hcm1 := grownCap_le_maxLen W (i + m) c 45 (by have := HM.out; have := HL.out; unfold maxLen; omega)
      obtain ⟨C1, hC1⟩ : ∃ C1, grownCap W (i + m) c 45 = C1 := ⟨_, rfl⟩
      rw [hC1] at hrunA hge hcm1
      obtain ⟨Z, hZ⟩ : ∃ Z : List Value, (Builtin.zeroCells (Value.agg #[.string ⟨#[]⟩, .string ⟨#[]⟩]).cells m ++ Builtin.zeroCells (Value.agg #[.string ⟨#[]⟩, .string ⟨#[]⟩]).cells (C1 - (i + m))).toList = Z := ⟨_, rfl⟩
      have hZl : Z.length = (C1 - i) * 2 := by
        rw [← hZ, Array.length_toList, Array.size_append, size_zeroCells, size_zeroCells]
        show m * 2 + (C1 - (i + m)) * 2 = _
        omega
      obtain ⟨W1, hW1⟩ : ∃ W1, W.drew.alloc (.cells ((fl (l.take i)).toArray ++ Builtin.zeroCells (Value.agg #[.string ⟨#[]⟩, .string ⟨#[]⟩]).cells m ++ Builtin.zeroCells (Value.agg #[.string ⟨#[]⟩, .string ⟨#[]⟩]).cells (C1 - (i + m))) 45) = W1 := ⟨_, rfl⟩
      rw [hW1] at hrunA
      obtain ⟨g1, hg1⟩ : ∃ g1, W.heap.size = g1 := ⟨_, rfl⟩
      rw [hg1] at hrunA
      have HG1 := Aside0.mk (show W1.heap[g1]? = some (.cells (fl (l.take i) ++ Z).toArray 45 (0, 0)) from by
        rw [← hW1, ← hg1]
        refine (heap_alloc_new W.drew _).trans ?_
        congr 2
        apply Array.ext'
        rw [← hZ]
        simp)
      have ltg := blk_lt HG.out
      have ltv := blk_lt HV.out
      have HGo := Aside0.mk (show W1.heap[g]? = some (.cells cur 45 (0, 0)) from by rw [← hW1]; exact (heap_alloc_old W.drew _ ltg).trans HG.out)
      have HV1 := Aside0.mk (show W1.heap[gv]? = some (.cells #[.string x.f0, .string x.f1] 45 (0, 0)) from by rw [← hW1]; exact (heap_alloc_old W.drew _ ltv).trans HV.out)
      have HB1 := Aside0.mk (show Below w0.heap.size w0 W1 from by rw [← hW1]; exact below_alloc (below_drew HB.out) _)
      have LG := Aside0.mk (show g ≠ g1 ∧ gv ≠ g1 ∧ w0.heap.size ≤ g1 by have := HB.out.size; exact ⟨by omega, by omega, by omega⟩)
      clear hW1 ltg ltv hg1 hxs hz0 hz1 hz2 hi0
      have HRA := Aside0.mk hrunA
      have HCM1 := Aside0.mk hcm1
      have HZL := Aside0.mk hZl
      clear hrunA hZ hC1 hcm1 hZl
      obtain ⟨D, hD⟩ : ∃ D, fl (l.take i) ++ Z = D := ⟨_, rfl⟩
      rw [hD] at HG1
      have HD := Aside0.mk hD
      have HDL := Aside0.mk (show D.length = C1 * 2 by rw [← hD, List.length_append, fl_len, List.length_take, HZL.out]; have := HN.out; omega)
      clear hD
      obtain ⟨L0, hL0⟩ : ∃ L0 : List Value, D.take (i * 2) ++ [Value.string x.f0, Value.string x.f1] ++ D.drop (i * 2 + 2) = L0 := ⟨_, rfl⟩
      have hrunB := run_copy2 (P := Try.prog) W1 22 22 3 45 g1 (i * 2) m (C1 - i) ⟨gv, 0, none⟩ 1 1 D.toArray 45 [.string x.f0, .string x.f1] Try.underlying22 (by kernel_rfl) HG1.out (by have : Nat.min 1 m = 1 := Nat.min_eq_left (by omega); rw [this]; rfl) (by
        intro j v hj
        rw [Addr.add_lit, blk_cell HV1.out, Nat.zero_add]
        simpa using hj) (by
        rw [List.size_toArray, HDL.out]
        simp only [List.length_cons, List.length_nil]
        omega) (by intro u hu; simp at hu; rcases hu with rfl | rfl <;> rfl)
      rw [show [Value.string x.f0, Value.string x.f1].length = 2 from rfl] at hrunB
      simp only [List.toList_toArray] at hrunB
      rw [hL0] at hrunB
      obtain ⟨W2, hW2⟩ : ∃ W2, W1.setRow g1 L0.toArray = W2 := ⟨_, rfl⟩
      rw [hW2] at hrunB
      have HRB := Aside0.mk hrunB
      have HG2 := Aside0.mk (show W2.heap[g1]? = some (.cells L0.toArray 45 (0, 0)) from hW2 ▸ setRow_heap W1 g1 _ _ 45 _ HG1.out)
      have HGo2 := Aside0.mk (show W2.heap[g]? = some (.cells cur 45 (0, 0)) from hW2 ▸ (setRow_other W1 g1 g _ LG.out.1).trans HGo.out)
      have HB2 := Aside0.mk (show Below w0.heap.size w0 W2 from hW2 ▸ below_setRow HB1.out LG.out.2.2 _)
      have HL0 := Aside0.mk hL0
      clear hrunB hW2 hL0
      have b1 : (0 : Int) ≤ (i : Int) + 1 := by omega
      have b2 : (i : Int) ≤ (i : Int) + (m : Int) := by omega
      have b3 : (i : Int) + 1 ≤ (i : Int) + (m : Int) := by omega
      have r1 : ¬ C1 = i := by omega
      have r2 : ¬ C1 = i + 1 := by omega
      have r3 : 1 ≤ m := by omega
      have r4 : i + 1 ≤ i + m := by omega
      go_enter Try.func29, Try.ntmps29
      go_upto_region 10 with (at_builtin; refine wp_val (v := .slice (some ⟨g1, 0, none⟩) (i + m) C1) (w' := W1) rfl (run_append_op (s := .tmp 34) (x := .tmp 39) (t := 22) (t2 := 3) (vs := .slice (some ⟨g, 0, none⟩) i c) (vx := .int .i64 m) rfl rfl (congrArg (Value.int .i64) hw3) HRA.out) ?_)
      go_wp2_with fail
      rw [HRB.out]
      simp only [Result.andThen]
      rw [Oper.upon_value]
      go_upto_region 11 with (fail)
      refine start_ (n := 9) (S := (fun w' => True)) (ds := [8]) #[false, false, false, false, false, false, false, false, false] (by kernel_rfl) rfl rfl ?_ ?_
      · exact trivial
      intro hHeld
      obtain ⟨W5, hW5⟩ : ∃ W5, W2.drew = W5 := ⟨_, rfl⟩; rw [hW5]; have HG5 := Aside0.mk (show W5.heap[g1]? = some (.cells L0.toArray 45 (0, 0)) from hW5 ▸ HG2.out); have HGo5 := Aside0.mk (show W5.heap[g]? = some (.cells cur 45 (0, 0)) from hW5 ▸ HGo2.out); have HB5 := Aside0.mk (show Below w0.heap.size w0 W5 from hW5 ▸ below_drew HB2.out); clear hW5
      refine pure_ (i := 0) (N := some 46) (v := ?_) (a' := ?_) #[true, false, false, false, false, false, false, false, false] rfl rfl (by kernel_rfl) (fun _ _ _ h => h) (Or.inl ⟨by rfl, ?_⟩) ?_ ?_
      rotate_left
      · intro w'
        go_simp
        with_reducible rfl
      rotate_left
      · simp only [Act.put, List.setIfInBounds_toArray, List.set_cons_zero, List.set_cons_succ, i64_w, i32_w]
        rfl
      refine pure_ (i := 1) (N := some 47) (v := ?_) (a' := ?_) #[true, true, false, false, false, false, false, false, false] rfl rfl (by kernel_rfl) (fun _ _ _ h => h) (Or.inl ⟨by rfl, ?_⟩) ?_ ?_
      rotate_left
      · intro w'
        go_simp
        with_reducible rfl
      rotate_left
      · simp only [Act.put, List.setIfInBounds_toArray, List.set_cons_zero, List.set_cons_succ, i64_w, i32_w]
        rfl
      refine pure_ (i := 2) (N := some 48) (v := ?_) (a' := ?_) #[true, true, true, false, false, false, false, false, false] rfl rfl (by kernel_rfl) (fun _ _ _ h => h) (Or.inl ⟨by rfl, ?_⟩) ?_ ?_
      rotate_left
      · intro w'
        go_simp
        with_reducible rfl
      rotate_left
      · simp only [Act.put, List.setIfInBounds_toArray, List.set_cons_zero, List.set_cons_succ, i64_w, i32_w]
        rfl
      refine pure_ (i := 3) (N := some 49) (v := ?_) (a' := ?_) #[true, true, true, true, false, false, false, false, false] rfl rfl (by kernel_rfl) (fun _ _ _ h => h) (Or.inl ⟨by rfl, ?_⟩) ?_ ?_
      rotate_left
      · intro w'
        go_simp
        with_reducible rfl
      rotate_left
      · simp only [Act.put, List.setIfInBounds_toArray, List.set_cons_zero, List.set_cons_succ, i64_w, i32_w]
        rfl
      refine pure_ (i := 4) (N := some 50) (v := ?_) (a' := ?_) #[true, true, true, true, true, false, false, false, false] rfl rfl (by kernel_rfl) (fun _ _ _ h => h) (Or.inl ⟨by rfl, ?_⟩) ?_ ?_
      rotate_left
      · intro w'
        go_simp
        with_reducible rfl
      rotate_left
      · simp only [Act.put, List.setIfInBounds_toArray, List.set_cons_zero, List.set_cons_succ, i64_w, i32_w]
        rfl
      refine pure_ (i := 5) (N := some 51) (v := ?_) (a' := ?_) #[true, true, true, true, true, true, false, false, false] rfl rfl (by kernel_rfl) (fun _ _ _ h => h) (Or.inl ⟨by rfl, ?_⟩) ?_ ?_
      rotate_left
      · intro w'
        go_simp
        with_reducible rfl
      rotate_left
      · simp only [Act.put, List.setIfInBounds_toArray, List.set_cons_zero, List.set_cons_succ, i64_w, i32_w]
        rfl
      refine pure_ (i := 6) (N := some 52) (v := ?_) (a' := ?_) #[true, true, true, true, true, true, true, false, false] rfl rfl (by kernel_rfl) (fun _ _ _ h => h) (Or.inl ⟨by rfl, ?_⟩) ?_ ?_
      rotate_left
      · intro w'
        go_simp
        with_reducible rfl
      rotate_left
      · simp only [Act.put, List.setIfInBounds_toArray, List.set_cons_zero, List.set_cons_succ, i64_w, i32_w]
        rfl
      refine pure_ (i := 7) (N := some 53) (v := ?_) (a' := ?_) #[true, true, true, true, true, true, true, true, false] rfl rfl (by kernel_rfl) (fun _ _ _ h => h) (Or.inl ⟨by rfl, ?_⟩) ?_ ?_
      rotate_left
      · intro w'
        go_simp
        with_reducible rfl
      rotate_left
      · simp only [Act.put, List.setIfInBounds_toArray, List.set_cons_zero, List.set_cons_succ, i64_w, i32_w]
        rfl
      refine last_ (i := 8) (N := some 54) #[true, true, true, true, true, true, true, true, true] rfl rfl (by kernel_rfl) (by decide) (fun K hK => ?_)
      have hL2 := ins_grow l i n x HN.out hi D Z L0 _ HD.out.symm (by rw [HDL.out]; have := HM.out; omega) HL0.out rfl
      have hrun := run_copy2 (P := Try.prog) W5 22 22 3 45 g1 ((i + 1) * 2) (i + m - (i + 1)) (C1 - (i + 1)) ⟨g, i * 2, none⟩ (n - i) (c - i) L0.toArray 45 (fl (l.drop i)) Try.underlying22 (by kernel_rfl) HG5.out (by rw [fl_len, List.length_drop]; have := HN.out; have h2 := HM.out; have : Nat.min (n - i) (i + m - (i + 1)) = n - i := Nat.min_eq_left (by omega); rw [this]; omega) (by
        intro j v hj
        rw [Addr.add_lit, blk_cell HGo5.out, ← Array.getElem?_toList]
        rw [← fl_drop, ← HIN2.out, ← HT.out, List.getElem?_drop, List.getElem?_take] at hj
        split at hj
        · exact hj
        · cases hj) (by rw [fl_len, List.length_drop, List.size_toArray, hL2.1, HDL.out]; have := HN.out; have := HM.out; omega) (fl_one _)
      refine value_ (w1 := _) (v := _) (by rfl) rfl (run_copy_op (s := .tmp 50) (x := .tmp 53) rfl rfl rfl hrun) ?_
      refine hK.out _ _ ?_
      clear hK K
      refine norm_ (a' := ?_) ?_ ?_
      rotate_left
      · show Act.put _ (some 54) _ = _
        simp only [Act.put, List.setIfInBounds_toArray, List.set_cons_zero, List.set_cons_succ, i64_w, i32_w]
        rfl
      refine done_ (by kernel_rfl) ?_
      go_wp2_with fail
      go_ret
      refine ⟨_, rfl, ?_, ?_⟩
      · refine R_raw LG.out.2.2 (setRow_heap W5 g1 _ _ 45 _ HG5.out) (by omega) HCM1.out ?_ ?_ ?_
        · have := hL2.2.1.trans HDL.out
          simpa using this
        · rw [HRES.out, ← HM.out]
          simpa using hL2.2.2
        · rw [HRES.out, ← HM.out]
          simp only [List.length_append, List.length_take, List.length_drop, List.length_cons, List.length_nil]
          have := HN.out
          omega
      · exact below_setRow HB5.out LG.out.2.2 _
end Go.Proofs.Ytnellpilmjjbcaa.G
