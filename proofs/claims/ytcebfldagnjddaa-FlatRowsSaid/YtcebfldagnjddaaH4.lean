/- The rows of trees, behind others: what flat.put comes to. -/
import Derived.Test.YtcebfldagnjddaaGx0
import Derived.Test.YtcebfldagnjddaaH1a
import Derived.Test.YtcebfldagnjddaaH2
import Derived.Test.YtcebfldagnjddaaH3
namespace Go.Proofs.Ytcebfldagnjddaa.G
open Go.RowKit Go.Proofs.YtcebfldagnjddaaW.PrintWords Go.Proofs.YtcebfldagnjddaaW.PrintLast Go.Proofs.YtcebfldagnjddaaW.PrintMore
set_option linter.unusedVariables false
set_option linter.unusedSimpArgs false
def rowOf (x : S25) (up : Int) : S53 := ⟨0, up, x.f0, x.f1, x.f2, x.f3⟩
/-- The rows of siblings, behind those that are there. -/
def puts : Nat → List S53 → List S25 → Int → Option (List S53)
  | 0, _, _, _ => none
  | _ + 1, l, [], _ => some l
  | k + 1, l, x :: xs, up => (if l.length ≤ 1000000 ∧ x.f3.length ≤ 1000000000 ∧ x.f4.length ≤ 1000000000 then puts k (l ++ [rowOf x up]) x.f4 ((l.length : Int) + 1) else none).bind fun l' => puts k l' xs up
/-- .. of one. -/
def put1 (k : Nat) (l : List S53) (x : S25) (up : Int) : Option (List S53) :=
  if l.length ≤ 1000000 ∧ x.f3.length ≤ 1000000000 ∧ x.f4.length ≤ 1000000000 then puts k (l ++ [rowOf x up]) x.f4 ((l.length : Int) + 1) else none
theorem puts_cons (k : Nat) (l : List S53) (x : S25) (xs : List S25) (up : Int) : puts (k + 1) l (x :: xs) up = (put1 k l x up).bind fun l' => puts k l' xs up := rfl
theorem puts_mono (k : Nat) : ∀ l xs up, LeO (puts k l xs up) (puts (k + 1) l xs up) := by
  induction k with
  | zero => exact fun _ _ _ => LeO.none _
  | succ k ih =>
    intro l xs up; cases xs with
    | nil => exact LeO.refl _
    | cons x xs =>
      show LeO (puts (k + 1) _ _ _) (puts (k + 2) _ _ _)
      rw [puts, puts]; exact LeO.bind (LeO.ite (ih _ _ _) (LeO.none _)) (fun _ => ih _ _ _)
theorem put1_mono (k : Nat) (l : List S53) (x : S25) (up : Int) : LeO (put1 k l x up) (put1 (k + 1) l x up) := by
  unfold put1
  exact LeO.ite (puts_mono _ _ _ _) (LeO.none _)
/-- put, as the printed functions take it: of nothing yet. -/
def flat_put.f (k : Nat) (l : List S53) (a1_0 : ByteArray) (a1_1 : ByteArray) (a1_2 : ByteArray) (l1_3 : List S69) (l1_4 : List S25) (up : Int) : Option (List S53) := put1 k l ⟨a1_0, a1_1, a1_2, l1_3, l1_4⟩ up
end Go.Proofs.Ytcebfldagnjddaa.G
/- flat.put: its walk. -/
namespace Go.Proofs.Ytcebfldagnjddaa.G
open Go.RowKit Go.Proofs.YtcebfldagnjddaaW.PrintWords Go.Proofs.YtcebfldagnjddaaW.PrintLast Go.Proofs.YtcebfldagnjddaaW.PrintMore
set_option linter.unusedVariables false
set_option linter.unusedSimpArgs false
theorem info53b : (Try.prog.info? 53).map (fun i => (i.zero, i.size, i.bytes)) = some (some (.agg #[(.int .i64 0), (.int .i64 0), (.string ⟨#[]⟩), (.string ⟨#[]⟩), (.string ⟨#[]⟩), (.slice none 0 0)]), 6, 88) := by kernel_rfl
def PutOK (w0 : World) (k : Nat) : Prop := ∀ (x : S25) (A3 : Option Addr) (c3 : Nat) (A4 : Option Addr) (c4 : Nat) (up : Int) (l : List S53) (v : Value) (r : List S53) (w : World),
    Kd.C k69 w0 A3 x.f3.length x.f3 → x.f3.length ≤ c3 → Kd.C k25 w0 A4 x.f4.length x.f4 → x.f4.length ≤ c4 → Below w0.heap.size w0 w → Kd.R k53 53 w w0.heap.size (fun _ => True) v l →
    put1 k l x up = some r →
    Calls Try.prog 29 #[v, .agg #[.string x.f0, .string x.f1, .string x.f2, .slice A3 x.f3.length c3, .slice A4 x.f4.length c4], .int .i64 up] w fun e w' =>
      ∃ v', e = .returned v' ∧ Kd.R k53 53 w' w0.heap.size (fun _ => True) v' r ∧ Below w0.heap.size w0 w' ∧ Fw v w w' v'
set_option maxHeartbeats 4000000 in
set_option maxRecDepth 100000 in
theorem put (w0 : World) (k : Nat) : PutOK w0 k := by
  induction k using Nat.strongRecOn with
  | _ k ih =>
  intro x A3 c3 A4 c4 up l v r w h3 hc3 h4 hc4 hb hR h
  have H3 := Aside0.mk h3
  have H4 := Aside0.mk h4
  have IH := Aside0.mk ih
  have BW := Aside0.mk hb
  have D3 := Aside0.mk hc3
  have D4 := Aside0.mk hc4
  unfold put1 at h
  by_cases hl : l.length ≤ 1000000 ∧ x.f3.length ≤ 1000000000 ∧ x.f4.length ≤ 1000000000
  case neg => rw [if_neg hl] at h; cases h
  rw [if_pos hl] at h
  have H := Aside0.mk h
  have HL := Aside0.mk hl
  obtain ⟨A, c, rfl⟩ := Kd.R_slice hR
  have HN := Aside0.mk hR
  clear h3 h4 h ih hb hR hc3 hc4 hl
  go_enter Try.func29, Try.ntmps29
  go_upto_region 1 with ((with_reducible refine gate_dst (N := 4) rfl ?_); refine box_event ?hg (N := 4) ?hd (cs := #[.string x.f0, .string x.f1, .string x.f2, .slice A3 x.f3.length c3, .slice A4 x.f4.length c4]) (t := 25) ?hr ?_; (case hd => rfl); (case hg => rfl); (case hr => first | (go_simp; done) | (go_simp; rfl)); intro g hg w1 hbox hb1; have HG := Aside0.mk hg; have HX := Aside0.mk hbox; have HB1 := Aside0.mk hb1; clear hbox hb1 hg)
  have hgl := Aside0.mk (show ∀ k, (Value.slice A l.length c).ownBlock = some k → k < w.heap.size from fun k hk => by
    obtain ⟨cells, h1⟩ := Kd.R_typed HN.out k hk; exact blk_lt h1)
  have hG : Aside0 (some g ≠ (Value.slice A l.length c).ownBlock) := ⟨fun e => by have := hgl.out g e.symm; have := HG.out; omega⟩
  have N1 := Aside0.mk (Kd.R_below HN.out (HB1.out.drew))
  have B1 := Aside0.mk (BW.out.trans (HB1.out.drew.mono BW.out.size))
  have F1 := Aside0.mk (Fw.low (v := .slice A l.length c) HB1.out.drew)
  have X1 := Aside0.mk (show w1.drew.heap[g]? = some (.cells #[.string x.f0, .string x.f1, .string x.f2, .slice A3 x.f3.length c3, .slice A4 x.f4.length c4] 25 (0, 0)) from HX.out)
  clear HN BW HB1 HX
  obtain ⟨W2, hW2⟩ : ∃ W2, w1.drew = W2 := ⟨_, rfl⟩
  have g0 : w1.drew.cell? ⟨g, 0, none⟩ = some (.string x.f0) := (blk_cell X1.out 0).trans rfl
  have g1 : w1.drew.cell? ⟨g, 1, none⟩ = some (.string x.f1) := (blk_cell X1.out 1).trans rfl
  have g2 : w1.drew.cell? ⟨g, 2, none⟩ = some (.string x.f2) := (blk_cell X1.out 2).trans rfl
  have g3 : w1.drew.cell? ⟨g, 3, none⟩ = some (.slice A3 x.f3.length c3) := (blk_cell X1.out 3).trans rfl
  refine start_ (n := 15) (S := (fun w' => w'.cell? ⟨g, 0, none⟩ = some (.string x.f0) ∧ w'.cell? ⟨g, 1, none⟩ = some (.string x.f1) ∧ w'.cell? ⟨g, 2, none⟩ = some (.string x.f2) ∧ w'.cell? ⟨g, 3, none⟩ = some (.slice A3 x.f3.length c3))) (ds := [13]) #[false, false, false, false, false, false, false, false, false, false, false, false, false, false, false] (by kernel_rfl) rfl rfl ?_ ?_
  · exact ⟨g0, g1, g2, g3⟩
  intro hHeld
  clear g0 g1 g2 g3; rw [hW2] at N1 B1 F1 X1 hHeld ⊢; clear hW2
  refine pure_ (i := 0) (N := some 9) (v := ?_) (a' := ?_) #[true, false, false, false, false, false, false, false, false, false, false, false, false, false, false] rfl rfl (by kernel_rfl) (fun _ _ _ h => h) (Or.inl ⟨by rfl, ?_⟩) ?_ ?_
  rotate_left
  · intro w'
    go_simp
    with_reducible rfl
  rotate_left
  · simp only [Act.put, List.setIfInBounds_toArray, List.set_cons_zero, List.set_cons_succ, i64_w, i32_w]
    rfl
  refine pure_ (i := 1) (N := some 10) (v := ?_) (a' := ?_) #[true, true, false, false, false, false, false, false, false, false, false, false, false, false, false] rfl rfl (by kernel_rfl) (fun _ _ _ h => h) (Or.inl ⟨by rfl, ?_⟩) ?_ ?_
  rotate_left
  · intro w'
    go_simp
    with_reducible rfl
  rotate_left
  · simp only [Act.put, List.setIfInBounds_toArray, List.set_cons_zero, List.set_cons_succ, i64_w, i32_w]
    rfl
  refine pure_ (i := 2) (N := some 11) (v := ?_) (a' := ?_) #[true, true, true, false, false, false, false, false, false, false, false, false, false, false, false] rfl rfl (by kernel_rfl) (fun _ _ _ h => h) (Or.inl ⟨by rfl, ?_⟩) ?_ ?_
  rotate_left
  · intro w'
    go_simp
    with_reducible rfl
  rotate_left
  · simp only [Act.put, List.setIfInBounds_toArray, List.set_cons_zero, List.set_cons_succ, i64_w, i32_w]
    rfl
  refine pure_ (i := 4) (N := some 13) (v := ?_) (a' := ?_) #[true, true, true, false, true, false, false, false, false, false, false, false, false, false, false] rfl rfl (by kernel_rfl) (fun _ _ _ h => h) (Or.inl ⟨by rfl, ?_⟩) ?_ ?_
  rotate_left
  · intro w'
    go_simp
    with_reducible rfl
  rotate_left
  · simp only [Act.put, List.setIfInBounds_toArray, List.set_cons_zero, List.set_cons_succ, i64_w, i32_w]
    rfl
  refine pure_ (i := 6) (N := some 15) (v := ?_) (a' := ?_) #[true, true, true, false, true, false, true, false, false, false, false, false, false, false, false] rfl rfl (by kernel_rfl) (fun _ _ _ h => h) (Or.inl ⟨by rfl, ?_⟩) ?_ ?_
  rotate_left
  · intro w'
    go_simp
    with_reducible rfl
  rotate_left
  · simp only [Act.put, List.setIfInBounds_toArray, List.set_cons_zero, List.set_cons_succ, i64_w, i32_w]
    rfl
  refine pure_ (i := 8) (N := some 17) (v := ?_) (a' := ?_) #[true, true, true, false, true, false, true, false, true, false, false, false, false, false, false] rfl rfl (by kernel_rfl) (fun _ _ _ h => h) (Or.inl ⟨by rfl, ?_⟩) ?_ ?_
  rotate_left
  · intro w'
    go_simp
    with_reducible rfl
  rotate_left
  · simp only [Act.put, List.setIfInBounds_toArray, List.set_cons_zero, List.set_cons_succ, i64_w, i32_w]
    rfl
  refine take_ (i := 3) (N := some 12) (v := ?_) (a' := ?_) #[true, true, true, true, true, false, true, false, true, false, false, false, false, false, false] rfl rfl (by kernel_rfl) (fun _ _ _ h => h) (Or.inl ⟨by rfl, ?_⟩) hHeld ?_ ?_
  rotate_left
  · rintro w' ⟨s0, s1, s2, s3⟩
    go_simp
    with_reducible rfl
  rotate_left
  · simp only [Act.put, List.setIfInBounds_toArray, List.set_cons_zero, List.set_cons_succ, i64_w, i32_w]
    rfl
  refine take_ (i := 5) (N := some 14) (v := ?_) (a' := ?_) #[true, true, true, true, true, true, true, false, true, false, false, false, false, false, false] rfl rfl (by kernel_rfl) (fun _ _ _ h => h) (Or.inl ⟨by rfl, ?_⟩) hHeld ?_ ?_
  rotate_left
  · rintro w' ⟨s0, s1, s2, s3⟩
    go_simp
    with_reducible rfl
  rotate_left
  · simp only [Act.put, List.setIfInBounds_toArray, List.set_cons_zero, List.set_cons_succ, i64_w, i32_w]
    rfl
  refine take_ (i := 7) (N := some 16) (v := ?_) (a' := ?_) #[true, true, true, true, true, true, true, true, true, false, false, false, false, false, false] rfl rfl (by kernel_rfl) (fun _ _ _ h => h) (Or.inl ⟨by rfl, ?_⟩) hHeld ?_ ?_
  rotate_left
  · rintro w' ⟨s0, s1, s2, s3⟩
    go_simp
    with_reducible rfl
  rotate_left
  · simp only [Act.put, List.setIfInBounds_toArray, List.set_cons_zero, List.set_cons_succ, i64_w, i32_w]
    rfl
  refine take_ (i := 9) (N := some 18) (v := ?_) (a' := ?_) #[true, true, true, true, true, true, true, true, true, true, false, false, false, false, false] rfl rfl (by kernel_rfl) (fun _ _ _ h => h) (Or.inl ⟨by rfl, ?_⟩) hHeld ?_ ?_
  rotate_left
  · rintro w' ⟨s0, s1, s2, s3⟩
    go_simp
    with_reducible rfl
  rotate_left
  · simp only [Act.put, List.setIfInBounds_toArray, List.set_cons_zero, List.set_cons_succ, i64_w, i32_w]
    rfl
  refine one_ (i := 10) (N := some 19) #[true, true, true, true, true, true, true, true, true, true, true, false, false, false, false] rfl rfl (by kernel_rfl) (by decide) (fun K hK => ?_)
  refine goes_ Try.func47 (by kernel_rfl) rfl #[.slice A3 x.f3.length c3] (by rfl) rfl rfl (by (try simp only [List.map_toArray, List.map_cons, List.map_nil]); first | done | rfl) ?_
  refine (api_Attr.calls A3 c3 x.f3 x.f3 W2 (Kd.C_below H3.out B1.out) D3.out (by unfold api_Attr.f; rw [if_pos (by have := HL.out; omega)])).mono ?_
  rintro e w3 ⟨va, rfl, ra, b3⟩
  refine ⟨_, rfl, ?_⟩
  have N3 := Aside0.mk (Kd.R_below N1.out b3)
  have B3 := Aside0.mk (B1.out.trans (b3.mono B1.out.size))
  have F3 := Aside0.mk (F1.out.trans (Fw.low (v := .slice A l.length c) b3))
  have X3 := Aside0.mk (blk_below X1.out b3)
  have RA := Aside0.mk (show Kd.R k69 69 w3 w0.heap.size (fun k => some k ≠ (Value.slice A l.length c).ownBlock) va x.f3 from Kd.R_mono (Kd.R_lower (Kd.R_bound ra) B1.out.size) (fun k hk e => by
    have h1 := hgl.out k e.symm; have h2 := F1.out.size; have h3 := hk.2.1
    omega))
  clear ra b3 N1 B1 F1 X1
  obtain ⟨Aa, ca, ea⟩ := Kd.R_slice RA.out
  subst ea
  refine hK.out _ _ ⟨(blk_cell X3.out 0).trans rfl, (blk_cell X3.out 1).trans rfl, (blk_cell X3.out 2).trans rfl, (blk_cell X3.out 3).trans rfl⟩ (fun hHeld => ?_)
  clear hK K
  refine norm_ (a' := ?_) ?_ ?_
  rotate_left
  · show Act.put _ (some 19) _ = _
    simp only [Act.put, List.setIfInBounds_toArray, List.set_cons_zero, List.set_cons_succ, i64_w, i32_w]
    rfl
  refine pure_ (i := 11) (N := some 20) (v := ?_) (a' := ?_) #[true, true, true, true, true, true, true, true, true, true, true, true, false, false, false] rfl rfl (by kernel_rfl) (fun _ _ _ h => h) (Or.inl ⟨by rfl, ?_⟩) ?_ ?_
  rotate_left
  · intro w'
    go_simp
    with_reducible rfl
  rotate_left
  · simp only [Act.put, List.setIfInBounds_toArray, List.set_cons_zero, List.set_cons_succ, i64_w, i32_w]
    rfl
  refine one_ (i := 12) (N := some 21) #[true, true, true, true, true, true, true, true, true, true, true, true, true, false, false] rfl rfl (by kernel_rfl) (by decide) (fun K hK => ?_)
  refine value_ (w1 := ?_) (v := ?_) (by rfl) rfl ?_ ?_
  rotate_left 2
  · go_simp
    constructor
    · rfl
    · rfl
  have hs := fun (a : Addr) (v : Value) (h : w3.cell? a = some v) (o : Obj) => (World.cell?_alloc_lt w3 o _ (World.block_lt_of_cell? w3 _ h)).trans h
  refine hK.out _ _ ⟨hs _ _ hHeld.1 _, hs _ _ hHeld.2.1 _, hs _ _ hHeld.2.2.1 _, hs _ _ hHeld.2.2.2 _⟩ (fun hHeld2 => ?_)
  clear hs
  clear hK K
  refine norm_ (a' := ?_) ?_ ?_
  rotate_left
  · show Act.put _ (some 21) _ = _
    simp only [Act.put, List.setIfInBounds_toArray, List.set_cons_zero, List.set_cons_succ, i64_w, i32_w]
    rfl
  refine last_ (i := 13) (N := some 22) #[true, true, true, true, true, true, true, true, true, true, true, true, true, true, false] rfl rfl (by kernel_rfl) (by decide) (fun K hK => ?_)
  refine Kd.R_append_step k53 (w0 := w0) (W := w3) w0.heap.size (by rfl) (.tmp 9) (.tmp 21) 28 53 (.agg #[(.int .i64 0), (.int .i64 0), (.string ⟨#[]⟩), (.string ⟨#[]⟩), (.string ⟨#[]⟩), (.slice none 0 0)]) 88 rfl Try.underlying28 info53b rfl (by decide) (by decide) (.slice A l.length c) l (rowOf x up) [.int .i64 0, .int .i64 up, .string x.f0, .string x.f1, .string x.f2, .slice Aa x.f3.length ca] (fun _ => True) (fun k => some k ≠ (Value.slice A l.length c).ownBlock) rfl rfl ?aP (fun k hk => ⟨trivial, hk⟩) (fun _ _ => trivial) N3.out B3.out B3.out.size (by have := HL.out; omega) ?_
  case aP => exact k53_mkM w3 w0.heap.size _ (rowOf x up) RA.out
  intro v1 w4 hn4 hb4 hg4 ho4
  have N4 := Aside0.mk hn4
  have B4 := Aside0.mk hb4
  have F4 := Aside0.mk (F3.out.trans (show Fw (.slice A l.length c) w3 w4 v1 from ⟨hg4.size, fun b hb hne => hg4.block b hb hne, ho4⟩))
  have X4 := Aside0.mk (blk_grown X3.out hg4 hG.out)
  clear hn4 hb4 hg4 ho4 N3 B3 F3 X3 RA
  refine hK.out _ _ ?_
  clear hK K
  refine norm_ (a' := ?_) ?_ ?_
  rotate_left
  · show Act.put _ (some 22) _ = _
    simp only [Act.put, List.setIfInBounds_toArray, List.set_cons_zero, List.set_cons_succ, i64_w, i32_w]
    rfl
  refine pure_ (i := 14) (N := some 0) (v := ?_) (a' := ?_) #[true, true, true, true, true, true, true, true, true, true, true, true, true, true, true] rfl rfl (by kernel_rfl) (fun _ _ _ h => h) (Or.inl ⟨by rfl, ?_⟩) ?_ ?_
  rotate_left
  · intro w'
    go_simp
    with_reducible rfl
  rotate_left
  · simp only [Act.put, List.setIfInBounds_toArray, List.set_cons_zero, List.set_cons_succ, i64_w, i32_w]
    rfl
  refine done_ (by kernel_rfl) ?_
  obtain ⟨lq, hlq⟩ : ∃ lq, l ++ [rowOf x up] = lq := ⟨_, rfl⟩
  rw [hlq] at N4 H
  have HLQ := Aside0.mk (show lq.length = l.length + 1 by rw [← hlq]; simp)
  clear hlq
  obtain ⟨A2, c2, ev⟩ := Kd.R_slice N4.out
  subst ev
  obtain ⟨n, hn⟩ : ∃ n, l.length = n := ⟨_, rfl⟩
  rw [hn] at H HL
  have HNN := Aside0.mk hn
  obtain ⟨m, hm⟩ : ∃ m, lq.length = m := ⟨_, rfl⟩
  rw [hm] at N4 F4
  have HM := Aside0.mk (show m = n + 1 by rw [← hm, ← hn]; exact HLQ.out)
  have g4 : w4.cell? ⟨g, 4, none⟩ = some (.slice A4 x.f4.length c4) := (blk_cell X4.out 4).trans rfl
  have HMM := Aside0.mk hm
  obtain ⟨mi, hmi2⟩ : ∃ mi : Int, (m : Int) = mi := ⟨_, rfl⟩
  have HMI := Aside0.mk (show mi = (n : Int) + 1 by have := HM.out; omega)
  rw [hm]
  clear hm hn
  obtain ⟨HMIX⟩ : Aside0 ((m : Int) = mi) := ⟨hmi2⟩
  have HMI2 := Aside0.mk HMIX
  clear hmi2 HMIX
  go_upto_region 3 with fail
  rw [HMI2.out]
  replace H := Aside0.mk (show puts k lq x.f4 mi = some r by rw [HMI.out]; exact H.out)
  obtain ⟨v0, hv0⟩ : ∃ v, Value.slice A2 m c2 = v := ⟨_, rfl⟩
  simp only [hv0] at N4 F4 ⊢
  clear hv0
  go_wp2_with fail
  go_loopg [0, 28] k (fun kq v0 v28 w' => ∃ (i : Int) (l2 : List S53), v28 = .int .i64 i ∧ Aside0 (0 ≤ i ∧ i ≤ x.f4.length ∧ puts kq l2 (x.f4.drop i.toNat) mi = some r ∧ kq ≤ k) ∧ Aside0 (Kd.R k53 53 w' w0.heap.size (fun _ => True) v0 l2) ∧ Aside0 (Below w0.heap.size w0 w') ∧ Aside0 (Fw (.slice A l.length c) w w' v0) ∧ Aside0 (w'.heap[g]? = some (.cells #[.string x.f0, .string x.f1, .string x.f2, .slice A3 x.f3.length c3, .slice A4 x.f4.length c4] 25 (0, 0))))
  case atStart => exact ⟨0, lq, rfl, ⟨by omega, by omega, by simpa using H.out, by omega⟩, N4, B4, F4, X4⟩
  case round =>
  clear N4 B4 F4 X4 H HLQ g4
  obtain ⟨i, l2, rfl, HI, N, B, F, X⟩ := hrel
  cases gk with
  | zero => exact absurd HI.out.2.2.1 (by simp [puts])
  | succ k1 =>
  by_cases hi : i < x.f4.length
  case neg =>
    have hr : r = l2 := by
      have h := HI.out.2.2.1; rw [List.drop_eq_nil_of_le (by omega)] at h
      exact (Option.some.inj h).symm
    have hib : decide (i < (x.f4.length : Int)) = false := decide_eq_false hi; clear HI hi; subst hr
    go_wp2_with fail
    go_ret
    exact ⟨_, rfl, N.out, B.out, F.out⟩
  obtain ⟨h0, hi2, hput, hkk⟩ := HI.out
  clear HI
  have hib : decide (i < (x.f4.length : Int)) = true := decide_eq_true hi
  have hi0 : decide (0 ≤ i) = true := decide_eq_true h0
  rw [drop_T25 _ _ h0 hi, puts_cons] at hput
  obtain ⟨l3, hb1, hb2⟩ := Option.bind_eq_some_iff.1 hput
  have HB1 := Aside0.mk hb1
  have HB2 := Aside0.mk hb2
  clear hput hb1 hb2
  obtain ⟨ad, a3, d3, a4, d4, eA, t0, t1, t2, t3, t4, hd3, hC3, hd4, hC4⟩ := at_T25 H4.out i h0 hi
  subst eA
  obtain ⟨y, hy⟩ : ∃ y, rd_T25 x.f4 i = y := ⟨_, rfl⟩
  rw [hy] at t0 t1 t2 t3 t4 hd3 hC3 hd4 hC4 HB1
  replace t0 := (B.out.cell (World.block_lt_of_cell? w0 _ t0)).trans t0
  replace t1 := (B.out.cell (World.block_lt_of_cell? w0 _ t1)).trans t1
  replace t2 := (B.out.cell (World.block_lt_of_cell? w0 _ t2)).trans t2
  replace t3 := (B.out.cell (World.block_lt_of_cell? w0 _ t3)).trans t3
  replace t4 := (B.out.cell (World.block_lt_of_cell? w0 _ t4)).trans t4
  have C3 := Aside0.mk hC3
  have C4 := Aside0.mk hC4
  have E3 := Aside0.mk hd3
  have E4 := Aside0.mk hd4
  have HY := Aside0.mk hy
  clear hC3 hC4 hd3 hd4 hy
  have hwi : IntKind.i64.wrap (i + 1) = i + 1 := IntWalk.i64_in _ (by have := HL.out; omega)
  have hgn : Aside0 (some g ≠ (u0 : Value).ownBlock) := ⟨by
    intro e; have h1 := Kd.R_typed N.out g e.symm; obtain ⟨cells, h1⟩ := h1; have h2 := X.out; rw [h1] at h2
    injection h2 with h2
    injection h2 with _ h2
    cases h2⟩
  go_wp2_with (go_at_call 29; refine (IH.out k1 (by omega) y _ d3 _ d4 mi l2 u0 l3 _ C3.out E3.out C4.out E4.out (below_alloc B.out _) (Kd.R_alloc N.out _) HB1.out).mono ?_; rintro e w9 ⟨v9, rfl, hn9, hb9, hf9⟩; have N9 := Aside0.mk hn9; have B9 := Aside0.mk hb9; have F9 := Aside0.mk hf9; clear hn9 hb9 hf9)
  go_roundg k1
  case measure => omega
  case rel => exact ⟨i + 1, l3, rfl, ⟨by omega, by omega, HB2.out, by omega⟩, N9, B9, ⟨F.out.trans ((Fw.low (v := u0) (below_alloc (Below.refl _ _) _)).trans F9.out)⟩, ⟨F9.out.blk (blk_alloc X.out _) hgn.out⟩⟩
end Go.Proofs.Ytcebfldagnjddaa.G
