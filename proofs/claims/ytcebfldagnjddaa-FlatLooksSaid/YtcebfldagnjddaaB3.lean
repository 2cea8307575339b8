/- What the claim LawFlatLooks rests on, part 3 of 7: the kit's words, the printed walks, the walks by hand, the plain laws. -/
import Derived.Test.YtcebfldagnjddaaB2
namespace Go.Proofs.Ytcebfldagnjddaa.G
open List renaming setIfInBounds_toArray → zt, set_cons_zero → zu, set_cons_succ → zv
open Bool renaming true → tT, false → fF
open Go.RowKit Go.Proofs.YtcebfldagnjddaaW.PrintWords Go.Proofs.YtcebfldagnjddaaW.PrintLast Go.Proofs.YtcebfldagnjddaaW.PrintMore
set_option linter.unusedVariables false
set_option linter.unusedSimpArgs false
def rowOf (x : S25) (up : Int) : S53 := ⟨0, up, x.f0, x.f1, x.f2, x.f3⟩
/-- The rows of siblings, behind those that are there. -/
def puts : Nat → List S53 → List S25 → Int → Option (List S53)
  | 0, _, _, _ => none
  | _ + 1, l, [], _ => some l
  | k + 1, l, x :: xs, up => (if l.length ≤ 1000000 ∧ x.f3.length ≤ 1000000000 ∧ x.f4.length ≤ 1000000000 then puts k (l ++ [rowOf x up]) x.f4 ((l.length : Int) + 1) else none).bind fun l' => puts k l' xs up
/-- .. of one. -/
def put1 (k : Nat) (l : List S53) (x : S25) (up : Int) : Option (List S53) :=
  if l.length ≤ 1000000 ∧ x.f3.length ≤ 1000000000 ∧ x.f4.length ≤ 1000000000 then puts k (l ++ [rowOf x up]) x.f4 ((l.length : Int) + 1) else none
theorem puts_cons (k : Nat) (l : List S53) (x : S25) (xs : List S25) (up : Int) : puts (k + 1) l (x :: xs) up = (put1 k l x up).bind fun l' => puts k l' xs up := rfl
theorem puts_mono (k : Nat) : ∀ l xs up, LeO (puts k l xs up) (puts (k + 1) l xs up) := by
  induction k with
  | zero => exact fun _ _ _ => LeO.none _
  | succ k ih =>
    intro l xs up
    cases xs with
    | nil => exact LeO.refl _
    | cons x xs =>
      show LeO (puts (k + 1) _ _ _) (puts (k + 2) _ _ _)
      rw [puts, puts]; exact LeO.bind (LeO.ite (ih _ _ _) (LeO.none _)) (fun _ => ih _ _ _)
theorem put1_mono (k : Nat) (l : List S53) (x : S25) (up : Int) : LeO (put1 k l x up) (put1 (k + 1) l x up) := by
  unfold put1; exact LeO.ite (puts_mono _ _ _ _) (LeO.none _)
end Go.Proofs.Ytcebfldagnjddaa.G
/- flat.put: its walk. -/
namespace Go.Proofs.Ytcebfldagnjddaa.G
open List renaming setIfInBounds_toArray → zt, set_cons_zero → zu, set_cons_succ → zv
open Bool renaming true → tT, false → fF
open Go.RowKit Go.Proofs.YtcebfldagnjddaaW.PrintWords Go.Proofs.YtcebfldagnjddaaW.PrintLast Go.Proofs.YtcebfldagnjddaaW.PrintMore
set_option linter.unusedVariables false
set_option linter.unusedSimpArgs false
theorem info53b : (Try.prog.info? 53).map (fun i => (i.zero, i.size, i.bytes)) = some (some (.agg #[(.int .i64 0), (.int .i64 0), (.string ⟨#[]⟩), (.string ⟨#[]⟩), (.string ⟨#[]⟩), (.slice none 0 0)]), 6, 88) := by kernel_rfl
def PutOK (w0 : World) (k : Nat) : Prop := ∀ (x : S25) (A3 : Option Addr) (c3 : Nat) (A4 : Option Addr) (c4 : Nat) (up : Int) (l : List S53) (v : Value) (r : List S53) (w : World),
    Kd.C k69 w0 A3 x.f3.length x.f3 → x.f3.length ≤ c3 → Kd.C k25 w0 A4 x.f4.length x.f4 → x.f4.length ≤ c4 → Below w0.heap.size w0 w → Kd.R k53 53 w w0.heap.size (fun _ => True) v l →
    put1 k l x up = some r →
    Calls Try.prog 29 #[v, .agg #[.string x.f0, .string x.f1, .string x.f2, .slice A3 x.f3.length c3, .slice A4 x.f4.length c4], .int .i64 up] w fun e w' =>
      ∃ v', e = .returned v' ∧ Kd.R k53 53 w' w0.heap.size (fun _ => True) v' r ∧ Below w0.heap.size w0 w' ∧ Fw v w w' v'
set_option maxHeartbeats 4000000 in
set_option maxRecDepth 100000 in
theorem put (w0 : World) (k : Nat) : PutOK w0 k := by
  induction k using Nat.strongRecOn with
  | _ k ih =>
  intro x A3 c3 A4 c4 up l v r w h3 hc3 h4 hc4 hb hR h; have H3 := zk h3; have H4 := zk h4; have IH := zk ih; have BW := zk hb; have D3 := zk hc3; have D4 := zk hc4; unfold put1 at h
  by_cases hl : l.length ≤ 1000000 ∧ x.f3.length ≤ 1000000000 ∧ x.f4.length ≤ 1000000000
  case neg => rw [if_neg hl] at h; cases h
  rw [if_pos hl] at h; have H := zk h; have HL := zk hl; obtain ⟨A, c, rfl⟩ := Kd.R_slice hR; have HN := zk hR; clear h3 h4 h ih hb hR hc3 hc4 hl
  go_enter Try.func29, Try.ntmps29
  go_upto_region 1 with ((with_reducible refine gd (N := 4) rfl ?_); refine zb ?hg (N := 4) ?hd (cs := #[.string x.f0, .string x.f1, .string x.f2, .slice A3 x.f3.length c3, .slice A4 x.f4.length c4]) (t := 25) ?hr ?_; (case hd => rfl); (case hg => rfl); (case hr => go_simp; first | done | rfl); intro g hg w1 hbox hb1; have HG := zk hg; have HX := zk hbox; have HB1 := zk hb1; clear hbox hb1 hg)
  have hgl := zk (show ∀ k, (Value.slice A l.length c).ownBlock = some k → k < w.heap.size from fun k hk => by
    obtain ⟨cells, h1⟩ := Kd.R_typed HN.out k hk
    exact blk_lt h1)
  have hG : Aside0 (some g ≠ (Value.slice A l.length c).ownBlock) := ⟨fun e => by have := hgl.out g e.symm; have := HG.out; omega⟩; have N1 := zk (Kd.R_below HN.out (HB1.out.drew)); have B1 := zk (BW.out.trans (HB1.out.drew.mono BW.out.size)); have F1 := zk (Fw.low (v := .slice A l.length c) HB1.out.drew); have X1 := zk (show w1.drew.heap[g]? = some (.cells #[.string x.f0, .string x.f1, .string x.f2, .slice A3 x.f3.length c3, .slice A4 x.f4.length c4] 25 (0, 0)) from HX.out); clear HN BW HB1 HX; obtain ⟨W2, hW2⟩ : ∃ W2, w1.drew = W2 := ⟨_, rfl⟩; have g0 : w1.drew.cell? ⟨g, 0, none⟩ = some (.string x.f0) := (zC X1.out 0).trans rfl; have g1 : w1.drew.cell? ⟨g, 1, none⟩ = some (.string x.f1) := (zC X1.out 1).trans rfl; have g2 : w1.drew.cell? ⟨g, 2, none⟩ = some (.string x.f2) := (zC X1.out 2).trans rfl; have g3 : w1.drew.cell? ⟨g, 3, none⟩ = some (.slice A3 x.f3.length c3) := (zC X1.out 3).trans rfl; refine start_ (n := 15) (S := (fun w' => w'.cell? ⟨g, 0, none⟩ = some (.string x.f0) ∧ w'.cell? ⟨g, 1, none⟩ = some (.string x.f1) ∧ w'.cell? ⟨g, 2, none⟩ = some (.string x.f2) ∧ w'.cell? ⟨g, 3, none⟩ = some (.slice A3 x.f3.length c3))) (ds := [13]) #[fF,fF,fF,fF,fF,fF,fF,fF,fF,fF,fF,fF,fF,fF,fF] (by kernel_rfl) rfl rfl ?_ ?_; (exact ⟨g0, g1, g2, g3⟩); intro hHeld; clear g0 g1 g2 g3; rw [hW2] at N1 B1 F1 X1 hHeld ⊢; clear hW2; refine pure_ (i := 0) (N := some 9) (v := ?_) (a' := ?_) #[tT,fF,fF,fF,fF,fF,fF,fF,fF,fF,fF,fF,fF,fF,fF] rfl rfl (by kernel_rfl) (fun _ _ _ h => h) (Or.inl ⟨by rfl, ?_⟩) ?_ ?_; rotate_left; (intro w'; go_simp; (with_reducible rfl)); rotate_left; (simp only [Act.put, zt, zu, zv, i64_w, i32_w]; rfl); refine pure_ (i := 1) (N := some 10) (v := ?_) (a' := ?_) #[tT,tT,fF,fF,fF,fF,fF,fF,fF,fF,fF,fF,fF,fF,fF] rfl rfl (by kernel_rfl) (fun _ _ _ h => h) (Or.inl ⟨by rfl, ?_⟩) ?_ ?_; rotate_left; (intro w'; go_simp; (with_reducible rfl)); rotate_left; (simp only [Act.put, zt, zu, zv, i64_w, i32_w]; rfl); refine pure_ (i := 2) (N := some 11) (v := ?_) (a' := ?_) #[tT,tT,tT,fF,fF,fF,fF,fF,fF,fF,fF,fF,fF,fF,fF] rfl rfl (by kernel_rfl) (fun _ _ _ h => h) (Or.inl ⟨by rfl, ?_⟩) ?_ ?_; rotate_left; (intro w'; go_simp; (with_reducible rfl)); rotate_left; (simp only [Act.put, zt, zu, zv, i64_w, i32_w]; rfl); refine pure_ (i := 4) (N := some 13) (v := ?_) (a' := ?_) #[tT,tT,tT,fF,tT,fF,fF,fF,fF,fF,fF,fF,fF,fF,fF] rfl rfl (by kernel_rfl) (fun _ _ _ h => h) (Or.inl ⟨by rfl, ?_⟩) ?_ ?_; rotate_left; (intro w'; go_simp; (with_reducible rfl)); rotate_left; (simp only [Act.put, zt, zu, zv, i64_w, i32_w]; rfl); refine pure_ (i := 6) (N := some 15) (v := ?_) (a' := ?_) #[tT,tT,tT,fF,tT,fF,tT,fF,fF,fF,fF,fF,fF,fF,fF] rfl rfl (by kernel_rfl) (fun _ _ _ h => h) (Or.inl ⟨by rfl, ?_⟩) ?_ ?_; rotate_left; (intro w'; go_simp; (with_reducible rfl)); rotate_left; (simp only [Act.put, zt, zu, zv, i64_w, i32_w]; rfl); refine pure_ (i := 8) (N := some 17) (v := ?_) (a' := ?_) #[tT,tT,tT,fF,tT,fF,tT,fF,tT,fF,fF,fF,fF,fF,fF] rfl rfl (by kernel_rfl) (fun _ _ _ h => h) (Or.inl ⟨by rfl, ?_⟩) ?_ ?_; rotate_left; (intro w'; go_simp; (with_reducible rfl)); rotate_left; (simp only [Act.put, zt, zu, zv, i64_w, i32_w]; rfl); refine take_ (i := 3) (N := some 12) (v := ?_) (a' := ?_) #[tT,tT,tT,tT,tT,fF,tT,fF,tT,fF,fF,fF,fF,fF,fF] rfl rfl (by kernel_rfl) (fun _ _ _ h => h) (Or.inl ⟨by rfl, ?_⟩) hHeld ?_ ?_; rotate_left; (rintro w' ⟨s0, s1, s2, s3⟩; go_simp; (with_reducible rfl)); rotate_left; (simp only [Act.put, zt, zu, zv, i64_w, i32_w]; rfl); refine take_ (i := 5) (N := some 14) (v := ?_) (a' := ?_) #[tT,tT,tT,tT,tT,tT,tT,fF,tT,fF,fF,fF,fF,fF,fF] rfl rfl (by kernel_rfl) (fun _ _ _ h => h) (Or.inl ⟨by rfl, ?_⟩) hHeld ?_ ?_; rotate_left; (rintro w' ⟨s0, s1, s2, s3⟩; go_simp; (with_reducible rfl)); rotate_left; (simp only [Act.put, zt, zu, zv, i64_w, i32_w]; rfl); refine take_ (i := 7) (N := some 16) (v := ?_) (a' := ?_) #[tT,tT,tT,tT,tT,tT,tT,tT,tT,fF,fF,fF,fF,fF,fF] rfl rfl (by kernel_rfl) (fun _ _ _ h => h) (Or.inl ⟨by rfl, ?_⟩) hHeld ?_ ?_; rotate_left; (rintro w' ⟨s0, s1, s2, s3⟩; go_simp; (with_reducible rfl)); rotate_left; (simp only [Act.put, zt, zu, zv, i64_w, i32_w]; rfl); refine take_ (i := 9) (N := some 18) (v := ?_) (a' := ?_) #[tT,tT,tT,tT,tT,tT,tT,tT,tT,tT,fF,fF,fF,fF,fF] rfl rfl (by kernel_rfl) (fun _ _ _ h => h) (Or.inl ⟨by rfl, ?_⟩) hHeld ?_ ?_; rotate_left; (rintro w' ⟨s0, s1, s2, s3⟩; go_simp; (with_reducible rfl)); rotate_left; (simp only [Act.put, zt, zu, zv, i64_w, i32_w]; rfl); refine one_ (i := 10) (N := some 19) #[tT,tT,tT,tT,tT,tT,tT,tT,tT,tT,tT,fF,fF,fF,fF] rfl rfl (by kernel_rfl) (by decide) (fun K hK => ?_); refine goes_ Try.func47 (by kernel_rfl) rfl #[.slice A3 x.f3.length c3] (by rfl) rfl rfl (by (try simp only [List.map_toArray, List.map_cons, List.map_nil]); first | done | rfl) ?_; refine (api_Attr.calls A3 c3 x.f3 x.f3 W2 (Kd.C_below H3.out B1.out) D3.out (by unfold api_Attr.f; rw [if_pos (by have := HL.out; omega)])).mono ?_; rintro e w3 ⟨va, rfl, ra, b3⟩; refine ⟨_, rfl, ?_⟩; have N3 := zk (Kd.R_below N1.out b3); have B3 := zk (B1.out.trans (b3.mono B1.out.size)); have F3 := zk (F1.out.trans (Fw.low (v := .slice A l.length c) b3)); have X3 := zk (blk_below X1.out b3)
  have RA := zk (show Kd.R k69 69 w3 w0.heap.size (fun k => some k ≠ (Value.slice A l.length c).ownBlock) va x.f3 from Kd.R_mono (Kd.R_lower (Kd.R_bound ra) B1.out.size) (fun k hk e => by
    have h1 := hgl.out k e.symm; have h2 := F1.out.size; have h3 := hk.2.1
    omega))
  clear ra b3 N1 B1 F1 X1; obtain ⟨Aa, ca, ea⟩ := Kd.R_slice RA.out; subst ea; refine hK.out _ _ ⟨(zC X3.out 0).trans rfl, (zC X3.out 1).trans rfl, (zC X3.out 2).trans rfl, (zC X3.out 3).trans rfl⟩ (fun hHeld => ?_); clear hK K; refine norm_ (a' := ?_) ?_ ?_; rotate_left
  · show Act.put _ (some 19) _ = _
    simp only [Act.put, zt, zu, zv, i64_w, i32_w]
    rfl
  refine pure_ (i := 11) (N := some 20) (v := ?_) (a' := ?_) #[tT,tT,tT,tT,tT,tT,tT,tT,tT,tT,tT,tT,fF,fF,fF] rfl rfl (by kernel_rfl) (fun _ _ _ h => h) (Or.inl ⟨by rfl, ?_⟩) ?_ ?_; rotate_left; (intro w'; go_simp; (with_reducible rfl)); rotate_left; (simp only [Act.put, zt, zu, zv, i64_w, i32_w]; rfl); refine one_ (i := 12) (N := some 21) #[tT,tT,tT,tT,tT,tT,tT,tT,tT,tT,tT,tT,tT,fF,fF] rfl rfl (by kernel_rfl) (by decide) (fun K hK => ?_); refine value_ (w1 := ?_) (v := ?_) (by rfl) rfl ?_ ?_; rotate_left 2
  · go_simp
    constructor
    · rfl
    · rfl
  have hs := fun (a : Addr) (v : Value) (h : w3.cell? a = some v) (o : Obj) => (World.cell?_alloc_lt w3 o _ (World.block_lt_of_cell? w3 _ h)).trans h
  refine hK.out _ _ ⟨hs _ _ hHeld.1 _, hs _ _ hHeld.2.1 _, hs _ _ hHeld.2.2.1 _, hs _ _ hHeld.2.2.2 _⟩ (fun hHeld2 => ?_); clear hs; clear hK K; refine norm_ (a' := ?_) ?_ ?_; rotate_left
  · show Act.put _ (some 21) _ = _
    simp only [Act.put, zt, zu, zv, i64_w, i32_w]
    rfl
  refine last_ (i := 13) (N := some 22) #[tT,tT,tT,tT,tT,tT,tT,tT,tT,tT,tT,tT,tT,tT,fF] rfl rfl (by kernel_rfl) (by decide) (fun K hK => ?_); refine Kd.R_append_step k53 (w0 := w0) (W := w3) w0.heap.size (by rfl) (.tmp 9) (.tmp 21) 28 53 (.agg #[(.int .i64 0), (.int .i64 0), (.string ⟨#[]⟩), (.string ⟨#[]⟩), (.string ⟨#[]⟩), (.slice none 0 0)]) 88 rfl Try.underlying28 info53b rfl (by decide) (by decide) (.slice A l.length c) l (rowOf x up) [.int .i64 0, .int .i64 up, .string x.f0, .string x.f1, .string x.f2, .slice Aa x.f3.length ca] (fun _ => True) (fun k => some k ≠ (Value.slice A l.length c).ownBlock) rfl rfl ?aP (fun k hk => ⟨trivial, hk⟩) (fun _ _ => trivial) N3.out B3.out B3.out.size (by have := HL.out; omega) ?_
  case aP => exact k53_mkM w3 w0.heap.size _ (rowOf x up) RA.out
  intro v1 w4 hn4 hb4 hg4 ho4; have N4 := zk hn4; have B4 := zk hb4; have F4 := zk (F3.out.trans (show Fw (.slice A l.length c) w3 w4 v1 from ⟨hg4.size, fun b hb hne => hg4.block b hb hne, ho4⟩)); have X4 := zk (blk_grown X3.out hg4 hG.out); clear hn4 hb4 hg4 ho4 N3 B3 F3 X3 RA; refine hK.out _ _ ?_; clear hK K; refine norm_ (a' := ?_) ?_ ?_; rotate_left
  · show Act.put _ (some 22) _ = _
    simp only [Act.put, zt, zu, zv, i64_w, i32_w]
    rfl
  refine pure_ (i := 14) (N := some 0) (v := ?_) (a' := ?_) #[tT,tT,tT,tT,tT,tT,tT,tT,tT,tT,tT,tT,tT,tT,tT] rfl rfl (by kernel_rfl) (fun _ _ _ h => h) (Or.inl ⟨by rfl, ?_⟩) ?_ ?_; rotate_left; (intro w'; go_simp; (with_reducible rfl)); rotate_left; (simp only [Act.put, zt, zu, zv, i64_w, i32_w]; rfl); refine done_ (by kernel_rfl) ?_; obtain ⟨lq, hlq⟩ : ∃ lq, l ++ [rowOf x up] = lq := ⟨_, rfl⟩; rw [hlq] at N4 H; have HLQ := zk (show lq.length = l.length + 1 by rw [← hlq]; simp); clear hlq; obtain ⟨A2, c2, ev⟩ := Kd.R_slice N4.out; subst ev; obtain ⟨n, hn⟩ : ∃ n, l.length = n := ⟨_, rfl⟩; rw [hn] at H HL; have HNN := zk hn; obtain ⟨m, hm⟩ : ∃ m, lq.length = m := ⟨_, rfl⟩; rw [hm] at N4 F4; have HM := zk (show m = n + 1 by rw [← hm, ← hn]; exact HLQ.out); have g4 : w4.cell? ⟨g, 4, none⟩ = some (.slice A4 x.f4.length c4) := (zC X4.out 4).trans rfl; have HMM := zk hm; obtain ⟨mi, hmi2⟩ : ∃ mi : Int, (m : Int) = mi := ⟨_, rfl⟩; have HMI := zk (show mi = (n : Int) + 1 by have := HM.out; omega); rw [hm]; clear hm hn; obtain ⟨HMIX⟩ : Aside0 ((m : Int) = mi) := ⟨hmi2⟩; have HMI2 := zk HMIX; clear hmi2 HMIX
  go_upto_region 3 with fail
  rw [HMI2.out]; replace H := zk (show puts k lq x.f4 mi = some r by rw [HMI.out]; exact H.out); obtain ⟨v0, hv0⟩ : ∃ v, Value.slice A2 m c2 = v := ⟨_, rfl⟩; simp only [hv0] at N4 F4 ⊢; clear hv0
  go_wp2_with fail
  go_loopg [0, 28] k (fun kq v0 v28 w' => ∃ (i : Int) (l2 : List S53), v28 = .int .i64 i ∧ Aside0 (0 ≤ i ∧ i ≤ x.f4.length ∧ puts kq l2 (x.f4.drop i.toNat) mi = some r ∧ kq ≤ k) ∧ Aside0 (Kd.R k53 53 w' w0.heap.size (fun _ => True) v0 l2) ∧ Aside0 (Below w0.heap.size w0 w') ∧ Aside0 (Fw (.slice A l.length c) w w' v0) ∧ Aside0 (w'.heap[g]? = some (.cells #[.string x.f0, .string x.f1, .string x.f2, .slice A3 x.f3.length c3, .slice A4 x.f4.length c4] 25 (0, 0))))
  case atStart => exact ⟨0, lq, rfl, ⟨by omega, by omega, by simpa using H.out, by omega⟩, N4, B4, F4, X4⟩
  case round =>
  clear N4 B4 F4 X4 H HLQ g4; obtain ⟨i, l2, rfl, HI, N, B, F, X⟩ := hrel
  cases gk with
  | zero => exact absurd HI.out.2.2.1 (by simp [puts])
  | succ k1 =>
  by_cases hi : i < x.f4.length
  case neg =>
    have hr : r = l2 := by
      have h := HI.out.2.2.1; rw [List.drop_eq_nil_of_le (by omega)] at h; exact (Option.some.inj h).symm
    have hib : decide (i < (x.f4.length : Int)) = false := decide_eq_false hi; clear HI hi; subst hr
    go_wp2_with fail
    go_ret; exact ⟨_, rfl, N.out, B.out, F.out⟩
  obtain ⟨h0, hi2, hput, hkk⟩ := HI.out; clear HI; have hib : decide (i < (x.f4.length : Int)) = true := decide_eq_true hi; have hi0 : decide (0 ≤ i) = true := decide_eq_true h0; rw [drop_T25 _ _ h0 hi, puts_cons] at hput; obtain ⟨l3, hb1, hb2⟩ := Option.bind_eq_some_iff.1 hput; have HB1 := zk hb1; have HB2 := zk hb2; clear hput hb1 hb2; obtain ⟨ad, a3, d3, a4, d4, eA, t0, t1, t2, t3, t4, hd3, hC3, hd4, hC4⟩ := at_T25 H4.out i h0 hi; subst eA; obtain ⟨y, hy⟩ : ∃ y, rd_T25 x.f4 i = y := ⟨_, rfl⟩; rw [hy] at t0 t1 t2 t3 t4 hd3 hC3 hd4 hC4 HB1; replace t0 := (B.out.cell (World.block_lt_of_cell? w0 _ t0)).trans t0; replace t1 := (B.out.cell (World.block_lt_of_cell? w0 _ t1)).trans t1; replace t2 := (B.out.cell (World.block_lt_of_cell? w0 _ t2)).trans t2; replace t3 := (B.out.cell (World.block_lt_of_cell? w0 _ t3)).trans t3; replace t4 := (B.out.cell (World.block_lt_of_cell? w0 _ t4)).trans t4; have C3 := zk hC3; have C4 := zk hC4; have E3 := zk hd3; have E4 := zk hd4; have HY := zk hy; clear hC3 hC4 hd3 hd4 hy; have hwi : IntKind.i64.wrap (i + 1) = i + 1 := IntWalk.i64_in _ (by have := HL.out; omega)
  have hgn : Aside0 (some g ≠ (u0 : Value).ownBlock) := ⟨by
    intro e; have h1 := Kd.R_typed N.out g e.symm; obtain ⟨cells, h1⟩ := h1; have h2 := X.out; rw [h1] at h2; injection h2 with h2; injection h2 with _ h2
    cases h2⟩
  go_wp2_with (go_at_call 29; refine (IH.out k1 (by omega) y _ d3 _ d4 mi l2 u0 l3 _ C3.out E3.out C4.out E4.out (zA B.out _) (Kd.R_alloc N.out _) HB1.out).mono ?_; rintro e w9 ⟨v9, rfl, hn9, hb9, hf9⟩; have N9 := zk hn9; have B9 := zk hb9; have F9 := zk hf9; clear hn9 hb9 hf9)
  go_roundg k1
  case measure => omega
  case rel => exact ⟨i + 1, l3, rfl, ⟨by omega, by omega, HB2.out, by omega⟩, N9, B9, ⟨F.out.trans ((Fw.low (v := u0) (zA (Below.refl _ _) _)).trans F9.out)⟩, ⟨F9.out.blk (zF X.out _) hgn.out⟩⟩
end Go.Proofs.Ytcebfldagnjddaa.G
namespace Go.Proofs.Ytcebfldagnjddaa.G
open Go.RowKit Go.Proofs.YtcebfldagnjddaaW.PrintWords Go.Proofs.YtcebfldagnjddaaW.PrintLast Go.Proofs.YtcebfldagnjddaaW.PrintMore
set_option linter.unusedVariables false
set_option linter.unusedSimpArgs false
def flat_Rows.f (k : Nat) (a0_0 : ByteArray) (a0_1 : ByteArray) (a0_2 : ByteArray) (l0_3 : List S69) (l0_4 : List S25) : Option (List S53 × Int) :=
  (vtree_Check.f k a0_0 a0_1 a0_2 l0_3 l0_4).bind fun t => if t.2 = 0 then (put1 k [] ⟨a0_0, a0_1, a0_2, l0_3, l0_4⟩ 0).bind fun l => some (l, 0) else some ([], t.2)
theorem flat_Rows.mono : ∀ a0 a1 a2 a3 a4 k, LeO (flat_Rows.f k a0 a1 a2 a3 a4) (flat_Rows.f (k + 1) a0 a1 a2 a3 a4) := by
  intro a0 a1 a2 a3 a4 k; unfold flat_Rows.f; exact LeO.bind (vtree_Check.mono _ _ _ _ _ _) (fun t => LeO.ite (LeO.bind (put1_mono _ _ _ _) (fun _ => LeO.refl _)) (LeO.refl _))
set_option maxHeartbeats 4000000 in
set_option maxRecDepth 100000 in
theorem flat_Rows.calls (k : Nat) (a0_0 : ByteArray) (a0_1 : ByteArray) (a0_2 : ByteArray) (A0_3 : Option Addr) (c0_3 : Nat) (l0_3 : List (S69)) (A0_4 : Option Addr) (c0_4 : Nat) (l0_4 : List (S25)) (r1 : List S53) (r2 : Int) (w : World) (hr0_3 : Kd.C k69 w A0_3 l0_3.length l0_3) (hc0_3 : l0_3.length ≤ c0_3) (hr0_4 : Kd.C k25 w A0_4 l0_4.length l0_4) (hc0_4 : l0_4.length ≤ c0_4) (h : flat_Rows.f k a0_0 a0_1 a0_2 l0_3 l0_4 = some (r1, r2)) :
    Calls Try.prog 9 #[.agg #[.string a0_0, .string a0_1, .string a0_2, .slice A0_3 l0_3.length c0_3, .slice A0_4 l0_4.length c0_4]] w fun e w' => ∃ v0_ : Value, e = .returned (.tuple #[v0_, .int .i64 r2]) ∧ Kd.N k53 53 w' w.heap.size (fun k_ => w.heap.size ≤ k_) v0_ r1 ∧ Below w.heap.size w w' := by
  unfold flat_Rows.f at h; obtain ⟨⟨t1, t2⟩, hc, h⟩ := Option.bind_eq_some_iff.1 h; have H3 := zk hr0_3; have H4 := zk hr0_4; have D3 := zk hc0_3; have D4 := zk hc0_4; have HC := zk hc; dsimp only at h
  by_cases h0 : t2 = 0
  · rw [if_pos h0] at h
    obtain ⟨l, hp, h⟩ := Option.bind_eq_some_iff.1 h
    obtain ⟨rfl, rfl⟩ := Prod.mk.inj (Option.some.inj h)
    have HP := zk hp
    have hb : (t2 != 0) = false := by simp [h0]
    have hb2 : (t2 == 0) = true := by simp [h0]
    clear h hp hc hr0_3 hr0_4 hc0_3 hc0_4 h0
    go_enter Try.func9, Try.ntmps9
    go_wp2_with (first
      | ((with_reducible refine gd (N := 1) rfl ?_); refine zb ?hg (N := 1) ?hd (cs := #[.string a0_0, .string a0_1, .string a0_2, .slice A0_3 l0_3.length c0_3, .slice A0_4 l0_4.length c0_4]) (t := 25) ?hr ?_; (case hd => rfl); (case hg => rfl); (case hr => go_simp; first | done | rfl); intro g hg w1 hbox hb1; have HX := zk hbox; have HB1 := zk hb1; have g0 : w1.cell? ⟨g, 0, none⟩ = some (.string a0_0) := (zC hbox 0).trans rfl; have g1 : w1.cell? ⟨g, 1, none⟩ = some (.string a0_1) := (zC hbox 1).trans rfl; have g2 : w1.cell? ⟨g, 2, none⟩ = some (.string a0_2) := (zC hbox 2).trans rfl; have g3 : w1.cell? ⟨g, 3, none⟩ = some (.slice A0_3 l0_3.length c0_3) := (zC hbox 3).trans rfl; have g4 : w1.cell? ⟨g, 4, none⟩ = some (.slice A0_4 l0_4.length c0_4) := (zC hbox 4).trans rfl; have HG := zk hg; clear hbox hb1 hg)
      | (go_at_call 28; refine (vtree_Check.calls k a0_0 a0_1 a0_2 A0_3 c0_3 l0_3 A0_4 c0_4 l0_4 t1 t2 _ (Kd.C_below H3.out HB1.out) D3.out (Kd.C_below H4.out HB1.out) D4.out HC.out).mono ?_; rintro e w3 ⟨rfl, hb3⟩; have B3 := zk (HB1.out.trans (hb3.mono HB1.out.size)); have X3 := zk (blk_below HX.out hb3); clear hb3 g0 g1 g2 g3 g4; have g0 : w3.cell? ⟨g, 0, none⟩ = some (.string a0_0) := (zC X3.out 0).trans rfl; have g1 : w3.cell? ⟨g, 1, none⟩ = some (.string a0_1) := (zC X3.out 1).trans rfl; have g2 : w3.cell? ⟨g, 2, none⟩ = some (.string a0_2) := (zC X3.out 2).trans rfl; have g3 : w3.cell? ⟨g, 3, none⟩ = some (.slice A0_3 l0_3.length c0_3) := (zC X3.out 3).trans rfl; have g4 : w3.cell? ⟨g, 4, none⟩ = some (.slice A0_4 l0_4.length c0_4) := (zC X3.out 4).trans rfl)
      | (go_at_call 29; refine (put w k ⟨a0_0, a0_1, a0_2, l0_3, l0_4⟩ A0_3 c0_3 A0_4 c0_4 0 [] (.slice none 0 0) l _ H3.out D3.out H4.out D4.out B3.out (Kd.R_nil _ _ _ _ _) HP.out).mono ?_; rintro e w5 ⟨v5, rfl, hr5, hb5, _⟩; have R5 := zk hr5; have B5 := zk hb5; clear hr5 hb5))
    go_ret2
    exact ⟨_, rfl, Kd.R_N (Kd.R_mono (Kd.R_bound R5.out) (fun k hk => hk.2.1)), B5.out⟩
  · rw [if_neg h0] at h
    obtain ⟨rfl, rfl⟩ := Prod.mk.inj (Option.some.inj h)
    have hb : (t2 != 0) = true := by simp [h0]
    have hb2 : (t2 == 0) = false := by simp [h0]
    clear h hc hr0_3 hr0_4 hc0_3 hc0_4 h0
    go_enter Try.func9, Try.ntmps9
    go_wp2_with (first
      | ((with_reducible refine gd (N := 1) rfl ?_); refine zb ?hg (N := 1) ?hd (cs := #[.string a0_0, .string a0_1, .string a0_2, .slice A0_3 l0_3.length c0_3, .slice A0_4 l0_4.length c0_4]) (t := 25) ?hr ?_; (case hd => rfl); (case hg => rfl); (case hr => go_simp; first | done | rfl); intro g hg w1 hbox hb1; have HX := zk hbox; have HB1 := zk hb1; have g0 : w1.cell? ⟨g, 0, none⟩ = some (.string a0_0) := (zC hbox 0).trans rfl; have g1 : w1.cell? ⟨g, 1, none⟩ = some (.string a0_1) := (zC hbox 1).trans rfl; have g2 : w1.cell? ⟨g, 2, none⟩ = some (.string a0_2) := (zC hbox 2).trans rfl; have g3 : w1.cell? ⟨g, 3, none⟩ = some (.slice A0_3 l0_3.length c0_3) := (zC hbox 3).trans rfl; have g4 : w1.cell? ⟨g, 4, none⟩ = some (.slice A0_4 l0_4.length c0_4) := (zC hbox 4).trans rfl; have HG := zk hg; clear hbox hb1 hg)
      | (go_at_call 28; refine (vtree_Check.calls k a0_0 a0_1 a0_2 A0_3 c0_3 l0_3 A0_4 c0_4 l0_4 t1 t2 _ (Kd.C_below H3.out HB1.out) D3.out (Kd.C_below H4.out HB1.out) D4.out HC.out).mono ?_; rintro e w3 ⟨rfl, hb3⟩; have B3 := zk (HB1.out.trans (hb3.mono HB1.out.size)); clear hb3))
    go_ret2
    exact ⟨_, rfl, Kd.N_nil _ _ _ _ _, B3.out⟩
end Go.Proofs.Ytcebfldagnjddaa.G
namespace Go.Proofs.Ytcebfldagnjddaa.G
open List renaming setIfInBounds_toArray → zt, set_cons_zero → zu, set_cons_succ → zv
open Bool renaming true → T, false → F
open Go.RowKit Go.Proofs.YtcebfldagnjddaaW.PrintWords Go.Proofs.YtcebfldagnjddaaW.PrintLast Go.Proofs.YtcebfldagnjddaaW.PrintMore
attribute [local go_sem] max2_int min2_int max_two min_two max_three min_three max_four min_four
set_option linter.unusedVariables false
set_option linter.unusedSimpArgs false
def flat_Check.f (k : Nat) (l0 : List (S53)) : Option (Int) := if (l0.length : Int) = 0 then (some 0) else ((flat_Tree.f k l0).bind fun bt209 => (some bt209.2.2.2.2.2))
theorem flat_Check.mono : ∀ a0 k, LeO (flat_Check.f k a0) (flat_Check.f (k + 1) a0) := by
  intro a0 k; unfold flat_Check.f
  with_reducible repeat' first | exact flat_Tree.mono _ _ | exact LeO.refl _ | exact LeO.none _ | refine LeO.ite ?_ ?_ | refine LeO.bind ?_ (fun _ => ?_)
set_option maxHeartbeats 8000000 in
set_option maxRecDepth 100000 in
theorem flat_Check.calls (k : Nat) (A0 : Option Addr) (c0 : Nat) (l0 : List (S53)) (r : Int) (w : World) (hr0 : Kd.C k53 w A0 l0.length l0) (hc0 : l0.length ≤ c0) (h : flat_Check.f k l0 = some r) :
    Calls Try.prog 14 #[.slice A0 l0.length c0] w fun e w' => e = .returned (.int .i64 r) ∧ Below w.heap.size w w' := by
  have hu25 := Try.underlying25; have HR0 := zk hr0; have HC0 := zk hc0; clear hr0 hc0; have HB := zk (Below.refl w.heap.size w); have H : (if (l0.length : Int) = 0 then (some 0) else ((flat_Tree.f k l0).bind fun bt209 => (some bt209.2.2.2.2.2))) = some r := h; clear h
  by_cases c2 : (l0.length : Int) = 0
  · rw [if_pos c2] at H
    have c2b0 := beq_iff_eq.mpr c2
    have c2b1 := bne_eq_false_iff_eq.mpr c2
    clear c2
    obtain rfl := Option.some.inj H
    go_enter Try.func14, Try.ntmps14
    go_wp2
    go_ret
    exact ⟨by first | rfl | (simp [wN, wS] <;> rfl) | (simp [*, wN, wS] <;> rfl), by with_reducible repeat first | exact HB.out | apply zA | apply zN | apply zD⟩
  · rw [if_neg c2] at H
    have c2b0 := beq_eq_false_iff_ne.mpr c2
    have c2b1 := bne_iff_ne.mpr c2
    have c2b2 : ¬ (l0 = []) := fun h_ => c2 (by rw [h_]; rfl)
    replace H := Option.bind_eq_some_iff.mp H
    obtain ⟨⟨t209, t210, t211, t212, t215, t218⟩, A30, H⟩ := H
    replace H : (some t218) = some r := H
    have A3 := zk A30
    clear A30
    obtain rfl := Option.some.inj H
    go_enter Try.func14, Try.ntmps14
    go_wp2_with (first | ((with_reducible refine gk (f := 12) rfl ?_); refine gl (some 10) rfl rfl Try.func12 (by kernel_rfl) rfl #[.slice A0 l0.length c0] rfl (by (try simp only [List.map_toArray, List.map_cons, List.map_nil]); first | done | rfl | (simp only [List.length_drop, List.length_take]; rfl)) ?_; (with_reducible refine (flat_Tree.calls k (fun k_ => k_ < w.heap.size) _ _ l0 t209 t210 t211 t212 t215 t218 _ ?side1 A3.out).mono ?_); (case side1 => exact Kd.V_mk HC0.out (Kd.F_below (Kd.C_F k53_heap HR0.out) (by with_reducible repeat first | exact HB.out | apply zA | apply zN | apply zD))); rintro e w4 ⟨v213, v216, rfl, ho0, ho1, hb⟩; refine ⟨_, rfl, ?_⟩; have n0_ := zk (Kd.R_lower (Kd.R_mono (ok' := fun k_ => True) ho0 (fun _ hk_ => trivial)) (zq (by with_reducible repeat first | exact HB.out | apply zA | apply zN | apply zD))); have n1_ := zk (Kd.R_lower (Kd.R_mono (ok' := fun k_ => some k_ ≠ (v213 : Value).ownBlock) ho1 (fun _ hk_ => hk_.2)) (zq (by with_reducible repeat first | exact HB.out | apply zA | apply zN | apply zD))); have n2_ := zk (zs (by with_reducible repeat first | exact HB.out | apply zA | apply zN | apply zD) hb); clear HB; have HO214 := n0_; have HO217 := n1_; have HB := n2_; clear n0_ n1_ n2_; (try clear hb); (try clear hb2); (try clear hk); (try clear hi); (try clear ho0); (try clear ho1)) | ((with_reducible refine gd (N := 3) rfl ?_); refine zb ?hg (N := 3) ?hd (cs := #[.string ⟨#[]⟩, .string ⟨#[]⟩, .string ⟨#[]⟩, .slice none 0 0, .slice none 0 0]) (t := 25) ?hr ?_; (case hd => rfl); (case hg => rfl); (case hr => go_simp; first | done | rfl); intro gb219 hg w5 hbox hb; have n0_ := zk (Kd.R_below (by (with_reducible repeat (first | apply Kd.R_alloc | apply Kd.R_drewN | apply Kd.R_drew)); exact HO214.out) hb); have n1_ := zk (Kd.R_below (Kd.R_elderB (by (with_reducible repeat (first | apply Kd.R_alloc | apply Kd.R_drewN | apply Kd.R_drew)); exact HO217.out) gb219 (Nat.le_of_eq hg.symm)) hb); have n2_ := zk (zs (by with_reducible repeat first | exact HB.out | apply zA | apply zN | apply zD) hb); have n3_ := zk (hbox); have n4_ := zk ((by rw [hg]; exact (zq (by with_reducible repeat first | exact HB.out | apply zA | apply zN | apply zD)) : w.heap.size ≤ gb219)); have n5_ := n4_; clear HO214; clear HO217; clear HB; have HO214 := n0_; have HO217 := n1_; have HB := n2_; have BK219 := n3_; have GW219 := n4_; have GE219 := n5_; clear n0_ n1_ n2_ n3_ n4_ n5_; clear hb hbox hg; obtain ⟨hcz6_0, hcz6_1, hcz6_2, hcz6_3, hcz6_4, hfz6_0, hfz6_1, hfz6_2, hfz6_3, hfz6_4⟩ := zc5 BK219.out; obtain ⟨Ao7, co7, eo7⟩ := Kd.R_slice HO214.out; subst eo7; obtain ⟨Ao8, co8, eo8⟩ := Kd.R_slice HO217.out; subst eo8))
    go_ret
    exact ⟨by first | rfl | (simp [wN, wS] <;> rfl) | (simp [*, wN, wS] <;> rfl), by with_reducible repeat first | exact HB.out | apply zA | apply zN | apply zD | refine zS ?_ GE219.out⟩
def flat_Spans.l0 : Nat → List (S53) → List Int → Int → Option (List Int)
 | 0, _, _, _ => none
 | k + 1, x0, x3, x4 => if x4 = 0 then (some x3) else (if 0 ≤ x4 then (if x4 < (x3.length : Int) then ((some (x3.set (x4 : Int).toNat (wrap64 ((rd x3 x4) + 1)) : List Int)).bind fun y225 => (if 0 ≤ (wrap64 (x4 - 1)) then (if (wrap64 (x4 - 1)) < (x0.length : Int) then (if 0 ≤ ((rd_T53 x0 (wrap64 (x4 - 1))).f1) then (if ((rd_T53 x0 (wrap64 (x4 - 1))).f1) < (x3.length : Int) then (flat_Spans.l0 k x0 (y225.set (((rd_T53 x0 (wrap64 (x4 - 1))).f1) : Int).toNat (wrap64 ((rd y225 ((rd_T53 x0 (wrap64 (x4 - 1))).f1)) + (rd y225 x4)))) (wrap64 (x4 - 1))) else (none)) else (none)) else (none)) else (none))) else (none)) else (none))
def flat_Spans.f (k : Nat) (l0 : List (S53)) : Option (List Int) := (flat_Check.f k l0).bind fun t220 => (if t220 = 0 then (if 0 ≤ (wrap64 ((l0.length : Int) + 1)) then (if (wrap64 ((l0.length : Int) + 1) : Int).toNat ≤ 35184372088832 then (flat_Spans.l0 k l0 (List.replicate (wrap64 ((l0.length : Int) + 1) : Int).toNat 0) (l0.length : Int)) else (none)) else (none)) else (some ([] : List Int)))
theorem flat_Spans.mono_l : ∀ k, (∀ y0 y1 y2, LeO (flat_Spans.l0 k y0 y1 y2) (flat_Spans.l0 (k + 1) y0 y1 y2))
 | 0 => fun _ _ _ r h => by simp [flat_Spans.l0] at h
 | k + 1 => by
  have ih0 := flat_Spans.mono_l k
  ·
   intro y0 y1 y2
   unfold flat_Spans.l0
   with_reducible repeat' first | exact ih0 _ _ _ | exact flat_Check.mono _ _ | exact LeO.refl _ | exact LeO.none _ | refine LeO.ite ?_ ?_ | refine LeO.bind ?_ (fun _ => ?_)
theorem flat_Spans.mono : ∀ a0 k, LeO (flat_Spans.f k a0) (flat_Spans.f (k + 1) a0) := by
 intro a0 k
 have ih0 := flat_Spans.mono_l k
 unfold flat_Spans.f
 with_reducible repeat' first | exact ih0 _ _ _ | exact flat_Check.mono _ _ | exact LeO.refl _ | exact LeO.none _ | refine LeO.ite ?_ ?_ | refine LeO.bind ?_ (fun _ => ?_)
def flat_Spans.T8 : Bool × List (List Nat × List Nat) := (true, [([], []), ([], []), ([], []), ([2], [2]), ([1, 3], [1, 3]), ([4], [4]), ([5], [5]), ([0, 6], [0, 6]), ([7], [7]), ([], []), ([], []), ([9, 10], [9, 10]), ([11], [11]), ([8, 12], [8, 12]), ([0, 6, 0, 1, 2, 3, 4, 5, 6, 7, 8, 9, 10, 11, 12, 13], [0, 6]), ([14, 13, 0, 1, 2, 3, 4, 5, 6, 7, 8, 9, 10, 11, 12, 13], [13, 14])])
def flat_Spans.B8 : List Nat := [0, 0, 0, 4, 14, 30, 62, 127, 255, 0, 0, 1536, 3584, 8191, 16383, 32767]
theorem flat_Spans.tab8 : rtab .any (opsOf Try.f17 8) = flat_Spans.T8 := by kernel_rfl
theorem flat_Spans.bits8 : waitsOk flat_Spans.T8.2 flat_Spans.B8 = true := by kernel_rfl
set_option maxHeartbeats 8000000 in
set_option maxRecDepth 100000 in
theorem flat_Spans.calls (k : Nat) (A0 : Option Addr) (c0 : Nat) (l0 : List (S53)) (r : List Int) (w : World) (hr0 : Kd.C k53 w A0 l0.length l0) (hc0 : l0.length ≤ c0) (h : flat_Spans.f k l0 = some r) :
  Calls Try.prog 17 #[.slice A0 l0.length c0] w fun e w' => ∃ v0_ : Value, e = .returned (v0_) ∧ Kd.R (Kd.int .i64) 3 w' w.heap.size (fun _ => True) v0_ r ∧ Below w.heap.size w w' := by
 have HR0 := zk hr0
 have HC0 := zk hc0
 clear hr0 hc0
 have HB := zk (Below.refl w.heap.size w)
 have H : ((flat_Check.f k l0).bind fun t220 => (if t220 = 0 then (if 0 ≤ (wrap64 ((l0.length : Int) + 1)) then (if (wrap64 ((l0.length : Int) + 1) : Int).toNat ≤ 35184372088832 then (flat_Spans.l0 k l0 (List.replicate (wrap64 ((l0.length : Int) + 1) : Int).toNat 0) (l0.length : Int)) else (none)) else (none)) else (some ([] : List Int)))) = some r := h
 clear h
 replace H := Option.bind_eq_some_iff.mp H
 obtain ⟨t220, A20, H⟩ := H
 replace H : (if t220 = 0 then (if 0 ≤ (wrap64 ((l0.length : Int) + 1)) then (if (wrap64 ((l0.length : Int) + 1) : Int).toNat ≤ 35184372088832 then (flat_Spans.l0 k l0 (List.replicate (wrap64 ((l0.length : Int) + 1) : Int).toNat 0) (l0.length : Int)) else (none)) else (none)) else (some ([] : List Int))) = some r := H
 have A2 := zk A20
 clear A20
 by_cases c3 : t220 = 0
 ·
  rw [if_pos c3] at H; have c3b0 : (t220 == 0) = true := beq_iff_eq.mpr c3; have c3b1 : (t220 != 0) = false := bne_eq_false_iff_eq.mpr c3; clear c3; obtain ⟨ji4, hji4⟩ : ∃ j_ : Int, (wrap64 ((l0.length : Int) + 1)) = j_ := ⟨_, rfl⟩
  replace H : (if 0 ≤ (ji4) then (if (ji4 : Int).toNat ≤ 35184372088832 then (flat_Spans.l0 k l0 (List.replicate (ji4 : Int).toNat 0) (l0.length : Int)) else (none)) else (none)) = some r := by first | (rw [hji4] at H; exact H) | (simp only [hji4] at H ⊢; exact H)
  (try rw [hji4] at A2)
  have hji4w : (IntKind.i64.wrap ((l0.length : Int) + 1)) = ji4 := (i64_w _).trans hji4
  by_cases c5 : 0 ≤ (ji4)
  ·
   rw [if_pos c5] at H; have c5b0 := eq_true c5; have c5b1 : decide (0 ≤ (ji4)) = true := decide_eq_true c5; clear c5
   by_cases c6 : (ji4 : Int).toNat ≤ 35184372088832
   ·
    rw [if_pos c6] at H; have c6b0 := eq_true c6; have c6b1 : decide ((ji4 : Int).toNat ≤ 35184372088832) = true := decide_eq_true c6; clear c6; obtain ⟨y221, hy221⟩ : ∃ y_ : List Int, y_ = (List.replicate (ji4 : Int).toNat 0) := ⟨_, rfl⟩
    replace H : (flat_Spans.l0 k l0 y221 (l0.length : Int)) = some r := by first | (rw [hy221]; with_reducible exact H) | (have H2_ := (Option.bind_some _ _).symm.trans H; rw [hy221]; with_reducible exact H2_) | (have H2_ := (Option.bind_some _ _).symm.trans H; with_reducible exact H2_) | with_reducible exact H | (rw [hy221]; exact H) | exact H
    have Ny221 := zk hy221; clear hy221; have H' := zk H; clear H
    go_enter Try.func17, Try.ntmps17
    (try go_step3)
    go_wp2_with (first | ((with_reducible refine gk (f := 14) rfl ?_); refine gl (some 6) rfl rfl Try.func14 (by kernel_rfl) rfl #[.slice A0 l0.length c0] rfl (by (try simp only [List.map_toArray, List.map_cons, List.map_nil]); first | done | rfl | (simp only [List.length_drop, List.length_take]; rfl)) ?_; (with_reducible refine (flat_Check.calls k _ _ l0 t220 _ ?side1 ?side2 A2.out).mono ?_); (case side1 => repeat (first | exact HR0.out | (with_reducible refine Kd.C_alloc ?_ _) | (with_reducible refine Kd.C_drewN ?_ _) | (with_reducible refine Kd.C_drew ?_))); (case side2 => exact HC0.out); rintro e w7 ⟨rfl, hb⟩; refine ⟨_, rfl, ?_⟩; have n0_ := zk (zs (by with_reducible repeat first | exact HB.out | apply zA | apply zN | apply zD) hb); clear HB; have HB := n0_; clear n0_; (try clear hb); (try clear hb2); (try clear hk); (try clear hi)) | ((with_reducible refine gd (N := 11) rfl ?_); refine Kd.R_make (Kd.int .i64) _ 3 rfl (N := 11) rfl 43 _ _ rfl ji4 rfl rfl Try.underlying43 (.int .i64 0) 8 info3 rfl (by decide) (by omega) 0 (ok := fun _ => True) (okp := fun _ => True) rfl (fun _ hk => hk) trivial (zo (by assumption)) (Nat.le_trans (Nat.mul_le_mul_right _ (zo (by assumption) : ji4.toNat ≤ 35184372088832)) (by omega)) (Below.refl _ _) (Nat.le_refl _) ?_; intro v222 w8 ho9 hb hg_ hnew_; clear hg_ hnew_; (first | rw [← Ny221.out] at ho9 | (simp only [Int.reduceToNat] at ho9; rw [← Ny221.out] at ho9)); have n0_ := zk (Kd.R_lower ho9 (zq (by with_reducible repeat first | exact HB.out | apply zA | apply zN | apply zD))); have n1_ := zk (zs (by with_reducible repeat first | exact HB.out | apply zA | apply zN | apply zD) hb); clear HB; have HO223 := n0_; have HB := n1_; clear n0_ n1_; clear hb ho9))
    iterate 2 (try (go_step3; try go_wp2_with (first | ((with_reducible refine gk (f := 14) rfl ?_); refine gl (some 6) rfl rfl Try.func14 (by kernel_rfl) rfl #[.slice A0 l0.length c0] rfl (by (try simp only [List.map_toArray, List.map_cons, List.map_nil]); first | done | rfl | (simp only [List.length_drop, List.length_take]; rfl)) ?_; (with_reducible refine (flat_Check.calls k _ _ l0 t220 _ ?side1 ?side2 A2.out).mono ?_); (case side1 => repeat (first | exact HR0.out | (with_reducible refine Kd.C_alloc ?_ _) | (with_reducible refine Kd.C_drewN ?_ _) | (with_reducible refine Kd.C_drew ?_))); (case side2 => exact HC0.out); rintro e w7 ⟨rfl, hb⟩; refine ⟨_, rfl, ?_⟩; have n0_ := zk (zs (by with_reducible repeat first | exact HB.out | apply zA | apply zN | apply zD) hb); clear HB; have HB := n0_; clear n0_; (try clear hb); (try clear hb2); (try clear hk); (try clear hi)) | ((with_reducible refine gd (N := 11) rfl ?_); refine Kd.R_make (Kd.int .i64) _ 3 rfl (N := 11) rfl 43 _ _ rfl ji4 rfl rfl Try.underlying43 (.int .i64 0) 8 info3 rfl (by decide) (by omega) 0 (ok := fun _ => True) (okp := fun _ => True) rfl (fun _ hk => hk) trivial (zo (by assumption)) (Nat.le_trans (Nat.mul_le_mul_right _ (zo (by assumption) : ji4.toNat ≤ 35184372088832)) (by omega)) (Below.refl _ _) (Nat.le_refl _) ?_; intro v222 w8 ho9 hb hg_ hnew_; clear hg_ hnew_; (first | rw [← Ny221.out] at ho9 | (simp only [Int.reduceToNat] at ho9; rw [← Ny221.out] at ho9)); have n0_ := zk (Kd.R_lower ho9 (zq (by with_reducible repeat first | exact HB.out | apply zA | apply zN | apply zD))); have n1_ := zk (zs (by with_reducible repeat first | exact HB.out | apply zA | apply zN | apply zD) hb); clear HB; have HO223 := n0_; have HB := n1_; clear n0_ n1_; clear hb ho9))))
    go_loopg [4] k (fun kq v4 w' => ∃ (x3_1 : List Int) (x4_1 : Int), v4 = .int .i64 x4_1 ∧ Aside0 (flat_Spans.l0 kq l0 x3_1 x4_1 = some r) ∧ Aside0 (kq ≤ k) ∧ Aside0 (Kd.R (Kd.int .i64) 3 w' w.heap.size (fun _ => True) v222 x3_1) ∧ Aside0 (Below w.heap.size w w'))
    case atStart => exact ⟨(y221), ((l0.length : Int)), (by first | rfl | (simp; done) | (simp [*]; done)), H', ⟨Nat.le_refl _⟩, ⟨by (with_reducible repeat (first | apply Kd.R_alloc | apply Kd.R_drewN | apply Kd.R_drew)); exact HO223.out⟩, ⟨by with_reducible repeat first | exact HB.out | apply zA | apply zN | apply zD⟩⟩
    case round =>
     clear H'; (try clear c1); (try clear p2); (try clear c3); (try clear c3b0); (try clear c3b1); (try clear c5); (try clear c5b0); (try clear c5b1); (try clear c6); (try clear c6b0); (try clear c6b1); (try clear p6); obtain ⟨x3_1, x4_1, rfl, HA, HK1, HO_3, HB⟩ := hrel
     cases gk with
     | zero => exact absurd HA.out (by simp [flat_Spans.l0])
     | succ k1 =>
      have H := HA.out; clear HA; simp only [flat_Spans.l0] at H
      by_cases c10 : x4_1 = 0
      ·
       rw [if_pos c10] at H; have c10b0 := beq_iff_eq.mpr c10; have c10b1 := bne_eq_false_iff_eq.mpr c10; clear c10; obtain rfl := Option.some.inj H; go_wp2
       iterate 3 (try (go_step3; try go_wp2))
       (try rw [Exit.noGoto_ret])
       go_ret; exact ⟨_, by first | rfl | (simp [wN, wS] <;> rfl) | (simp only [← hji4]; first | rfl | (simp [wN, wS] <;> rfl)) | (simp [*, wN, wS] <;> rfl), by (with_reducible repeat (first | apply Kd.R_alloc | apply Kd.R_drewN | apply Kd.R_drew)); exact HO_3.out, by with_reducible repeat first | exact HB.out | apply zA | apply zN | apply zD⟩
      ·
       rw [if_neg c10] at H; have c10b0 := beq_eq_false_iff_ne.mpr c10; have c10b1 := bne_iff_ne.mpr c10
       by_cases c11 : 0 ≤ x4_1
       ·
        rw [if_pos c11] at H; have c11b0 : decide (0 ≤ x4_1) = true := decide_eq_true c11; clear c11
        by_cases c12 : x4_1 < (x3_1.length : Int)
        ·
         rw [if_pos c12] at H; have c12b0 := decide_eq_true c12; clear c12; obtain ⟨y225, hy225⟩ : ∃ y_ : List Int, y_ = (x3_1.set (x4_1 : Int).toNat (wrap64 ((rd x3_1 x4_1) + 1))) := ⟨_, rfl⟩
         replace H : (if 0 ≤ (wrap64 (x4_1 - 1)) then (if (wrap64 (x4_1 - 1)) < (l0.length : Int) then (if 0 ≤ ((rd_T53 l0 (wrap64 (x4_1 - 1))).f1) then (if ((rd_T53 l0 (wrap64 (x4_1 - 1))).f1) < (x3_1.length : Int) then (flat_Spans.l0 k1 l0 (y225.set (((rd_T53 l0 (wrap64 (x4_1 - 1))).f1) : Int).toNat (wrap64 ((rd y225 ((rd_T53 l0 (wrap64 (x4_1 - 1))).f1)) + (rd y225 x4_1)))) (wrap64 (x4_1 - 1))) else (none)) else (none)) else (none)) else (none)) = some r := by first | (rw [hy225]; with_reducible exact H) | (have H2_ := (Option.bind_some _ _).symm.trans H; rw [hy225]; with_reducible exact H2_) | (have H2_ := (Option.bind_some _ _).symm.trans H; with_reducible exact H2_) | with_reducible exact H | (rw [hy225]; exact H) | exact H
         have Ny225 := zk hy225; clear hy225; obtain ⟨ji14, hji14⟩ : ∃ j_ : Int, (wrap64 (x4_1 - 1)) = j_ := ⟨_, rfl⟩
         replace H : (if 0 ≤ (ji14) then (if (ji14) < (l0.length : Int) then (if 0 ≤ ((rd_T53 l0 (ji14)).f1) then (if ((rd_T53 l0 (ji14)).f1) < (x3_1.length : Int) then (flat_Spans.l0 k1 l0 (y225.set (((rd_T53 l0 (ji14)).f1) : Int).toNat (wrap64 ((rd y225 ((rd_T53 l0 (ji14)).f1)) + (rd y225 x4_1)))) ji14) else (none)) else (none)) else (none)) else (none)) = some r := by first | (rw [hji14] at H; exact H) | (simp only [hji14] at H ⊢; exact H)
         have hji14w : (IntKind.i64.wrap (x4_1 - 1)) = ji14 := (i64_w _).trans hji14
         by_cases c15 : 0 ≤ (ji14)
         ·
          rw [if_pos c15] at H; have c15b0 := decide_eq_true c15; clear c15
          by_cases c16 : (ji14) < (l0.length : Int)
          ·
           rw [if_pos c16] at H; have c16b0 := decide_eq_true c16; clear c16
           by_cases c17 : 0 ≤ ((rd_T53 l0 (ji14)).f1)
           ·
            rw [if_pos c17] at H; have c17b0 := decide_eq_true c17; clear c17
            by_cases c18 : ((rd_T53 l0 (ji14)).f1) < (x3_1.length : Int)
            ·
             rw [if_pos c18] at H; have c18b0 := decide_eq_true c18; clear c18; obtain ⟨y229, hy229⟩ : ∃ y_ : List Int, y_ = (y225.set (((rd_T53 l0 (ji14)).f1) : Int).toNat (wrap64 ((rd y225 ((rd_T53 l0 (ji14)).f1)) + (rd y225 x4_1)))) := ⟨_, rfl⟩
             replace H : (flat_Spans.l0 k1 l0 y229 ji14) = some r := by first | (rw [hy229]; with_reducible exact H) | (have H2_ := (Option.bind_some _ _).symm.trans H; rw [hy229]; with_reducible exact H2_) | (have H2_ := (Option.bind_some _ _).symm.trans H; with_reducible exact H2_) | with_reducible exact H | (rw [hy229]; exact H) | exact H
             have Ny229 := zk hy229; clear hy229; have H' := zk H; clear H; obtain ⟨Ao20, co20, eo20⟩ := Kd.R_slice HO_3.out; subst eo20; have p224 : 0 ≤ (x4_1 : Int) := zo (by assumption); have q224 : x4_1 < (x3_1.length : Int) := zo (by assumption); obtain ⟨ad224, e224, hx224_0⟩ := Kd.at_int (Kd.R_reads' HO_3.out).2.2 x4_1 p224 q224; cases e224; replace p224 := eq_true p224; replace q224 := eq_true q224; have p13 : 0 ≤ (x4_1 : Int) := zo (by assumption); have q13 : (x4_1 : Int) < ((x3_1.length : Int) : Int) := zo (by assumption); obtain ⟨go13, co13, eo13, gb13, gl13, cl13, HG13⟩ := Kd.R_form HO_3.out (by omega)
             (first | cases eo13 | (injection eo13 with ea_ en_ ec_; (first | subst ea_ | (injection ea_ with ea_; subst ea_)); subst ec_; clear en_))
             have GB13 := zk gb13; have GG13 := zk HG13; clear gb13 gl13 HG13
             (first | simp only [add_plain] at hx224_0 | skip)
             obtain ⟨hx13_0, hf13_0⟩ := Kd.R_celln 0 HO_3.out (x4_1 : Int) p13 q13; replace p13 := eq_true p13; replace q13 := eq_true q13; have HP21 := Kd.R_putg HO_3.out (x4_1 : Int) (wrap64 ((rd x3_1 x4_1) + 1))
             try go_wp2_with (first | ((with_reducible refine gw (t := 3) (p := 23) rfl ?_); refine store_event (t := 3) (p := 23) (v := ?vo_w22) (w1 := (wr.setCell ⟨go13, (x4_1 : Int).toNat, none⟩ (.int .i64 (wrap64 ((rd x3_1 x4_1) + 1))))) ?hg ?ho ?hn ?hr ?_; (case ho => rfl); (case hg => rfl); (case hn => rfl); (case hr => go_simp; first | done | rfl); intro w22 hw; have hg : wr.grownBy w22 (some go13) := (by rw [hw]; exact HP21.2); have hp_ : Kd.R (Kd.int .i64) 3 w22 w.heap.size (fun _ => True) (.slice (some ⟨go13, 0, none⟩) x3_1.length co20) y225 := (by rw [hw, Ny225.out]; exact HP21.1); clear HP21; have n0_ := zk (hp_); have n1_ := zk ((by rw [hw]; exact zS (HB.out) GB13.out : Below w.heap.size w w22)); clear HO_3; clear HB; have HO_3 := n0_; have HB := n1_; clear n0_ n1_; clear hg hw hp_))
             iterate 2 (try (go_step3; try go_wp2_with (first | ((with_reducible refine gw (t := 3) (p := 23) rfl ?_); refine store_event (t := 3) (p := 23) (v := ?vo_w22) (w1 := (wr.setCell ⟨go13, (x4_1 : Int).toNat, none⟩ (.int .i64 (wrap64 ((rd x3_1 x4_1) + 1))))) ?hg ?ho ?hn ?hr ?_; (case ho => rfl); (case hg => rfl); (case hn => rfl); (case hr => go_simp; first | done | rfl); intro w22 hw; have hg : wr.grownBy w22 (some go13) := (by rw [hw]; exact HP21.2); have hp_ : Kd.R (Kd.int .i64) 3 w22 w.heap.size (fun _ => True) (.slice (some ⟨go13, 0, none⟩) x3_1.length co20) y225 := (by rw [hw, Ny225.out]; exact HP21.1); clear HP21; have n0_ := zk (hp_); have n1_ := zk ((by rw [hw]; exact zS (HB.out) GB13.out : Below w.heap.size w w22)); clear HO_3; clear HB; have HO_3 := n0_; have HB := n1_; clear n0_ n1_; clear hg hw hp_))))
             have n0_ := zk (Kd.R_drew HO_3.out); have n1_ := zk (zD HB.out); clear HO_3; clear HB; have HO_3 := n0_; have HB := n1_; clear n0_ n1_; have p226 : 0 ≤ ((ji14) : Int) := zo (by assumption); have q226 : (ji14) < (l0.length : Int) := zo (by assumption); obtain ⟨ad226, A226_5, c226_5, e226, hx226_0, hx226_1, hx226_2, hx226_3, hx226_4, hx226_5, hl226_5, hi226_5⟩ := at_T53 HR0.out (ji14) p226 q226; have hw226_5 := hx226_5; have hw226_4 := hx226_4; have hw226_3 := hx226_3; have hw226_2 := hx226_2; have hw226_1 := hx226_1; have hw226_0 := hx226_0; cases e226; replace hx226_0 := zB HB hx226_0; replace hx226_1 := zB HB hx226_1; replace hx226_2 := zB HB hx226_2; replace hx226_3 := zB HB hx226_3; replace hx226_4 := zB HB hx226_4; replace hx226_5 := zB HB hx226_5; have HR226_5 := zk hi226_5; have HC226_5 := zk hl226_5; clear hi226_5 hl226_5; replace p226 := eq_true p226; replace q226 := eq_true q226; have p227 : 0 ≤ (((rd_T53 l0 (ji14)).f1) : Int) := zo (by assumption); have q227 : ((rd_T53 l0 (ji14)).f1) < (y225.length : Int) := (by have h_ : (((rd_T53 l0 (ji14)).f1) : Int) < ((x3_1.length : Int) : Int) := zo (by assumption); first | (have e_ := (Kd.R_reads' HO_3.out).1; omega) | simpa only [Ny225.out, List.length_set] using h_); have ql227 : ((((rd_T53 l0 (ji14)).f1) : Int) < ((x3_1.length : Int) : Int)) = True := eq_true (zo (by assumption)); obtain ⟨ad227, e227, hx227_0⟩ := Kd.at_int (Kd.R_reads' HO_3.out).2.2 ((rd_T53 l0 (ji14)).f1) p227 q227; obtain rfl : (⟨go13, 0, none⟩ : Addr) = ad227 := (by injection e227)
             (first | simp only [add_plain] at hx227_0 | simp only [add_at] at hx227_0 | simp only [Addr.add, Nat.zero_add] at hx227_0 | skip)
             replace p227 := eq_true p227; replace q227 := eq_true q227; have p228 : 0 ≤ (x4_1 : Int) := zo (by assumption); have q228 : x4_1 < (y225.length : Int) := (by have h_ : (x4_1 : Int) < ((x3_1.length : Int) : Int) := zo (by assumption); first | (have e_ := (Kd.R_reads' HO_3.out).1; omega) | simpa only [Ny225.out, List.length_set] using h_); have ql228 : ((x4_1 : Int) < ((x3_1.length : Int) : Int)) = True := eq_true (zo (by assumption)); obtain ⟨ad228, e228, hx228_0⟩ := Kd.at_int (Kd.R_reads' HO_3.out).2.2 x4_1 p228 q228; obtain rfl : (⟨go13, 0, none⟩ : Addr) = ad228 := (by injection e228)
             (first | simp only [add_plain] at hx228_0 | simp only [add_at] at hx228_0 | simp only [Addr.add, Nat.zero_add] at hx228_0 | skip)
             replace p228 := eq_true p228; replace q228 := eq_true q228; have p19 : 0 ≤ (((rd_T53 l0 (ji14)).f1) : Int) := zo (by assumption); have q19 : (((rd_T53 l0 (ji14)).f1) : Int) < ((x3_1.length : Int) : Int) := zo (by assumption); obtain ⟨hx19_0, hf19_0⟩ := Kd.R_celln 0 HO_3.out (((rd_T53 l0 (ji14)).f1) : Int) p19 q19; replace p19 := eq_true p19; replace q19 := eq_true q19; have HP24 := Kd.R_putn HO_3.out (((rd_T53 l0 (ji14)).f1) : Int) (wrap64 ((rd y225 ((rd_T53 l0 (ji14)).f1)) + (rd y225 x4_1))); rw [← Ny229.out] at HP24; have HQ24 := zk HP24; clear HP24; refine start_ (n := 16) (S := fun w' => w'.cell? (ad226.add (((ji14)).toNat * 6)) = some (.int .i64 ((rd_T53 l0 (ji14)).f0)) ∧ w'.cell? ⟨(ad226.add (((ji14)).toNat * 6)).block, (ad226.add (((ji14)).toNat * 6)).off + 1, none⟩ = some (.int .i64 ((rd_T53 l0 (ji14)).f1)) ∧ w'.cell? ⟨(ad226.add (((ji14)).toNat * 6)).block, (ad226.add (((ji14)).toNat * 6)).off + 2, none⟩ = some (.string ((rd_T53 l0 (ji14)).f2)) ∧ w'.cell? ⟨(ad226.add (((ji14)).toNat * 6)).block, (ad226.add (((ji14)).toNat * 6)).off + 3, none⟩ = some (.string ((rd_T53 l0 (ji14)).f3)) ∧ w'.cell? ⟨(ad226.add (((ji14)).toNat * 6)).block, (ad226.add (((ji14)).toNat * 6)).off + 4, none⟩ = some (.string ((rd_T53 l0 (ji14)).f4)) ∧ w'.cell? ⟨(ad226.add (((ji14)).toNat * 6)).block, (ad226.add (((ji14)).toNat * 6)).off + 5, none⟩ = some (.slice A226_5 ((rd_T53 l0 (ji14)).f5).length c226_5) ∧ w'.cell? ⟨go13, (((rd_T53 l0 (ji14)).f1)).toNat, none⟩ = some (.int .i64 (rd y225 ((rd_T53 l0 (ji14)).f1))) ∧ w'.cell? ⟨go13, (x4_1).toNat, none⟩ = some (.int .i64 (rd y225 x4_1))) (ds := [15]) #[F,F,F,F,F,F,F,F,F,F,F,F,F,F,F,F] (by kernel_rfl) rfl rfl ⟨(zB HB hw226_0), (zB HB hw226_1), (zB HB hw226_2), (zB HB hw226_3), (zB HB hw226_4), (zB HB hw226_5), hx227_0, hx228_0⟩ (fun hHeld => ?_); refine with_tabW flat_Spans.tab8 flat_Spans.bits8 (fun HT_ HW_ => ?_); generalize w22.drew = w23 at HO_3 HB HQ24 HR226_5 hf19_0 hx19_0 hx226_0 hx226_1 hx226_2 hx226_3 hx226_4 hx226_5 hx227_0 hx228_0 hHeld ⊢; refine pure_ (i := 0) (N := some 24) (v := ?_) (a' := ?_) #[T,F,F,F,F,F,F,F,F,F,F,F,F,F,F,F] rfl rfl (any_of HT_.out (by kernel_rfl)) (fun _ _ _ h => h) (Or.inl ⟨by rfl, ?_⟩) ?_ ?_; rotate_left; (intro w'; go_simp; (with_reducible rfl)); rotate_left; (simp only [Act.put, zt, zu, zv, i64_w, i32_w]; rfl); refine pure_ (i := 1) (N := some 25) (v := ?_) (a' := ?_) #[T,T,F,F,F,F,F,F,F,F,F,F,F,F,F,F] rfl rfl (any_of HT_.out (by kernel_rfl)) (fun _ _ _ h => h) (Or.inl ⟨by rfl, ?_⟩) ?_ ?_; rotate_left; (intro w'; go_simp; (with_reducible rfl)); rotate_left; (simp only [Act.put, zt, zu, zv, i64_w, i32_w]; rfl); refine pure_ (i := 2) (N := some 26) (v := ?_) (a' := ?_) #[T,T,T,F,F,F,F,F,F,F,F,F,F,F,F,F] rfl rfl (any_of HT_.out (by kernel_rfl)) (fun _ _ _ h => h) (Or.inl ⟨by rfl, ?_⟩) ?_ ?_; rotate_left; (intro w'; go_simp; (with_reducible rfl)); rotate_left; (simp only [Act.put, zt, zu, zv, i64_w, i32_w]; rfl); refine pure_ (i := 3) (N := some 27) (v := ?_) (a' := ?_) #[T,T,T,T,F,F,F,F,F,F,F,F,F,F,F,F] rfl rfl (any_of HT_.out (by kernel_rfl)) (fun _ _ _ h => h) (Or.inl ⟨by rfl, ?_⟩) ?_ ?_; rotate_left; (intro w'; go_simp; (with_reducible rfl)); rotate_left; (simp only [Act.put, zt, zu, zv, i64_w, i32_w]; rfl); refine pure_ (i := 4) (N := some 28) (v := ?_) (a' := ?_) #[T,T,T,T,T,F,F,F,F,F,F,F,F,F,F,F] rfl rfl (any_of HT_.out (by kernel_rfl)) (fun _ _ _ h => h) (Or.inl ⟨by rfl, ?_⟩) ?_ ?_; rotate_left; (intro w'; go_simp; (with_reducible rfl)); rotate_left; (simp only [Act.put, zt, zu, zv, i64_w, i32_w]; rfl); refine pure_ (i := 5) (N := some 29) (v := ?_) (a' := ?_) #[T,T,T,T,T,T,F,F,F,F,F,F,F,F,F,F] rfl rfl (any_of HT_.out (by kernel_rfl)) (fun _ _ _ h => h) (Or.inl ⟨by rfl, ?_⟩) ?_ ?_; rotate_left; (intro w'; go_simp; (with_reducible rfl)); rotate_left; (simp only [Act.put, zt, zu, zv, i64_w, i32_w]; rfl); refine pure_ (i := 9) (N := some 33) (v := ?_) (a' := ?_) #[T,T,T,T,T,T,F,F,F,T,F,F,F,F,F,F] rfl rfl (any_of HT_.out (by kernel_rfl)) (fun _ _ _ h => h) (Or.inl ⟨by rfl, ?_⟩) ?_ ?_; rotate_left; (intro w'; go_simp; (with_reducible rfl)); rotate_left; (simp only [Act.put, zt, zu, zv, i64_w, i32_w]; rfl); refine pure_ (i := 10) (N := some 34) (v := ?_) (a' := ?_) #[T,T,T,T,T,T,F,F,F,T,T,F,F,F,F,F] rfl rfl (any_of HT_.out (by kernel_rfl)) (fun _ _ _ h => h) (Or.inl ⟨by rfl, ?_⟩) ?_ ?_; rotate_left; (intro w'; go_simp; (with_reducible rfl)); rotate_left; (simp only [Act.put, zt, zu, zv, i64_w, i32_w]; rfl); refine pure_ (i := 11) (N := some 35) (v := ?_) (a' := ?_) #[T,T,T,T,T,T,F,F,F,T,T,T,F,F,F,F] rfl rfl (any_of HT_.out (by kernel_rfl)) (fun _ _ _ h => h) (Or.inl ⟨by rfl, ?_⟩) ?_ ?_; rotate_left; (intro w'; go_simp; (with_reducible rfl)); rotate_left; (simp only [Act.put, zt, zu, zv, i64_w, i32_w]; rfl); refine take_ (i := 6) (N := some 30) (v := ?_) (a' := ?_) #[T,T,T,T,T,T,T,F,F,T,T,T,F,F,F,F] rfl rfl (take_ofW HT_.out HW_.out (by kernel_rfl)) (fun _ _ _ h => h) (Or.inl ⟨by rfl, ?_⟩) hHeld ?_ ?_; rotate_left; (rintro w' ⟨s0, s1, s2, s3, s4, s5, s6, s7⟩; go_simp; (with_reducible rfl)); rotate_left; (simp only [Act.put, zt, zu, zv, i64_w, i32_w]; rfl); refine pure_ (i := 7) (N := some 31) (v := ?_) (a' := ?_) #[T,T,T,T,T,T,T,T,F,T,T,T,F,F,F,F] rfl rfl (any_of HT_.out (by kernel_rfl)) (fun _ _ _ h => h) (Or.inl ⟨by rfl, ?_⟩) ?_ ?_; rotate_left; (intro w'; go_simp; (with_reducible rfl)); rotate_left; (simp only [Act.put, zt, zu, zv, i64_w, i32_w]; rfl); refine take_ (i := 8) (N := some 32) (v := ?_) (a' := ?_) #[T,T,T,T,T,T,T,T,T,T,T,T,F,F,F,F] rfl rfl (take_ofW HT_.out HW_.out (by kernel_rfl)) (fun _ _ _ h => h) (Or.inl ⟨by rfl, ?_⟩) hHeld ?_ ?_; rotate_left; (rintro w' ⟨s0, s1, s2, s3, s4, s5, s6, s7⟩; go_simp; (with_reducible rfl)); rotate_left; (simp only [Act.put, zt, zu, zv, i64_w, i32_w]; rfl); refine take_ (i := 12) (N := some 36) (v := ?_) (a' := ?_) #[T,T,T,T,T,T,T,T,T,T,T,T,T,F,F,F] rfl rfl (take_ofW HT_.out HW_.out (by kernel_rfl)) (fun _ _ _ h => h) (Or.inl ⟨by rfl, ?_⟩) hHeld ?_ ?_; rotate_left; (rintro w' ⟨s0, s1, s2, s3, s4, s5, s6, s7⟩; go_simp; (with_reducible rfl)); rotate_left; (simp only [Act.put, zt, zu, zv, i64_w, i32_w]; rfl); refine pure_ (i := 13) (N := some 37) (v := ?_) (a' := ?_) #[T,T,T,T,T,T,T,T,T,T,T,T,T,T,F,F] rfl rfl (any_of HT_.out (by kernel_rfl)) (fun _ _ _ h => h) (Or.inl ⟨by rfl, ?_⟩) ?_ ?_; rotate_left; (intro w'; go_simp; (with_reducible rfl)); rotate_left; (simp only [Act.put, zt, zu, zv, i64_w, i32_w]; rfl); refine pure_ (i := 14) (N := some 38) (v := ?_) (a' := ?_) #[T,T,T,T,T,T,T,T,T,T,T,T,T,T,T,F] rfl rfl (any_of HT_.out (by kernel_rfl)) (fun _ _ _ h => h) (Or.inl ⟨by rfl, ?_⟩) ?_ ?_; rotate_left; (intro w'; go_simp; (with_reducible rfl)); rotate_left; (simp only [Act.put, zt, zu, zv, i64_w, i32_w]; rfl); refine last_ (i := 15) (N := none) #[T,T,T,T,T,T,T,T,T,T,T,T,T,T,T,T] rfl rfl (one_of HT_.out (by kernel_rfl)) (by decide) (fun K hK => ?_); refine skip_ (w1 := ?_) (by rfl) rfl ?_ ?_; rotate_left; (go_simp; rfl); refine hK.out _ _ ?_; clear hK K; refine done_ (done_of HT_.out (by kernel_rfl)) ?_
             try go_wp2
             go_roundg k1
             case measure => have := HK1.out; omega
             case rel => exact ⟨(y229), (ji14), (by first | rfl | (simp; done) | (simp only [← hji14] <;> (first | rfl | simp)) | (simp [*]; done)), H', ⟨by have := HK1.out; omega⟩, ⟨by (with_reducible repeat (first | apply Kd.R_alloc | apply Kd.R_drewN | apply Kd.R_drew)); exact HQ24.out⟩, ⟨by with_reducible repeat first | exact HB.out | apply zA | apply zN | apply zD | refine zS ?_ GB13.out⟩⟩
            ·
             rw [if_neg c18] at H; exact absurd H (by simp)
           ·
            rw [if_neg c17] at H; exact absurd H (by simp)
          ·
           rw [if_neg c16] at H; exact absurd H (by simp)
         ·
          rw [if_neg c15] at H; exact absurd H (by simp)
        ·
         rw [if_neg c12] at H; exact absurd H (by simp)
       ·
        rw [if_neg c11] at H; exact absurd H (by simp)
   ·
    rw [if_neg c6] at H; exact absurd H (by simp)
  ·
   rw [if_neg c5] at H; exact absurd H (by simp)
 ·
  rw [if_neg c3] at H; have c3b0 : (t220 == 0) = false := beq_eq_false_iff_ne.mpr c3; have c3b1 : (t220 != 0) = true := bne_iff_ne.mpr c3; obtain rfl := Option.some.inj H
  go_enter Try.func17, Try.ntmps17
  (try go_step3)
  go_wp2_with (first | ((with_reducible refine gk (f := 14) rfl ?_); refine gl (some 6) rfl rfl Try.func14 (by kernel_rfl) rfl #[.slice A0 l0.length c0] rfl (by (try simp only [List.map_toArray, List.map_cons, List.map_nil]); first | done | rfl | (simp only [List.length_drop, List.length_take]; rfl)) ?_; (with_reducible refine (flat_Check.calls k _ _ l0 t220 _ ?side1 ?side2 A2.out).mono ?_); (case side1 => repeat (first | exact HR0.out | (with_reducible refine Kd.C_alloc ?_ _) | (with_reducible refine Kd.C_drewN ?_ _) | (with_reducible refine Kd.C_drew ?_))); (case side2 => exact HC0.out); rintro e w25 ⟨rfl, hb⟩; refine ⟨_, rfl, ?_⟩; have n0_ := zk (zs (by with_reducible repeat first | exact HB.out | apply zA | apply zN | apply zD) hb); clear HB; have HB := n0_; clear n0_; (try clear hb); (try clear hb2); (try clear hk); (try clear hi)))
  iterate 2 (try (go_step3; try go_wp2_with (first | ((with_reducible refine gk (f := 14) rfl ?_); refine gl (some 6) rfl rfl Try.func14 (by kernel_rfl) rfl #[.slice A0 l0.length c0] rfl (by (try simp only [List.map_toArray, List.map_cons, List.map_nil]); first | done | rfl | (simp only [List.length_drop, List.length_take]; rfl)) ?_; (with_reducible refine (flat_Check.calls k _ _ l0 t220 _ ?side1 ?side2 A2.out).mono ?_); (case side1 => repeat (first | exact HR0.out | (with_reducible refine Kd.C_alloc ?_ _) | (with_reducible refine Kd.C_drewN ?_ _) | (with_reducible refine Kd.C_drew ?_))); (case side2 => exact HC0.out); rintro e w25 ⟨rfl, hb⟩; refine ⟨_, rfl, ?_⟩; have n0_ := zk (zs (by with_reducible repeat first | exact HB.out | apply zA | apply zN | apply zD) hb); clear HB; have HB := n0_; clear n0_; (try clear hb); (try clear hb2); (try clear hk); (try clear hi)))))
  (try rw [Exit.noGoto_ret])
  go_ret; exact ⟨_, by first | rfl | (simp [wN, wS] <;> rfl) | (simp [*, wN, wS] <;> rfl), by first | exact Kd.R_nil _ _ _ _ _ | exact Kd.N_nil _ _ _ _ _ | exact Kd.V_nil _ _ _ _ _ | exact Kd.Q_nil _ _ _ _ _ | exact Kd.S_nil _ _ _ _ _, by with_reducible repeat first | exact HB.out | apply zA | apply zN | apply zD⟩
def pl_Ints.l0 : Nat → List Int → List Int → Int → Int → Option (Bool)
  | 0, _, _, _, _ => none
  | k + 1, x0, x1, x12, x13 => if x13 < x12 then (if 0 ≤ x13 then (if x13 < (x0.length : Int) then (if x13 < (x1.length : Int) then (if (rd x0 x13) = (rd x1 x13) then (pl_Ints.l0 k x0 x1 x12 (wrap64 (x13 + 1))) else (some false)) else (none)) else (none)) else (none)) else (some true)
def pl_Ints.f (k : Nat) (l0 : List Int) (l1 : List Int) : Option (Bool) := if (l0.length : Int) = (l1.length : Int) then (pl_Ints.l0 k l0 l1 (l0.length : Int) 0) else (some false)
theorem pl_Ints.mono_l : ∀ k, (∀ y0 y1 y2 y3, LeO (pl_Ints.l0 k y0 y1 y2 y3) (pl_Ints.l0 (k + 1) y0 y1 y2 y3))
  | 0 => fun _ _ _ _ r h => by simp [pl_Ints.l0] at h
  | k + 1 => by
    have ih0 := pl_Ints.mono_l k
    · intro y0 y1 y2 y3
      unfold pl_Ints.l0
      with_reducible repeat' first | exact ih0 _ _ _ _ | exact LeO.refl _ | exact LeO.none _ | refine LeO.ite ?_ ?_ | refine LeO.bind ?_ (fun _ => ?_)
theorem pl_Ints.mono : ∀ a0 a1 k, LeO (pl_Ints.f k a0 a1) (pl_Ints.f (k + 1) a0 a1) := by
  intro a0 a1 k; have ih0 := pl_Ints.mono_l k; unfold pl_Ints.f
  with_reducible repeat' first | exact ih0 _ _ _ _ | exact LeO.refl _ | exact LeO.none _ | refine LeO.ite ?_ ?_ | refine LeO.bind ?_ (fun _ => ?_)
set_option maxHeartbeats 8000000 in
set_option maxRecDepth 100000 in
theorem pl_Ints.calls (k : Nat) (A0 : Option Addr) (c0 : Nat) (l0 : List Int) (A1 : Option Addr) (c1 : Nat) (l1 : List Int) (r : Bool) (w : World) (hr0 : Kd.C (Kd.int .i64) w A0 l0.length l0) (hc0 : l0.length ≤ c0) (hr1 : Kd.C (Kd.int .i64) w A1 l1.length l1) (hc1 : l1.length ≤ c1) (h : pl_Ints.f k l0 l1 = some r) :
    Calls Try.prog 20 #[.slice A0 l0.length c0, .slice A1 l1.length c1] w fun e w' => e = .returned (.bool r) ∧ Drawn0 w w' := by
  have HR0 := zk hr0; have HC0 := zk hc0; clear hr0 hc0; have HR1 := zk hr1; have HC1 := zk hc1; clear hr1 hc1; have H : (if (l0.length : Int) = (l1.length : Int) then (pl_Ints.l0 k l0 l1 (l0.length : Int) 0) else (some false)) = some r := h; clear h
  by_cases c3 : (l0.length : Int) = (l1.length : Int)
  · rw [if_pos c3] at H
    have c3b0 : ((l0.length : Int) == (l1.length : Int)) = true := beq_iff_eq.mpr c3
    have c3b1 : ((l0.length : Int) != (l1.length : Int)) = false := bne_eq_false_iff_eq.mpr c3
    have c3b2 : (l0.length == l1.length) = true := by first | simpa using c3 | (simp at c3 ⊢; omega)
    clear c3
    have H' := zk H
    clear H
    go_enter Try.func20, Try.ntmps20
    go_wp2
    repeat (go_quiet (fail); try go_wp2)
    go_loopg [13] k (fun kq v13 w' => ∃ (x13_1 : Int), v13 = .int .i64 x13_1 ∧ Aside0 (pl_Ints.l0 kq l0 l1 (l0.length : Int) x13_1 = some r) ∧ Aside0 (kq ≤ k) ∧ Drawn0 w w')
    case atStart => exact ⟨(0), (by first | rfl | (simp; done) | (simp [*]; done)), H', ⟨Nat.le_refl _⟩, by repeat (first | exact Drawn0.refl _ | apply Drawn0.step)⟩
    case round =>
      clear H'; (try clear c1); (try clear c2); (try clear p2); (try clear c3); (try clear c3b0); (try clear c3b1); (try clear c3b2); obtain ⟨x13_1, rfl, HA, HK1, ⟨m1, rfl⟩⟩ := hrel
      cases gk with
      | zero => exact absurd HA.out (by simp [pl_Ints.l0])
      | succ k1 =>
        have H := HA.out; clear HA; simp only [pl_Ints.l0] at H
        by_cases c4 : x13_1 < (l0.length : Int)
        · rw [if_pos c4] at H
          have c4b0 : decide (x13_1 < (l0.length : Int)) = true := decide_eq_true c4
          clear c4
          by_cases c5 : 0 ≤ x13_1
          · rw [if_pos c5] at H
            have c5b0 : decide (0 ≤ x13_1) = true := decide_eq_true c5
            clear c5
            by_cases c6 : x13_1 < (l0.length : Int)
            · rw [if_pos c6] at H
              have c6b0 : decide (x13_1 < (l0.length : Int)) = true := decide_eq_true c6
              clear c6
              by_cases c7 : x13_1 < (l1.length : Int)
              · rw [if_pos c7] at H
                have c7b0 : decide (x13_1 < (l1.length : Int)) = true := decide_eq_true c7
                clear c7
                by_cases c8 : (rd l0 x13_1) = (rd l1 x13_1)
                · rw [if_pos c8] at H
                  have c8b0 : ((rd l0 x13_1) == (rd l1 x13_1)) = true := beq_iff_eq.mpr c8
                  have c8b1 : ((rd l0 x13_1) != (rd l1 x13_1)) = false := bne_eq_false_iff_eq.mpr c8
                  clear c8
                  have H' := zk H
                  clear H
                  have p230 : 0 ≤ (x13_1 : Int) := zo (by assumption)
                  have q230 : x13_1 < (l0.length : Int) := zo (by assumption)
                  obtain ⟨ad230, e230, hx230_0⟩ := Kd.at_int HR0.out x13_1 p230 q230
                  cases e230
                  replace p230 := eq_true p230
                  replace q230 := eq_true q230
                  have p231 : 0 ≤ (x13_1 : Int) := zo (by assumption)
                  have q231 : x13_1 < (l1.length : Int) := zo (by assumption)
                  obtain ⟨ad231, e231, hx231_0⟩ := Kd.at_int HR1.out x13_1 p231 q231
                  cases e231
                  replace p231 := eq_true p231
                  replace q231 := eq_true q231
                  go_wp2
                  repeat (go_quiet (fail); try go_wp2)
                  go_roundg k1
                  case measure => have := HK1.out; omega
                  case rel => exact ⟨(wrap64 (x13_1 + 1)), (by first | rfl | (simp; done) | (simp [*]; done)), H', ⟨by have := HK1.out; omega⟩, by repeat (first | exact Drawn0.refl _ | apply Drawn0.step)⟩
                · rw [if_neg c8] at H
                  have c8b0 : ((rd l0 x13_1) == (rd l1 x13_1)) = false := beq_eq_false_iff_ne.mpr c8
                  have c8b1 : ((rd l0 x13_1) != (rd l1 x13_1)) = true := bne_iff_ne.mpr c8
                  obtain rfl := Option.some.inj H
                  have p230 : 0 ≤ (x13_1 : Int) := zo (by assumption)
                  have q230 : x13_1 < (l0.length : Int) := zo (by assumption)
                  obtain ⟨ad230, e230, hx230_0⟩ := Kd.at_int HR0.out x13_1 p230 q230
                  cases e230
                  replace p230 := eq_true p230
                  replace q230 := eq_true q230
                  have p231 : 0 ≤ (x13_1 : Int) := zo (by assumption)
                  have q231 : x13_1 < (l1.length : Int) := zo (by assumption)
                  obtain ⟨ad231, e231, hx231_0⟩ := Kd.at_int HR1.out x13_1 p231 q231
                  cases e231
                  replace p231 := eq_true p231
                  replace q231 := eq_true q231
                  go_wp2
                  repeat (go_quiet (fail); try go_wp2)
                  go_ret
                  exact ⟨by first | rfl | (simp; done) | (simp [*]; done), by repeat (first | exact Drawn0.refl _ | apply Drawn0.step)⟩
              · rw [if_neg c7] at H
                exact absurd H (by simp)
            · rw [if_neg c6] at H
              exact absurd H (by simp)
          · rw [if_neg c5] at H
            exact absurd H (by simp)
        · rw [if_neg c4] at H
          have c4b0 : decide (x13_1 < (l0.length : Int)) = false := decide_eq_false c4
          clear c4
          obtain rfl := Option.some.inj H
          go_wp2
          repeat (go_quiet (fail); try go_wp2)
          go_ret
          exact ⟨by first | rfl | (simp; done) | (simp [*]; done), by repeat (first | exact Drawn0.refl _ | apply Drawn0.step)⟩
  · rw [if_neg c3] at H
    have c3b0 : ((l0.length : Int) == (l1.length : Int)) = false := beq_eq_false_iff_ne.mpr c3
    have c3b1 : ((l0.length : Int) != (l1.length : Int)) = true := bne_iff_ne.mpr c3
    have c3b2 : (l0.length == l1.length) = false := by first | simpa using c3 | (simp at c3 ⊢; omega)
    obtain rfl := Option.some.inj H
    go_enter Try.func20, Try.ntmps20
    go_wp2
    repeat (go_quiet (fail); try go_wp2)
    go_ret
    exact ⟨by first | rfl | (simp; done) | (simp [*]; done), by repeat (first | exact Drawn0.refl _ | apply Drawn0.step)⟩
def lw_same.f0 (k : Nat)  : Option (Bool) := (some (([(⟨(⟨#[108, 105]⟩ : ByteArray), (⟨#[]⟩ : ByteArray), (⟨#[]⟩ : ByteArray), ([] : List (S69)), ([] : List (S25))⟩ : S25), (⟨(⟨#[117, 108]⟩ : ByteArray), (⟨#[]⟩ : ByteArray), (⟨#[]⟩ : ByteArray), ([] : List (S69)), (([(⟨(⟨#[108, 105]⟩ : ByteArray), (⟨#[]⟩ : ByteArray), (⟨#[]⟩ : ByteArray), ([] : List (S69)), ([] : List (S25))⟩ : S25)] : List (S25)))⟩ : S25)] : List (S25)) : List (S25))).bind fun y235 => ((flat_Rows.f k (⟨#[112]⟩ : ByteArray) (⟨#[]⟩ : ByteArray) (⟨#[]⟩ : ByteArray) ([] : List (S69)) y235).bind fun bt239 => ((flat_Tree.f k bt239.1).bind fun bt243 => (if bt239.2 = 0 then (if bt243.2.2.2.2.2 = 0 then (if (bt239.1.length : Int) = 4 then (if 3 < (bt239.1.length : Int) then (if ((rd_T53 bt239.1 3).f1) = 3 then (if 2 < (bt239.1.length : Int) then (if ((rd_T53 bt239.1 2).f1) = 1 then ((pl_Nodes.f k bt243.1 bt243.2.1 bt243.2.2.1 bt243.2.2.2.1 bt243.2.2.2.2.1 (⟨#[112]⟩ : ByteArray) (⟨#[]⟩ : ByteArray) (⟨#[]⟩ : ByteArray) ([] : List (S69)) y235).bind fun t256 => (if t256 = true then ((flat_Spans.f k bt239.1).bind fun t257 => ((pl_Ints.f k t257 (([4, 4, 1, 2, 1] : List Int))).bind fun t263 => (some t263))) else (some false))) else (some false)) else (none)) else (some false)) else (none)) else (some false)) else (some false)) else (some false))))
theorem lw_same.mono0 : ∀ k, LeO (lw_same.f0 k ) (lw_same.f0 (k + 1) ) := by
 intro  k
 unfold lw_same.f0
 with_reducible repeat' first | exact flat_Rows.mono _ _ _ _ _ _ | exact flat_Spans.mono _ _ | exact flat_Tree.mono _ _ | exact pl_Ints.mono _ _ _ | exact pl_Nodes.mono _ _ _ _ _ _ _ _ _ _ _ | exact LeO.refl _ | exact LeO.none _ | refine LeO.ite ?_ ?_ | refine LeO.bind ?_ (fun _ => ?_)
def lw_same.f (k : Nat) : Option Bool := (lw_same.f0 k).bind fun b => if b = true then some true else none
theorem lw_same.mono : ∀ k, LeO (lw_same.f k ) (lw_same.f (k + 1) ) := by
  intro  k; unfold lw_same.f; exact LeO.bind (lw_same.mono0  k) (fun _ => LeO.refl _)
set_option maxHeartbeats 8000000 in
set_option maxRecDepth 100000 in
theorem lw_same.calls (k : Nat)  (r : Bool) (w : World) (h : lw_same.f k  = some r) :
  Calls Try.prog 8 #[] w fun e w' => e = .returned (.bool r) ∧ Below w.heap.size w w' := by
 obtain ⟨b_, hb_, hr_⟩ := Option.bind_eq_some_iff.1 h
 split at hr_
 case isFalse => cases hr_
 rename_i hbt_
 subst hbt_
 obtain rfl := Option.some.inj hr_
 obtain ⟨r, hr2_⟩ : ∃ r : Bool, r = true := ⟨_, rfl⟩
 rw [← hr2_] at hb_ ⊢
 have HR_ := zk hr2_
 clear hr_ hr2_ h
 have h := hb_
 clear hb_
 have hu25 := Try.underlying25
 have HB := zk (Below.refl w.heap.size w)
 have H : ((some (([(⟨(⟨#[108, 105]⟩ : ByteArray), (⟨#[]⟩ : ByteArray), (⟨#[]⟩ : ByteArray), ([] : List (S69)), ([] : List (S25))⟩ : S25), (⟨(⟨#[117, 108]⟩ : ByteArray), (⟨#[]⟩ : ByteArray), (⟨#[]⟩ : ByteArray), ([] : List (S69)), (([(⟨(⟨#[108, 105]⟩ : ByteArray), (⟨#[]⟩ : ByteArray), (⟨#[]⟩ : ByteArray), ([] : List (S69)), ([] : List (S25))⟩ : S25)] : List (S25)))⟩ : S25)] : List (S25)) : List (S25))).bind fun y235 => ((flat_Rows.f k (⟨#[112]⟩ : ByteArray) (⟨#[]⟩ : ByteArray) (⟨#[]⟩ : ByteArray) ([] : List (S69)) y235).bind fun bt239 => ((flat_Tree.f k bt239.1).bind fun bt243 => (if bt239.2 = 0 then (if bt243.2.2.2.2.2 = 0 then (if (bt239.1.length : Int) = 4 then (if 3 < (bt239.1.length : Int) then (if ((rd_T53 bt239.1 3).f1) = 3 then (if 2 < (bt239.1.length : Int) then (if ((rd_T53 bt239.1 2).f1) = 1 then ((pl_Nodes.f k bt243.1 bt243.2.1 bt243.2.2.1 bt243.2.2.2.1 bt243.2.2.2.2.1 (⟨#[112]⟩ : ByteArray) (⟨#[]⟩ : ByteArray) (⟨#[]⟩ : ByteArray) ([] : List (S69)) y235).bind fun t256 => (if t256 = true then ((flat_Spans.f k bt239.1).bind fun t257 => ((pl_Ints.f k t257 (([4, 4, 1, 2, 1] : List Int))).bind fun t263 => (some t263))) else (some false))) else (some false)) else (none)) else (some false)) else (none)) else (some false)) else (some false)) else (some false))))) = some r := h
 clear h
 obtain ⟨y232, hy232⟩ : ∃ y_ : List (S25), y_ = (([(⟨(⟨#[108, 105]⟩ : ByteArray), (⟨#[]⟩ : ByteArray), (⟨#[]⟩ : ByteArray), ([] : List (S69)), ([] : List (S25))⟩ : S25)] : List (S25))) := ⟨_, rfl⟩
 replace H : ((some (([(⟨(⟨#[108, 105]⟩ : ByteArray), (⟨#[]⟩ : ByteArray), (⟨#[]⟩ : ByteArray), ([] : List (S69)), ([] : List (S25))⟩ : S25), (⟨(⟨#[117, 108]⟩ : ByteArray), (⟨#[]⟩ : ByteArray), (⟨#[]⟩ : ByteArray), ([] : List (S69)), y232⟩ : S25)] : List (S25)) : List (S25))).bind fun y235 => ((flat_Rows.f k (⟨#[112]⟩ : ByteArray) (⟨#[]⟩ : ByteArray) (⟨#[]⟩ : ByteArray) ([] : List (S69)) y235).bind fun bt239 => ((flat_Tree.f k bt239.1).bind fun bt243 => (if bt239.2 = 0 then (if bt243.2.2.2.2.2 = 0 then (if (bt239.1.length : Int) = 4 then (if 3 < (bt239.1.length : Int) then (if ((rd_T53 bt239.1 3).f1) = 3 then (if 2 < (bt239.1.length : Int) then (if ((rd_T53 bt239.1 2).f1) = 1 then ((pl_Nodes.f k bt243.1 bt243.2.1 bt243.2.2.1 bt243.2.2.2.1 bt243.2.2.2.2.1 (⟨#[112]⟩ : ByteArray) (⟨#[]⟩ : ByteArray) (⟨#[]⟩ : ByteArray) ([] : List (S69)) y235).bind fun t256 => (if t256 = true then ((flat_Spans.f k bt239.1).bind fun t257 => ((pl_Ints.f k t257 (([4, 4, 1, 2, 1] : List Int))).bind fun t263 => (some t263))) else (some false))) else (some false)) else (none)) else (some false)) else (none)) else (some false)) else (some false)) else (some false))))) = some r := by first | (rw [hy232]; with_reducible exact H) | (have H2_ := (Option.bind_some _ _).symm.trans H; rw [hy232]; with_reducible exact H2_) | (have H2_ := (Option.bind_some _ _).symm.trans H; with_reducible exact H2_) | with_reducible exact H | (rw [hy232]; exact H) | exact H
 have Ny232 := zk hy232
 clear hy232
 obtain ⟨y235, hy235⟩ : ∃ y_ : List (S25), y_ = (([(⟨(⟨#[108, 105]⟩ : ByteArray), (⟨#[]⟩ : ByteArray), (⟨#[]⟩ : ByteArray), ([] : List (S69)), ([] : List (S25))⟩ : S25), (⟨(⟨#[117, 108]⟩ : ByteArray), (⟨#[]⟩ : ByteArray), (⟨#[]⟩ : ByteArray), ([] : List (S69)), y232⟩ : S25)] : List (S25))) := ⟨_, rfl⟩
 replace H : ((flat_Rows.f k (⟨#[112]⟩ : ByteArray) (⟨#[]⟩ : ByteArray) (⟨#[]⟩ : ByteArray) ([] : List (S69)) y235).bind fun bt239 => ((flat_Tree.f k bt239.1).bind fun bt243 => (if bt239.2 = 0 then (if bt243.2.2.2.2.2 = 0 then (if (bt239.1.length : Int) = 4 then (if 3 < (bt239.1.length : Int) then (if ((rd_T53 bt239.1 3).f1) = 3 then (if 2 < (bt239.1.length : Int) then (if ((rd_T53 bt239.1 2).f1) = 1 then ((pl_Nodes.f k bt243.1 bt243.2.1 bt243.2.2.1 bt243.2.2.2.1 bt243.2.2.2.2.1 (⟨#[112]⟩ : ByteArray) (⟨#[]⟩ : ByteArray) (⟨#[]⟩ : ByteArray) ([] : List (S69)) y235).bind fun t256 => (if t256 = true then ((flat_Spans.f k bt239.1).bind fun t257 => ((pl_Ints.f k t257 (([4, 4, 1, 2, 1] : List Int))).bind fun t263 => (some t263))) else (some false))) else (some false)) else (none)) else (some false)) else (none)) else (some false)) else (some false)) else (some false)))) = some r := by first | (rw [hy235]; with_reducible exact H) | (have H2_ := (Option.bind_some _ _).symm.trans H; rw [hy235]; with_reducible exact H2_) | (have H2_ := (Option.bind_some _ _).symm.trans H; with_reducible exact H2_) | with_reducible exact H | (rw [hy235]; exact H) | exact H
 have Ny235 := zk hy235
 clear hy235
 replace H := Option.bind_eq_some_iff.mp H
 obtain ⟨⟨t239, t242⟩, A10, H⟩ := H
 replace H : ((flat_Tree.f k t239).bind fun bt243 => (if t242 = 0 then (if bt243.2.2.2.2.2 = 0 then (if (t239.length : Int) = 4 then (if 3 < (t239.length : Int) then (if ((rd_T53 t239 3).f1) = 3 then (if 2 < (t239.length : Int) then (if ((rd_T53 t239 2).f1) = 1 then ((pl_Nodes.f k bt243.1 bt243.2.1 bt243.2.2.1 bt243.2.2.2.1 bt243.2.2.2.2.1 (⟨#[112]⟩ : ByteArray) (⟨#[]⟩ : ByteArray) (⟨#[]⟩ : ByteArray) ([] : List (S69)) y235).bind fun t256 => (if t256 = true then ((flat_Spans.f k t239).bind fun t257 => ((pl_Ints.f k t257 (([4, 4, 1, 2, 1] : List Int))).bind fun t263 => (some t263))) else (some false))) else (some false)) else (none)) else (some false)) else (none)) else (some false)) else (some false)) else (some false))) = some r := H
 have A1 := zk A10
 clear A10
 replace H := Option.bind_eq_some_iff.mp H
 obtain ⟨⟨t243, t244, t245, t246, t249, t252⟩, A20, H⟩ := H
 replace H : (if t242 = 0 then (if t252 = 0 then (if (t239.length : Int) = 4 then (if 3 < (t239.length : Int) then (if ((rd_T53 t239 3).f1) = 3 then (if 2 < (t239.length : Int) then (if ((rd_T53 t239 2).f1) = 1 then ((pl_Nodes.f k t243 t244 t245 t246 t249 (⟨#[112]⟩ : ByteArray) (⟨#[]⟩ : ByteArray) (⟨#[]⟩ : ByteArray) ([] : List (S69)) y235).bind fun t256 => (if t256 = true then ((flat_Spans.f k t239).bind fun t257 => ((pl_Ints.f k t257 (([4, 4, 1, 2, 1] : List Int))).bind fun t263 => (some t263))) else (some false))) else (some false)) else (none)) else (some false)) else (none)) else (some false)) else (some false)) else (some false)) = some r := H
 have A2 := zk A20
 clear A20
 by_cases c3 : t242 = 0
 ·
  rw [if_pos c3] at H; have c3b0 : (t242 == 0) = true := beq_iff_eq.mpr c3; have c3b1 : (t242 != 0) = false := bne_eq_false_iff_eq.mpr c3; clear c3
  by_cases c4 : t252 = 0
  ·
   rw [if_pos c4] at H; have c4b0 : (t252 == 0) = true := beq_iff_eq.mpr c4; have c4b1 : (t252 != 0) = false := bne_eq_false_iff_eq.mpr c4; clear c4
   by_cases c5 : (t239.length : Int) = 4
   ·
    rw [if_pos c5] at H; have c5b0 : ((t239.length : Int) == 4) = true := beq_iff_eq.mpr c5; have c5b1 : ((t239.length : Int) != 4) = false := bne_eq_false_iff_eq.mpr c5; clear c5
    by_cases c6 : 3 < (t239.length : Int)
    ·
     rw [if_pos c6] at H; have c6b0 : decide (3 < (t239.length : Int)) = true := decide_eq_true c6; have c6b1 : decide (3 < t239.length) = true := decide_eq_true (by omega); clear c6
     by_cases c7 : ((rd_T53 t239 3).f1) = 3
     ·
      rw [if_pos c7] at H; have c7b0 : (((rd_T53 t239 3).f1) == 3) = true := beq_iff_eq.mpr c7; have c7b1 : (((rd_T53 t239 3).f1) != 3) = false := bne_eq_false_iff_eq.mpr c7; clear c7
      by_cases c8 : 2 < (t239.length : Int)
      ·
       rw [if_pos c8] at H; have c8b0 : decide (2 < (t239.length : Int)) = true := decide_eq_true c8; have c8b1 : decide (2 < t239.length) = true := decide_eq_true (by omega); clear c8
       by_cases c9 : ((rd_T53 t239 2).f1) = 1
       ·
        rw [if_pos c9] at H; have c9b0 := beq_iff_eq.mpr c9; have c9b1 := bne_eq_false_iff_eq.mpr c9; clear c9; replace H := Option.bind_eq_some_iff.mp H; obtain ⟨t256, A100, H⟩ := H; replace H : (if t256 = true then ((flat_Spans.f k t239).bind fun t257 => ((pl_Ints.f k t257 (([4, 4, 1, 2, 1] : List Int))).bind fun t263 => (some t263))) else (some false)) = some r := H; have A10 := zk A100; clear A100
        by_cases c11 : t256 = true
        ·
         subst c11
         have H1 : ((flat_Spans.f k t239).bind fun t257 => ((pl_Ints.f k t257 (([4, 4, 1, 2, 1] : List Int))).bind fun t263 => (some t263))) = some r := by rw [if_pos rfl] at H; exact H
         clear H; have H := H1; clear H1; replace H := Option.bind_eq_some_iff.mp H; obtain ⟨t257, A120, H⟩ := H; replace H : ((pl_Ints.f k t257 (([4, 4, 1, 2, 1] : List Int))).bind fun t263 => (some t263)) = some r := H; have A12 := zk A120; clear A120; obtain ⟨y260, hy260⟩ : ∃ y_ : List Int, y_ = (([4, 4, 1, 2, 1] : List Int)) := ⟨_, rfl⟩
         replace H : ((pl_Ints.f k t257 y260).bind fun t263 => (some t263)) = some r := by first | (rw [hy260]; with_reducible exact H) | (have H2_ := (Option.bind_some _ _).symm.trans H; rw [hy260]; with_reducible exact H2_) | (have H2_ := (Option.bind_some _ _).symm.trans H; with_reducible exact H2_) | with_reducible exact H | (rw [hy260]; exact H) | exact H
         have Ny260 := zk hy260; clear hy260; replace H := Option.bind_eq_some_iff.mp H; obtain ⟨t263, A130, H⟩ := H; replace H : (some t263) = some r := H; have A13 := zk A130; clear A130; obtain rfl := Option.some.inj H
         go_enter Try.func8, Try.ntmps8
         go_wp2_with (first | ((with_reducible refine gd (N := 8) rfl ?_); (try (refine gg (by rfl) ?_; dsimp only)); refine Kd.N_lit k25 _ 25 ?hg (N' := 8) ?hd (xs := ([(⟨(⟨#[108, 105]⟩ : ByteArray), (⟨#[]⟩ : ByteArray), (⟨#[]⟩ : ByteArray), ([] : List (S69)), ([] : List (S25))⟩ : S25)] : List (S25))) (inner := [.string (⟨#[108, 105]⟩ : ByteArray), .string ⟨#[]⟩, .string ⟨#[]⟩, .slice none 0 0, .slice none 0 0]) (ok := (fun _ => True)) (okp := (fun _ => True)) ?hr ?hp (fun _ hk => hk) ((show ∀ k_, w.heap.size ≤ k_ → (fun _ => True) k_ from fun k_ hk => trivial) _ (Nat.le_refl _)) (Below.refl _ _) (Nat.le_refl _) (by simp) ?_; (case hd => rfl); (case hg => rfl); (case hr => go_simp; first | done | rfl); (case hp => exact (Reps.c5 (show Kd.FK k25 _ _ (⟨(⟨#[108, 105]⟩ : ByteArray), (⟨#[]⟩ : ByteArray), (⟨#[]⟩ : ByteArray), ([] : List (S69)), ([] : List (S25))⟩ : S25) [.string (⟨#[108, 105]⟩ : ByteArray), .string ⟨#[]⟩, .string ⟨#[]⟩, .slice none 0 0, .slice none 0 0] from (k25_mkF _ _ (⟨(⟨#[108, 105]⟩ : ByteArray), (⟨#[]⟩ : ByteArray), (⟨#[]⟩ : ByteArray), ([] : List (S69)), ([] : List (S25))⟩ : S25) (Nat.le_refl _) (Kd.F_nil _ _ _) (Nat.le_refl _) (Kd.F_nil _ _ _))) (Reps.none _ _))); intro v233 w14 ho15 hb hg_ hnew_; clear hg_ hnew_; (first | rw [← Ny232.out] at ho15 | (simp only [Int.reduceToNat] at ho15; rw [← Ny232.out] at ho15)); have n0_ := zk (Kd.N_lower ho15 (zq (by with_reducible repeat first | exact HB.out | apply zA | apply zN | apply zD))); have n1_ := zk (zs (by with_reducible repeat first | exact HB.out | apply zA | apply zN | apply zD) hb); clear HB; have HO234 := n0_; have HB := n1_; clear n0_ n1_; clear hb ho15; obtain ⟨Ao16, co16, eo16⟩ := Kd.N_slice HO234.out; subst eo16) | ((with_reducible refine gd (N := 10) rfl ?_); (try (refine gg (by rfl) ?_; dsimp only)); refine Kd.N_lit k25 _ 25 ?hg (N' := 10) ?hd (xs := ([(⟨(⟨#[108, 105]⟩ : ByteArray), (⟨#[]⟩ : ByteArray), (⟨#[]⟩ : ByteArray), ([] : List (S69)), ([] : List (S25))⟩ : S25), (⟨(⟨#[117, 108]⟩ : ByteArray), (⟨#[]⟩ : ByteArray), (⟨#[]⟩ : ByteArray), ([] : List (S69)), y232⟩ : S25)] : List (S25))) (inner := [.string (⟨#[108, 105]⟩ : ByteArray), .string ⟨#[]⟩, .string ⟨#[]⟩, .slice none 0 0, .slice none 0 0, .string (⟨#[117, 108]⟩ : ByteArray), .string ⟨#[]⟩, .string ⟨#[]⟩, .slice none 0 0, .slice Ao16 y232.length co16]) (ok := (fun _ => True)) (okp := (fun _ => True)) ?hr ?hp (fun _ hk => hk) ((show ∀ k_, w14.heap.size ≤ k_ → (fun _ => True) k_ from fun k_ hk => trivial) _ (Nat.le_refl _)) (Below.refl _ _) (Nat.le_refl _) (by simp) ?_; (case hd => rfl); (case hg => rfl); (case hr => go_simp; first | done | rfl); (case hp => exact (Reps.c5 (show Kd.FK k25 _ _ (⟨(⟨#[108, 105]⟩ : ByteArray), (⟨#[]⟩ : ByteArray), (⟨#[]⟩ : ByteArray), ([] : List (S69)), ([] : List (S25))⟩ : S25) [.string (⟨#[108, 105]⟩ : ByteArray), .string ⟨#[]⟩, .string ⟨#[]⟩, .slice none 0 0, .slice none 0 0] from (k25_mkF _ _ (⟨(⟨#[108, 105]⟩ : ByteArray), (⟨#[]⟩ : ByteArray), (⟨#[]⟩ : ByteArray), ([] : List (S69)), ([] : List (S25))⟩ : S25) (Nat.le_refl _) (Kd.F_nil _ _ _) (Nat.le_refl _) (Kd.F_nil _ _ _))) (Reps.c5 (show Kd.FK k25 _ _ (⟨(⟨#[117, 108]⟩ : ByteArray), (⟨#[]⟩ : ByteArray), (⟨#[]⟩ : ByteArray), ([] : List (S69)), y232⟩ : S25) [.string (⟨#[117, 108]⟩ : ByteArray), .string ⟨#[]⟩, .string ⟨#[]⟩, .slice none 0 0, .slice Ao16 y232.length co16] from (k25_mkF _ _ (⟨(⟨#[117, 108]⟩ : ByteArray), (⟨#[]⟩ : ByteArray), (⟨#[]⟩ : ByteArray), ([] : List (S69)), y232⟩ : S25) (Nat.le_refl _) (Kd.F_nil _ _ _) (Kd.N_reads' (Kd.N_mono (ok' := (fun _ => True)) (HO234.out) (fun k_ hk => trivial))).2.1 (Kd.N_F (Kd.N_mono (ok' := (fun _ => True)) (HO234.out) (fun k_ hk => trivial))))) (Reps.none _ _)))); intro v236 w17 ho18 hb hg_ hnew_; clear hg_ hnew_; (first | rw [← Ny235.out] at ho18 | (simp only [Int.reduceToNat] at ho18; rw [← Ny235.out] at ho18)); have n0_ := zk (Kd.N_lower ho18 (zq (by with_reducible repeat first | exact HB.out | apply zA | apply zN | apply zD))); have n1_ := zk (zs (by with_reducible repeat first | exact HB.out | apply zA | apply zN | apply zD) hb); clear HB; clear HO234; have HO237 := n0_; have HB := n1_; clear n0_ n1_; clear hb ho18; obtain ⟨Ao19, co19, eo19⟩ := Kd.N_slice HO237.out; subst eo19) | ((with_reducible refine gd (N := 1) rfl ?_); (try (refine gg (by rfl) ?_; dsimp only)); refine zb ?hg (N := 1) ?hd (cs := #[.string ⟨#[]⟩, .string ⟨#[]⟩, .string ⟨#[]⟩, .slice none 0 0, .slice none 0 0]) (t := 25) ?hr ?_; (case hd => rfl); (case hg => rfl); (case hr => go_simp; first | done | rfl); intro gb238 hg w20 hbox hb; have n0_ := zk (Kd.N_below (Kd.N_elderB (by (with_reducible repeat (first | apply Kd.N_alloc | apply Kd.N_drewN | apply Kd.N_drew)); exact HO237.out) gb238 (Nat.le_of_eq hg.symm)) hb); have n1_ := zk (zs (by with_reducible repeat first | exact HB.out | apply zA | apply zN | apply zD) hb); have n2_ := zk (hbox); have n3_ := zk ((by rw [hg]; exact (zq (by with_reducible repeat first | exact HB.out | apply zA | apply zN | apply zD)) : w.heap.size ≤ gb238)); have n4_ := n3_; clear HO237; clear HB; have HO237 := n0_; have HB := n1_; have BK238 := n2_; have GW238 := n3_; have GE238 := n4_; clear n0_ n1_ n2_ n3_ n4_; clear hb hbox hg; obtain ⟨hcz21_0, hcz21_1, hcz21_2, hcz21_3, hcz21_4, hfz21_0, hfz21_1, hfz21_2, hfz21_3, hfz21_4⟩ := zc5 BK238.out) | ((with_reducible refine gk (f := 9) rfl ?_); refine gl (some 14) rfl rfl Try.func9 (by kernel_rfl) rfl #[.agg #[.string (⟨#[112]⟩ : ByteArray), .string ⟨#[]⟩, .string ⟨#[]⟩, .slice none 0 0, .slice Ao19 y235.length co19]] rfl (by (try simp only [List.map_toArray, List.map_cons, List.map_nil]); first | done | rfl | (simp only [List.length_drop, List.length_take]; rfl)) ?_; (refine (flat_Rows.calls k (⟨#[112]⟩ : ByteArray) (⟨#[]⟩ : ByteArray) (⟨#[]⟩ : ByteArray) _ _ ([] : List (S69)) _ _ y235 t239 t242 _ ?side1 ?side2 ?side3 ?side4 A1.out).mono ?_); (case side1 => exact Kd.C_nil _ _); (case side2 => exact Nat.le_refl _); (case side3 => refine (Kd.N_reads' (e := 25) (base := w.heap.size) (ok := fun k_ => (True ∧ k_ ≠ gb238)) (n := y235.length) (c := co19) ?_).2.2; exact (by (with_reducible repeat (first | apply Kd.N_alloc | apply Kd.N_drewN | apply Kd.N_drew)); exact (Kd.N_mono (Kd.N_far (p := ⟨gb238, 4, none⟩) (Kd.N_far (p := ⟨gb238, 3, none⟩) (Kd.N_far (p := ⟨gb238, 2, none⟩) (Kd.N_far (p := ⟨gb238, 1, none⟩) (Kd.N_far (p := ⟨gb238, 0, none⟩) (Kd.N_mono HO237.out (fun k_ hk => (⟨hk, hk.2⟩ : _ ∧ k_ ≠ gb238))) (fun _ hk => hk.2) (.string (⟨#[112]⟩ : ByteArray))) (fun _ hk => hk.2) (.string ⟨#[]⟩)) (fun _ hk => hk.2) (.string ⟨#[]⟩)) (fun _ hk => hk.2) (.slice none 0 0)) (fun _ hk => hk.2) (.slice Ao19 y235.length co19)) (fun _ h_ => h_.1)))); (case side4 => exact (Kd.N_reads' HO237.out).2.1); rintro e w22 ⟨v240, rfl, ho0, hb⟩; refine ⟨_, rfl, ?_⟩; have n0_ := zk (Kd.N_elder' (by (with_reducible repeat (first | apply Kd.N_alloc | apply Kd.N_drewN | apply Kd.N_drew)); exact (Kd.N_mono (Kd.N_far (p := ⟨gb238, 4, none⟩) (Kd.N_far (p := ⟨gb238, 3, none⟩) (Kd.N_far (p := ⟨gb238, 2, none⟩) (Kd.N_far (p := ⟨gb238, 1, none⟩) (Kd.N_far (p := ⟨gb238, 0, none⟩) (Kd.N_mono HO237.out (fun k_ hk => (⟨hk, hk.2⟩ : _ ∧ k_ ≠ gb238))) (fun _ hk => hk.2) (.string (⟨#[112]⟩ : ByteArray))) (fun _ hk => hk.2) (.string ⟨#[]⟩)) (fun _ hk => hk.2) (.string ⟨#[]⟩)) (fun _ hk => hk.2) (.slice none 0 0)) (fun _ hk => hk.2) (.slice Ao19 y235.length co19)) (fun _ h_ => h_.1))) (Kd.N_base ho0) hb); have n1_ := zk (Kd.N_lower (Kd.N_mono (ok' := fun k_ => some k_ ≠ (.slice Ao19 y235.length co19 : Value).ownBlock ∧ k_ ≠ gb238) ho0 (fun k_ hk_ => ⟨(Kd.fresh' (Kd.N_lt (by (with_reducible repeat (first | apply Kd.N_alloc | apply Kd.N_drewN | apply Kd.N_drew)); exact (Kd.N_mono (Kd.N_far (p := ⟨gb238, 4, none⟩) (Kd.N_far (p := ⟨gb238, 3, none⟩) (Kd.N_far (p := ⟨gb238, 2, none⟩) (Kd.N_far (p := ⟨gb238, 1, none⟩) (Kd.N_far (p := ⟨gb238, 0, none⟩) (Kd.N_mono HO237.out (fun k_ hk => (⟨hk, hk.2⟩ : _ ∧ k_ ≠ gb238))) (fun _ hk => hk.2) (.string (⟨#[112]⟩ : ByteArray))) (fun _ hk => hk.2) (.string ⟨#[]⟩)) (fun _ hk => hk.2) (.string ⟨#[]⟩)) (fun _ hk => hk.2) (.slice none 0 0)) (fun _ hk => hk.2) (.slice Ao19 y235.length co19)) (fun _ h_ => h_.1)))) k_ hk_), (Kd.freshB (g := gb238) (o := .cells #[.string (⟨#[112]⟩ : ByteArray), .string ⟨#[]⟩, .string ⟨#[]⟩, .slice none 0 0, .slice Ao19 y235.length co19] 25 (0, 0)) (by (with_reducible repeat first | apply zM | apply zE | apply zF); refine zP (cs := #[.string (⟨#[112]⟩ : ByteArray), .string ⟨#[]⟩, .string ⟨#[]⟩, .slice none 0 0, .slice none 0 0]) ?_ 4 _ rfl; (with_reducible repeat first | apply zM | apply zE | apply zF); refine zP (cs := #[.string (⟨#[112]⟩ : ByteArray), .string ⟨#[]⟩, .string ⟨#[]⟩, .slice none 0 0, .slice none 0 0]) ?_ 3 _ rfl; (with_reducible repeat first | apply zM | apply zE | apply zF); refine zP (cs := #[.string (⟨#[112]⟩ : ByteArray), .string ⟨#[]⟩, .string ⟨#[]⟩, .slice none 0 0, .slice none 0 0]) ?_ 2 _ rfl; (with_reducible repeat first | apply zM | apply zE | apply zF); refine zP (cs := #[.string (⟨#[112]⟩ : ByteArray), .string ⟨#[]⟩, .string ⟨#[]⟩, .slice none 0 0, .slice none 0 0]) ?_ 1 _ rfl; (with_reducible repeat first | apply zM | apply zE | apply zF); refine zP (cs := #[.string ⟨#[]⟩, .string ⟨#[]⟩, .string ⟨#[]⟩, .slice none 0 0, .slice none 0 0]) ?_ 0 _ rfl; (with_reducible repeat first | apply zM | apply zE | apply zF); exact BK238.out) k_ hk_)⟩)) (zq (by with_reducible repeat first | exact HB.out | apply zA | apply zN | apply zD | refine zS ?_ GE238.out))); have n2_ := zk (blk_below (g := gb238) (o := .cells #[.string (⟨#[112]⟩ : ByteArray), .string ⟨#[]⟩, .string ⟨#[]⟩, .slice none 0 0, .slice Ao19 y235.length co19] 25 (0, 0)) (by (with_reducible repeat first | apply zM | apply zE | apply zF); refine zP (cs := #[.string (⟨#[112]⟩ : ByteArray), .string ⟨#[]⟩, .string ⟨#[]⟩, .slice none 0 0, .slice none 0 0]) ?_ 4 _ rfl; (with_reducible repeat first | apply zM | apply zE | apply zF); refine zP (cs := #[.string (⟨#[112]⟩ : ByteArray), .string ⟨#[]⟩, .string ⟨#[]⟩, .slice none 0 0, .slice none 0 0]) ?_ 3 _ rfl; (with_reducible repeat first | apply zM | apply zE | apply zF); refine zP (cs := #[.string (⟨#[112]⟩ : ByteArray), .string ⟨#[]⟩, .string ⟨#[]⟩, .slice none 0 0, .slice none 0 0]) ?_ 2 _ rfl; (with_reducible repeat first | apply zM | apply zE | apply zF); refine zP (cs := #[.string (⟨#[112]⟩ : ByteArray), .string ⟨#[]⟩, .string ⟨#[]⟩, .slice none 0 0, .slice none 0 0]) ?_ 1 _ rfl; (with_reducible repeat first | apply zM | apply zE | apply zF); refine zP (cs := #[.string ⟨#[]⟩, .string ⟨#[]⟩, .string ⟨#[]⟩, .slice none 0 0, .slice none 0 0]) ?_ 0 _ rfl; (with_reducible repeat first | apply zM | apply zE | apply zF); exact BK238.out) hb); have n3_ := zk (zs (by with_reducible repeat first | exact HB.out | apply zA | apply zN | apply zD | refine zS ?_ GE238.out) hb); clear HO237; clear BK238; clear HB; have HO237 := n0_; have HO241 := n1_; have BK238 := n2_; have HB := n3_; clear n0_ n1_ n2_ n3_; (try clear hb); (try clear hb2); (try clear hk); (try clear hi); (try clear ho0); obtain ⟨Ao23, co23, eo23⟩ := Kd.N_slice HO241.out; subst eo23) | ((with_reducible refine gk (f := 12) rfl ?_); refine gl (some 19) rfl rfl Try.func12 (by kernel_rfl) rfl #[.slice Ao23 t239.length co23] rfl (by (try simp only [List.map_toArray, List.map_cons, List.map_nil]); first | done | rfl | (simp only [List.length_drop, List.length_take]; rfl)) ?_; (with_reducible refine (flat_Tree.calls k (fun k_ => (some k_ ≠ (.slice Ao19 y235.length co19 : Value).ownBlock ∧ k_ ≠ gb238)) _ _ t239 t243 t244 t245 t246 t249 t252 _ ?side1 A2.out).mono ?_); (case side1 => exact Kd.N_V (HO241.out)); rintro e w24 ⟨v247, v250, rfl, ho0, ho1, hb⟩; refine ⟨_, rfl, ?_⟩; have n0_ := zk (Kd.N_mono (Kd.N_told (Kd.N_told (Kd.N_old (by (with_reducible repeat (first | apply Kd.N_alloc | apply Kd.N_drewN | apply Kd.N_drew)); exact HO237.out) hb) (Kd.R_base ho0)) (Kd.R_base ho1)) (fun _ h_ => h_.1)); have n1_ := zk (Kd.N_mono (Kd.N_told (Kd.N_told (Kd.N_old (by (with_reducible repeat (first | apply Kd.N_alloc | apply Kd.N_drewN | apply Kd.N_drew)); exact HO241.out) hb) (Kd.R_base ho0)) (Kd.R_base ho1)) (fun _ h_ => h_.1)); have n2_ := zk (Kd.R_lower (Kd.R_mono (ok' := fun k_ => True) ho0 (fun _ hk_ => trivial)) (zq (by with_reducible repeat first | exact HB.out | apply zA | apply zN | apply zD | refine zS ?_ GE238.out))); have n3_ := zk (Kd.N_lower (Kd.N_mono (ok' := fun k_ => some k_ ≠ (v247 : Value).ownBlock ∧ some k_ ≠ (.slice Ao19 y235.length co19 : Value).ownBlock ∧ some k_ ≠ (.slice Ao23 t239.length co23 : Value).ownBlock ∧ k_ ≠ gb238) (Kd.R_N (Kd.R_bound ho1)) (fun k_ hk_ => ⟨hk_.1.2, (Kd.fresh' (Kd.N_lt (by (with_reducible repeat (first | apply Kd.N_alloc | apply Kd.N_drewN | apply Kd.N_drew)); exact HO237.out)) k_ hk_.2.1), (Kd.fresh' (Kd.N_lt (by (with_reducible repeat (first | apply Kd.N_alloc | apply Kd.N_drewN | apply Kd.N_drew)); exact HO241.out)) k_ hk_.2.1), (Kd.freshB (g := gb238) (o := .cells #[.string (⟨#[112]⟩ : ByteArray), .string ⟨#[]⟩, .string ⟨#[]⟩, .slice none 0 0, .slice Ao19 y235.length co19] 25 (0, 0)) (by (with_reducible repeat first | apply zM | apply zE | apply zF); exact BK238.out) k_ hk_.2.1)⟩)) (zq (by with_reducible repeat first | exact HB.out | apply zA | apply zN | apply zD | refine zS ?_ GE238.out))); have n4_ := zk (blk_below (g := gb238) (o := .cells #[.string (⟨#[112]⟩ : ByteArray), .string ⟨#[]⟩, .string ⟨#[]⟩, .slice none 0 0, .slice Ao19 y235.length co19] 25 (0, 0)) (by (with_reducible repeat first | apply zM | apply zE | apply zF); exact BK238.out) hb); have n5_ := zk (zs (by with_reducible repeat first | exact HB.out | apply zA | apply zN | apply zD | refine zS ?_ GE238.out) hb); clear HO237; clear HO241; clear BK238; clear HB; have HO237 := n0_; have HO241 := n1_; have HO248 := n2_; have HO251 := n3_; have BK238 := n4_; have HB := n5_; clear n0_ n1_ n2_ n3_ n4_ n5_; (try clear hb); (try clear hb2); (try clear hk); (try clear hi); (try clear ho0); (try clear ho1)) | ((with_reducible refine gd (N := 4) rfl ?_); (try (refine gg (by rfl) ?_; dsimp only)); refine zb ?hg (N := 4) ?hd (cs := #[.string ⟨#[]⟩, .string ⟨#[]⟩, .string ⟨#[]⟩, .slice none 0 0, .slice none 0 0]) (t := 25) ?hr ?_; (case hd => rfl); (case hg => rfl); (case hr => go_simp; first | done | rfl); intro gb253 hg w25 hbox hb; have n0_ := zk (Kd.N_below (Kd.N_elderB (by (with_reducible repeat (first | apply Kd.N_alloc | apply Kd.N_drewN | apply Kd.N_drew)); exact HO237.out) gb253 (Nat.le_of_eq hg.symm)) hb); have n1_ := zk (Kd.N_below (Kd.N_elderB (by (with_reducible repeat (first | apply Kd.N_alloc | apply Kd.N_drewN | apply Kd.N_drew)); exact HO241.out) gb253 (Nat.le_of_eq hg.symm)) hb); have n2_ := zk (Kd.R_below (by (with_reducible repeat (first | apply Kd.R_alloc | apply Kd.R_drewN | apply Kd.R_drew)); exact HO248.out) hb); have n3_ := zk (Kd.N_below (Kd.N_elderB (by (with_reducible repeat (first | apply Kd.N_alloc | apply Kd.N_drewN | apply Kd.N_drew)); exact HO251.out) gb253 (Nat.le_of_eq hg.symm)) hb); have n4_ := zk (blk_below (g := gb238) (o := .cells #[.string (⟨#[112]⟩ : ByteArray), .string ⟨#[]⟩, .string ⟨#[]⟩, .slice none 0 0, .slice Ao19 y235.length co19] 25 (0, 0)) (by (with_reducible repeat first | apply zM | apply zE | apply zF); exact BK238.out) hb); have n5_ := zk (zs (by with_reducible repeat first | exact HB.out | apply zA | apply zN | apply zD | refine zS ?_ GE238.out) hb); have n6_ := zk (hbox); have n7_ := zk ((by rw [hg]; exact (zq (by with_reducible repeat first | exact HB.out | apply zA | apply zN | apply zD | refine zS ?_ GE238.out)) : w.heap.size ≤ gb253)); have n8_ := n7_; have n9_ := zk ((by rw [hg]; exact Nat.ne_of_lt (blk_lt (g := gb238) (o := .cells #[.string (⟨#[112]⟩ : ByteArray), .string ⟨#[]⟩, .string ⟨#[]⟩, .slice none 0 0, .slice Ao19 y235.length co19] 25 (0, 0)) (by (with_reducible repeat first | apply zM | apply zE | apply zF); exact BK238.out)) : gb238 ≠ gb253)); have n10_ := zk ((by rw [hg]; exact Nat.ne_of_gt (blk_lt (g := gb238) (o := .cells #[.string (⟨#[112]⟩ : ByteArray), .string ⟨#[]⟩, .string ⟨#[]⟩, .slice none 0 0, .slice Ao19 y235.length co19] 25 (0, 0)) (by (with_reducible repeat first | apply zM | apply zE | apply zF); exact BK238.out)) : gb253 ≠ gb238)); clear HO237; clear HO241; clear HO248; clear HO251; clear BK238; clear HB; have HO237 := n0_; have HO241 := n1_; have HO248 := n2_; have HO251 := n3_; have BK238 := n4_; have HB := n5_; have BK253 := n6_; have GW253 := n7_; have GE253 := n8_; have NB238_253 := n9_; have NB253_238 := n10_; clear n0_ n1_ n2_ n3_ n4_ n5_ n6_ n7_ n8_ n9_ n10_; clear hb hbox hg; have hnb26 := NB253_238.out; have hnc26 := NB238_253.out; obtain ⟨hcz27_0, hcz27_1, hcz27_2, hcz27_3, hcz27_4, hfz27_0, hfz27_1, hfz27_2, hfz27_3, hfz27_4⟩ := zc5 BK253.out; obtain ⟨Ao28, co28, eo28⟩ := Kd.R_slice HO248.out; subst eo28; obtain ⟨Ao29, co29, eo29⟩ := Kd.N_slice HO251.out; subst eo29) | ((with_reducible refine gw (t := 25) (p := 4) rfl ?_); refine store_event (t := 25) (p := 4) (v := ?vo_w30) (w1 := (((((w25.setCell ⟨gb253, 0, none⟩ (.string t243)).setCell ⟨gb253, 1, none⟩ (.string t244)).setCell ⟨gb253, 2, none⟩ (.string t245)).setCell ⟨gb253, 3, none⟩ (.slice Ao28 t246.length co28)).setCell ⟨gb253, 4, none⟩ (.slice Ao29 t249.length co29))) ?hg ?ho ?hn ?hr ?_; (case ho => rfl); (case hg => rfl); (case hn => rfl); (case hr => go_simp; first | done | rfl); intro w30 hw; have n0_ : Aside0 (Kd.N k25 25 w30 w.heap.size (fun k_ => some k_ ≠ (.slice Ao23 t239.length co23 : Value).ownBlock ∧ some k_ ≠ (.slice Ao28 t246.length co28 : Value).ownBlock ∧ some k_ ≠ (.slice Ao29 t249.length co29 : Value).ownBlock ∧ k_ ≠ gb238 ∧ k_ ≠ gb253) (.slice Ao19 y235.length co19) y235) := ⟨(by rw [hw]; exact (by (with_reducible repeat (first | apply Kd.N_alloc | apply Kd.N_drewN | apply Kd.N_drew)); exact Kd.N_mono (Kd.N_far (p := ⟨gb253, 4, none⟩) (Kd.N_far (p := ⟨gb253, 3, none⟩) (Kd.N_far (p := ⟨gb253, 2, none⟩) (Kd.N_far (p := ⟨gb253, 1, none⟩) (Kd.N_far (p := ⟨gb253, 0, none⟩) (Kd.N_mono HO237.out (fun k_ hk => (⟨hk, hk.2⟩ : _ ∧ k_ ≠ gb253))) (fun _ hk => hk.2) (.string t243)) (fun _ hk => hk.2) (.string t244)) (fun _ hk => hk.2) (.string t245)) (fun _ hk => hk.2) (.slice Ao28 t246.length co28)) (fun _ hk => hk.2) (.slice Ao29 t249.length co29)) (fun _ hk => ⟨hk.1.1.1.1.2, ⟨hk.1.1.1.2, ⟨hk.1.1.2, ⟨hk.1.1.1.1.1.2, hk.1.2⟩⟩⟩⟩)))⟩; have n1_ : Aside0 (Kd.N k53 53 w30 w.heap.size (fun k_ => some k_ ≠ (.slice Ao19 y235.length co19 : Value).ownBlock ∧ some k_ ≠ (.slice Ao28 t246.length co28 : Value).ownBlock ∧ some k_ ≠ (.slice Ao29 t249.length co29 : Value).ownBlock ∧ k_ ≠ gb238 ∧ k_ ≠ gb253) (.slice Ao23 t239.length co23) t239) := ⟨(by rw [hw]; exact (by (with_reducible repeat (first | apply Kd.N_alloc | apply Kd.N_drewN | apply Kd.N_drew)); exact Kd.N_mono (Kd.N_far (p := ⟨gb253, 4, none⟩) (Kd.N_far (p := ⟨gb253, 3, none⟩) (Kd.N_far (p := ⟨gb253, 2, none⟩) (Kd.N_far (p := ⟨gb253, 1, none⟩) (Kd.N_far (p := ⟨gb253, 0, none⟩) (Kd.N_mono HO241.out (fun k_ hk => (⟨hk, hk.2⟩ : _ ∧ k_ ≠ gb253))) (fun _ hk => hk.2) (.string t243)) (fun _ hk => hk.2) (.string t244)) (fun _ hk => hk.2) (.string t245)) (fun _ hk => hk.2) (.slice Ao28 t246.length co28)) (fun _ hk => hk.2) (.slice Ao29 t249.length co29)) (fun _ hk => ⟨hk.1.1.1.1.1, ⟨hk.1.1.1.2, ⟨hk.1.1.2, ⟨hk.1.1.1.1.2, hk.1.2⟩⟩⟩⟩)))⟩; have n2_ : Aside0 (Kd.R k69 69 w30 w.heap.size (fun _ => True) (.slice Ao28 t246.length co28) t246) := ⟨(by rw [hw]; exact (by (with_reducible repeat (first | apply Kd.R_alloc | apply Kd.R_drewN | apply Kd.R_drew)); exact Kd.R_mono (Kd.R_far (p := ⟨gb253, 4, none⟩) (Kd.R_far (p := ⟨gb253, 3, none⟩) (Kd.R_far (p := ⟨gb253, 2, none⟩) (Kd.R_far (p := ⟨gb253, 1, none⟩) (Kd.R_far (p := ⟨gb253, 0, none⟩) (Kd.R_types HO248.out BK253.out (by decide)) (fun _ hk => hk.2) (.string t243)) (fun _ hk => hk.2) (.string t244)) (fun _ hk => hk.2) (.string t245)) (fun _ hk => hk.2) (.slice Ao28 t246.length co28)) (fun _ hk => hk.2) (.slice Ao29 t249.length co29)) (fun _ hk => trivial)))⟩; have n3_ : Aside0 (Kd.N k25 25 w30 w.heap.size (fun k_ => some k_ ≠ (.slice Ao19 y235.length co19 : Value).ownBlock ∧ some k_ ≠ (.slice Ao23 t239.length co23 : Value).ownBlock ∧ some k_ ≠ (.slice Ao28 t246.length co28 : Value).ownBlock ∧ k_ ≠ gb238 ∧ k_ ≠ gb253) (.slice Ao29 t249.length co29) t249) := ⟨(by rw [hw]; exact (by (with_reducible repeat (first | apply Kd.N_alloc | apply Kd.N_drewN | apply Kd.N_drew)); exact Kd.N_mono (Kd.N_far (p := ⟨gb253, 4, none⟩) (Kd.N_far (p := ⟨gb253, 3, none⟩) (Kd.N_far (p := ⟨gb253, 2, none⟩) (Kd.N_far (p := ⟨gb253, 1, none⟩) (Kd.N_far (p := ⟨gb253, 0, none⟩) (Kd.N_mono HO251.out (fun k_ hk => (⟨hk, hk.2⟩ : _ ∧ k_ ≠ gb253))) (fun _ hk => hk.2) (.string t243)) (fun _ hk => hk.2) (.string t244)) (fun _ hk => hk.2) (.string t245)) (fun _ hk => hk.2) (.slice Ao28 t246.length co28)) (fun _ hk => hk.2) (.slice Ao29 t249.length co29)) (fun _ hk => ⟨hk.1.1.2.1, ⟨hk.1.1.2.2.1, ⟨hk.1.1.1, ⟨hk.1.1.2.2.2, hk.1.2⟩⟩⟩⟩)))⟩; have n4_ : Aside0 (w30.heap[gb238]? = some (.cells #[.string (⟨#[112]⟩ : ByteArray), .string ⟨#[]⟩, .string ⟨#[]⟩, .slice none 0 0, .slice Ao19 y235.length co19] 25 (0, 0))) := ⟨(by rw [hw]; exact (by (with_reducible repeat first | apply zM | apply zE | apply zF); refine zG ?_ NB238_253.out _; (with_reducible repeat first | apply zM | apply zE | apply zF); refine zG ?_ NB238_253.out _; (with_reducible repeat first | apply zM | apply zE | apply zF); refine zG ?_ NB238_253.out _; (with_reducible repeat first | apply zM | apply zE | apply zF); refine zG ?_ NB238_253.out _; (with_reducible repeat first | apply zM | apply zE | apply zF); refine zG ?_ NB238_253.out _; (with_reducible repeat first | apply zM | apply zE | apply zF); exact BK238.out))⟩; have n5_ : Aside0 (w30.heap[gb253]? = some (.cells #[.string t243, .string t244, .string t245, .slice Ao28 t246.length co28, .slice Ao29 t249.length co29] 25 (0, 0))) := ⟨(by rw [hw]; exact (by (with_reducible repeat first | apply zM | apply zE | apply zF); refine zP (cs := #[.string t243, .string t244, .string t245, .slice Ao28 t246.length co28, .slice none 0 0]) ?_ 4 _ rfl; (with_reducible repeat first | apply zM | apply zE | apply zF); refine zP (cs := #[.string t243, .string t244, .string t245, .slice none 0 0, .slice none 0 0]) ?_ 3 _ rfl; (with_reducible repeat first | apply zM | apply zE | apply zF); refine zP (cs := #[.string t243, .string t244, .string ⟨#[]⟩, .slice none 0 0, .slice none 0 0]) ?_ 2 _ rfl; (with_reducible repeat first | apply zM | apply zE | apply zF); refine zP (cs := #[.string t243, .string ⟨#[]⟩, .string ⟨#[]⟩, .slice none 0 0, .slice none 0 0]) ?_ 1 _ rfl; (with_reducible repeat first | apply zM | apply zE | apply zF); refine zP (cs := #[.string ⟨#[]⟩, .string ⟨#[]⟩, .string ⟨#[]⟩, .slice none 0 0, .slice none 0 0]) ?_ 0 _ rfl; (with_reducible repeat first | apply zM | apply zE | apply zF); exact BK253.out))⟩; have n6_ : Aside0 (Below w.heap.size w w30) := ⟨(by rw [hw]; exact (by with_reducible repeat first | exact HB.out | apply zA | apply zN | apply zD | refine zS ?_ GE238.out | refine zS ?_ GE253.out))⟩; clear hw; clear HO237; clear HO241; clear HO248; clear HO251; clear BK238; clear BK253; clear HB; have HO237 := n0_; have HO241 := n1_; have HO248 := n2_; have HO251 := n3_; have BK238 := n4_; have BK253 := n5_; have HB := n6_; clear n0_ n1_ n2_ n3_ n4_ n5_ n6_; have p254 : 0 ≤ (3 : Int) := (by omega); have q254 : 3 < (t239.length : Int) := zo (by assumption); obtain ⟨ad254, A254_5, c254_5, e254, hx254_0, hx254_1, hx254_2, hx254_3, hx254_4, hx254_5, hl254_5, hi254_5⟩ := at_T53 (Kd.N_reads' HO241.out).2.2 3 p254 q254; cases e254; obtain ⟨ce254, hce254, hMe254, hcc254⟩ := Kd.N_get HO241.out z53 3 p254 (by first | exact q254 | exact zo (by assumption) | (have e_ := (Kd.N_reads' HO241.out).1; omega)); obtain ⟨ua254_5, uc254_5, rfl, ul254_5, ge254_5⟩ := k53_openF hMe254; have hv254_5 := hcc254 5 _ rfl; rw [add_field _ _ 5 (by omega)] at hv254_5; replace hv254_5 := Option.some.inj (hv254_5.symm.trans hx254_5); injection hv254_5 with hva_ hvn_ hvc_; rw [hva_] at ge254_5; rw [hvc_] at ul254_5; have HL254_5 := zk (show Kd.V k69 69 _ w.heap.size _ _ ((rd_T53 t239 3).f5) from Kd.V_mk ul254_5 ge254_5); clear hva_ hvn_ hvc_ ge254_5 ul254_5; clear hcc254 hce254; (try simp only [show (3 : Int).toNat = 3 from rfl, Nat.reduceMul, Nat.reduceEqDiff, Go.Addr.add, ↓reduceIte] at hx254_0); (try simp only [show (3 : Int).toNat = 3 from rfl, Nat.reduceMul, Nat.reduceEqDiff, Go.Addr.add, ↓reduceIte] at hx254_1); (try simp only [show (3 : Int).toNat = 3 from rfl, Nat.reduceMul, Nat.reduceEqDiff, Go.Addr.add, ↓reduceIte] at hx254_2); (try simp only [show (3 : Int).toNat = 3 from rfl, Nat.reduceMul, Nat.reduceEqDiff, Go.Addr.add, ↓reduceIte] at hx254_3); (try simp only [show (3 : Int).toNat = 3 from rfl, Nat.reduceMul, Nat.reduceEqDiff, Go.Addr.add, ↓reduceIte] at hx254_4); (try simp only [show (3 : Int).toNat = 3 from rfl, Nat.reduceMul, Nat.reduceEqDiff, Go.Addr.add, ↓reduceIte] at hx254_5); have qi254 : (3 < t239.length) = True := eq_true (by omega); (try rw [show ((3 : Int)).toNat = 3 from rfl] at hx254_0); (try rw [show 3 * 6 = 18 from rfl] at hx254_0); (try rw [show ((3 : Int)).toNat = 3 from rfl] at hx254_1); (try rw [show 3 * 6 = 18 from rfl] at hx254_1); (try rw [show ((3 : Int)).toNat = 3 from rfl] at hx254_2); (try rw [show 3 * 6 = 18 from rfl] at hx254_2); (try rw [show ((3 : Int)).toNat = 3 from rfl] at hx254_3); (try rw [show 3 * 6 = 18 from rfl] at hx254_3); (try rw [show ((3 : Int)).toNat = 3 from rfl] at hx254_4); (try rw [show 3 * 6 = 18 from rfl] at hx254_4); (try rw [show ((3 : Int)).toNat = 3 from rfl] at hx254_5); (try rw [show 3 * 6 = 18 from rfl] at hx254_5); have HR254_5 := zk hi254_5; have HC254_5 := zk hl254_5; clear hi254_5 hl254_5; replace p254 := eq_true p254; replace q254 := eq_true q254; have p255 : 0 ≤ (2 : Int) := (by omega); have q255 : 2 < (t239.length : Int) := zo (by assumption); obtain ⟨ad255, A255_5, c255_5, e255, hx255_0, hx255_1, hx255_2, hx255_3, hx255_4, hx255_5, hl255_5, hi255_5⟩ := at_T53 (Kd.N_reads' HO241.out).2.2 2 p255 q255; obtain rfl : ad254 = ad255 := (by injection e255); obtain ⟨ce255, hce255, hMe255, hcc255⟩ := Kd.N_get HO241.out z53 2 p255 (by first | exact q255 | exact zo (by assumption) | (have e_ := (Kd.N_reads' HO241.out).1; omega)); obtain ⟨ua255_5, uc255_5, rfl, ul255_5, ge255_5⟩ := k53_openF hMe255; have hv255_5 := hcc255 5 _ rfl; rw [add_field _ _ 5 (by omega)] at hv255_5; replace hv255_5 := Option.some.inj (hv255_5.symm.trans hx255_5); injection hv255_5 with hva_ hvn_ hvc_; rw [hva_] at ge255_5; rw [hvc_] at ul255_5; have HL255_5 := zk (show Kd.V k69 69 _ w.heap.size _ _ ((rd_T53 t239 2).f5) from Kd.V_mk ul255_5 ge255_5); clear hva_ hvn_ hvc_ ge255_5 ul255_5; clear hcc255 hce255; (try simp only [show (2 : Int).toNat = 2 from rfl, Nat.reduceMul, Nat.reduceEqDiff, Go.Addr.add, ↓reduceIte] at hx255_0); (try simp only [show (2 : Int).toNat = 2 from rfl, Nat.reduceMul, Nat.reduceEqDiff, Go.Addr.add, ↓reduceIte] at hx255_1); (try simp only [show (2 : Int).toNat = 2 from rfl, Nat.reduceMul, Nat.reduceEqDiff, Go.Addr.add, ↓reduceIte] at hx255_2); (try simp only [show (2 : Int).toNat = 2 from rfl, Nat.reduceMul, Nat.reduceEqDiff, Go.Addr.add, ↓reduceIte] at hx255_3); (try simp only [show (2 : Int).toNat = 2 from rfl, Nat.reduceMul, Nat.reduceEqDiff, Go.Addr.add, ↓reduceIte] at hx255_4); (try simp only [show (2 : Int).toNat = 2 from rfl, Nat.reduceMul, Nat.reduceEqDiff, Go.Addr.add, ↓reduceIte] at hx255_5); have qi255 : (2 < t239.length) = True := eq_true (by omega); (try rw [show ((2 : Int)).toNat = 2 from rfl] at hx255_0); (try rw [show 2 * 6 = 12 from rfl] at hx255_0); (try rw [show ((2 : Int)).toNat = 2 from rfl] at hx255_1); (try rw [show 2 * 6 = 12 from rfl] at hx255_1); (try rw [show ((2 : Int)).toNat = 2 from rfl] at hx255_2); (try rw [show 2 * 6 = 12 from rfl] at hx255_2); (try rw [show ((2 : Int)).toNat = 2 from rfl] at hx255_3); (try rw [show 2 * 6 = 12 from rfl] at hx255_3); (try rw [show ((2 : Int)).toNat = 2 from rfl] at hx255_4); (try rw [show 2 * 6 = 12 from rfl] at hx255_4); (try rw [show ((2 : Int)).toNat = 2 from rfl] at hx255_5); (try rw [show 2 * 6 = 12 from rfl] at hx255_5); have HR255_5 := zk hi255_5; have HC255_5 := zk hl255_5; clear hi255_5 hl255_5; replace p255 := eq_true p255; replace q255 := eq_true q255; obtain ⟨hcz31_0, hcz31_1, hcz31_2, hcz31_3, hcz31_4, hfz31_0, hfz31_1, hfz31_2, hfz31_3, hfz31_4⟩ := zc5 BK253.out; obtain ⟨hcz32_0, hcz32_1, hcz32_2, hcz32_3, hcz32_4, hfz32_0, hfz32_1, hfz32_2, hfz32_3, hfz32_4⟩ := zc5 BK238.out) | (go_at_call 13; (refine (pl_Nodes.calls k t243 t244 t245 _ _ t246 _ _ t249 (⟨#[112]⟩ : ByteArray) (⟨#[]⟩ : ByteArray) (⟨#[]⟩ : ByteArray) _ _ ([] : List (S69)) _ _ y235 true _ ?side1 ?side2 ?side3 ?side4 ?side5 ?side6 ?side7 ?side8 A10.out).mono ?_); (case side1 => repeat (first | exact (Kd.R_reads' HO248.out).2.2 | (with_reducible refine Kd.C_alloc ?_ _) | (with_reducible refine Kd.C_drewN ?_ _) | (with_reducible refine Kd.C_drew ?_))); (case side2 => exact (Kd.R_reads' HO248.out).2.1); (case side3 => repeat (first | exact (Kd.N_reads' HO251.out).2.2 | (with_reducible refine Kd.C_alloc ?_ _) | (with_reducible refine Kd.C_drewN ?_ _) | (with_reducible refine Kd.C_drew ?_))); (case side4 => exact (Kd.N_reads' HO251.out).2.1); (case side5 => exact Kd.C_nil _ _); (case side6 => exact Nat.le_refl _); (case side7 => repeat (first | exact (Kd.N_reads' HO237.out).2.2 | (with_reducible refine Kd.C_alloc ?_ _) | (with_reducible refine Kd.C_drewN ?_ _) | (with_reducible refine Kd.C_drew ?_))); (case side8 => exact (Kd.N_reads' HO237.out).2.1); rintro e w33 ⟨rfl, hb⟩; have n0_ := zk (Kd.N_below (by (with_reducible repeat (first | apply Kd.N_alloc | apply Kd.N_drewN | apply Kd.N_drew)); exact HO237.out) hb); have n1_ := zk (Kd.N_below (by (with_reducible repeat (first | apply Kd.N_alloc | apply Kd.N_drewN | apply Kd.N_drew)); exact HO241.out) hb); have n2_ := zk (Kd.R_below (by (with_reducible repeat (first | apply Kd.R_alloc | apply Kd.R_drewN | apply Kd.R_drew)); exact HO248.out) hb); have n3_ := zk (Kd.N_below (by (with_reducible repeat (first | apply Kd.N_alloc | apply Kd.N_drewN | apply Kd.N_drew)); exact HO251.out) hb); have n4_ := zk (Kd.V_below (by (with_reducible repeat (first | apply Kd.V_alloc | apply Kd.V_drewN | apply Kd.V_drew)); exact HL254_5.out) hb); have n5_ := zk (Kd.V_below (by (with_reducible repeat (first | apply Kd.V_alloc | apply Kd.V_drewN | apply Kd.V_drew)); exact HL255_5.out) hb); have n6_ := zk (blk_below (g := gb238) (o := .cells #[.string (⟨#[112]⟩ : ByteArray), .string ⟨#[]⟩, .string ⟨#[]⟩, .slice none 0 0, .slice Ao19 y235.length co19] 25 (0, 0)) (by (with_reducible repeat first | apply zM | apply zE | apply zF); exact BK238.out) hb); have n7_ := zk (blk_below (g := gb253) (o := .cells #[.string t243, .string t244, .string t245, .slice Ao28 t246.length co28, .slice Ao29 t249.length co29] 25 (0, 0)) (by (with_reducible repeat first | apply zM | apply zE | apply zF); exact BK253.out) hb); have n8_ := zk (Kd.C_below (by repeat (first | (with_reducible exact HR254_5.out) | (with_reducible refine Kd.C_alloc ?_ _) | (with_reducible refine Kd.C_drewN ?_ _) | (with_reducible refine Kd.C_drew ?_) | exact HR254_5.out)) hb); have n9_ := zk (Kd.C_below (by repeat (first | (with_reducible exact HR255_5.out) | (with_reducible refine Kd.C_alloc ?_ _) | (with_reducible refine Kd.C_drewN ?_ _) | (with_reducible refine Kd.C_drew ?_) | exact HR255_5.out)) hb); have n10_ := zk (zs (by with_reducible repeat first | exact HB.out | apply zA | apply zN | apply zD | refine zS ?_ GE238.out | refine zS ?_ GE253.out) hb); clear HO237; clear HO241; clear HO248; clear HO251; clear HL254_5; clear HL255_5; clear BK238; clear BK253; clear HR254_5; clear HR255_5; clear HB; have HO237 := n0_; have HO241 := n1_; have HO248 := n2_; have HO251 := n3_; have HL254_5 := n4_; have HL255_5 := n5_; have BK238 := n6_; have BK253 := n7_; have HR254_5 := n8_; have HR255_5 := n9_; have HB := n10_; clear n0_ n1_ n2_ n3_ n4_ n5_ n6_ n7_ n8_ n9_ n10_; (try clear hb); (try clear hb2); (try clear hk); (try clear hi)) | (go_at_call 17; (with_reducible refine (flat_Spans.calls k _ _ t239 t257 _ ?side1 ?side2 A12.out).mono ?_); (case side1 => repeat (first | exact (Kd.N_reads' HO241.out).2.2 | (with_reducible refine Kd.C_alloc ?_ _) | (with_reducible refine Kd.C_drewN ?_ _) | (with_reducible refine Kd.C_drew ?_))); (case side2 => exact (Kd.N_reads' HO241.out).2.1); rintro e w34 ⟨v258, rfl, ho0, hb⟩; have n0_ := zk (Kd.N_elder' (by (with_reducible repeat (first | apply Kd.N_alloc | apply Kd.N_drewN | apply Kd.N_drew)); exact HO237.out) (Kd.R_base ho0) hb); have n1_ := zk (Kd.N_elder' (by (with_reducible repeat (first | apply Kd.N_alloc | apply Kd.N_drewN | apply Kd.N_drew)); exact HO241.out) (Kd.R_base ho0) hb); have n2_ := zk (Kd.R_below (by (with_reducible repeat (first | apply Kd.R_alloc | apply Kd.R_drewN | apply Kd.R_drew)); exact HO248.out) hb); have n3_ := zk (Kd.N_elder' (by (with_reducible repeat (first | apply Kd.N_alloc | apply Kd.N_drewN | apply Kd.N_drew)); exact HO251.out) (Kd.R_base ho0) hb); have n4_ := zk (Kd.V_elder' (by (with_reducible repeat (first | apply Kd.V_alloc | apply Kd.V_drewN | apply Kd.V_drew)); exact HL254_5.out) (Kd.R_base ho0) hb); have n5_ := zk (Kd.V_elder' (by (with_reducible repeat (first | apply Kd.V_alloc | apply Kd.V_drewN | apply Kd.V_drew)); exact HL255_5.out) (Kd.R_base ho0) hb); have n6_ := zk (Kd.R_lower ho0 (zq (by with_reducible repeat first | exact HB.out | apply zA | apply zN | apply zD | refine zS ?_ GE238.out | refine zS ?_ GE253.out))); have n7_ := zk (blk_below (g := gb238) (o := .cells #[.string (⟨#[112]⟩ : ByteArray), .string ⟨#[]⟩, .string ⟨#[]⟩, .slice none 0 0, .slice Ao19 y235.length co19] 25 (0, 0)) (by (with_reducible repeat first | apply zM | apply zE | apply zF); exact BK238.out) hb); have n8_ := zk (blk_below (g := gb253) (o := .cells #[.string t243, .string t244, .string t245, .slice Ao28 t246.length co28, .slice Ao29 t249.length co29] 25 (0, 0)) (by (with_reducible repeat first | apply zM | apply zE | apply zF); exact BK253.out) hb); have n9_ := zk (Kd.C_below (by repeat (first | (with_reducible exact HR254_5.out) | (with_reducible refine Kd.C_alloc ?_ _) | (with_reducible refine Kd.C_drewN ?_ _) | (with_reducible refine Kd.C_drew ?_) | exact HR254_5.out)) hb); have n10_ := zk (Kd.C_below (by repeat (first | (with_reducible exact HR255_5.out) | (with_reducible refine Kd.C_alloc ?_ _) | (with_reducible refine Kd.C_drewN ?_ _) | (with_reducible refine Kd.C_drew ?_) | exact HR255_5.out)) hb); have n11_ := zk (zs (by with_reducible repeat first | exact HB.out | apply zA | apply zN | apply zD | refine zS ?_ GE238.out | refine zS ?_ GE253.out) hb); clear HO237; clear HO241; clear HO248; clear HO251; clear HL254_5; clear HL255_5; clear BK238; clear BK253; clear HR254_5; clear HR255_5; clear HB; have HO237 := n0_; have HO241 := n1_; have HO248 := n2_; have HO251 := n3_; have HL254_5 := n4_; have HL255_5 := n5_; have HO259 := n6_; have BK238 := n7_; have BK253 := n8_; have HR254_5 := n9_; have HR255_5 := n10_; have HB := n11_; clear n0_ n1_ n2_ n3_ n4_ n5_ n6_ n7_ n8_ n9_ n10_ n11_; (try clear hb); (try clear hb2); (try clear hk); (try clear hi); (try clear ho0)) | ((with_reducible refine gd (N := 55) rfl ?_); (try (refine gg (by rfl) ?_; dsimp only)); refine Kd.R_lit (Kd.int .i64) _ 3 ?hg (N := 55) ?hd (xs := ([4, 4, 1, 2, 1] : List Int)) (inner := [.int .i64 4, .int .i64 4, .int .i64 1, .int .i64 2, .int .i64 1]) (ok := fun _ => True) (okp := fun _ => True) ?hr ?hp (fun _ hk => hk) trivial (Below.refl _ _) (Nat.le_refl _) (by simp) ?_; (case hd => rfl); (case hg => rfl); (case hr => go_simp; first | done | rfl); (case hp => exact (Reps.one (show Kd.M (Kd.int .i64) _ _ _ 4 [.int .i64 4] from rfl) (Reps.one (show Kd.M (Kd.int .i64) _ _ _ 4 [.int .i64 4] from rfl) (Reps.one (show Kd.M (Kd.int .i64) _ _ _ 1 [.int .i64 1] from rfl) (Reps.one (show Kd.M (Kd.int .i64) _ _ _ 2 [.int .i64 2] from rfl) (Reps.one (show Kd.M (Kd.int .i64) _ _ _ 1 [.int .i64 1] from rfl) (Reps.none _ _))))))); intro v261 w35 ho36 hb hg_ hnew_; clear hg_ hnew_; (first | rw [← Ny260.out] at ho36 | (simp only [Int.reduceToNat] at ho36; rw [← Ny260.out] at ho36)); have n0_ := zk (Kd.N_elder' (by (with_reducible repeat (first | apply Kd.N_alloc | apply Kd.N_drewN | apply Kd.N_drew)); exact HO237.out) (Kd.R_base ho36) hb); have n1_ := zk (Kd.N_elder' (by (with_reducible repeat (first | apply Kd.N_alloc | apply Kd.N_drewN | apply Kd.N_drew)); exact HO241.out) (Kd.R_base ho36) hb); have n2_ := zk (Kd.R_below (by (with_reducible repeat (first | apply Kd.R_alloc | apply Kd.R_drewN | apply Kd.R_drew)); exact HO248.out) hb); have n3_ := zk (Kd.N_elder' (by (with_reducible repeat (first | apply Kd.N_alloc | apply Kd.N_drewN | apply Kd.N_drew)); exact HO251.out) (Kd.R_base ho36) hb); have n4_ := zk (Kd.V_elder' (by (with_reducible repeat (first | apply Kd.V_alloc | apply Kd.V_drewN | apply Kd.V_drew)); exact HL254_5.out) (Kd.R_base ho36) hb); have n5_ := zk (Kd.V_elder' (by (with_reducible repeat (first | apply Kd.V_alloc | apply Kd.V_drewN | apply Kd.V_drew)); exact HL255_5.out) (Kd.R_base ho36) hb); have n6_ := zk (Kd.R_elder' (by (with_reducible repeat (first | apply Kd.R_alloc | apply Kd.R_drewN | apply Kd.R_drew)); exact HO259.out) (Kd.R_base ho36) hb); have n7_ := zk (Kd.R_lower (Kd.R_new' ho36 (Kd.R_lt (by (with_reducible repeat (first | apply Kd.R_alloc | apply Kd.R_drewN | apply Kd.R_drew)); exact HO259.out))) (zq (by with_reducible repeat first | exact HB.out | apply zA | apply zN | apply zD | refine zS ?_ GE238.out | refine zS ?_ GE253.out))); have n8_ := zk (blk_below (g := gb238) (o := .cells #[.string (⟨#[112]⟩ : ByteArray), .string ⟨#[]⟩, .string ⟨#[]⟩, .slice none 0 0, .slice Ao19 y235.length co19] 25 (0, 0)) (by (with_reducible repeat first | apply zM | apply zE | apply zF); exact BK238.out) hb); have n9_ := zk (blk_below (g := gb253) (o := .cells #[.string t243, .string t244, .string t245, .slice Ao28 t246.length co28, .slice Ao29 t249.length co29] 25 (0, 0)) (by (with_reducible repeat first | apply zM | apply zE | apply zF); exact BK253.out) hb); have n10_ := zk (Kd.C_below (by repeat (first | (with_reducible exact HR254_5.out) | (with_reducible refine Kd.C_alloc ?_ _) | (with_reducible refine Kd.C_drewN ?_ _) | (with_reducible refine Kd.C_drew ?_) | exact HR254_5.out)) hb); have n11_ := zk (Kd.C_below (by repeat (first | (with_reducible exact HR255_5.out) | (with_reducible refine Kd.C_alloc ?_ _) | (with_reducible refine Kd.C_drewN ?_ _) | (with_reducible refine Kd.C_drew ?_) | exact HR255_5.out)) hb); have n12_ := zk (zs (by with_reducible repeat first | exact HB.out | apply zA | apply zN | apply zD | refine zS ?_ GE238.out | refine zS ?_ GE253.out) hb); clear HO237; clear HO241; clear HO248; clear HO251; clear HL254_5; clear HL255_5; clear HO259; clear BK238; clear BK253; clear HR254_5; clear HR255_5; clear HB; have HO237 := n0_; have HO241 := n1_; have HO248 := n2_; have HO251 := n3_; have HL254_5 := n4_; have HL255_5 := n5_; have HO259 := n6_; have HO262 := n7_; have BK238 := n8_; have BK253 := n9_; have HR254_5 := n10_; have HR255_5 := n11_; have HB := n12_; clear n0_ n1_ n2_ n3_ n4_ n5_ n6_ n7_ n8_ n9_ n10_ n11_ n12_; clear hb ho36; obtain ⟨Ao37, co37, eo37⟩ := Kd.R_slice HO259.out; subst eo37; obtain ⟨Ao38, co38, eo38⟩ := Kd.R_slice HO262.out; subst eo38) | (go_at_call 20; (with_reducible refine (pl_Ints.calls k _ _ t257 _ _ y260 t263 _ ?side1 ?side2 ?side3 ?side4 A13.out).mono ?_); (case side1 => repeat (first | exact (Kd.R_reads' HO259.out).2.2 | (with_reducible refine Kd.C_alloc ?_ _) | (with_reducible refine Kd.C_drewN ?_ _) | (with_reducible refine Kd.C_drew ?_))); (case side2 => exact (Kd.R_reads' HO259.out).2.1); (case side3 => repeat (first | exact (Kd.R_reads' HO262.out).2.2 | (with_reducible refine Kd.C_alloc ?_ _) | (with_reducible refine Kd.C_drewN ?_ _) | (with_reducible refine Kd.C_drew ?_))); (case side4 => exact (Kd.R_reads' HO262.out).2.1); rintro e w' ⟨rfl, ⟨nd, rfl⟩⟩))
         go_ret; exact ⟨by first | rfl | (simp [wN, wS] <;> rfl) | (simp [*, wN, wS] <;> rfl), by with_reducible repeat first | exact HB.out | apply zA | apply zN | apply zD | refine zS ?_ GE238.out | refine zS ?_ GE253.out⟩
        ·
         replace c11 := Bool.eq_false_iff.mpr c11; subst c11
         have H1 : (some false) = some r := by rw [if_neg (show ¬ (false = true) by decide)] at H; exact H
         clear H; have H := H1; clear H1; exact absurd ((Option.some.inj H).trans HR_.out) (by decide)
       ·
        rw [if_neg c9] at H; have c9b0 := beq_eq_false_iff_ne.mpr c9; have c9b1 := bne_iff_ne.mpr c9; exact absurd ((Option.some.inj H).trans HR_.out) (by decide)
      ·
       rw [if_neg c8] at H; exact absurd H (by simp)
     ·
      rw [if_neg c7] at H; have c7b0 : (((rd_T53 t239 3).f1) == 3) = false := beq_eq_false_iff_ne.mpr c7; have c7b1 : (((rd_T53 t239 3).f1) != 3) = true := bne_iff_ne.mpr c7; exact absurd ((Option.some.inj H).trans HR_.out) (by decide)
    ·
     rw [if_neg c6] at H; exact absurd H (by simp)
   ·
    rw [if_neg c5] at H; have c5b0 : ((t239.length : Int) == 4) = false := beq_eq_false_iff_ne.mpr c5; have c5b1 : ((t239.length : Int) != 4) = true := bne_iff_ne.mpr c5; exact absurd ((Option.some.inj H).trans HR_.out) (by decide)
  ·
   rw [if_neg c4] at H; have c4b0 : (t252 == 0) = false := beq_eq_false_iff_ne.mpr c4; have c4b1 : (t252 != 0) = true := bne_iff_ne.mpr c4; exact absurd ((Option.some.inj H).trans HR_.out) (by decide)
 ·
  rw [if_neg c3] at H; have c3b0 : (t242 == 0) = false := beq_eq_false_iff_ne.mpr c3; have c3b1 : (t242 != 0) = true := bne_iff_ne.mpr c3; exact absurd ((Option.some.inj H).trans HR_.out) (by decide)
mutual
def pl_FewRows.l0 : Nat → List (S53) → Int → Int → Int → Option (Bool)
 | 0, _, _, _, _ => none
 | k + 1, x0, x5, x10, x11 => if x11 < x10 then (if 0 ≤ x11 then (if x11 < (x0.length : Int) then (if (wrap64 ((wrap64 ((wrap64 (x5 - 1)) - (((rd_T53 x0 x11).f5).length : Int))) - (wrap64 (Int.tdiv (wrap64 ((wrap64 ((((rd_T53 x0 x11).f4).size : Int) + (((rd_T53 x0 x11).f3).size : Int))) + (((rd_T53 x0 x11).f2).size : Int))) 4096)))) < 0 then (some false) else (pl_FewRows.l1 k x0 (wrap64 ((wrap64 ((wrap64 (x5 - 1)) - (((rd_T53 x0 x11).f5).length : Int))) - (wrap64 (Int.tdiv (wrap64 ((wrap64 ((((rd_T53 x0 x11).f4).size : Int) + (((rd_T53 x0 x11).f3).size : Int))) + (((rd_T53 x0 x11).f2).size : Int))) 4096)))) x11 x10 x11 (((rd_T53 x0 x11).f5).length : Int) 0)) else (none)) else (none)) else (some (decide (x5 ≥ 0)))
def pl_FewRows.l1 : Nat → List (S53) → Int → Int → Int → Int → Int → Int → Option (Bool)
 | 0, _, _, _, _, _, _, _ => none
 | k + 1, x0, x5, x6, x10, x11, x52, x53 => if x53 < x52 then (if 0 ≤ x6 then (if x6 < (x0.length : Int) then (if 0 ≤ x53 then (if x53 < (((rd_T53 x0 x6).f5).length : Int) then (pl_FewRows.l1 k x0 (wrap64 (x5 - (wrap64 (Int.tdiv (wrap64 ((((rd_T69 ((rd_T53 x0 x6).f5) x53).f1).size : Int) + (((rd_T69 ((rd_T53 x0 x6).f5) x53).f0).size : Int))) 4096)))) x6 x10 x11 x52 (wrap64 (x53 + 1))) else (none)) else (none)) else (none)) else (none)) else (pl_FewRows.l0 k x0 x5 x10 (wrap64 (x11 + 1)))
end
def pl_FewRows.f (k : Nat) (l0 : List (S53)) (a1 : Int) : Option (Bool) := pl_FewRows.l0 k l0 a1 (l0.length : Int) 0
set_option maxHeartbeats 8000000 in
set_option maxRecDepth 100000 in
theorem pl_FewRows.calls (k : Nat) (A0 : Option Addr) (c0 : Nat) (l0 : List (S53)) (a1 : Int) (r : Bool) (w : World) (hr0 : Kd.C k53 w A0 l0.length l0) (hc0 : l0.length ≤ c0) (h : pl_FewRows.f k l0 a1 = some r) :
  Calls Try.prog 15 #[.slice A0 l0.length c0, .int .i64 a1] w fun e w' => e = .returned (.bool r) ∧ Drawn0 w w' := by
 have HR0 := zk hr0
 have HC0 := zk hc0
 clear hr0 hc0
 have H : (pl_FewRows.l0 k l0 a1 (l0.length : Int) 0) = some r := h
 clear h
 have H' := zk H
 clear H
 go_enter Try.func15, Try.ntmps15
 go_wp2
 repeat (go_quiet (fail); try go_wp2)
 go_loopg [5, 11] k (fun kq v5 v11 w' => ∃ (x5_1 : Int) (x11_1 : Int), v5 = .int .i64 x5_1 ∧ v11 = .int .i64 x11_1 ∧ Aside0 (pl_FewRows.l0 kq l0 x5_1 (l0.length : Int) x11_1 = some r) ∧ Aside0 (kq ≤ k) ∧ Drawn0 w w')
 case atStart => exact ⟨(a1), (0), (by first | rfl | (simp; done) | (simp [*]; done)), (by first | rfl | (simp; done) | (simp [*]; done)), H', ⟨Nat.le_refl _⟩, by repeat (first | exact Drawn0.refl _ | apply Drawn0.step)⟩
 case round =>
  clear H'; (try clear c1); (try clear p2); obtain ⟨x5_1, x11_1, rfl, rfl, HA, HK1, ⟨m1, rfl⟩⟩ := hrel
  cases gk with
  | zero => exact absurd HA.out (by simp [pl_FewRows.l0])
  | succ k1 =>
   have H := HA.out; clear HA; simp only [pl_FewRows.l0] at H
   by_cases c3 : x11_1 < (l0.length : Int)
   ·
    rw [if_pos c3] at H; have c3b0 : decide (x11_1 < (l0.length : Int)) = true := decide_eq_true c3; clear c3
    by_cases c4 : 0 ≤ x11_1
    ·
     rw [if_pos c4] at H; have c4b0 := decide_eq_true c4; clear c4
     by_cases c5 : x11_1 < (l0.length : Int)
     ·
      rw [if_pos c5] at H; have c5b0 : decide (x11_1 < (l0.length : Int)) = true := decide_eq_true c5; clear c5
      by_cases c6 : (wrap64 ((wrap64 ((wrap64 (x5_1 - 1)) - (((rd_T53 l0 x11_1).f5).length : Int))) - (wrap64 (Int.tdiv (wrap64 ((wrap64 ((((rd_T53 l0 x11_1).f4).size : Int) + (((rd_T53 l0 x11_1).f3).size : Int))) + (((rd_T53 l0 x11_1).f2).size : Int))) 4096)))) < 0
      ·
       rw [if_pos c6] at H; have c6b0 : decide ((wrap64 ((wrap64 ((wrap64 (x5_1 - 1)) - (((rd_T53 l0 x11_1).f5).length : Int))) - (wrap64 (Int.tdiv (wrap64 ((wrap64 ((((rd_T53 l0 x11_1).f4).size : Int) + (((rd_T53 l0 x11_1).f3).size : Int))) + (((rd_T53 l0 x11_1).f2).size : Int))) 4096)))) < 0) = true := decide_eq_true c6; clear c6; obtain rfl := Option.some.inj H; have p327 : 0 ≤ (x11_1 : Int) := zo (by assumption); have q327 : x11_1 < (l0.length : Int) := zo (by assumption); obtain ⟨ad327, A327_5, c327_5, e327, hx327_0, hx327_1, hx327_2, hx327_3, hx327_4, hx327_5, hl327_5, hi327_5⟩ := at_T53 HR0.out x11_1 p327 q327; cases e327; have HR327_5 := zk hi327_5; have HC327_5 := zk hl327_5; clear hi327_5 hl327_5; replace p327 := eq_true p327; replace q327 := eq_true q327; have p328 : 0 ≤ (x11_1 : Int) := zo (by assumption); have q328 : x11_1 < (l0.length : Int) := zo (by assumption); obtain ⟨ad328, A328_5, c328_5, e328, hx328_0, hx328_1, hx328_2, hx328_3, hx328_4, hx328_5, hl328_5, hi328_5⟩ := at_T53 HR0.out x11_1 p328 q328; obtain rfl : ad327 = ad328 := (by injection e328); have HR328_5 := zk hi328_5; have HC328_5 := zk hl328_5; clear hi328_5 hl328_5; replace p328 := eq_true p328; replace q328 := eq_true q328; have ea_ := Option.some.inj (hx327_5.symm.trans hx328_5); injection ea_ with ea_ en_ ec_; subst ea_; subst ec_; clear en_; have p329 : 0 ≤ (x11_1 : Int) := zo (by assumption); have q329 : x11_1 < (l0.length : Int) := zo (by assumption); obtain ⟨ad329, A329_5, c329_5, e329, hx329_0, hx329_1, hx329_2, hx329_3, hx329_4, hx329_5, hl329_5, hi329_5⟩ := at_T53 HR0.out x11_1 p329 q329; obtain rfl : ad327 = ad329 := (by injection e329); have HR329_5 := zk hi329_5; have HC329_5 := zk hl329_5; clear hi329_5 hl329_5; replace p329 := eq_true p329; replace q329 := eq_true q329; have ea_ := Option.some.inj (hx327_5.symm.trans hx329_5); injection ea_ with ea_ en_ ec_; subst ea_; subst ec_; clear en_; have p330 : 0 ≤ (x11_1 : Int) := zo (by assumption); have q330 : x11_1 < (l0.length : Int) := zo (by assumption); obtain ⟨ad330, A330_5, c330_5, e330, hx330_0, hx330_1, hx330_2, hx330_3, hx330_4, hx330_5, hl330_5, hi330_5⟩ := at_T53 HR0.out x11_1 p330 q330; obtain rfl : ad327 = ad330 := (by injection e330); have HR330_5 := zk hi330_5; have HC330_5 := zk hl330_5; clear hi330_5 hl330_5; replace p330 := eq_true p330; replace q330 := eq_true q330; have ea_ := Option.some.inj (hx327_5.symm.trans hx330_5); injection ea_ with ea_ en_ ec_; subst ea_; subst ec_; clear en_; go_wp2
       repeat (go_quiet (fail); try go_wp2)
       go_ret; exact ⟨by first | rfl | (simp; done) | (simp [*]; done), by repeat (first | exact Drawn0.refl _ | apply Drawn0.step)⟩
      ·
       rw [if_neg c6] at H; have c6b0 : decide ((wrap64 ((wrap64 ((wrap64 (x5_1 - 1)) - (((rd_T53 l0 x11_1).f5).length : Int))) - (wrap64 (Int.tdiv (wrap64 ((wrap64 ((((rd_T53 l0 x11_1).f4).size : Int) + (((rd_T53 l0 x11_1).f3).size : Int))) + (((rd_T53 l0 x11_1).f2).size : Int))) 4096)))) < 0) = false := decide_eq_false c6; clear c6; have H' := zk H; clear H; have p327 : 0 ≤ (x11_1 : Int) := zo (by assumption); have q327 : x11_1 < (l0.length : Int) := zo (by assumption); obtain ⟨ad327, A327_5, c327_5, e327, hx327_0, hx327_1, hx327_2, hx327_3, hx327_4, hx327_5, hl327_5, hi327_5⟩ := at_T53 HR0.out x11_1 p327 q327; cases e327; have HR327_5 := zk hi327_5; have HC327_5 := zk hl327_5; clear hi327_5 hl327_5; replace p327 := eq_true p327; replace q327 := eq_true q327; have p328 : 0 ≤ (x11_1 : Int) := zo (by assumption); have q328 : x11_1 < (l0.length : Int) := zo (by assumption); obtain ⟨ad328, A328_5, c328_5, e328, hx328_0, hx328_1, hx328_2, hx328_3, hx328_4, hx328_5, hl328_5, hi328_5⟩ := at_T53 HR0.out x11_1 p328 q328; obtain rfl : ad327 = ad328 := (by injection e328); have HR328_5 := zk hi328_5; have HC328_5 := zk hl328_5; clear hi328_5 hl328_5; replace p328 := eq_true p328; replace q328 := eq_true q328; have ea_ := Option.some.inj (hx327_5.symm.trans hx328_5); injection ea_ with ea_ en_ ec_; subst ea_; subst ec_; clear en_; have p329 : 0 ≤ (x11_1 : Int) := zo (by assumption); have q329 : x11_1 < (l0.length : Int) := zo (by assumption); obtain ⟨ad329, A329_5, c329_5, e329, hx329_0, hx329_1, hx329_2, hx329_3, hx329_4, hx329_5, hl329_5, hi329_5⟩ := at_T53 HR0.out x11_1 p329 q329; obtain rfl : ad327 = ad329 := (by injection e329); have HR329_5 := zk hi329_5; have HC329_5 := zk hl329_5; clear hi329_5 hl329_5; replace p329 := eq_true p329; replace q329 := eq_true q329; have ea_ := Option.some.inj (hx327_5.symm.trans hx329_5); injection ea_ with ea_ en_ ec_; subst ea_; subst ec_; clear en_; have p330 : 0 ≤ (x11_1 : Int) := zo (by assumption); have q330 : x11_1 < (l0.length : Int) := zo (by assumption); obtain ⟨ad330, A330_5, c330_5, e330, hx330_0, hx330_1, hx330_2, hx330_3, hx330_4, hx330_5, hl330_5, hi330_5⟩ := at_T53 HR0.out x11_1 p330 q330; obtain rfl : ad327 = ad330 := (by injection e330); have HR330_5 := zk hi330_5; have HC330_5 := zk hl330_5; clear hi330_5 hl330_5; replace p330 := eq_true p330; replace q330 := eq_true q330; have ea_ := Option.some.inj (hx327_5.symm.trans hx330_5); injection ea_ with ea_ en_ ec_; subst ea_; subst ec_; clear en_; have p331 : 0 ≤ (x11_1 : Int) := zo (by assumption); have q331 : x11_1 < (l0.length : Int) := zo (by assumption); obtain ⟨ad331, A331_5, c331_5, e331, hx331_0, hx331_1, hx331_2, hx331_3, hx331_4, hx331_5, hl331_5, hi331_5⟩ := at_T53 HR0.out x11_1 p331 q331; obtain rfl : ad327 = ad331 := (by injection e331); have HR331_5 := zk hi331_5; have HC331_5 := zk hl331_5; clear hi331_5 hl331_5; replace p331 := eq_true p331; replace q331 := eq_true q331; have ea_ := Option.some.inj (hx327_5.symm.trans hx331_5); injection ea_ with ea_ en_ ec_; subst ea_; subst ec_; clear en_; go_wp2
       repeat (go_quiet (fail); try go_wp2)
       go_loopg [5, 53] k1 (fun kq v5 v53 w' => ∃ (x5_2 : Int) (x53_2 : Int), v5 = .int .i64 x5_2 ∧ v53 = .int .i64 x53_2 ∧ Aside0 (pl_FewRows.l1 kq l0 x5_2 x11_1 (l0.length : Int) x11_1 (((rd_T53 l0 x11_1).f5).length : Int) x53_2 = some r) ∧ Aside0 (kq ≤ k1) ∧ Drawn0 w w')
       case atStart => exact ⟨(wrap64 ((wrap64 ((wrap64 (x5_1 - 1)) - (((rd_T53 l0 x11_1).f5).length : Int))) - (wrap64 (Int.tdiv (wrap64 ((wrap64 ((((rd_T53 l0 x11_1).f4).size : Int) + (((rd_T53 l0 x11_1).f3).size : Int))) + (((rd_T53 l0 x11_1).f2).size : Int))) 4096)))), (0), (by first | rfl | (simp; done) | (simp [*]; done)), (by first | rfl | (simp; done) | (simp [*]; done)), H', ⟨Nat.le_refl _⟩, by repeat (first | exact Drawn0.refl _ | apply Drawn0.step)⟩
       case round =>
        clear H'; (try clear c1); (try clear p2); (try clear c3); (try clear c3b0); (try clear p3); (try clear q3); (try clear hx3); (try clear c4); (try clear c4b0); (try clear c5); (try clear c5b0); (try clear c6); (try clear c6b0); (try clear p6); (try clear hx327_0); (try clear hx327_1); (try clear hx327_2); (try clear hx327_3); (try clear hx327_4); (try clear hx327_5); (try clear hx328_0); (try clear hx328_1); (try clear hx328_2); (try clear hx328_3); (try clear hx328_4); (try clear hx328_5); (try clear hx329_0); (try clear hx329_1); (try clear hx329_2); (try clear hx329_3); (try clear hx329_4); (try clear hx329_5); (try clear hx330_0); (try clear hx330_1); (try clear hx330_2); (try clear hx330_3); (try clear hx330_4); (try clear hx330_5); (try clear hx331_0); (try clear hx331_1); (try clear hx331_2); (try clear hx331_3); (try clear hx331_4); (try clear hx331_5); (try clear p2); (try clear p327); (try clear p328); (try clear p329); (try clear p330); (try clear p331); (try clear q327); (try clear q328); (try clear q329); (try clear q330); (try clear q331); obtain ⟨x5_2, x53_2, rfl, rfl, HA, HK2, ⟨m2, rfl⟩⟩ := hrel
        cases gk with
        | zero => exact absurd HA.out (by simp [pl_FewRows.l1])
        | succ k2 =>
         have H := HA.out; clear HA; simp only [pl_FewRows.l1] at H
         by_cases c7 : x53_2 < (((rd_T53 l0 x11_1).f5).length : Int)
         ·
          rw [if_pos c7] at H; have c7b0 := decide_eq_true c7; clear c7
          by_cases c8 : 0 ≤ x11_1
          ·
           rw [if_pos c8] at H; have c8b0 := decide_eq_true c8; clear c8
           by_cases c9 : x11_1 < (l0.length : Int)
           ·
            rw [if_pos c9] at H; have c9b0 := decide_eq_true c9; clear c9
            by_cases c10 : 0 ≤ x53_2
            ·
             rw [if_pos c10] at H; have c10b0 : decide (0 ≤ x53_2) = true := decide_eq_true c10; clear c10
             by_cases c11 : x53_2 < (((rd_T53 l0 x11_1).f5).length : Int)
             ·
              rw [if_pos c11] at H; have c11b0 : decide (x53_2 < (((rd_T53 l0 x11_1).f5).length : Int)) = true := decide_eq_true c11; clear c11; have H' := zk H; clear H; have p332 : 0 ≤ (x11_1 : Int) := zo (by assumption); have q332 : x11_1 < (l0.length : Int) := zo (by assumption); obtain ⟨ad332, A332_5, c332_5, e332, hx332_0, hx332_1, hx332_2, hx332_3, hx332_4, hx332_5, hl332_5, hi332_5⟩ := at_T53 HR0.out x11_1 p332 q332; obtain rfl : ad327 = ad332 := (by injection e332); have HR332_5 := zk hi332_5; have HC332_5 := zk hl332_5; clear hi332_5 hl332_5; replace p332 := eq_true p332; replace q332 := eq_true q332; have p333 : 0 ≤ (x53_2 : Int) := zo (by assumption); have q333 : x53_2 < (((rd_T53 l0 x11_1).f5).length : Int) := zo (by assumption); obtain ⟨ad333, e333, hx333_0, hx333_1⟩ := at_T69 HR332_5.out x53_2 p333 q333; cases e333; replace p333 := eq_true p333; replace q333 := eq_true q333; have p334 : 0 ≤ (x11_1 : Int) := zo (by assumption); have q334 : x11_1 < (l0.length : Int) := zo (by assumption); obtain ⟨ad334, A334_5, c334_5, e334, hx334_0, hx334_1, hx334_2, hx334_3, hx334_4, hx334_5, hl334_5, hi334_5⟩ := at_T53 HR0.out x11_1 p334 q334; obtain rfl : ad327 = ad334 := (by injection e334); have HR334_5 := zk hi334_5; have HC334_5 := zk hl334_5; clear hi334_5 hl334_5; replace p334 := eq_true p334; replace q334 := eq_true q334; have ea_ := Option.some.inj (hx332_5.symm.trans hx334_5); injection ea_ with ea_ en_ ec_; subst ea_; subst ec_; clear en_; have p335 : 0 ≤ (x53_2 : Int) := zo (by assumption); have q335 : x53_2 < (((rd_T53 l0 x11_1).f5).length : Int) := zo (by assumption); obtain ⟨ad335, e335, hx335_0, hx335_1⟩ := at_T69 HR334_5.out x53_2 p335 q335; cases e335; replace p335 := eq_true p335; replace q335 := eq_true q335; go_wp2
              repeat (go_quiet (fail); try go_wp2)
              go_roundg k2
              case measure => have := HK1.out; have := HK2.out; omega
              case rel => exact ⟨(wrap64 (x5_2 - (wrap64 (Int.tdiv (wrap64 ((((rd_T69 ((rd_T53 l0 x11_1).f5) x53_2).f1).size : Int) + (((rd_T69 ((rd_T53 l0 x11_1).f5) x53_2).f0).size : Int))) 4096)))), (wrap64 (x53_2 + 1)), (by first | rfl | (simp; done) | (simp [*]; done)), (by first | rfl | (simp; done) | (simp [*]; done)), H', ⟨by have := HK1.out; have := HK2.out; omega⟩, by repeat (first | exact Drawn0.refl _ | apply Drawn0.step)⟩
             ·
              rw [if_neg c11] at H; exact absurd H (by simp)
            ·
             rw [if_neg c10] at H; exact absurd H (by simp)
           ·
            rw [if_neg c9] at H; exact absurd H (by simp)
          ·
           rw [if_neg c8] at H; exact absurd H (by simp)
         ·
          rw [if_neg c7] at H; have c7b0 := decide_eq_false c7; clear c7; have H' := zk H; clear H; go_wp2
          repeat (go_quiet (fail); try go_wp2)
          go_roundg k2
          case measure => have := HK1.out; have := HK2.out; omega
          case rel => exact ⟨(x5_2), (wrap64 (x11_1 + 1)), (by first | rfl | (simp; done) | (simp [*]; done)), (by first | rfl | (simp; done) | (simp [*]; done)), H', ⟨by have := HK1.out; have := HK2.out; omega⟩, by repeat (first | exact Drawn0.refl _ | apply Drawn0.step)⟩
     ·
      rw [if_neg c5] at H; exact absurd H (by simp)
    ·
     rw [if_neg c4] at H; exact absurd H (by simp)
   ·
    rw [if_neg c3] at H; have c3b0 : decide (x11_1 < (l0.length : Int)) = false := decide_eq_false c3; clear c3; obtain rfl := Option.some.inj H; go_wp2
    repeat (go_quiet (fail); try go_wp2)
    go_ret; exact ⟨by first | rfl | (simp; done) | (simp [*]; done), by repeat (first | exact Drawn0.refl _ | apply Drawn0.step)⟩
def flat_Lists.l0 : Nat → List (List Int) → List (S53) → Int → Int → Option ((List (List Int)))
 | 0, _, _, _, _ => none
 | k + 1, x3, x13, x14, x15 => if x15 < x14 then (if 0 ≤ x15 then (if x15 < (x13.length : Int) then (if 0 ≤ ((rd_T53 x13 x15).f1) then (if ((rd_T53 x13 x15).f1) < (x3.length : Int) then (if (rd_L8 x3 ((rd_T53 x13 x15).f1)).length < 17592186044416 then (flat_Lists.l0 k (x3.set (((rd_T53 x13 x15).f1) : Int).toNat ((rd_L8 x3 ((rd_T53 x13 x15).f1)) ++ [wrap64 (x15 + 1)])) x13 x14 (wrap64 (x15 + 1))) else (none)) else (none)) else (none)) else (none)) else (none)) else (some x3)
def flat_Lists.f (k : Nat) (l0 : List (S53)) : Option ((List (List Int))) := (flat_Check.f k l0).bind fun t336 => (if t336 = 0 then (if 0 ≤ (wrap64 ((l0.length : Int) + 1)) then (if (wrap64 ((l0.length : Int) + 1) : Int).toNat ≤ 11728124029610 then (flat_Lists.l0 k (List.replicate (wrap64 ((l0.length : Int) + 1) : Int).toNat []) l0 (l0.length : Int) 0) else (none)) else (none)) else (some ([] : List (List Int))))
def flat_Lists.T7 : Bool × List (List Nat × List Nat) := (true, [([], []), ([], []), ([1], [1]), ([], []), ([], []), ([4], [4]), ([3, 5], [3, 5]), ([6], [6]), ([], []), ([8], [8]), ([9], [9]), ([7, 10], [7, 10]), ([0, 2, 0, 1, 2, 3, 4, 5, 6, 7, 8, 9, 10, 11], [0, 2]), ([12, 11, 11, 0, 1, 2, 3, 4, 5, 6, 7, 8, 9, 10, 11], [11, 12])])
def flat_Lists.B7 : List Nat := [0, 0, 2, 0, 0, 16, 56, 120, 0, 256, 768, 2040, 4095, 8191]
theorem flat_Lists.tab7 : rtab .any (opsOf Try.f16 7) = flat_Lists.T7 := by kernel_rfl
theorem flat_Lists.bits7 : waitsOk flat_Lists.T7.2 flat_Lists.B7 = true := by kernel_rfl
set_option maxHeartbeats 8000000 in
set_option maxRecDepth 100000 in
theorem flat_Lists.calls (k : Nat) (A0 : Option Addr) (c0 : Nat) (l0 : List (S53)) (r : List (List Int)) (w : World) (hr0 : Kd.C k53 w A0 l0.length l0) (hc0 : l0.length ≤ c0) (h : flat_Lists.f k l0 = some r) :
  Calls Try.prog 16 #[.slice A0 l0.length c0] w fun e w' => ∃ v0_ : Value, e = .returned (v0_) ∧ Kd.S (Kd.slice 3 (Kd.int .i64)) 43 w' w.heap.size (fun _ => True) v0_ r ∧ Below w.heap.size w w' := by
 have hu53 := Try.underlying53
 have HR0 := zk hr0
 have HC0 := zk hc0
 clear hr0 hc0
 have HB := zk (Below.refl w.heap.size w)
 have H : ((flat_Check.f k l0).bind fun t336 => (if t336 = 0 then (if 0 ≤ (wrap64 ((l0.length : Int) + 1)) then (if (wrap64 ((l0.length : Int) + 1) : Int).toNat ≤ 11728124029610 then (flat_Lists.l0 k (List.replicate (wrap64 ((l0.length : Int) + 1) : Int).toNat []) l0 (l0.length : Int) 0) else (none)) else (none)) else (some ([] : List (List Int))))) = some r := h
 clear h
 replace H := Option.bind_eq_some_iff.mp H
 obtain ⟨t336, A20, H⟩ := H
 replace H : (if t336 = 0 then (if 0 ≤ (wrap64 ((l0.length : Int) + 1)) then (if (wrap64 ((l0.length : Int) + 1) : Int).toNat ≤ 11728124029610 then (flat_Lists.l0 k (List.replicate (wrap64 ((l0.length : Int) + 1) : Int).toNat []) l0 (l0.length : Int) 0) else (none)) else (none)) else (some ([] : List (List Int)))) = some r := H
 have A2 := zk A20
 clear A20
 by_cases c3 : t336 = 0
 ·
  rw [if_pos c3] at H; have c3b0 : (t336 == 0) = true := beq_iff_eq.mpr c3; have c3b1 : (t336 != 0) = false := bne_eq_false_iff_eq.mpr c3; clear c3; obtain ⟨ji4, hji4⟩ : ∃ j_ : Int, (wrap64 ((l0.length : Int) + 1)) = j_ := ⟨_, rfl⟩
  replace H : (if 0 ≤ (ji4) then (if (ji4 : Int).toNat ≤ 11728124029610 then (flat_Lists.l0 k (List.replicate (ji4 : Int).toNat []) l0 (l0.length : Int) 0) else (none)) else (none)) = some r := by first | (rw [hji4] at H; exact H) | (simp only [hji4] at H ⊢; exact H)
  (try rw [hji4] at A2)
  have hji4w : (IntKind.i64.wrap ((l0.length : Int) + 1)) = ji4 := (i64_w _).trans hji4
  by_cases c5 : 0 ≤ (ji4)
  ·
   rw [if_pos c5] at H; have c5b0 := eq_true c5; have c5b1 : decide (0 ≤ (ji4)) = true := decide_eq_true c5; clear c5
   by_cases c6 : (ji4 : Int).toNat ≤ 11728124029610
   ·
    rw [if_pos c6] at H; have c6b0 := eq_true c6; have c6b1 : decide ((ji4 : Int).toNat ≤ 11728124029610) = true := decide_eq_true c6; clear c6; obtain ⟨y337, hy337⟩ : ∃ y_ : List (List Int), y_ = (List.replicate (ji4 : Int).toNat []) := ⟨_, rfl⟩
    replace H : (flat_Lists.l0 k y337 l0 (l0.length : Int) 0) = some r := by first | (rw [hy337]; with_reducible exact H) | (have H2_ := (Option.bind_some _ _).symm.trans H; rw [hy337]; with_reducible exact H2_) | (have H2_ := (Option.bind_some _ _).symm.trans H; with_reducible exact H2_) | with_reducible exact H | (rw [hy337]; exact H) | exact H
    have Ny337 := zk hy337; clear hy337; have H' := zk H; clear H
    go_enter Try.func16, Try.ntmps16
    go_wp2_with (first | ((with_reducible refine gk (f := 14) rfl ?_); refine gl (some 7) rfl rfl Try.func14 (by kernel_rfl) rfl #[.slice A0 l0.length c0] rfl (by (try simp only [List.map_toArray, List.map_cons, List.map_nil]); first | done | rfl | (simp only [List.length_drop, List.length_take]; rfl)) ?_; (with_reducible refine (flat_Check.calls k _ _ l0 t336 _ ?side1 ?side2 A2.out).mono ?_); (case side1 => repeat (first | exact HR0.out | (with_reducible refine Kd.C_alloc ?_ _) | (with_reducible refine Kd.C_drewN ?_ _) | (with_reducible refine Kd.C_drew ?_))); (case side2 => exact HC0.out); rintro e w7 ⟨rfl, hb⟩; refine ⟨_, rfl, ?_⟩; have n0_ := zk (zs (by with_reducible repeat first | exact HB.out | apply zA | apply zN | apply zD) hb); clear HB; have HB := n0_; clear n0_; (try clear hb); (try clear hb2); (try clear hk); (try clear hi)) | ((with_reducible refine gd (N := 12) rfl ?_); refine Kd.S_make (Kd.slice 3 (Kd.int .i64)) _ 43 rfl (N := 12) rfl 41 _ _ rfl ji4 rfl rfl Try.underlying41 (.slice none 0 0) 24 info43 rfl (by decide) (by omega) [] (ok := fun _ => True) (okp := fun _ => True) ⟨_, rfl, Kd.R_nil _ _ _ _ _⟩ (fun _ hk => hk) trivial (zo (by assumption)) (Nat.le_trans (Nat.mul_le_mul_right _ (zo (by assumption) : ji4.toNat ≤ 11728124029610)) (by omega)) (Below.refl _ _) (Nat.le_refl _) ?_; intro v338 w8 ho9 hb hg_ hnew_; clear hg_ hnew_; (first | rw [← Ny337.out] at ho9 | (simp only [Int.reduceToNat] at ho9; rw [← Ny337.out] at ho9)); have n0_ := zk (Kd.S_lower ho9 (zq (by with_reducible repeat first | exact HB.out | apply zA | apply zN | apply zD))); have n1_ := zk (zs (by with_reducible repeat first | exact HB.out | apply zA | apply zN | apply zD) hb); clear HB; have HO339 := n0_; have HB := n1_; clear n0_ n1_; clear hb ho9))
    go_loopg [15] k (fun kq v15 w' => ∃ (x3_1 : List (List Int)) (x15_1 : Int), v15 = .int .i64 x15_1 ∧ Aside0 (flat_Lists.l0 kq x3_1 l0 (l0.length : Int) x15_1 = some r) ∧ Aside0 (kq ≤ k) ∧ Aside0 (Kd.S (Kd.slice 3 (Kd.int .i64)) 43 w' w.heap.size (fun _ => True) v338 x3_1) ∧ Aside0 (Below w.heap.size w w'))
    case atStart => exact ⟨(y337), (0), (by first | rfl | (simp; done) | (simp [*]; done)), H', ⟨Nat.le_refl _⟩, ⟨by (with_reducible repeat (first | apply Kd.S_alloc | apply Kd.S_drewN | apply Kd.S_drew)); exact HO339.out⟩, ⟨by with_reducible repeat first | exact HB.out | apply zA | apply zN | apply zD⟩⟩
    case round =>
     clear H'; (try clear c1); (try clear p2); (try clear c3); (try clear c3b0); (try clear c3b1); (try clear c5); (try clear c5b0); (try clear c5b1); (try clear c6); (try clear c6b0); (try clear c6b1); (try clear p6); obtain ⟨x3_1, x15_1, rfl, HA, HK1, HO_3, HB⟩ := hrel
     cases gk with
     | zero => exact absurd HA.out (by simp [flat_Lists.l0])
     | succ k1 =>
      have H := HA.out; clear HA; simp only [flat_Lists.l0] at H
      by_cases c10 : x15_1 < (l0.length : Int)
      ·
       rw [if_pos c10] at H; have c10b0 : decide (x15_1 < (l0.length : Int)) = true := decide_eq_true c10; clear c10
       by_cases c11 : 0 ≤ x15_1
       ·
        rw [if_pos c11] at H; have c11b0 : decide (0 ≤ x15_1) = true := decide_eq_true c11; clear c11
        by_cases c12 : x15_1 < (l0.length : Int)
        ·
         rw [if_pos c12] at H; have c12b0 := decide_eq_true c12; clear c12
         by_cases c13 : 0 ≤ ((rd_T53 l0 x15_1).f1)
         ·
          rw [if_pos c13] at H; have c13b0 := decide_eq_true c13; clear c13
          by_cases c14 : ((rd_T53 l0 x15_1).f1) < (x3_1.length : Int)
          ·
           rw [if_pos c14] at H; have c14b0 := decide_eq_true c14; clear c14
           by_cases c15 : (rd_L8 x3_1 ((rd_T53 l0 x15_1).f1)).length < 17592186044416
           ·
            rw [if_pos c15] at H; have LMc15 := zk c15; clear c15; obtain ⟨y343, hy343⟩ : ∃ y_ : List Int, y_ = ((rd_L8 x3_1 ((rd_T53 l0 x15_1).f1)) ++ [wrap64 (x15_1 + 1)]) := ⟨_, rfl⟩
            replace H : (flat_Lists.l0 k1 (x3_1.set (((rd_T53 l0 x15_1).f1) : Int).toNat y343) l0 (l0.length : Int) (wrap64 (x15_1 + 1))) = some r := by first | (rw [hy343]; with_reducible exact H) | (have H2_ := (Option.bind_some _ _).symm.trans H; rw [hy343]; with_reducible exact H2_) | (have H2_ := (Option.bind_some _ _).symm.trans H; with_reducible exact H2_) | with_reducible exact H | (rw [hy343]; exact H) | exact H
            have Ny343 := zk hy343; clear hy343; obtain ⟨y346, hy346⟩ : ∃ y_ : List (List Int), y_ = (x3_1.set (((rd_T53 l0 x15_1).f1) : Int).toNat y343) := ⟨_, rfl⟩
            replace H : (flat_Lists.l0 k1 y346 l0 (l0.length : Int) (wrap64 (x15_1 + 1))) = some r := by first | (rw [hy346]; with_reducible exact H) | (have H2_ := (Option.bind_some _ _).symm.trans H; rw [hy346]; with_reducible exact H2_) | (have H2_ := (Option.bind_some _ _).symm.trans H; with_reducible exact H2_) | with_reducible exact H | (rw [hy346]; exact H) | exact H
            have Ny346 := zk hy346; clear hy346; have H' := zk H; clear H; have p340 : 0 ≤ (x15_1 : Int) := zo (by assumption); have q340 : x15_1 < (l0.length : Int) := zo (by assumption); obtain ⟨ad340, A340_5, c340_5, e340, hx340_0, hx340_1, hx340_2, hx340_3, hx340_4, hx340_5, hl340_5, hi340_5⟩ := at_T53 HR0.out x15_1 p340 q340; cases e340; replace hx340_0 := zB HB hx340_0; replace hx340_1 := zB HB hx340_1; replace hx340_2 := zB HB hx340_2; replace hx340_3 := zB HB hx340_3; replace hx340_4 := zB HB hx340_4; replace hx340_5 := zB HB hx340_5; have HR340_5 := zk hi340_5; have HC340_5 := zk hl340_5; clear hi340_5 hl340_5; replace p340 := eq_true p340; replace q340 := eq_true q340
            try go_wp2_with (first | ((with_reducible refine gd (N := 5) rfl ?_); refine zb ?hg (N := 5) ?hd (cs := #[.int .i64 0, .int .i64 0, .string ⟨#[]⟩, .string ⟨#[]⟩, .string ⟨#[]⟩, .slice none 0 0]) (t := 53) ?hr ?_; (case hd => rfl); (case hg => rfl); (case hr => go_simp; first | done | rfl); intro gb341 hg w17 hbox hb; have n0_ := zk (Kd.S_below (by (with_reducible repeat (first | apply Kd.S_alloc | apply Kd.S_drewN | apply Kd.S_drew)); exact HO_3.out) hb); have n1_ := zk (zs (by with_reducible repeat first | exact HB.out | apply zA | apply zN | apply zD) hb); have n2_ := zk (hbox); have n3_ := zk ((by rw [hg]; exact (zq (by with_reducible repeat first | exact HB.out | apply zA | apply zN | apply zD)) : w.heap.size ≤ gb341)); have n4_ := n3_; clear HO_3; clear HB; have HO_3 := n0_; have HB := n1_; have BK341 := n2_; have GW341 := n3_; have GE341 := n4_; clear n0_ n1_ n2_ n3_ n4_; clear hb hbox hg; obtain ⟨hcz18_0, hcz18_1, hcz18_2, hcz18_3, hcz18_4, hcz18_5, hfz18_0, hfz18_1, hfz18_2, hfz18_3, hfz18_4, hfz18_5⟩ := zc6 BK341.out))
            have n0_ : Aside0 (Kd.S (Kd.slice 3 (Kd.int .i64)) 43 ((((((w17.setCell ⟨gb341, 0, none⟩ (.int .i64 ((rd_T53 l0 x15_1).f0))).setCell ⟨gb341, 1, none⟩ (.int .i64 ((rd_T53 l0 x15_1).f1))).setCell ⟨gb341, 2, none⟩ (.string ((rd_T53 l0 x15_1).f2))).setCell ⟨gb341, 3, none⟩ (.string ((rd_T53 l0 x15_1).f3))).setCell ⟨gb341, 4, none⟩ (.string ((rd_T53 l0 x15_1).f4))).setCell ⟨gb341, 5, none⟩ (.slice A340_5 ((rd_T53 l0 x15_1).f5).length c340_5)) w.heap.size (fun _ => True) v338 x3_1) := ⟨by (with_reducible repeat (first | apply Kd.S_alloc | apply Kd.S_drewN | apply Kd.S_drew)); exact Kd.S_mono (Kd.S_far (p := ⟨gb341, 5, none⟩) (Kd.S_far (p := ⟨gb341, 4, none⟩) (Kd.S_far (p := ⟨gb341, 3, none⟩) (Kd.S_far (p := ⟨gb341, 2, none⟩) (Kd.S_far (p := ⟨gb341, 1, none⟩) (Kd.S_far (p := ⟨gb341, 0, none⟩) (Kd.S_types HO_3.out BK341.out (by decide)) (fun _ hk => hk.2) (.int .i64 ((rd_T53 l0 x15_1).f0))) (fun _ hk => hk.2) (.int .i64 ((rd_T53 l0 x15_1).f1))) (fun _ hk => hk.2) (.string ((rd_T53 l0 x15_1).f2))) (fun _ hk => hk.2) (.string ((rd_T53 l0 x15_1).f3))) (fun _ hk => hk.2) (.string ((rd_T53 l0 x15_1).f4))) (fun _ hk => hk.2) (.slice A340_5 ((rd_T53 l0 x15_1).f5).length c340_5)) (fun _ hk => trivial)⟩; have n1_ : Aside0 (((((((w17.setCell ⟨gb341, 0, none⟩ (.int .i64 ((rd_T53 l0 x15_1).f0))).setCell ⟨gb341, 1, none⟩ (.int .i64 ((rd_T53 l0 x15_1).f1))).setCell ⟨gb341, 2, none⟩ (.string ((rd_T53 l0 x15_1).f2))).setCell ⟨gb341, 3, none⟩ (.string ((rd_T53 l0 x15_1).f3))).setCell ⟨gb341, 4, none⟩ (.string ((rd_T53 l0 x15_1).f4))).setCell ⟨gb341, 5, none⟩ (.slice A340_5 ((rd_T53 l0 x15_1).f5).length c340_5)).heap[gb341]? = some (.cells #[.int .i64 ((rd_T53 l0 x15_1).f0), .int .i64 ((rd_T53 l0 x15_1).f1), .string ((rd_T53 l0 x15_1).f2), .string ((rd_T53 l0 x15_1).f3), .string ((rd_T53 l0 x15_1).f4), .slice A340_5 ((rd_T53 l0 x15_1).f5).length c340_5] 53 (0, 0))) := ⟨by (with_reducible repeat first | apply zM | apply zE | apply zF); refine zP (cs := #[.int .i64 ((rd_T53 l0 x15_1).f0), .int .i64 ((rd_T53 l0 x15_1).f1), .string ((rd_T53 l0 x15_1).f2), .string ((rd_T53 l0 x15_1).f3), .string ((rd_T53 l0 x15_1).f4), .slice none 0 0]) ?_ 5 _ rfl; (with_reducible repeat first | apply zM | apply zE | apply zF); refine zP (cs := #[.int .i64 ((rd_T53 l0 x15_1).f0), .int .i64 ((rd_T53 l0 x15_1).f1), .string ((rd_T53 l0 x15_1).f2), .string ((rd_T53 l0 x15_1).f3), .string ⟨#[]⟩, .slice none 0 0]) ?_ 4 _ rfl; (with_reducible repeat first | apply zM | apply zE | apply zF); refine zP (cs := #[.int .i64 ((rd_T53 l0 x15_1).f0), .int .i64 ((rd_T53 l0 x15_1).f1), .string ((rd_T53 l0 x15_1).f2), .string ⟨#[]⟩, .string ⟨#[]⟩, .slice none 0 0]) ?_ 3 _ rfl; (with_reducible repeat first | apply zM | apply zE | apply zF); refine zP (cs := #[.int .i64 ((rd_T53 l0 x15_1).f0), .int .i64 ((rd_T53 l0 x15_1).f1), .string ⟨#[]⟩, .string ⟨#[]⟩, .string ⟨#[]⟩, .slice none 0 0]) ?_ 2 _ rfl; (with_reducible repeat first | apply zM | apply zE | apply zF); refine zP (cs := #[.int .i64 ((rd_T53 l0 x15_1).f0), .int .i64 0, .string ⟨#[]⟩, .string ⟨#[]⟩, .string ⟨#[]⟩, .slice none 0 0]) ?_ 1 _ rfl; (with_reducible repeat first | apply zM | apply zE | apply zF); refine zP (cs := #[.int .i64 0, .int .i64 0, .string ⟨#[]⟩, .string ⟨#[]⟩, .string ⟨#[]⟩, .slice none 0 0]) ?_ 0 _ rfl; (with_reducible repeat first | apply zM | apply zE | apply zF); exact BK341.out⟩; have n2_ : Aside0 (Below w.heap.size w ((((((w17.setCell ⟨gb341, 0, none⟩ (.int .i64 ((rd_T53 l0 x15_1).f0))).setCell ⟨gb341, 1, none⟩ (.int .i64 ((rd_T53 l0 x15_1).f1))).setCell ⟨gb341, 2, none⟩ (.string ((rd_T53 l0 x15_1).f2))).setCell ⟨gb341, 3, none⟩ (.string ((rd_T53 l0 x15_1).f3))).setCell ⟨gb341, 4, none⟩ (.string ((rd_T53 l0 x15_1).f4))).setCell ⟨gb341, 5, none⟩ (.slice A340_5 ((rd_T53 l0 x15_1).f5).length c340_5))) := ⟨by with_reducible repeat first | exact HB.out | apply zA | apply zN | apply zD | refine zS ?_ GE341.out⟩
            (try clear HO_3)
            (try clear BK341)
            (try clear HB)
            generalize ((((((w17.setCell ⟨gb341, 0, none⟩ (.int .i64 ((rd_T53 l0 x15_1).f0))).setCell ⟨gb341, 1, none⟩ (.int .i64 ((rd_T53 l0 x15_1).f1))).setCell ⟨gb341, 2, none⟩ (.string ((rd_T53 l0 x15_1).f2))).setCell ⟨gb341, 3, none⟩ (.string ((rd_T53 l0 x15_1).f3))).setCell ⟨gb341, 4, none⟩ (.string ((rd_T53 l0 x15_1).f4))).setCell ⟨gb341, 5, none⟩ (.slice A340_5 ((rd_T53 l0 x15_1).f5).length c340_5)) = w19 at n0_ n1_ n2_ ⊢; have HO_3 := n0_; have BK341 := n1_; have HB := n2_; clear n0_ n1_ n2_; have n0_ := zk (Kd.S_drew HO_3.out); have n1_ := zk (zE BK341.out); have n2_ := zk (zD HB.out); clear HO_3; clear BK341; clear HB; have HO_3 := n0_; have BK341 := n1_; have HB := n2_; clear n0_ n1_ n2_; obtain ⟨Ao21, co21, eo21⟩ := Kd.S_slice HO_3.out
            (first | subst eo21 | (injection eo21 with f1_ f2_ f3_; have f4_ := f1_.symm; have f5_ := f3_.symm; clear f1_ f2_ f3_; subst f4_; subst f5_))
            have p342 : 0 ≤ (((rd_T53 l0 x15_1).f1) : Int) := zo (by assumption); have q342 : ((rd_T53 l0 x15_1).f1) < (x3_1.length : Int) := zo (by assumption); obtain ⟨ad342, A342_0, c342_0, e342, hx342_0, hl342_0, hi342_0⟩ := at_L8 (Kd.S_reads' HO_3.out).2.2 ((rd_T53 l0 x15_1).f1) p342 q342; cases e342; obtain ⟨ce342, hce342, hMe342, hcc342⟩ := Kd.S_get HO_3.out [] ((rd_T53 l0 x15_1).f1) p342 (by first | exact q342 | exact zo (by assumption) | (have e_ := (Kd.S_reads' HO_3.out).1; omega)); obtain ⟨ve342_0, rfl, ge342_0⟩ := hMe342; have hv342_0 := hcc342 0 _ rfl; rw [Nat.add_zero, show ((Kd.slice 3 (Kd.int .i64))).sz = 1 from rfl, Nat.mul_one] at hv342_0; replace hv342_0 := Option.some.inj (hv342_0.symm.trans hx342_0); rw [hv342_0] at ge342_0; have HL342_0 := zk (show Kd.R (Kd.int .i64) 3 _ _ _ _ (rd_L8 x3_1 ((rd_T53 l0 x15_1).f1)) from ge342_0); clear hv342_0 ge342_0; have HX342_0 := zk hx342_0; clear hcc342 hce342; have HR342_0 := zk hi342_0; have HC342_0 := zk hl342_0; clear hi342_0 hl342_0; replace p342 := eq_true p342; replace q342 := eq_true q342; obtain ⟨go22, co22, eo22, gb22, gl22, cl22, HG22⟩ := Kd.S_form HO_3.out (by have h_ : (((rd_T53 l0 x15_1).f1) : Int) < ((x3_1.length : Int) : Int) := zo (by assumption); have h2_ : 0 ≤ (((rd_T53 l0 x15_1).f1) : Int) := (zo (by assumption)); omega)
            (first | cases eo22 | (injection eo22 with ea_ en_ ec_; (first | subst ea_ | (injection ea_ with ea_; subst ea_)); subst ec_; clear en_))
            have GB22 := zk gb22; have GG22 := zk HG22; clear gb22 gl22 HG22
            (first | simp only [add_plain] at hx342_0 | skip)
            obtain ⟨oki22, ce22, hcl22, hM22, hcc22, _, _, hH22⟩ := Kd.S_elem HO_3.out [] (((rd_T53 l0 x15_1).f1) : Int) (zo (by assumption)) (by have h_ : (((rd_T53 l0 x15_1).f1) : Int) < ((x3_1.length : Int) : Int) := zo (by assumption); first | exact h_ | (have e_ := (Kd.S_reads' HO_3.out).1; omega) | simpa using h_); obtain ⟨ve22_0, rfl, ge22_0⟩ := hM22; have hv22 := hcc22 0 _ rfl; have hX22 := HX342_0.out
            (try simp only [add_plain] at hX22)
            (try simp only [Nat.add_zero] at hv22)
            (try rw [show ((Kd.slice 3 (Kd.int .i64))).sz = 1 from rfl, Nat.mul_one] at hv22)
            replace hv22 := Option.some.inj (hv22.symm.trans hX22); subst hv22; clear hX22 hcc22 hcl22; have UU22 := zk (show Kd.R (Kd.int .i64) 3 _ w.heap.size oki22 (.slice A342_0 (rd_L8 x3_1 ((rd_T53 l0 x15_1).f1)).length c342_0) (rd_L8 x3_1 ((rd_T53 l0 x15_1).f1)) from ge22_0); have HH22 := zk hH22; have HN22 := zk (Kd.S_reads' HO_3.out).1; clear hH22 ge22_0; refine start_ (n := 14) (S := fun w' => w'.cell? ⟨gb341, 0, none⟩ = some (.int .i64 ((rd_T53 l0 x15_1).f0)) ∧ w'.cell? ⟨gb341, 1, none⟩ = some (.int .i64 ((rd_T53 l0 x15_1).f1)) ∧ w'.cell? ⟨gb341, 2, none⟩ = some (.string ((rd_T53 l0 x15_1).f2)) ∧ w'.cell? ⟨gb341, 3, none⟩ = some (.string ((rd_T53 l0 x15_1).f3)) ∧ w'.cell? ⟨gb341, 4, none⟩ = some (.string ((rd_T53 l0 x15_1).f4)) ∧ w'.cell? ⟨gb341, 5, none⟩ = some (.slice A340_5 ((rd_T53 l0 x15_1).f5).length c340_5) ∧ w'.cell? ⟨go22, (((rd_T53 l0 x15_1).f1)).toNat, none⟩ = some (.slice A342_0 (rd_L8 x3_1 ((rd_T53 l0 x15_1).f1)).length c342_0)) (ds := [13]) #[F,F,F,F,F,F,F,F,F,F,F,F,F,F] (by kernel_rfl) rfl rfl ⟨(zC BK341.out 0).trans rfl, (zC BK341.out 1).trans rfl, (zC BK341.out 2).trans rfl, (zC BK341.out 3).trans rfl, (zC BK341.out 4).trans rfl, (zC BK341.out 5).trans rfl, hx342_0⟩ (fun hHeld => ?_); refine with_tabW flat_Lists.tab7 flat_Lists.bits7 (fun HT_ HW_ => ?_); generalize w19.drew = w20 at HO_3 BK341 HB GG22 HH22 HL342_0 HR342_0 HX342_0 UU22 hx342_0 hHeld ⊢; refine pure_ (i := 0) (N := some 20) (v := ?_) (a' := ?_) #[T,F,F,F,F,F,F,F,F,F,F,F,F,F] rfl rfl (any_of HT_.out (by kernel_rfl)) (fun _ _ _ h => h) (Or.inl ⟨by rfl, ?_⟩) ?_ ?_; rotate_left; (intro w'; go_simp; (with_reducible rfl)); rotate_left; (simp only [Act.put, zt, zu, zv, i64_w, i32_w]; rfl); refine pure_ (i := 1) (N := some 21) (v := ?_) (a' := ?_) #[T,T,F,F,F,F,F,F,F,F,F,F,F,F] rfl rfl (any_of HT_.out (by kernel_rfl)) (fun _ _ _ h => h) (Or.inl ⟨by rfl, ?_⟩) ?_ ?_; rotate_left; (intro w'; go_simp; (with_reducible rfl)); rotate_left; (simp only [Act.put, zt, zu, zv, i64_w, i32_w]; rfl); refine pure_ (i := 3) (N := some 23) (v := ?_) (a' := ?_) #[T,T,F,T,F,F,F,F,F,F,F,F,F,F] rfl rfl (any_of HT_.out (by kernel_rfl)) (fun _ _ _ h => h) (Or.inl ⟨by rfl, ?_⟩) ?_ ?_; rotate_left; (intro w'; go_simp; (with_reducible rfl)); rotate_left; (simp only [Act.put, zt, zu, zv, i64_w, i32_w]; rfl); refine pure_ (i := 4) (N := some 24) (v := ?_) (a' := ?_) #[T,T,F,T,T,F,F,F,F,F,F,F,F,F] rfl rfl (any_of HT_.out (by kernel_rfl)) (fun _ _ _ h => h) (Or.inl ⟨by rfl, ?_⟩) ?_ ?_; rotate_left; (intro w'; go_simp; (with_reducible rfl)); rotate_left; (simp only [Act.put, zt, zu, zv, i64_w, i32_w]; rfl); refine pure_ (i := 8) (N := some 28) (v := ?_) (a' := ?_) #[T,T,F,T,T,F,F,F,T,F,F,F,F,F] rfl rfl (any_of HT_.out (by kernel_rfl)) (fun _ _ _ h => h) (Or.inl ⟨by rfl, ?_⟩) ?_ ?_; rotate_left; (intro w'; go_simp; (with_reducible rfl)); rotate_left; (simp only [Act.put, zt, zu, zv, i64_w, i32_w]; rfl); refine pure_ (i := 9) (N := some 29) (v := ?_) (a' := ?_) #[T,T,F,T,T,F,F,F,T,T,F,F,F,F] rfl rfl (any_of HT_.out (by kernel_rfl)) (fun _ _ _ h => h) (Or.inl ⟨by rfl, ?_⟩) ?_ ?_; rotate_left; (intro w'; go_simp; (with_reducible rfl)); rotate_left; (simp only [Act.put, zt, zu, zv, i64_w, i32_w]; rfl); refine take_ (i := 2) (N := some 22) (v := ?_) (a' := ?_) #[T,T,T,T,T,F,F,F,T,T,F,F,F,F] rfl rfl (take_ofW HT_.out HW_.out (by kernel_rfl)) (fun _ _ _ h => h) (Or.inl ⟨by rfl, ?_⟩) hHeld ?_ ?_; rotate_left; (rintro w' ⟨s0, s1, s2, s3, s4, s5, s6⟩; go_simp; (with_reducible rfl)); rotate_left; (simp only [Act.put, zt, zu, zv, i64_w, i32_w]; rfl); refine take_ (i := 5) (N := some 25) (v := ?_) (a' := ?_) #[T,T,T,T,T,T,F,F,T,T,F,F,F,F] rfl rfl (take_ofW HT_.out HW_.out (by kernel_rfl)) (fun _ _ _ h => h) (Or.inl ⟨by rfl, ?_⟩) hHeld ?_ ?_; rotate_left; (rintro w' ⟨s0, s1, s2, s3, s4, s5, s6⟩; go_simp; (with_reducible rfl)); rotate_left; (simp only [Act.put, zt, zu, zv, i64_w, i32_w]; rfl); refine pure_ (i := 6) (N := some 26) (v := ?_) (a' := ?_) #[T,T,T,T,T,T,T,F,T,T,F,F,F,F] rfl rfl (any_of HT_.out (by kernel_rfl)) (fun _ _ _ h => h) (Or.inl ⟨by rfl, ?_⟩) ?_ ?_; rotate_left; (intro w'; go_simp; (with_reducible rfl)); rotate_left; (simp only [Act.put, zt, zu, zv, i64_w, i32_w]; rfl); refine take_ (i := 7) (N := some 27) (v := ?_) (a' := ?_) #[T,T,T,T,T,T,T,T,T,T,F,F,F,F] rfl rfl (take_ofW HT_.out HW_.out (by kernel_rfl)) (fun _ _ _ h => h) (Or.inl ⟨by rfl, ?_⟩) hHeld ?_ ?_; rotate_left; (rintro w' ⟨s0, s1, s2, s3, s4, s5, s6⟩; go_simp; (with_reducible rfl)); rotate_left; (simp only [Act.put, zt, zu, zv, i64_w, i32_w]; rfl); refine one_ (i := 10) (N := some 30) #[T,T,T,T,T,T,T,T,T,T,T,F,F,F] rfl rfl (one_of HT_.out (by kernel_rfl)) (by decide) (fun K hK => ?_); refine value_ (w1 := ?_) (v := ?_) (by rfl) rfl ?_ ?_; rotate_left 2
            ·
             go_simp; constructor; (rfl); (rfl)
            refine hK.out _ _ ⟨(zC (zF BK341.out _) 0).trans rfl, (zC (zF BK341.out _) 1).trans rfl, (zC (zF BK341.out _) 2).trans rfl, (zC (zF BK341.out _) 3).trans rfl, (zC (zF BK341.out _) 4).trans rfl, (zC (zF BK341.out _) 5).trans rfl, (World.cell?_alloc_lt _ _ _ (World.block_lt_of_cell? _ _ (hHeld.2.2.2.2.2.2))).trans (hHeld.2.2.2.2.2.2)⟩ (fun hHeld => ?_); clear hK K; refine norm_ (a' := ?_) ?_ ?_; rotate_left
            ·
             show Act.put _ (some 30) _ = _
             simp only [Act.put, zt, zu, zv, i64_w, i32_w]; rfl
            refine one_ (i := 11) (N := some 31) #[T,T,T,T,T,T,T,T,T,T,T,T,F,F] rfl rfl (one_of HT_.out (by kernel_rfl)) (by decide) (fun K hK => ?_); refine Kd.R_append_step (Kd.int .i64) (w0 := w) w.heap.size (by rfl) (.tmp 27) (.tmp 30) 43 3 (.int .i64 0) 8 rfl Try.underlying43 info3 rfl (by decide) (by omega) (.slice A342_0 (rd_L8 x3_1 ((rd_T53 l0 x15_1).f1)).length c342_0) (rd_L8 x3_1 ((rd_T53 l0 x15_1).f1)) (wrap64 (x15_1 + 1)) [.int .i64 (wrap64 (x15_1 + 1))] (fun k_ => oki22 k_ ∨ ((fun _ => True)) k_ ∧ w20.heap.size ≤ k_) (fun _ => False) rfl rfl ?aP (fun _ hk => hk.elim) ?aF ?aO ?aB ?aS ?aL ?_
            (case aP => exact rfl)
            (case aB => exact (by with_reducible repeat first | exact HB.out | apply zA | apply zN | apply zD | refine zS ?_ GE341.out))
            (case aF => exact (fun k_ hk => .inr ⟨trivial, hk⟩))
            (case aO => exact (by (with_reducible repeat (first | apply Kd.R_alloc | apply Kd.R_drewN | apply Kd.R_drew)); exact Kd.R_mono UU22.out (fun _ hk => .inl hk)))
            (case aS => exact (zq (by with_reducible repeat first | exact HB.out | apply zA | apply zN | apply zD | refine zS ?_ GE341.out)))
            (case aL => have := LMc15.out; omega)
            intro v344 w23 ho hb hg hat
            (first | have HS6_ := cell_grown hg (hHeld.2.2.2.2.2.2) (by first | (rw [add_block]; exact (fun e_ => ((HL342_0.out.1 _ e_.symm).2) rfl)) | (show some (Addr.add _ _).block ≠ _; rw [add_block]; exact (fun e_ => ((HL342_0.out.1 _ e_.symm).2) rfl)) | exact (fun e_ => ((HL342_0.out.1 _ e_.symm).2) rfl)) | have HS6_ := cell_grown hg (cell_unalloc (hHeld.2.2.2.2.2.2) (by first | (rw [add_block]; exact Kd.S_lt HO_3.out _ rfl) | (show (Addr.add _ _).block < _; rw [add_block]; exact Kd.S_lt HO_3.out _ rfl) | exact Kd.S_lt HO_3.out _ rfl)) (by first | (rw [add_block]; exact (fun e_ => ((HL342_0.out.1 _ e_.symm).2) rfl)) | (show some (Addr.add _ _).block ≠ _; rw [add_block]; exact (fun e_ => ((HL342_0.out.1 _ e_.symm).2) rfl)) | exact (fun e_ => ((HL342_0.out.1 _ e_.symm).2) rfl)))
            rw [← Ny343.out] at ho; have n0_ := zk (blk_grown (g := gb341) (o := .cells #[.int .i64 ((rd_T53 l0 x15_1).f0), .int .i64 ((rd_T53 l0 x15_1).f1), .string ((rd_T53 l0 x15_1).f2), .string ((rd_T53 l0 x15_1).f3), .string ((rd_T53 l0 x15_1).f4), .slice A340_5 ((rd_T53 l0 x15_1).f5).length c340_5] 53 (0, 0)) (by (with_reducible repeat first | apply zM | apply zE | apply zF); exact BK341.out) hg (Kd.R_ne HL342_0.out BK341.out (by decide))); have n1_ := zk (hb); have n2_ := zk (Kd.H_grown (Kd.H_widen (by repeat (first | exact HH22.out | refine Kd.H_alloc ?_ _ | refine Kd.H_drewN ?_ _ | refine Kd.H_drew ?_))) hg (fun k_ e_ => .inl (UU22.out.1 k_ e_))); have n3_ := zk (ho); clear BK341; clear HB; clear HH22; clear HO_3; clear UU22; clear HL342_0; have BK341 := n0_; have HB := n1_; have HH22 := n2_; have HO345 := n3_; clear n0_ n1_ n2_ n3_; clear ho hb hg hat; have p16 : 0 ≤ (((rd_T53 l0 x15_1).f1) : Int) := zo (by assumption); have q16 : (((rd_T53 l0 x15_1).f1) : Int) < ((x3_1.length : Int) : Int) := zo (by assumption); replace p16 := eq_true p16; replace q16 := eq_true q16; obtain ⟨Ao26, co26, eo26⟩ := Kd.R_slice HO345.out
            (first | subst eo26 | (injection eo26 with f1_ f2_ f3_; have f4_ := f1_.symm; have f5_ := f3_.symm; clear f1_ f2_ f3_; subst f4_; subst f5_))
            obtain ⟨_, _, hraw24, _, _, hcc24, _⟩ := Kd.H_raw HH22.out (zo (by assumption)) (by have h_ : (((rd_T53 l0 x15_1).f1) : Int) < ((x3_1.length : Int) : Int) := zo (by assumption); first | exact h_ | (have e_ := (HN22.out); omega) | simpa using h_); obtain ⟨_, hfr24⟩ := Kd.H_at HH22.out (zo (by assumption)) (by have h_ : (((rd_T53 l0 x15_1).f1) : Int) < ((x3_1.length : Int) : Int) := zo (by assumption); first | exact h_ | (have e_ := (HN22.out); omega) | simpa using h_); have hx24_0 := hcc24 0 _ rfl; have hf24_0 := hfr24 0
            (try simp only [Nat.add_zero] at hx24_0 hf24_0)
            (try rw [show ((Kd.slice 3 (Kd.int .i64))).sz = 1 from rfl, Nat.mul_one] at hx24_0)
            (try rw [show ((Kd.slice 3 (Kd.int .i64))).sz = 1 from rfl, Nat.mul_one] at hf24_0)
            have HP24 := Kd.S_seg0 HH22.out (zo (by assumption)) (by have h_ : (((rd_T53 l0 x15_1).f1) : Int) < ((x3_1.length : Int) : Int) := zo (by assumption); first | exact h_ | (have e_ := (HN22.out); omega) | simpa using h_) (seg := [.slice Ao26 y343.length co26]) (j := 0) (show 1 ≤ 1 from by decide) (x' := y343) (Kd.M_row HO345.out) (fun _ hk => hk)
            (try simp only [show ((Kd.slice 3 (Kd.int .i64))).sz = 1 from rfl, Nat.mul_one, Nat.add_zero] at HP24)
            clear hcc24 hfr24; have HNB341_go22 := zk (show gb341 ≠ go22 from by have h_ := Kd.R_ne hraw24 BK341.out (by decide); intro e_; exact h_ (by rw [e_]; rfl)); have HS24 := HP24.1; rw [← Ny346.out] at HS24; have HQ24 := zk HS24; obtain ⟨_, hgg24⟩ := Kd.R_typed hraw24 go22 rfl; have GG24_ := zk hgg24; clear HP24 HS24 hgg24; refine hK.out _ _ ⟨(zC BK341.out 0).trans rfl, (zC BK341.out 1).trans rfl, (zC BK341.out 2).trans rfl, (zC BK341.out 3).trans rfl, (zC BK341.out 4).trans rfl, (zC BK341.out 5).trans rfl, HS6_⟩ (fun hHeld => ?_); clear hK K; refine norm_ (a' := ?_) ?_ ?_; rotate_left
            ·
             show Act.put _ (some 31) _ = _
             simp only [Act.put, zt, zu, zv, i64_w, i32_w]; rfl
            refine pure_ (i := 12) (N := some 32) (v := ?_) (a' := ?_) #[T,T,T,T,T,T,T,T,T,T,T,T,T,F] rfl rfl (any_of HT_.out (by kernel_rfl)) (fun _ _ _ h => h) (Or.inl ⟨by rfl, ?_⟩) ?_ ?_; rotate_left; (intro w'; go_simp; (with_reducible rfl)); rotate_left; (simp only [Act.put, zt, zu, zv, i64_w, i32_w]; rfl); refine last_ (i := 13) (N := none) #[T,T,T,T,T,T,T,T,T,T,T,T,T,T] rfl rfl (one_of HT_.out (by kernel_rfl)) (by decide) (fun K hK => ?_); refine skip_ (w1 := ?_) (by rfl) rfl ?_ ?_; rotate_left; (go_simp; rfl); refine hK.out _ _ ?_; clear hK K; refine done_ (done_of HT_.out (by kernel_rfl)) ?_
            try go_wp2
            go_roundg k1
            case measure => have := HK1.out; omega
            case rel => exact ⟨(y346), (wrap64 (x15_1 + 1)), (by first | rfl | (simp; done) | (simp [*]; done)), H', ⟨by have := HK1.out; omega⟩, ⟨by (with_reducible repeat (first | apply Kd.S_alloc | apply Kd.S_drewN | apply Kd.S_drew)); exact HQ24.out⟩, ⟨by with_reducible repeat first | exact HB.out | apply zA | apply zN | apply zD | refine zS ?_ GB22.out | refine zS ?_ GE341.out⟩⟩
           ·
            rw [if_neg c15] at H; exact absurd H (by simp)
          ·
           rw [if_neg c14] at H; exact absurd H (by simp)
         ·
          rw [if_neg c13] at H; exact absurd H (by simp)
        ·
         rw [if_neg c12] at H; exact absurd H (by simp)
       ·
        rw [if_neg c11] at H; exact absurd H (by simp)
      ·
       rw [if_neg c10] at H; have c10b0 : decide (x15_1 < (l0.length : Int)) = false := decide_eq_false c10; clear c10; obtain rfl := Option.some.inj H; go_wp2; go_ret; exact ⟨_, by first | rfl | (simp [wN, wS] <;> rfl) | (simp only [← hji4]; first | rfl | (simp [wN, wS] <;> rfl)) | (simp [*, wN, wS] <;> rfl), by (with_reducible repeat (first | apply Kd.S_alloc | apply Kd.S_drewN | apply Kd.S_drew)); exact HO_3.out, by with_reducible repeat first | exact HB.out | apply zA | apply zN | apply zD⟩
   ·
    rw [if_neg c6] at H; exact absurd H (by simp)
  ·
   rw [if_neg c5] at H; exact absurd H (by simp)
 ·
  rw [if_neg c3] at H; have c3b0 : (t336 == 0) = false := beq_eq_false_iff_ne.mpr c3; have c3b1 : (t336 != 0) = true := bne_iff_ne.mpr c3; obtain rfl := Option.some.inj H
  go_enter Try.func16, Try.ntmps16
  go_wp2_with (first | ((with_reducible refine gk (f := 14) rfl ?_); refine gl (some 7) rfl rfl Try.func14 (by kernel_rfl) rfl #[.slice A0 l0.length c0] rfl (by (try simp only [List.map_toArray, List.map_cons, List.map_nil]); first | done | rfl | (simp only [List.length_drop, List.length_take]; rfl)) ?_; (with_reducible refine (flat_Check.calls k _ _ l0 t336 _ ?side1 ?side2 A2.out).mono ?_); (case side1 => repeat (first | exact HR0.out | (with_reducible refine Kd.C_alloc ?_ _) | (with_reducible refine Kd.C_drewN ?_ _) | (with_reducible refine Kd.C_drew ?_))); (case side2 => exact HC0.out); rintro e w27 ⟨rfl, hb⟩; refine ⟨_, rfl, ?_⟩; have n0_ := zk (zs (by with_reducible repeat first | exact HB.out | apply zA | apply zN | apply zD) hb); clear HB; have HB := n0_; clear n0_; (try clear hb); (try clear hb2); (try clear hk); (try clear hi)))
  go_ret; exact ⟨_, by first | rfl | (simp [wN, wS] <;> rfl) | (simp [*, wN, wS] <;> rfl), by first | exact Kd.S_nil _ _ _ _ _ | exact Kd.N_nil _ _ _ _ _ | exact Kd.V_nil _ _ _ _ _ | exact Kd.Q_nil _ _ _ _ _ | exact Kd.R_nil _ _ _ _ _, by with_reducible repeat first | exact HB.out | apply zA | apply zN | apply zD⟩
def slices_Reverse_int_int.l0 : Nat → List Int → Int → Int → Option (List Int)
 | 0, _, _, _ => none
 | k + 1, x0, x2, x3 => if x2 < x3 then (if 0 ≤ x3 then (if x3 < (x0.length : Int) then (if 0 ≤ x2 then (if x2 < (x0.length : Int) then (slices_Reverse_int_int.l0 k ((x0.set (x2 : Int).toNat (rd x0 x3)).set (x3 : Int).toNat (rd x0 x2)) (wrap64 (x2 + 1)) (wrap64 (x3 - 1))) else (none)) else (none)) else (none)) else (none)) else (some x0)
def slices_Reverse_int_int.f (k : Nat) (l0 : List Int) : Option (List Int) := slices_Reverse_int_int.l0 k l0 0 (wrap64 ((l0.length : Int) - 1))
def slices_Reverse_int_int.T3 : Bool × List (List Nat × List Nat) := (true, [([], []), ([], []), ([], []), ([], []), ([], []), ([], []), ([4, 5], [4, 5]), ([6], [6]), ([], []), ([], []), ([8, 9], [8, 9]), ([10], [10]), ([0, 1, 0, 1, 4, 5, 6, 7, 11], [0, 1]), ([12, 7, 0, 1, 4, 5, 6, 7, 11], [7, 12]), ([2, 3, 0, 1, 2, 3, 4, 5, 6, 7, 8, 9, 10, 11, 12, 13], [2, 3]), ([14, 11, 13, 0, 1, 2, 3, 4, 5, 6, 7, 8, 9, 10, 11, 12, 13], [11, 14])])
def slices_Reverse_int_int.B3 : List Nat := [0, 0, 0, 0, 0, 0, 48, 112, 0, 0, 768, 1792, 4083, 8179, 16383, 32767]
theorem slices_Reverse_int_int.tab3 : rtab .any (opsOf Try.f38 3) = slices_Reverse_int_int.T3 := by kernel_rfl
theorem slices_Reverse_int_int.bits3 : waitsOk slices_Reverse_int_int.T3.2 slices_Reverse_int_int.B3 = true := by kernel_rfl
set_option maxHeartbeats 8000000 in
set_option maxRecDepth 100000 in
theorem slices_Reverse_int_int.calls (k : Nat) (P0_ : Nat → Prop) (u9000_ : Value) (l0 : List Int) (r : List Int) (w0 w : World) (hB : Below w0.heap.size w0 w) (ho0 : Kd.R (Kd.int .i64) 3 w w0.heap.size P0_ u9000_ l0) (h : slices_Reverse_int_int.f k l0 = some r) :
  Calls Try.prog 38 #[u9000_] w fun e w' => e = .returned (.tuple #[]) ∧ Kd.R (Kd.int .i64) 3 w' w0.heap.size (fun k_ => (P0_ k_ ∨ w.heap.size ≤ k_)) u9000_ r ∧ Below w0.heap.size w0 w' ∧ Kept w w' (fun k_ => P0_ k_) := by
 have HO0 := zk (show Kd.R (Kd.int .i64) 3 w w0.heap.size (fun k_ => (P0_ k_ ∨ w.heap.size ≤ k_)) u9000_ l0 from Kd.R_mono ho0 (fun k_ hk => (.inl hk)))
 have HK := zk (Kept.refl w (fun k_ => P0_ k_))
 have HW0 := zk hB.size
 have HB := zk hB
 clear hB
 have H : (slices_Reverse_int_int.l0 k l0 0 (wrap64 ((l0.length : Int) - 1))) = some r := h
 clear h
 have H' := zk H
 clear H
 obtain ⟨Ao2, co2, eo2⟩ := Kd.R_slice HO0.out
 subst eo2
 go_enter Try.func38, Try.ntmps38
 go_wp2
 go_loopg [2, 3] k (fun kq v2 v3 w' => ∃ (x0_1 : List Int) (x2_1 : Int) (x3_1 : Int), v2 = .int .i64 x2_1 ∧ v3 = .int .i64 x3_1 ∧ Aside0 (slices_Reverse_int_int.l0 kq x0_1 x2_1 x3_1 = some r) ∧ Aside0 (kq ≤ k) ∧ Aside0 (Kd.R (Kd.int .i64) 3 w' w0.heap.size (fun k_ => (P0_ k_ ∨ w.heap.size ≤ k_)) (.slice Ao2 l0.length co2) x0_1) ∧ Aside0 (Kept w w' (fun k_ => P0_ k_)) ∧ Aside0 (Below w0.heap.size w0 w'))
 case atStart => exact ⟨(l0), (0), (wrap64 ((l0.length : Int) - 1)), (by first | rfl | (simp; done) | (simp [*]; done)), (by first | rfl | (simp; done) | (simp [*]; done)), H', ⟨Nat.le_refl _⟩, ⟨by (with_reducible repeat (first | apply Kd.R_alloc | apply Kd.R_drewN | apply Kd.R_drew)); exact HO0.out⟩, ⟨by with_reducible repeat first | exact HK.out | apply Kept.alloc | apply Kept.drewN | apply Kept.drew⟩, ⟨by with_reducible repeat first | exact HB.out | apply zA | apply zN | apply zD⟩⟩
 case round =>
  clear H'; (try clear p2); obtain ⟨x0_1, x2_1, x3_1, rfl, rfl, HA, HK1, HO_0, HK, HB⟩ := hrel; have hl0_1 := (Kd.R_reads' HO_0.out).1; rw [hl0_1] at HO_0
  (try simp only [hl0_1])
  cases gk with
  | zero => exact absurd HA.out (by simp [slices_Reverse_int_int.l0])
  | succ k1 =>
   have H := HA.out; clear HA; simp only [slices_Reverse_int_int.l0] at H
   by_cases c3 : x2_1 < x3_1
   ·
    rw [if_pos c3] at H; have c3b0 := decide_eq_true c3; clear c3
    by_cases c4 : 0 ≤ x3_1
    ·
     rw [if_pos c4] at H; have c4b0 : decide (0 ≤ x3_1) = true := decide_eq_true c4; clear c4
     by_cases c5 : x3_1 < (x0_1.length : Int)
     ·
      rw [if_pos c5] at H; have c5b0 : decide (x3_1 < (x0_1.length : Int)) = true := decide_eq_true c5; clear c5
      by_cases c6 : 0 ≤ x2_1
      ·
       rw [if_pos c6] at H; have c6b0 := decide_eq_true c6; clear c6
       by_cases c7 : x2_1 < (x0_1.length : Int)
       ·
        rw [if_pos c7] at H; have c7b0 : decide (x2_1 < (x0_1.length : Int)) = true := decide_eq_true c7; clear c7; obtain ⟨y349, hy349⟩ : ∃ y_ : List Int, y_ = (x0_1.set (x2_1 : Int).toNat (rd x0_1 x3_1)) := ⟨_, rfl⟩
        replace H : (slices_Reverse_int_int.l0 k1 (y349.set (x3_1 : Int).toNat (rd x0_1 x2_1)) (wrap64 (x2_1 + 1)) (wrap64 (x3_1 - 1))) = some r := by first | (rw [hy349]; with_reducible exact H) | (have H2_ := (Option.bind_some _ _).symm.trans H; rw [hy349]; with_reducible exact H2_) | (have H2_ := (Option.bind_some _ _).symm.trans H; with_reducible exact H2_) | with_reducible exact H | (rw [hy349]; exact H) | exact H
        have Ny349 := zk hy349; clear hy349; obtain ⟨y350, hy350⟩ : ∃ y_ : List Int, y_ = (y349.set (x3_1 : Int).toNat (rd x0_1 x2_1)) := ⟨_, rfl⟩
        replace H : (slices_Reverse_int_int.l0 k1 y350 (wrap64 (x2_1 + 1)) (wrap64 (x3_1 - 1))) = some r := by first | (rw [hy350]; with_reducible exact H) | (have H2_ := (Option.bind_some _ _).symm.trans H; rw [hy350]; with_reducible exact H2_) | (have H2_ := (Option.bind_some _ _).symm.trans H; with_reducible exact H2_) | with_reducible exact H | (rw [hy350]; exact H) | exact H
        have Ny350 := zk hy350; clear hy350; have H' := zk H; clear H
        try go_wp2
        have n0_ := zk (Kd.R_drew HO_0.out); have n1_ := zk (Kept.drew HK.out); have n2_ := zk (zD HB.out); clear HO_0; clear HK; clear HB; have HO_0 := n0_; have HK := n1_; have HB := n2_; clear n0_ n1_ n2_; have p347 : 0 ≤ (x3_1 : Int) := zo (by assumption); have q347 : x3_1 < (x0_1.length : Int) := zo (by assumption); obtain ⟨ad347, e347, hx347_0⟩ := Kd.at_int (Kd.R_reads' HO_0.out).2.2 x3_1 p347 q347; cases e347; replace p347 := eq_true p347; replace q347 := eq_true q347; have p348 : 0 ≤ (x2_1 : Int) := zo (by assumption); have q348 : x2_1 < (x0_1.length : Int) := zo (by assumption); obtain ⟨ad348, e348, hx348_0⟩ := Kd.at_int (Kd.R_reads' HO_0.out).2.2 x2_1 p348 q348; obtain rfl : ad347 = ad348 := (by injection e348); replace p348 := eq_true p348; replace q348 := eq_true q348; have p8 : 0 ≤ (x2_1 : Int) := zo (by assumption); have q8 : (x2_1 : Int) < ((x0_1.length : Int) : Int) := zo (by assumption); obtain ⟨go8, co8, eo8, gb8, gl8, cl8, HG8⟩ := Kd.R_form HO_0.out (by omega)
        (first | cases eo8 | (injection eo8 with ea_ en_ ec_; (first | subst ea_ | (injection ea_ with ea_; subst ea_)); subst ec_; clear en_))
        have GB8 := zk gb8; have GG8 := zk HG8; clear gb8 gl8 HG8; have HMgo8 := zk (show (P0_ go8 ∨ w.heap.size ≤ go8) from (HO_0.out.1 _ rfl))
        (first | simp only [add_plain] at hx347_0 | skip)
        (first | simp only [add_plain] at hx348_0 | skip)
        obtain ⟨hx8_0, hf8_0⟩ := Kd.R_celln 0 HO_0.out (x2_1 : Int) p8 q8; replace p8 := eq_true p8; replace q8 := eq_true q8; have HP11 := Kd.R_putn HO_0.out (x2_1 : Int) (rd x0_1 x3_1); rw [← Ny349.out] at HP11; have HQ11 := zk HP11; clear HP11; have p9 : 0 ≤ (x3_1 : Int) := zo (by assumption); have q9 : (x3_1 : Int) < ((x0_1.length : Int) : Int) := zo (by assumption); obtain ⟨hx9_0, hf9_0⟩ := Kd.R_celln 0 HQ11.out (x3_1 : Int) p9 q9; replace p9 := eq_true p9; replace q9 := eq_true q9; have HP12 := Kd.R_putn HQ11.out (x3_1 : Int) (rd x0_1 x2_1); rw [← Ny350.out] at HP12; have HQ12 := zk HP12; clear HP12; refine start_ (n := 16) (S := fun w' => w'.cell? ⟨go8, (x3_1).toNat, none⟩ = some (.int .i64 (rd x0_1 x3_1)) ∧ w'.cell? ⟨go8, (x2_1).toNat, none⟩ = some (.int .i64 (rd x0_1 x2_1))) (ds := [13, 15]) #[F,F,F,F,F,F,F,F,F,F,F,F,F,F,F,F] (by kernel_rfl) rfl rfl ⟨hx347_0, hx348_0⟩ (fun hHeld => ?_); refine with_tabW slices_Reverse_int_int.tab3 slices_Reverse_int_int.bits3 (fun HT_ HW_ => ?_); generalize wr.drew = w10 at HO_0 HK HB GG8 HQ11 HQ12 hf8_0 hf9_0 hx347_0 hx348_0 hx8_0 hx9_0 hHeld ⊢; refine pure_ (i := 0) (N := some 14) (v := ?_) (a' := ?_) #[T,F,F,F,F,F,F,F,F,F,F,F,F,F,F,F] rfl rfl (any_of HT_.out (by kernel_rfl)) (fun _ _ _ h => h) (Or.inl ⟨by rfl, ?_⟩) ?_ ?_; rotate_left; (intro w'; go_simp; (with_reducible rfl)); rotate_left; (simp only [Act.put, zt, zu, zv, i64_w, i32_w]; rfl); refine pure_ (i := 1) (N := some 15) (v := ?_) (a' := ?_) #[T,T,F,F,F,F,F,F,F,F,F,F,F,F,F,F] rfl rfl (any_of HT_.out (by kernel_rfl)) (fun _ _ _ h => h) (Or.inl ⟨by rfl, ?_⟩) ?_ ?_; rotate_left; (intro w'; go_simp; (with_reducible rfl)); rotate_left; (simp only [Act.put, zt, zu, zv, i64_w, i32_w]; rfl); refine pure_ (i := 2) (N := some 16) (v := ?_) (a' := ?_) #[T,T,T,F,F,F,F,F,F,F,F,F,F,F,F,F] rfl rfl (any_of HT_.out (by kernel_rfl)) (fun _ _ _ h => h) (Or.inl ⟨by rfl, ?_⟩) ?_ ?_; rotate_left; (intro w'; go_simp; (with_reducible rfl)); rotate_left; (simp only [Act.put, zt, zu, zv, i64_w, i32_w]; rfl); refine pure_ (i := 3) (N := some 17) (v := ?_) (a' := ?_) #[T,T,T,T,F,F,F,F,F,F,F,F,F,F,F,F] rfl rfl (any_of HT_.out (by kernel_rfl)) (fun _ _ _ h => h) (Or.inl ⟨by rfl, ?_⟩) ?_ ?_; rotate_left; (intro w'; go_simp; (with_reducible rfl)); rotate_left; (simp only [Act.put, zt, zu, zv, i64_w, i32_w]; rfl); refine pure_ (i := 4) (N := some 18) (v := ?_) (a' := ?_) #[T,T,T,T,T,F,F,F,F,F,F,F,F,F,F,F] rfl rfl (any_of HT_.out (by kernel_rfl)) (fun _ _ _ h => h) (Or.inl ⟨by rfl, ?_⟩) ?_ ?_; rotate_left; (intro w'; go_simp; (with_reducible rfl)); rotate_left; (simp only [Act.put, zt, zu, zv, i64_w, i32_w]; rfl); refine pure_ (i := 5) (N := some 19) (v := ?_) (a' := ?_) #[T,T,T,T,T,T,F,F,F,F,F,F,F,F,F,F] rfl rfl (any_of HT_.out (by kernel_rfl)) (fun _ _ _ h => h) (Or.inl ⟨by rfl, ?_⟩) ?_ ?_; rotate_left; (intro w'; go_simp; (with_reducible rfl)); rotate_left; (simp only [Act.put, zt, zu, zv, i64_w, i32_w]; rfl); refine pure_ (i := 6) (N := some 20) (v := ?_) (a' := ?_) #[T,T,T,T,T,T,T,F,F,F,F,F,F,F,F,F] rfl rfl (any_of HT_.out (by kernel_rfl)) (fun _ _ _ h => h) (Or.inl ⟨by rfl, ?_⟩) ?_ ?_; rotate_left; (intro w'; go_simp; (with_reducible rfl)); rotate_left; (simp only [Act.put, zt, zu, zv, i64_w, i32_w]; rfl); refine pure_ (i := 8) (N := some 22) (v := ?_) (a' := ?_) #[T,T,T,T,T,T,T,F,T,F,F,F,F,F,F,F] rfl rfl (any_of HT_.out (by kernel_rfl)) (fun _ _ _ h => h) (Or.inl ⟨by rfl, ?_⟩) ?_ ?_; rotate_left; (intro w'; go_simp; (with_reducible rfl)); rotate_left; (simp only [Act.put, zt, zu, zv, i64_w, i32_w]; rfl); refine pure_ (i := 9) (N := some 23) (v := ?_) (a' := ?_) #[T,T,T,T,T,T,T,F,T,T,F,F,F,F,F,F] rfl rfl (any_of HT_.out (by kernel_rfl)) (fun _ _ _ h => h) (Or.inl ⟨by rfl, ?_⟩) ?_ ?_; rotate_left; (intro w'; go_simp; (with_reducible rfl)); rotate_left; (simp only [Act.put, zt, zu, zv, i64_w, i32_w]; rfl); refine pure_ (i := 10) (N := some 24) (v := ?_) (a' := ?_) #[T,T,T,T,T,T,T,F,T,T,T,F,F,F,F,F] rfl rfl (any_of HT_.out (by kernel_rfl)) (fun _ _ _ h => h) (Or.inl ⟨by rfl, ?_⟩) ?_ ?_; rotate_left; (intro w'; go_simp; (with_reducible rfl)); rotate_left; (simp only [Act.put, zt, zu, zv, i64_w, i32_w]; rfl); refine take_ (i := 7) (N := some 21) (v := ?_) (a' := ?_) #[T,T,T,T,T,T,T,T,T,T,T,F,F,F,F,F] rfl rfl (take_ofW HT_.out HW_.out (by kernel_rfl)) (fun _ _ _ h => h) (Or.inl ⟨by rfl, ?_⟩) hHeld ?_ ?_; rotate_left; (rintro w' ⟨s0, s1⟩; go_simp; (with_reducible rfl)); rotate_left; (simp only [Act.put, zt, zu, zv, i64_w, i32_w]; rfl); refine take_ (i := 11) (N := some 25) (v := ?_) (a' := ?_) #[T,T,T,T,T,T,T,T,T,T,T,T,F,F,F,F] rfl rfl (take_ofW HT_.out HW_.out (by kernel_rfl)) (fun _ _ _ h => h) (Or.inl ⟨by rfl, ?_⟩) hHeld ?_ ?_; rotate_left; (rintro w' ⟨s0, s1⟩; go_simp; (with_reducible rfl)); rotate_left; (simp only [Act.put, zt, zu, zv, i64_w, i32_w]; rfl); refine pure_ (i := 12) (N := some 26) (v := ?_) (a' := ?_) #[T,T,T,T,T,T,T,T,T,T,T,T,T,F,F,F] rfl rfl (any_of HT_.out (by kernel_rfl)) (fun _ _ _ h => h) (Or.inl ⟨by rfl, ?_⟩) ?_ ?_; rotate_left; (intro w'; go_simp; (with_reducible rfl)); rotate_left; (simp only [Act.put, zt, zu, zv, i64_w, i32_w]; rfl); refine last_ (i := 13) (N := none) #[T,T,T,T,T,T,T,T,T,T,T,T,T,T,F,F] rfl rfl (one_of HT_.out (by kernel_rfl)) (by decide) (fun K hK => ?_); refine skip_ (w1 := ?_) (by rfl) rfl ?_ ?_; rotate_left; (go_simp; rfl); refine hK.out _ _ ?_; clear hK K; refine pure_ (i := 14) (N := some 27) (v := ?_) (a' := ?_) #[T,T,T,T,T,T,T,T,T,T,T,T,T,T,T,F] rfl rfl (any_of HT_.out (by kernel_rfl)) (fun _ _ _ h => h) (Or.inl ⟨by rfl, ?_⟩) ?_ ?_; rotate_left; (intro w'; go_simp; (with_reducible rfl)); rotate_left; (simp only [Act.put, zt, zu, zv, i64_w, i32_w]; rfl); refine last_ (i := 15) (N := none) #[T,T,T,T,T,T,T,T,T,T,T,T,T,T,T,T] rfl rfl (one_of HT_.out (by kernel_rfl)) (by decide) (fun K hK => ?_); refine skip_ (w1 := ?_) (by rfl) rfl ?_ ?_; rotate_left; (go_simp; rfl); refine hK.out _ _ ?_; clear hK K; refine done_ (done_of HT_.out (by kernel_rfl)) ?_
        try go_wp2
        (try simp only [← hl0_1])
        go_roundg k1
        case measure => have := HK1.out; omega
        case rel => exact ⟨(y350), (wrap64 (x2_1 + 1)), (wrap64 (x3_1 - 1)), (by first | rfl | (simp; done) | (simp [*]; done)), (by first | rfl | (simp; done) | (simp [*]; done)), H', ⟨by have := HK1.out; omega⟩, ⟨by (try simp only [hl0_1]); (with_reducible repeat (first | apply Kd.R_alloc | apply Kd.R_drewN | apply Kd.R_drew)); exact HQ12.out⟩, ⟨by with_reducible repeat first | exact HK.out | apply Kept.alloc | apply Kept.drewN | apply Kept.drew | refine Kept.setCell ?_ HMgo8.out _ | refine Kept.setCell ?_ HMgo8.out _⟩, ⟨by with_reducible repeat first | exact HB.out | apply zA | apply zN | apply zD | refine zS ?_ GB8.out | refine zS ?_ GB8.out⟩⟩
       ·
        rw [if_neg c7] at H; exact absurd H (by simp)
      ·
       rw [if_neg c6] at H; exact absurd H (by simp)
     ·
      rw [if_neg c5] at H; exact absurd H (by simp)
    ·
     rw [if_neg c4] at H; exact absurd H (by simp)
   ·
    rw [if_neg c3] at H; have c3b0 := decide_eq_false c3; clear c3; obtain rfl := Option.some.inj H; go_wp2
    first | go_end0 | ((try simp only [Exit.inBlock, Exit.then]); refine bodyPost_ret (results_none rfl _ _ _) rfl ?_)
    exact ⟨by first | rfl | (simp [wN, wS] <;> rfl) | (simp [*, wN, wS] <;> rfl), (by first | exact (by (with_reducible repeat (first | apply Kd.R_alloc | apply Kd.R_drewN | apply Kd.R_drew)); exact HO_0.out) | (simp only [hl0_1]; exact (by (with_reducible repeat (first | apply Kd.R_alloc | apply Kd.R_drewN | apply Kd.R_drew)); exact HO_0.out))), by with_reducible repeat first | exact HB.out | apply zA | apply zN | apply zD, by with_reducible repeat first | exact HK.out | apply Kept.alloc | apply Kept.drewN | apply Kept.drew⟩
mutual
def flat_Path.j0 : Nat → List (S53) → Int → Bool → Option (List Int)
  | 0, _, _, _ => none
  | k + 1, x0, x1, x18 => if x18 = true then (some ([] : List Int)) else (flat_Path.l0 k x0 x1 ([] : List Int))
def flat_Path.l0 : Nat → List (S53) → Int → List Int → Option (List Int)
  | 0, _, _, _ => none
  | k + 1, x0, x1, x5 => if x1 = 0 then ((slices_Reverse_int_int.f k x5).bind fun t352 => (some t352)) else (if x5.length < 17592186044416 then (if 0 ≤ (wrap64 (x1 - 1)) then (if (wrap64 (x1 - 1)) < (x0.length : Int) then (flat_Path.l0 k x0 ((rd_T53 x0 (wrap64 (x1 - 1))).f1) (x5 ++ [x1])) else (none)) else (none)) else (none))
end
def flat_Path.f (k : Nat) (l0 : List (S53)) (a1 : Int) : Option (List Int) := if a1 < 1 then (flat_Path.j0 k l0 a1 true) else (if a1 > (l0.length : Int) then (flat_Path.j0 k l0 a1 true) else ((flat_Check.f k l0).bind fun t351 => (flat_Path.j0 k l0 a1 (t351 != 0))))
set_option maxHeartbeats 8000000 in
set_option maxRecDepth 100000 in
theorem flat_Path.calls (k : Nat) (A0 : Option Addr) (c0 : Nat) (l0 : List (S53)) (a1 : Int) (r : List Int) (w : World) (hr0 : Kd.C k53 w A0 l0.length l0) (hc0 : l0.length ≤ c0) (h : flat_Path.f k l0 a1 = some r) :
    Calls Try.prog 18 #[.slice A0 l0.length c0, .int .i64 a1] w fun e w' => ∃ v0_ : Value, e = .returned (v0_) ∧ Kd.R (Kd.int .i64) 3 w' w.heap.size (fun _ => True) v0_ r ∧ Below w.heap.size w w' := by
  have HR0 := zk hr0; have HC0 := zk hc0; clear hr0 hc0; have HB := zk (Below.refl w.heap.size w); have H : (if a1 < 1 then (flat_Path.j0 k l0 a1 true) else (if a1 > (l0.length : Int) then (flat_Path.j0 k l0 a1 true) else ((flat_Check.f k l0).bind fun t351 => (flat_Path.j0 k l0 a1 (t351 != 0))))) = some r := h; clear h; have HC3 := zk H; clear H
  go_enter Try.func18, Try.ntmps18
  go_upto_region 1 with (fail)
  go_cut [18] (fun v18 wc => ∃ (kq : Nat) (x18_2 : Bool), v18 = .bool x18_2 ∧ Aside0 (flat_Path.j0 kq l0 a1 x18_2 = some r) ∧ Aside0 (kq ≤ k) ∧ Aside0 (Below w.heap.size w wc))
  case first =>
    have H := HC3.out; clear HC3
    by_cases c4 : a1 < 1
    · rw [if_pos c4] at H
      have c4b0 : decide (a1 < 1) = true := decide_eq_true c4
      clear c4
      (first | rw [c4b0] | (simp only [i64_w, i32_w]; rw [c4b0]) | skip)
      have H' := zk H
      clear H
      go_wp2
      go_meet
      case rel => exact ⟨_, (true), (by first | rfl | (simp; done) | (simp [*]; done)), H', ⟨by first | omega | exact Nat.le_refl _⟩, ⟨by with_reducible repeat first | exact HB.out | apply zA | apply zN | apply zD⟩⟩
    · rw [if_neg c4] at H
      have c4b0 : decide (a1 < 1) = false := decide_eq_false c4
      clear c4
      (first | rw [c4b0] | (simp only [i64_w, i32_w]; rw [c4b0]) | skip)
      by_cases c5 : a1 > (l0.length : Int)
      · rw [if_pos c5] at H
        have c5b0 : decide ((l0.length : Int) < a1) = true := decide_eq_true c5
        clear c5
        have H' := zk H
        clear H
        go_wp2
        go_meet
        case rel => exact ⟨_, (true), (by first | rfl | (simp; done) | (simp [*]; done)), H', ⟨by first | omega | exact Nat.le_refl _⟩, ⟨by with_reducible repeat first | exact HB.out | apply zA | apply zN | apply zD⟩⟩
      · rw [if_neg c5] at H
        have c5b0 : decide ((l0.length : Int) < a1) = false := decide_eq_false c5
        clear c5
        replace H := Option.bind_eq_some_iff.mp H
        obtain ⟨t351, A60, H⟩ := H
        replace H : (flat_Path.j0 k l0 a1 (t351 != 0)) = some r := H
        have A6 := zk A60
        clear A60
        have H' := zk H
        clear H
        go_wp2_with (first | (go_at_call 14; (with_reducible refine (flat_Check.calls k _ _ l0 t351 _ ?side1 ?side2 A6.out).mono ?_); (case side1 => repeat (first | exact (Kd.C_below HR0.out HB.out) | (with_reducible refine Kd.C_alloc ?_ _) | (with_reducible refine Kd.C_drewN ?_ _) | (with_reducible refine Kd.C_drew ?_))); (case side2 => exact HC0.out); rintro e w7 ⟨rfl, hb⟩; have n0_ := zk (zs (by with_reducible repeat first | exact HB.out | apply zA | apply zN | apply zD) hb); clear HB; have HB := n0_; clear n0_; (try clear hb); (try clear hb2); (try clear hk); (try clear hi)))
        go_meet
        case rel => exact ⟨_, ((t351 != 0)), (by first | rfl | (simp; done) | (simp [*]; done)), H', ⟨by first | omega | exact Nat.le_refl _⟩, ⟨by with_reducible repeat first | exact HB.out | apply zA | apply zN | apply zD⟩⟩
  case rest =>
    clear HC3; (try clear c1); (try clear p2); (try clear c4); (try clear c4b0); (try clear c5); (try clear c5b0); obtain ⟨kq, x18_2, rfl, HA, HJ2, HB⟩ := hcut
    cases kq with
    | zero => exact absurd HA.out (by simp [flat_Path.j0])
    | succ kj2 =>
      have H := HA.out; clear HA; simp only [flat_Path.j0] at H
      by_cases c8 : x18_2 = true
      · subst c8
        have H1 : (some ([] : List Int)) = some r := by rw [if_pos rfl] at H; exact H
        clear H
        have H := H1
        clear H1
        obtain rfl := Option.some.inj H
        go_wp2
        go_ret
        exact ⟨_, by first | rfl | (simp [wN, wS] <;> rfl) | (simp [*, wN, wS] <;> rfl), by first | exact Kd.R_nil _ _ _ _ _ | exact Kd.N_nil _ _ _ _ _ | exact Kd.V_nil _ _ _ _ _ | exact Kd.Q_nil _ _ _ _ _ | exact Kd.S_nil _ _ _ _ _, by with_reducible repeat first | exact HB.out | apply zA | apply zN | apply zD⟩
      · replace c8 := Bool.eq_false_iff.mpr c8
        subst c8
        have H1 : (flat_Path.l0 kj2 l0 a1 ([] : List Int)) = some r := by rw [if_neg (show ¬ (false = true) by decide)] at H; exact H
        clear H
        have H := H1
        clear H1
        have H' := zk H
        clear H
        go_wp2
        go_loopg [1, 5] kj2 (fun kq v1 v5 w' => ∃ (x1_2 : Int) (x5_2 : List Int), v1 = .int .i64 x1_2 ∧ Aside0 (flat_Path.l0 kq l0 x1_2 x5_2 = some r) ∧ Aside0 (kq ≤ kj2) ∧ Aside0 (Kd.R (Kd.int .i64) 3 w' w.heap.size (fun _ => True) v5 x5_2) ∧ Aside0 (Below w.heap.size w w'))
        case atStart => exact ⟨(a1), (([] : List Int)), (by first | rfl | (simp; done) | (simp [*]; done)), H', ⟨Nat.le_refl _⟩, ⟨by first | exact Kd.R_nil _ _ _ _ _ | exact Kd.N_nil _ _ _ _ _ | exact Kd.V_nil _ _ _ _ _ | exact Kd.Q_nil _ _ _ _ _ | exact Kd.S_nil _ _ _ _ _⟩, ⟨by with_reducible repeat first | exact HB.out | apply zA | apply zN | apply zD⟩⟩
        case round =>
          clear H'; (try clear c1); (try clear p2); (try clear c4); (try clear c4b0); (try clear c5); (try clear c5b0); (try clear c8); (try clear p2); obtain ⟨x1_2, x5_2, rfl, HA, HK2, HO_5, HB⟩ := hrel
          cases gk with
          | zero => exact absurd HA.out (by simp [flat_Path.l0])
          | succ k2 =>
            have H := HA.out; clear HA; simp only [flat_Path.l0] at H
            by_cases c9 : x1_2 = 0
            · rw [if_pos c9] at H
              have c9b0 := beq_iff_eq.mpr c9
              have c9b1 := bne_eq_false_iff_eq.mpr c9
              clear c9
              replace H := Option.bind_eq_some_iff.mp H
              obtain ⟨t352, A100, H⟩ := H
              replace H : (some t352) = some r := H
              have A10 := zk A100
              clear A100
              obtain rfl := Option.some.inj H
              obtain ⟨Ao11, co11, eo11⟩ := Kd.R_slice HO_5.out
              subst eo11
              go_wp2_with (first | ((with_reducible refine gk (f := 38) rfl ?_); refine gl (some 32) rfl rfl Try.func38 (by kernel_rfl) rfl #[.slice Ao11 x5_2.length co11] rfl (by (try simp only [List.map_toArray, List.map_cons, List.map_nil]); first | done | rfl | (simp only [List.length_drop, List.length_take]; rfl)) ?_; (with_reducible refine (slices_Reverse_int_int.calls k2 (fun k_ => some k_ = (.slice Ao11 x5_2.length co11 : Value).ownBlock) (.slice Ao11 x5_2.length co11) x5_2 t352 w _ ?side1 ?side2 A10.out).mono ?_); (case side1 => repeat (first | (with_reducible first | exact HB.out | apply zA | apply zN | apply zD) | exact HB.out)); (case side2 => exact Kd.R_tight rfl HO_5.out); rintro e w12 ⟨rfl, hy0, hb, hkp⟩; refine ⟨_, rfl, ?_⟩; have n0_ := zk (Kd.R_reok rfl hy0 (fun k_ e_ => HO_5.out.1 k_ e_)); have n1_ := zk (hb); clear HO_5; clear HB; have HO_5 := n0_; have HB := n1_; clear n0_ n1_; (try clear hb); (try clear hkp); (try clear hy0)))
              go_ret
              exact ⟨_, by first | rfl | (simp [wN, wS] <;> rfl) | (simp [*, wN, wS] <;> rfl), by (with_reducible repeat (first | apply Kd.R_alloc | apply Kd.R_drewN | apply Kd.R_drew)); exact HO_5.out, by with_reducible repeat first | exact HB.out | apply zA | apply zN | apply zD⟩
            · rw [if_neg c9] at H
              have c9b0 := beq_eq_false_iff_ne.mpr c9
              have c9b1 := bne_iff_ne.mpr c9
              by_cases c13 : x5_2.length < 17592186044416
              · rw [if_pos c13] at H
                have LMc13 := zk c13
                clear c13
                obtain ⟨y353, hy353⟩ : ∃ y_ : List Int, y_ = (x5_2 ++ [x1_2]) := ⟨_, rfl⟩
                replace H : (if 0 ≤ (wrap64 (x1_2 - 1)) then (if (wrap64 (x1_2 - 1)) < (l0.length : Int) then (flat_Path.l0 k2 l0 ((rd_T53 l0 (wrap64 (x1_2 - 1))).f1) y353) else (none)) else (none)) = some r := by first | (rw [hy353]; with_reducible exact H) | (have H2_ := (Option.bind_some _ _).symm.trans H; rw [hy353]; with_reducible exact H2_) | (have H2_ := (Option.bind_some _ _).symm.trans H; with_reducible exact H2_) | with_reducible exact H | (rw [hy353]; exact H) | exact H
                have Ny353 := zk hy353
                clear hy353
                obtain ⟨ji14, hji14⟩ : ∃ j_ : Int, (wrap64 (x1_2 - 1)) = j_ := ⟨_, rfl⟩
                replace H : (if 0 ≤ (ji14) then (if (ji14) < (l0.length : Int) then (flat_Path.l0 k2 l0 ((rd_T53 l0 (ji14)).f1) y353) else (none)) else (none)) = some r := by first | (rw [hji14] at H; exact H) | (simp only [hji14] at H ⊢; exact H)
                have hji14w : (IntKind.i64.wrap (x1_2 - 1)) = ji14 := (i64_w _).trans hji14
                by_cases c15 : 0 ≤ (ji14)
                · rw [if_pos c15] at H
                  have c15b0 := decide_eq_true c15
                  clear c15
                  by_cases c16 : (ji14) < (l0.length : Int)
                  · rw [if_pos c16] at H
                    have c16b0 := decide_eq_true c16
                    clear c16
                    have H' := zk H
                    clear H
                    go_wp2_with (first | ((with_reducible refine gn (b := .append) (xs := #[.tmp 27, .tmp 29]) rfl ?_); (try (refine gg (by rfl) ?_; dsimp only)); at_builtin; refine Kd.R_append (Kd.int .i64) (w0 := w) w.heap.size rfl (.tmp 27) (.tmp 29) 43 3 (.int .i64 0) 8 rfl Try.underlying43 info3 rfl (by decide) (by omega) u5 x5_2 x1_2 [.int .i64 x1_2] (fun _ => True) (fun _ => False) rfl rfl ?aP (fun _ hk => hk.elim) ?aF ?aO ?aB ?aS ?aL ?_; (case aP => exact rfl); (case aB => exact (by with_reducible repeat first | exact HB.out | apply zA | apply zN | apply zD)); (case aF => exact (fun _ _ => trivial)); (case aO => exact (by (with_reducible repeat (first | apply Kd.R_alloc | apply Kd.R_drewN | apply Kd.R_drew)); exact HO_5.out)); (case aS => exact (zq (by with_reducible repeat first | exact HB.out | apply zA | apply zN | apply zD))); (case aL => have := LMc13.out; omega); intro v354 w17 ho hb hg hat; rw [← Ny353.out] at ho; have n0_ := zk (hb); have n1_ := zk (ho); clear HB; clear HO_5; have HB := n0_; have HO355 := n1_; clear n0_ n1_; clear ho hb hg hat; have p356 : 0 ≤ ((ji14) : Int) := zo (by assumption); have q356 : (ji14) < (l0.length : Int) := zo (by assumption); obtain ⟨ad356, A356_5, c356_5, e356, hx356_0, hx356_1, hx356_2, hx356_3, hx356_4, hx356_5, hl356_5, hi356_5⟩ := at_T53 HR0.out (ji14) p356 q356; cases e356; replace hx356_0 := zB HB hx356_0; replace hx356_1 := zB HB hx356_1; replace hx356_2 := zB HB hx356_2; replace hx356_3 := zB HB hx356_3; replace hx356_4 := zB HB hx356_4; replace hx356_5 := zB HB hx356_5; have HR356_5 := zk hi356_5; have HC356_5 := zk hl356_5; clear hi356_5 hl356_5; replace p356 := eq_true p356; replace q356 := eq_true q356))
                    go_roundg k2
                    case measure => have := HJ2.out; have := HK2.out; omega
                    case rel => exact ⟨((rd_T53 l0 (ji14)).f1), (y353), (by first | rfl | (simp; done) | (simp only [← hji14] <;> (first | rfl | simp)) | (simp [*]; done)), H', ⟨by have := HJ2.out; have := HK2.out; omega⟩, ⟨by (with_reducible repeat (first | apply Kd.R_alloc | apply Kd.R_drewN | apply Kd.R_drew)); exact HO355.out⟩, ⟨by with_reducible repeat first | exact HB.out | apply zA | apply zN | apply zD⟩⟩
                  · rw [if_neg c16] at H
                    exact absurd H (by simp)
                · rw [if_neg c15] at H
                  exact absurd H (by simp)
              · rw [if_neg c13] at H
                exact absurd H (by simp)
def r13_Above.l0 : Nat → List (S53) → Int → Int → Option (Bool)
  | 0, _, _, _ => none
  | k + 1, x0, x2, x7 => if x7 > 0 then (if x7 = x2 then (some true) else (if 0 ≤ (wrap64 (x7 - 1)) then (if (wrap64 (x7 - 1)) < (x0.length : Int) then (r13_Above.l0 k x0 x2 ((rd_T53 x0 (wrap64 (x7 - 1))).f1)) else (none)) else (none))) else (some false)
def r13_Above.f (k : Nat) (l0 : List (S53)) (a1 : Int) (a2 : Int) : Option (Bool) := r13_Above.l0 k l0 a2 a1
set_option maxHeartbeats 8000000 in
set_option maxRecDepth 100000 in
theorem r13_Above.calls (k : Nat) (A0 : Option Addr) (c0 : Nat) (l0 : List (S53)) (a1 : Int) (a2 : Int) (r : Bool) (w : World) (hr0 : Kd.C k53 w A0 l0.length l0) (hc0 : l0.length ≤ c0) (h : r13_Above.f k l0 a1 a2 = some r) :
    Calls Try.prog 42 #[.slice A0 l0.length c0, .int .i64 a1, .int .i64 a2] w fun e w' => e = .returned (.bool r) ∧ Drawn0 w w' := by
  have HR0 := zk hr0; have HC0 := zk hc0; clear hr0 hc0; have H : (r13_Above.l0 k l0 a2 a1) = some r := h; clear h; have H' := zk H; clear H
  go_enter Try.func42, Try.ntmps42
  go_wp2
  go_loopg [7] k (fun kq v7 w' => ∃ (x7_1 : Int), v7 = .int .i64 x7_1 ∧ Aside0 (r13_Above.l0 kq l0 a2 x7_1 = some r) ∧ Aside0 (kq ≤ k) ∧ Drawn0 w w')
  case atStart => exact ⟨(a1), (by first | rfl | (simp; done) | (simp [*]; done)), H', ⟨Nat.le_refl _⟩, by repeat (first | exact Drawn0.refl _ | apply Drawn0.step)⟩
  case round =>
    clear H'; (try clear p2); obtain ⟨x7_1, rfl, HA, HK1, ⟨m1, rfl⟩⟩ := hrel
    cases gk with
    | zero => exact absurd HA.out (by simp [r13_Above.l0])
    | succ k1 =>
      have H := HA.out; clear HA; simp only [r13_Above.l0] at H
      by_cases c4 : x7_1 > 0
      · rw [if_pos c4] at H
        have c4b0 : decide (0 < x7_1) = true := decide_eq_true c4
        clear c4
        by_cases c5 : x7_1 = a2
        · rw [if_pos c5] at H
          have c5b0 : (x7_1 == a2) = true := beq_iff_eq.mpr c5
          have c5b1 : (x7_1 != a2) = false := bne_eq_false_iff_eq.mpr c5
          clear c5
          obtain rfl := Option.some.inj H
          go_wp2
          go_ret
          exact ⟨by first | rfl | (simp; done) | (simp [*]; done), by repeat (first | exact Drawn0.refl _ | apply Drawn0.step)⟩
        · rw [if_neg c5] at H
          have c5b0 : (x7_1 == a2) = false := beq_eq_false_iff_ne.mpr c5
          have c5b1 : (x7_1 != a2) = true := bne_iff_ne.mpr c5
          obtain ⟨ji6, hji6⟩ : ∃ j_ : Int, (wrap64 (x7_1 - 1)) = j_ := ⟨_, rfl⟩
          replace H : (if 0 ≤ (ji6) then (if (ji6) < (l0.length : Int) then (r13_Above.l0 k1 l0 a2 ((rd_T53 l0 (ji6)).f1)) else (none)) else (none)) = some r := by first | (rw [hji6] at H; exact H) | (simp only [hji6] at H ⊢; exact H)
          have hji6w : (IntKind.i64.wrap (x7_1 - 1)) = ji6 := (i64_w _).trans hji6
          by_cases c7 : 0 ≤ (ji6)
          · rw [if_pos c7] at H
            have c7b0 : decide (0 ≤ (ji6)) = true := decide_eq_true c7
            clear c7
            by_cases c8 : (ji6) < (l0.length : Int)
            · rw [if_pos c8] at H
              have c8b0 : decide ((ji6) < (l0.length : Int)) = true := decide_eq_true c8
              clear c8
              have H' := zk H
              clear H
              have p357 : 0 ≤ ((ji6) : Int) := zo (by assumption)
              have q357 : (ji6) < (l0.length : Int) := zo (by assumption)
              obtain ⟨ad357, A357_5, c357_5, e357, hx357_0, hx357_1, hx357_2, hx357_3, hx357_4, hx357_5, hl357_5, hi357_5⟩ := at_T53 HR0.out (ji6) p357 q357
              cases e357
              have HR357_5 := zk hi357_5
              have HC357_5 := zk hl357_5
              clear hi357_5 hl357_5
              replace p357 := eq_true p357
              replace q357 := eq_true q357
              go_wp2
              go_roundg k1
              case measure => have := HK1.out; omega
              case rel => exact ⟨((rd_T53 l0 (ji6)).f1), (by first | rfl | (simp; done) | (simp only [← hji6] <;> (first | rfl | simp)) | (simp [*]; done)), H', ⟨by have := HK1.out; omega⟩, by repeat (first | exact Drawn0.refl _ | apply Drawn0.step)⟩
            · rw [if_neg c8] at H
              exact absurd H (by simp)
          · rw [if_neg c7] at H
            exact absurd H (by simp)
      · rw [if_neg c4] at H
        have c4b0 : decide (0 < x7_1) = false := decide_eq_false c4; clear c4; obtain rfl := Option.some.inj H; go_wp2; go_ret; exact ⟨by first | rfl | (simp; done) | (simp [*]; done), by repeat (first | exact Drawn0.refl _ | apply Drawn0.step)⟩
def r13_Formed.l0 : Nat → List (S53) → Int → Int → Option (Bool)
 | 0, _, _, _ => none
 | k + 1, x0, x5, x6 => if x6 < x5 then (if x6 = 0 then (if 0 ≤ x6 then (if x6 < (x0.length : Int) then (if ((rd_T53 x0 x6).f1) = 0 then (if x6 > 0 then (if ((rd_T53 x0 x6).f1) < 1 then (some false) else ((r13_Above.f k x0 x6 ((rd_T53 x0 x6).f1)).bind fun t361 => (if t361 = true then (r13_Formed.l0 k x0 x5 (wrap64 (x6 + 1))) else (some false)))) else (r13_Formed.l0 k x0 x5 (wrap64 (x6 + 1)))) else (some false)) else (none)) else (none)) else (if x6 > 0 then (if 0 ≤ x6 then (if x6 < (x0.length : Int) then (if ((rd_T53 x0 x6).f1) < 1 then (some false) else ((r13_Above.f k x0 x6 ((rd_T53 x0 x6).f1)).bind fun t364 => (if t364 = true then (r13_Formed.l0 k x0 x5 (wrap64 (x6 + 1))) else (some false)))) else (none)) else (none)) else (r13_Formed.l0 k x0 x5 (wrap64 (x6 + 1))))) else (some true)
def r13_Formed.f (k : Nat) (l0 : List (S53)) : Option (Bool) := r13_Formed.l0 k l0 (l0.length : Int) 0
set_option maxHeartbeats 8000000 in
set_option maxRecDepth 100000 in
theorem r13_Formed.calls (k : Nat) (A0 : Option Addr) (c0 : Nat) (l0 : List (S53)) (r : Bool) (w : World) (hr0 : Kd.C k53 w A0 l0.length l0) (hc0 : l0.length ≤ c0) (h : r13_Formed.f k l0 = some r) :
  Calls Try.prog 39 #[.slice A0 l0.length c0] w fun e w' => e = .returned (.bool r) ∧ Drawn0 w w' := by
 have HR0 := zk hr0
 have HC0 := zk hc0
 clear hr0 hc0
 have H : (r13_Formed.l0 k l0 (l0.length : Int) 0) = some r := h
 clear h
 have H' := zk H
 clear H
 go_enter Try.func39, Try.ntmps39
 go_wp2
 go_loopg [6] k (fun kq v6 w' => ∃ (x6_1 : Int), v6 = .int .i64 x6_1 ∧ Aside0 (r13_Formed.l0 kq l0 (l0.length : Int) x6_1 = some r) ∧ Aside0 (kq ≤ k) ∧ Drawn0 w w')
 case atStart => exact ⟨(0), (by first | rfl | (simp; done) | (simp [*]; done)), H', ⟨Nat.le_refl _⟩, by repeat (first | exact Drawn0.refl _ | apply Drawn0.step)⟩
 case round =>
  clear H'; obtain ⟨x6_1, rfl, HA, HK1, ⟨m1, rfl⟩⟩ := hrel
  cases gk with
  | zero => exact absurd HA.out (by simp [r13_Formed.l0])
  | succ k1 =>
   have H := HA.out; clear HA; simp only [r13_Formed.l0] at H
   by_cases c2 : x6_1 < (l0.length : Int)
   ·
    rw [if_pos c2] at H; have c2b0 := decide_eq_true c2; clear c2
    by_cases c3 : x6_1 = 0
    ·
     rw [if_pos c3] at H; have c3b0 : (x6_1 == 0) = true := beq_iff_eq.mpr c3; have c3b1 : (x6_1 != 0) = false := bne_eq_false_iff_eq.mpr c3; clear c3
     by_cases c4 : 0 ≤ x6_1
     ·
      rw [if_pos c4] at H; have c4b0 := decide_eq_true c4; clear c4
      by_cases c5 : x6_1 < (l0.length : Int)
      ·
       rw [if_pos c5] at H; have c5b0 : decide (x6_1 < (l0.length : Int)) = true := decide_eq_true c5; clear c5
       by_cases c6 : ((rd_T53 l0 x6_1).f1) = 0
       ·
        rw [if_pos c6] at H; have c6b0 : (((rd_T53 l0 x6_1).f1) == 0) = true := beq_iff_eq.mpr c6; have c6b1 : (((rd_T53 l0 x6_1).f1) != 0) = false := bne_eq_false_iff_eq.mpr c6; clear c6
        by_cases c7 : x6_1 > 0
        ·
         rw [if_pos c7] at H; have c7b0 : decide (0 < x6_1) = true := decide_eq_true c7; clear c7
         by_cases c8 : ((rd_T53 l0 x6_1).f1) < 1
         ·
          rw [if_pos c8] at H; have c8b0 := decide_eq_true c8; clear c8; obtain rfl := Option.some.inj H; have p358 : 0 ≤ (x6_1 : Int) := zo (by assumption); have q358 : x6_1 < (l0.length : Int) := zo (by assumption); obtain ⟨ad358, A358_5, c358_5, e358, hx358_0, hx358_1, hx358_2, hx358_3, hx358_4, hx358_5, hl358_5, hi358_5⟩ := at_T53 HR0.out x6_1 p358 q358; cases e358; have HR358_5 := zk hi358_5; have HC358_5 := zk hl358_5; clear hi358_5 hl358_5; replace p358 := eq_true p358; replace q358 := eq_true q358; have p359 : 0 ≤ (x6_1 : Int) := zo (by assumption); have q359 : x6_1 < (l0.length : Int) := zo (by assumption); obtain ⟨ad359, A359_5, c359_5, e359, hx359_0, hx359_1, hx359_2, hx359_3, hx359_4, hx359_5, hl359_5, hi359_5⟩ := at_T53 HR0.out x6_1 p359 q359; obtain rfl : ad358 = ad359 := (by injection e359); have HR359_5 := zk hi359_5; have HC359_5 := zk hl359_5; clear hi359_5 hl359_5; replace p359 := eq_true p359; replace q359 := eq_true q359; have ea_ := Option.some.inj (hx358_5.symm.trans hx359_5); injection ea_ with ea_ en_ ec_; subst ea_; subst ec_; clear en_; go_wp2; go_ret; exact ⟨by first | rfl | (simp; done) | (simp [*]; done), by repeat (first | exact Drawn0.refl _ | apply Drawn0.step)⟩
         ·
          rw [if_neg c8] at H; have c8b0 := decide_eq_false c8; clear c8; replace H := Option.bind_eq_some_iff.mp H; obtain ⟨t361, A90, H⟩ := H; replace H : (if t361 = true then (r13_Formed.l0 k1 l0 (l0.length : Int) (wrap64 (x6_1 + 1))) else (some false)) = some r := H; have A9 := zk A90; clear A90
          by_cases c10 : t361 = true
          ·
           subst c10
           have H1 : (r13_Formed.l0 k1 l0 (l0.length : Int) (wrap64 (x6_1 + 1))) = some r := by rw [if_pos rfl] at H; exact H
           clear H; have H := H1; clear H1; have H' := zk H; clear H; have p358 : 0 ≤ (x6_1 : Int) := zo (by assumption); have q358 : x6_1 < (l0.length : Int) := zo (by assumption); obtain ⟨ad358, A358_5, c358_5, e358, hx358_0, hx358_1, hx358_2, hx358_3, hx358_4, hx358_5, hl358_5, hi358_5⟩ := at_T53 HR0.out x6_1 p358 q358; cases e358; have HR358_5 := zk hi358_5; have HC358_5 := zk hl358_5; clear hi358_5 hl358_5; replace p358 := eq_true p358; replace q358 := eq_true q358; have p359 : 0 ≤ (x6_1 : Int) := zo (by assumption); have q359 : x6_1 < (l0.length : Int) := zo (by assumption); obtain ⟨ad359, A359_5, c359_5, e359, hx359_0, hx359_1, hx359_2, hx359_3, hx359_4, hx359_5, hl359_5, hi359_5⟩ := at_T53 HR0.out x6_1 p359 q359; obtain rfl : ad358 = ad359 := (by injection e359); have HR359_5 := zk hi359_5; have HC359_5 := zk hl359_5; clear hi359_5 hl359_5; replace p359 := eq_true p359; replace q359 := eq_true q359; have ea_ := Option.some.inj (hx358_5.symm.trans hx359_5); injection ea_ with ea_ en_ ec_; subst ea_; subst ec_; clear en_; have p360 : 0 ≤ (x6_1 : Int) := zo (by assumption); have q360 : x6_1 < (l0.length : Int) := zo (by assumption); obtain ⟨ad360, A360_5, c360_5, e360, hx360_0, hx360_1, hx360_2, hx360_3, hx360_4, hx360_5, hl360_5, hi360_5⟩ := at_T53 HR0.out x6_1 p360 q360; obtain rfl : ad358 = ad360 := (by injection e360); have HR360_5 := zk hi360_5; have HC360_5 := zk hl360_5; clear hi360_5 hl360_5; replace p360 := eq_true p360; replace q360 := eq_true q360; have ea_ := Option.some.inj (hx358_5.symm.trans hx360_5); injection ea_ with ea_ en_ ec_; subst ea_; subst ec_; clear en_
           go_wp2_with (first | (go_at_call 42; (with_reducible refine (r13_Above.calls k1 _ _ l0 x6_1 ((rd_T53 l0 x6_1).f1) true _ ?side1 ?side2 A9.out).mono ?_); (case side1 => repeat (first | exact HR0.out | (with_reducible refine Kd.C_alloc ?_ _) | (with_reducible refine Kd.C_drewN ?_ _) | (with_reducible refine Kd.C_drew ?_))); (case side2 => exact HC0.out); rintro e w' ⟨rfl, ⟨nd, rfl⟩⟩))
           go_roundg k1
           case measure => have := HK1.out; omega
           case rel => exact ⟨(wrap64 (x6_1 + 1)), (by first | rfl | (simp; done) | (simp [*]; done)), H', ⟨by have := HK1.out; omega⟩, by repeat (first | exact Drawn0.refl _ | apply Drawn0.step)⟩
          ·
           replace c10 := Bool.eq_false_iff.mpr c10; subst c10
           have H1 : (some false) = some r := by rw [if_neg (show ¬ (false = true) by decide)] at H; exact H
           clear H; have H := H1; clear H1; obtain rfl := Option.some.inj H; have p358 : 0 ≤ (x6_1 : Int) := zo (by assumption); have q358 : x6_1 < (l0.length : Int) := zo (by assumption); obtain ⟨ad358, A358_5, c358_5, e358, hx358_0, hx358_1, hx358_2, hx358_3, hx358_4, hx358_5, hl358_5, hi358_5⟩ := at_T53 HR0.out x6_1 p358 q358; cases e358; have HR358_5 := zk hi358_5; have HC358_5 := zk hl358_5; clear hi358_5 hl358_5; replace p358 := eq_true p358; replace q358 := eq_true q358; have p359 : 0 ≤ (x6_1 : Int) := zo (by assumption); have q359 : x6_1 < (l0.length : Int) := zo (by assumption); obtain ⟨ad359, A359_5, c359_5, e359, hx359_0, hx359_1, hx359_2, hx359_3, hx359_4, hx359_5, hl359_5, hi359_5⟩ := at_T53 HR0.out x6_1 p359 q359; obtain rfl : ad358 = ad359 := (by injection e359); have HR359_5 := zk hi359_5; have HC359_5 := zk hl359_5; clear hi359_5 hl359_5; replace p359 := eq_true p359; replace q359 := eq_true q359; have ea_ := Option.some.inj (hx358_5.symm.trans hx359_5); injection ea_ with ea_ en_ ec_; subst ea_; subst ec_; clear en_; have p360 : 0 ≤ (x6_1 : Int) := zo (by assumption); have q360 : x6_1 < (l0.length : Int) := zo (by assumption); obtain ⟨ad360, A360_5, c360_5, e360, hx360_0, hx360_1, hx360_2, hx360_3, hx360_4, hx360_5, hl360_5, hi360_5⟩ := at_T53 HR0.out x6_1 p360 q360; obtain rfl : ad358 = ad360 := (by injection e360); have HR360_5 := zk hi360_5; have HC360_5 := zk hl360_5; clear hi360_5 hl360_5; replace p360 := eq_true p360; replace q360 := eq_true q360; have ea_ := Option.some.inj (hx358_5.symm.trans hx360_5); injection ea_ with ea_ en_ ec_; subst ea_; subst ec_; clear en_
           go_wp2_with (first | (go_at_call 42; (with_reducible refine (r13_Above.calls k1 _ _ l0 x6_1 ((rd_T53 l0 x6_1).f1) false _ ?side1 ?side2 A9.out).mono ?_); (case side1 => repeat (first | exact HR0.out | (with_reducible refine Kd.C_alloc ?_ _) | (with_reducible refine Kd.C_drewN ?_ _) | (with_reducible refine Kd.C_drew ?_))); (case side2 => exact HC0.out); rintro e w' ⟨rfl, ⟨nd, rfl⟩⟩))
           go_ret; exact ⟨by first | rfl | (simp; done) | (simp [*]; done), by repeat (first | exact Drawn0.refl _ | apply Drawn0.step)⟩
        ·
         rw [if_neg c7] at H; have c7b0 : decide (0 < x6_1) = false := decide_eq_false c7; clear c7; have H' := zk H; clear H; have p358 : 0 ≤ (x6_1 : Int) := zo (by assumption); have q358 : x6_1 < (l0.length : Int) := zo (by assumption); obtain ⟨ad358, A358_5, c358_5, e358, hx358_0, hx358_1, hx358_2, hx358_3, hx358_4, hx358_5, hl358_5, hi358_5⟩ := at_T53 HR0.out x6_1 p358 q358; cases e358; have HR358_5 := zk hi358_5; have HC358_5 := zk hl358_5; clear hi358_5 hl358_5; replace p358 := eq_true p358; replace q358 := eq_true q358; go_wp2
         go_roundg k1
         case measure => have := HK1.out; omega
         case rel => exact ⟨(wrap64 (x6_1 + 1)), (by first | rfl | (simp; done) | (simp [*]; done)), H', ⟨by have := HK1.out; omega⟩, by repeat (first | exact Drawn0.refl _ | apply Drawn0.step)⟩
       ·
        rw [if_neg c6] at H; have c6b0 : (((rd_T53 l0 x6_1).f1) == 0) = false := beq_eq_false_iff_ne.mpr c6; have c6b1 : (((rd_T53 l0 x6_1).f1) != 0) = true := bne_iff_ne.mpr c6; obtain rfl := Option.some.inj H; have p358 : 0 ≤ (x6_1 : Int) := zo (by assumption); have q358 : x6_1 < (l0.length : Int) := zo (by assumption); obtain ⟨ad358, A358_5, c358_5, e358, hx358_0, hx358_1, hx358_2, hx358_3, hx358_4, hx358_5, hl358_5, hi358_5⟩ := at_T53 HR0.out x6_1 p358 q358; cases e358; have HR358_5 := zk hi358_5; have HC358_5 := zk hl358_5; clear hi358_5 hl358_5; replace p358 := eq_true p358; replace q358 := eq_true q358; go_wp2; go_ret; exact ⟨by first | rfl | (simp; done) | (simp [*]; done), by repeat (first | exact Drawn0.refl _ | apply Drawn0.step)⟩
      ·
       rw [if_neg c5] at H; exact absurd H (by simp)
     ·
      rw [if_neg c4] at H; exact absurd H (by simp)
    ·
     rw [if_neg c3] at H; have c3b0 : (x6_1 == 0) = false := beq_eq_false_iff_ne.mpr c3; have c3b1 : (x6_1 != 0) = true := bne_iff_ne.mpr c3
     by_cases c11 : x6_1 > 0
     ·
      rw [if_pos c11] at H; have c11b0 : decide (0 < x6_1) = true := decide_eq_true c11; clear c11
      by_cases c12 : 0 ≤ x6_1
      ·
       rw [if_pos c12] at H; have c12b0 := decide_eq_true c12; clear c12
       by_cases c13 : x6_1 < (l0.length : Int)
       ·
        rw [if_pos c13] at H; have c13b0 := decide_eq_true c13; clear c13
        by_cases c14 : ((rd_T53 l0 x6_1).f1) < 1
        ·
         rw [if_pos c14] at H; have c14b0 := decide_eq_true c14; clear c14; obtain rfl := Option.some.inj H; have p362 : 0 ≤ (x6_1 : Int) := zo (by assumption); have q362 : x6_1 < (l0.length : Int) := zo (by assumption); obtain ⟨ad362, A362_5, c362_5, e362, hx362_0, hx362_1, hx362_2, hx362_3, hx362_4, hx362_5, hl362_5, hi362_5⟩ := at_T53 HR0.out x6_1 p362 q362; cases e362; have HR362_5 := zk hi362_5; have HC362_5 := zk hl362_5; clear hi362_5 hl362_5; replace p362 := eq_true p362; replace q362 := eq_true q362; go_wp2; go_ret; exact ⟨by first | rfl | (simp; done) | (simp [*]; done), by repeat (first | exact Drawn0.refl _ | apply Drawn0.step)⟩
        ·
         rw [if_neg c14] at H; have c14b0 := decide_eq_false c14; clear c14; replace H := Option.bind_eq_some_iff.mp H; obtain ⟨t364, A150, H⟩ := H; replace H : (if t364 = true then (r13_Formed.l0 k1 l0 (l0.length : Int) (wrap64 (x6_1 + 1))) else (some false)) = some r := H; have A15 := zk A150; clear A150
         by_cases c16 : t364 = true
         ·
          subst c16
          have H1 : (r13_Formed.l0 k1 l0 (l0.length : Int) (wrap64 (x6_1 + 1))) = some r := by rw [if_pos rfl] at H; exact H
          clear H; have H := H1; clear H1; have H' := zk H; clear H; have p362 : 0 ≤ (x6_1 : Int) := zo (by assumption); have q362 : x6_1 < (l0.length : Int) := zo (by assumption); obtain ⟨ad362, A362_5, c362_5, e362, hx362_0, hx362_1, hx362_2, hx362_3, hx362_4, hx362_5, hl362_5, hi362_5⟩ := at_T53 HR0.out x6_1 p362 q362; cases e362; have HR362_5 := zk hi362_5; have HC362_5 := zk hl362_5; clear hi362_5 hl362_5; replace p362 := eq_true p362; replace q362 := eq_true q362; have p363 : 0 ≤ (x6_1 : Int) := zo (by assumption); have q363 : x6_1 < (l0.length : Int) := zo (by assumption); obtain ⟨ad363, A363_5, c363_5, e363, hx363_0, hx363_1, hx363_2, hx363_3, hx363_4, hx363_5, hl363_5, hi363_5⟩ := at_T53 HR0.out x6_1 p363 q363; obtain rfl : ad362 = ad363 := (by injection e363); have HR363_5 := zk hi363_5; have HC363_5 := zk hl363_5; clear hi363_5 hl363_5; replace p363 := eq_true p363; replace q363 := eq_true q363; have ea_ := Option.some.inj (hx362_5.symm.trans hx363_5); injection ea_ with ea_ en_ ec_; subst ea_; subst ec_; clear en_
          go_wp2_with (first | (go_at_call 42; (with_reducible refine (r13_Above.calls k1 _ _ l0 x6_1 ((rd_T53 l0 x6_1).f1) true _ ?side1 ?side2 A15.out).mono ?_); (case side1 => repeat (first | exact HR0.out | (with_reducible refine Kd.C_alloc ?_ _) | (with_reducible refine Kd.C_drewN ?_ _) | (with_reducible refine Kd.C_drew ?_))); (case side2 => exact HC0.out); rintro e w' ⟨rfl, ⟨nd, rfl⟩⟩))
          go_roundg k1
          case measure => have := HK1.out; omega
          case rel => exact ⟨(wrap64 (x6_1 + 1)), (by first | rfl | (simp; done) | (simp [*]; done)), H', ⟨by have := HK1.out; omega⟩, by repeat (first | exact Drawn0.refl _ | apply Drawn0.step)⟩
         ·
          replace c16 := Bool.eq_false_iff.mpr c16; subst c16
          have H1 : (some false) = some r := by rw [if_neg (show ¬ (false = true) by decide)] at H; exact H
          clear H; have H := H1; clear H1; obtain rfl := Option.some.inj H; have p362 : 0 ≤ (x6_1 : Int) := zo (by assumption); have q362 : x6_1 < (l0.length : Int) := zo (by assumption); obtain ⟨ad362, A362_5, c362_5, e362, hx362_0, hx362_1, hx362_2, hx362_3, hx362_4, hx362_5, hl362_5, hi362_5⟩ := at_T53 HR0.out x6_1 p362 q362; cases e362; have HR362_5 := zk hi362_5; have HC362_5 := zk hl362_5; clear hi362_5 hl362_5; replace p362 := eq_true p362; replace q362 := eq_true q362; have p363 : 0 ≤ (x6_1 : Int) := zo (by assumption); have q363 : x6_1 < (l0.length : Int) := zo (by assumption); obtain ⟨ad363, A363_5, c363_5, e363, hx363_0, hx363_1, hx363_2, hx363_3, hx363_4, hx363_5, hl363_5, hi363_5⟩ := at_T53 HR0.out x6_1 p363 q363; obtain rfl : ad362 = ad363 := (by injection e363); have HR363_5 := zk hi363_5; have HC363_5 := zk hl363_5; clear hi363_5 hl363_5; replace p363 := eq_true p363; replace q363 := eq_true q363; have ea_ := Option.some.inj (hx362_5.symm.trans hx363_5); injection ea_ with ea_ en_ ec_; subst ea_; subst ec_; clear en_
          go_wp2_with (first | (go_at_call 42; (with_reducible refine (r13_Above.calls k1 _ _ l0 x6_1 ((rd_T53 l0 x6_1).f1) false _ ?side1 ?side2 A15.out).mono ?_); (case side1 => repeat (first | exact HR0.out | (with_reducible refine Kd.C_alloc ?_ _) | (with_reducible refine Kd.C_drewN ?_ _) | (with_reducible refine Kd.C_drew ?_))); (case side2 => exact HC0.out); rintro e w' ⟨rfl, ⟨nd, rfl⟩⟩))
          go_ret; exact ⟨by first | rfl | (simp; done) | (simp [*]; done), by repeat (first | exact Drawn0.refl _ | apply Drawn0.step)⟩
       ·
        rw [if_neg c13] at H; exact absurd H (by simp)
      ·
       rw [if_neg c12] at H; exact absurd H (by simp)
     ·
      rw [if_neg c11] at H; have c11b0 : decide (0 < x6_1) = false := decide_eq_false c11; clear c11; have H' := zk H; clear H; go_wp2
      go_roundg k1
      case measure => have := HK1.out; omega
      case rel => exact ⟨(wrap64 (x6_1 + 1)), (by first | rfl | (simp; done) | (simp [*]; done)), H', ⟨by have := HK1.out; omega⟩, by repeat (first | exact Drawn0.refl _ | apply Drawn0.step)⟩
   ·
    rw [if_neg c2] at H; have c2b0 := decide_eq_false c2; clear c2; obtain rfl := Option.some.inj H; go_wp2; go_ret; exact ⟨by first | rfl | (simp; done) | (simp [*]; done), by repeat (first | exact Drawn0.refl _ | apply Drawn0.step)⟩
def r13_Depth.l0 : Nat → List (S53) → Int → Int → Option (Int)
  | 0, _, _, _ => none
  | k + 1, x0, x1, x5 => if x1 > 0 then (if 0 ≤ (wrap64 (x1 - 1)) then (if (wrap64 (x1 - 1)) < (x0.length : Int) then (r13_Depth.l0 k x0 ((rd_T53 x0 (wrap64 (x1 - 1))).f1) (wrap64 (x5 + 1))) else (none)) else (none)) else (some x5)
def r13_Depth.f (k : Nat) (l0 : List (S53)) (a1 : Int) : Option (Int) := r13_Depth.l0 k l0 a1 0
set_option maxHeartbeats 8000000 in
set_option maxRecDepth 100000 in
theorem r13_Depth.calls (k : Nat) (A0 : Option Addr) (c0 : Nat) (l0 : List (S53)) (a1 : Int) (r : Int) (w : World) (hr0 : Kd.C k53 w A0 l0.length l0) (hc0 : l0.length ≤ c0) (h : r13_Depth.f k l0 a1 = some r) :
    Calls Try.prog 40 #[.slice A0 l0.length c0, .int .i64 a1] w fun e w' => e = .returned (.int .i64 r) ∧ Drawn0 w w' := by
  have HR0 := zk hr0; have HC0 := zk hc0; clear hr0 hc0; have H : (r13_Depth.l0 k l0 a1 0) = some r := h; clear h; have H' := zk H; clear H
  go_enter Try.func40, Try.ntmps40
  go_wp2
  go_loopg [1, 5] k (fun kq v1 v5 w' => ∃ (x1_1 : Int) (x5_1 : Int), v1 = .int .i64 x1_1 ∧ v5 = .int .i64 x5_1 ∧ Aside0 (r13_Depth.l0 kq l0 x1_1 x5_1 = some r) ∧ Aside0 (kq ≤ k) ∧ Drawn0 w w')
  case atStart => exact ⟨(a1), (0), (by first | rfl | (simp; done) | (simp [*]; done)), (by first | rfl | (simp; done) | (simp [*]; done)), H', ⟨Nat.le_refl _⟩, by repeat (first | exact Drawn0.refl _ | apply Drawn0.step)⟩
  case round =>
    clear H'; (try clear p2); obtain ⟨x1_1, x5_1, rfl, rfl, HA, HK1, ⟨m1, rfl⟩⟩ := hrel
    cases gk with
    | zero => exact absurd HA.out (by simp [r13_Depth.l0])
    | succ k1 =>
      have H := HA.out; clear HA; simp only [r13_Depth.l0] at H
      by_cases c3 : x1_1 > 0
      · rw [if_pos c3] at H
        have c3b0 : decide (0 < x1_1) = true := decide_eq_true c3
        clear c3
        obtain ⟨ji4, hji4⟩ : ∃ j_ : Int, (wrap64 (x1_1 - 1)) = j_ := ⟨_, rfl⟩
        replace H : (if 0 ≤ (ji4) then (if (ji4) < (l0.length : Int) then (r13_Depth.l0 k1 l0 ((rd_T53 l0 (ji4)).f1) (wrap64 (x5_1 + 1))) else (none)) else (none)) = some r := by first | (rw [hji4] at H; exact H) | (simp only [hji4] at H ⊢; exact H)
        have hji4w : (IntKind.i64.wrap (x1_1 - 1)) = ji4 := (i64_w _).trans hji4
        by_cases c5 : 0 ≤ (ji4)
        · rw [if_pos c5] at H
          have c5b0 : decide (0 ≤ (ji4)) = true := decide_eq_true c5
          clear c5
          by_cases c6 : (ji4) < (l0.length : Int)
          · rw [if_pos c6] at H
            have c6b0 : decide ((ji4) < (l0.length : Int)) = true := decide_eq_true c6
            clear c6
            have H' := zk H
            clear H
            have p365 : 0 ≤ ((ji4) : Int) := zo (by assumption)
            have q365 : (ji4) < (l0.length : Int) := zo (by assumption)
            obtain ⟨ad365, A365_5, c365_5, e365, hx365_0, hx365_1, hx365_2, hx365_3, hx365_4, hx365_5, hl365_5, hi365_5⟩ := at_T53 HR0.out (ji4) p365 q365
            cases e365
            have HR365_5 := zk hi365_5
            have HC365_5 := zk hl365_5
            clear hi365_5 hl365_5
            replace p365 := eq_true p365
            replace q365 := eq_true q365
            go_wp2
            go_roundg k1
            case measure => have := HK1.out; omega
            case rel => exact ⟨((rd_T53 l0 (ji4)).f1), (wrap64 (x5_1 + 1)), (by first | rfl | (simp; done) | (simp only [← hji4] <;> (first | rfl | simp)) | (simp [*]; done)), (by first | rfl | (simp; done) | (simp [*]; done)), H', ⟨by have := HK1.out; omega⟩, by repeat (first | exact Drawn0.refl _ | apply Drawn0.step)⟩
          · rw [if_neg c6] at H
            exact absurd H (by simp)
        · rw [if_neg c5] at H
          exact absurd H (by simp)
      · rw [if_neg c3] at H
        have c3b0 : decide (0 < x1_1) = false := decide_eq_false c3; clear c3; obtain rfl := Option.some.inj H; go_wp2; go_ret; exact ⟨by first | rfl | (simp; done) | (simp [*]; done), by repeat (first | exact Drawn0.refl _ | apply Drawn0.step)⟩
end Go.Proofs.Ytcebfldagnjddaa.G
