/- What the claim LawFlatTrees rests on, part 5 of 7: the kit's words, the printed walks, the walks by hand, the plain laws. -/
import Derived.Test.YtcebfldagnjddaaB4
import Derived.Laws.EntriesVeiled
namespace Go.Proofs.Ytcebfldagnjddaa.G
open List renaming setIfInBounds_toArray → zt, set_cons_zero → zu, set_cons_succ → zv
open Bool renaming true → tT, false → fF
open Go.RowKit Go.Proofs.YtcebfldagnjddaaW.PrintWords Go.Proofs.YtcebfldagnjddaaW.PrintLast Go.Proofs.YtcebfldagnjddaaW.PrintMore
set_option linter.unusedVariables false
set_option linter.unusedSimpArgs false
def mapO {α β : Type} (f : α → Option β) : List α → Option (List β)
  | [] => some []
  | x :: xs => (f x).bind fun y => (mapO f xs).bind fun ys => some (y :: ys)
theorem mapO_get {α β : Type} {f : α → Option β} : ∀ (xs : List α) (ys : List β), mapO f xs = some ys → xs.length = ys.length ∧ ∀ (i : Nat) x, xs[i]? = some x → ∃ y, ys[i]? = some y ∧ f x = some y := by
  intro xs
  induction xs with
  | nil =>
    intro ys h; obtain rfl := Option.some.inj h; exact ⟨rfl, fun i x hx => by simp at hx⟩
  | cons a xs ih =>
    intro ys h; rw [mapO] at h; obtain ⟨y, hy, h⟩ := Option.bind_eq_some_iff.1 h; obtain ⟨zs, hz, h⟩ := Option.bind_eq_some_iff.1 h; obtain rfl := Option.some.inj h; obtain ⟨hl, hg⟩ := ih zs hz; refine ⟨by simp [hl], fun i x hx => ?_⟩
    cases i with
    | zero =>
      rw [List.getElem?_cons_zero] at hx; obtain rfl := Option.some.inj hx; exact ⟨y, by simp, hy⟩
    | succ i =>
      rw [List.getElem?_cons_succ] at hx; obtain ⟨y2, h1, h2⟩ := hg i x hx; exact ⟨y2, by simpa using h1, h2⟩
def tree13 : Nat → List S53 → Int → Option S25
  | 0, _, _ => none
  | k + 1, l, h => if 0 ≤ wrap64 (h - 1) ∧ wrap64 (h - 1) < l.length then (r13_Kids.f k l h).bind fun ks => if ks.length ≤ 1000000 then (mapO (tree13 k l) ks).bind fun T => some ⟨(rd_T53 l (wrap64 (h - 1))).f2, (rd_T53 l (wrap64 (h - 1))).f3, (rd_T53 l (wrap64 (h - 1))).f4, (rd_T53 l (wrap64 (h - 1))).f5, T⟩ else none else none
def r13_Tree.f (k : Nat) (l0 : List S53) (a1 : Int) : Option (ByteArray × ByteArray × ByteArray × List S69 × List S25) := (tree13 k l0 a1).bind fun x => some (x.f0, x.f1, x.f2, x.f3, x.f4)
theorem set5 {W : World} {g : Nat} {u0 u1 u2 u3 u4 : Value} (h : W.heap[g]? = some (.cells #[u0, u1, u2, u3, u4] 25 (0, 0))) (v0 v1 v2 v3 v4 : Value) : (((((W.setCell ⟨g, 0, none⟩ v0).setCell ⟨g, 1, none⟩ v1).setCell ⟨g, 2, none⟩ v2).setCell ⟨g, 3, none⟩ v3).setCell ⟨g, 4, none⟩ v4).heap[g]? = some (.cells #[v0, v1, v2, v3, v4] 25 (0, 0)) :=
  zP (cs := #[v0, v1, v2, v3, u4]) (zP (cs := #[v0, v1, v2, u3, u4]) (zP (cs := #[v0, v1, u2, u3, u4]) (zP (cs := #[v0, u1, u2, u3, u4]) (zP (cs := #[u0, u1, u2, u3, u4]) h 0 v0 rfl) 1 v1 rfl) 2 v2 rfl) 3 v3 rfl) 4 v4 rfl
theorem set5_far {W : World} {g b : Nat} (h : b ≠ g) (v0 v1 v2 v3 v4 : Value) : (((((W.setCell ⟨g, 0, none⟩ v0).setCell ⟨g, 1, none⟩ v1).setCell ⟨g, 2, none⟩ v2).setCell ⟨g, 3, none⟩ v3).setCell ⟨g, 4, none⟩ v4).heap[b]? = W.heap[b]? := by
  rw [Below.heap_setCell _ ⟨g, 4, none⟩ v4 b h, Below.heap_setCell _ ⟨g, 3, none⟩ v3 b h, Below.heap_setCell _ ⟨g, 2, none⟩ v2 b h, Below.heap_setCell _ ⟨g, 1, none⟩ v1 b h, Below.heap_setCell _ ⟨g, 0, none⟩ v0 b h]
theorem set5_below {w0 W : World} {g : Nat} (h : Below w0.heap.size w0 W) (hg : w0.heap.size ≤ g) (v0 v1 v2 v3 v4 : Value) : Below w0.heap.size w0 (((((W.setCell ⟨g, 0, none⟩ v0).setCell ⟨g, 1, none⟩ v1).setCell ⟨g, 2, none⟩ v2).setCell ⟨g, 3, none⟩ v3).setCell ⟨g, 4, none⟩ v4) :=
  zS (zS (zS (zS (zS h hg) hg) hg) hg) hg
/-- The two variables in memory that last: the result, the node. -/
structure TF (w : World) (g1 g3 : Nat) (r3 : Array Value) (W : World) : Prop where
  b1 : W.heap[g1]? = some (.cells #[.string ⟨#[]⟩, .string ⟨#[]⟩, .string ⟨#[]⟩, .slice none 0 0, .slice none 0 0] 25 (0, 0))
  b3 : W.heap[g3]? = some (.cells r3 25 (0, 0))
  B : Below w.heap.size w W
  l1 : w.heap.size ≤ g1
  l2 : g1 < g3
theorem TF.below {w W W' : World} {g1 g3 : Nat} {r3 : Array Value} (h : TF w g1 g3 r3 W) (hb : Below W.heap.size W W') : TF w g1 g3 r3 W' :=
  ⟨blk_below h.b1 hb, blk_below h.b3 hb, h.B.trans (hb.mono h.B.size), h.l1, h.l2⟩
theorem TF.put {w W : World} {g1 g3 : Nat} {r3 r4 : Array Value} (h : TF w g1 g3 r3 W) (i : Nat) (u : Value) (e : r3.setIfInBounds i u = r4) : TF w g1 g3 r4 (W.setCell ⟨g3, i, none⟩ u) :=
  ⟨zG h.b1 (p := ⟨g3, i, none⟩) (Nat.ne_of_lt h.l2) u, zP h.b3 i u e, zS h.B (Nat.le_trans h.l1 (Nat.le_of_lt h.l2)), h.l1, h.l2⟩
def T13 (k : Nat) : Prop := ∀ (ok0 : Nat → Prop) (A0 : Option Addr) (c0 : Nat) (l0 : List S53) (a1 : Int) (n : S25) (w : World) (hs0 : Kd.V k53 53 w w.heap.size ok0 (.slice A0 l0.length c0) l0) (h : tree13 k l0 a1 = some n),
    Calls Try.prog 24 #[.slice A0 l0.length c0, .int .i64 a1] w fun e w' => ∃ v3_ v4_ : Value, e = .returned (.agg #[.string n.f0, .string n.f1, .string n.f2, v3_, v4_]) ∧ Kd.V k69 69 w' w.heap.size (fun k_ => ok0 k_ ∨ w.heap.size ≤ k_) v3_ n.f3 ∧ Kd.V k25 25 w' w.heap.size (fun k_ => ok0 k_ ∨ w.heap.size ≤ k_) v4_ n.f4 ∧ Below w.heap.size w w'
set_option maxHeartbeats 4000000 in
set_option maxRecDepth 100000 in
theorem treeWalk (k : Nat) : T13 k := by
  induction k with
  | zero => intro ok0 A0 c0 l0 a1 n w hs0 h; rw [tree13] at h; cases h
  | succ k ih =>
  intro ok0 A0 c0 l0 a1 n w hs0 h; rw [tree13] at h; split at h
  case isFalse => cases h
  rename_i hin
  obtain ⟨ks, hks, h⟩ := Option.bind_eq_some_iff.1 h; split at h
  case isFalse => cases h
  rename_i hkl
  obtain ⟨TT, hTT, h⟩ := Option.bind_eq_some_iff.1 h; obtain rfl := Option.some.inj h; clear h; have HV := zk (Kd.V_bound hs0); have IH := zk ih; have KS := zk hks; have KL := zk hkl; have HT := zk (mapO_get _ _ hTT); have HC := zk (Kd.V_reads' hs0).2.2; have HD := zk (Kd.V_reads' hs0).2.1; obtain ⟨h0, h1⟩ := hin
  obtain ⟨ad, hA⟩ : ∃ ad, A0 = some ad := by
    obtain ⟨ad, A5, c5, eA, _⟩ := at_T53 HC.out _ h0 h1; exact ⟨ad, eA⟩
  subst hA; obtain ⟨cs, _, hK, hcc⟩ := Kd.V_get HV.out z53 _ h0 h1; obtain ⟨A5, c5, rfl, hl5, hF5⟩ := k53_openF hK; have hj0 : decide (0 ≤ wrap64 (a1 - 1)) = true := decide_eq_true h0; have hj1 : decide (wrap64 (a1 - 1) < (l0.length : Int)) = true := decide_eq_true h1; have p0 := eq_true h0; have p1 := eq_true h1; obtain ⟨x, hx⟩ : ∃ x, rd_T53 l0 (wrap64 (a1 - 1)) = x := ⟨_, rfl⟩; have hx2 : List.getD l0 (wrap64 (a1 - 1)).toNat z53 = x := hx; rw [hx]; rw [hx2] at hl5 hF5 hcc; have HL5 := zk hl5; have HF5 := zk hF5; have t0 : w.cell? (ad.add ((wrap64 (a1 - 1)).toNat * 6)) = some (.int .i64 x.f0) := hcc 0 _ rfl
  have t1 : w.cell? ⟨(ad.add ((wrap64 (a1 - 1)).toNat * 6)).block, (ad.add ((wrap64 (a1 - 1)).toNat * 6)).off + 1, none⟩ = some (.int .i64 x.f1) := by rw [← add_field _ _ 1 (by omega)]; exact hcc 1 _ rfl
  have t2 : w.cell? ⟨(ad.add ((wrap64 (a1 - 1)).toNat * 6)).block, (ad.add ((wrap64 (a1 - 1)).toNat * 6)).off + 2, none⟩ = some (.string x.f2) := by rw [← add_field _ _ 2 (by omega)]; exact hcc 2 _ rfl
  have t3 : w.cell? ⟨(ad.add ((wrap64 (a1 - 1)).toNat * 6)).block, (ad.add ((wrap64 (a1 - 1)).toNat * 6)).off + 3, none⟩ = some (.string x.f3) := by rw [← add_field _ _ 3 (by omega)]; exact hcc 3 _ rfl
  have t4 : w.cell? ⟨(ad.add ((wrap64 (a1 - 1)).toNat * 6)).block, (ad.add ((wrap64 (a1 - 1)).toNat * 6)).off + 4, none⟩ = some (.string x.f4) := by rw [← add_field _ _ 4 (by omega)]; exact hcc 4 _ rfl
  have t5 : w.cell? ⟨(ad.add ((wrap64 (a1 - 1)).toNat * 6)).block, (ad.add ((wrap64 (a1 - 1)).toNat * 6)).off + 5, none⟩ = some (.slice A5 x.f5.length c5) := by rw [← add_field _ _ 5 (by omega)]; exact hcc 5 _ rfl
  have TS := zk (⟨t0, t1, t2, t3, t4, t5⟩ : _ ∧ _ ∧ _ ∧ _ ∧ _ ∧ _); clear t0 t1 t2 t3 t4 t5 hK hcc hl5 hF5 hx hx2 hks hkl hTT ih hs0 h0 h1; dsimp only
  go_enter Try.func24, Try.ntmps24
  go_upto_region 2 with (first | ((with_reducible refine gd (N := 4) rfl ?_); refine zb ?hg (N := 4) ?hd (cs := #[.string ⟨#[]⟩, .string ⟨#[]⟩, .string ⟨#[]⟩, .slice none 0 0, .slice none 0 0]) (t := 25) ?hr ?_; (case hd => rfl); (case hg => rfl); (case hr => go_simp; first | done | rfl); intro g1 hg w1 hbox hb1; have X1 := zk hbox; have B1 := zk hb1; have G1 := zk hg; obtain ⟨t0, t1, t2, t3, t4, t5⟩ := TS.out; replace t0 := (hb1.cell (World.block_lt_of_cell? w _ t0)).trans t0; replace t1 := (hb1.cell (World.block_lt_of_cell? w _ t1)).trans t1; replace t2 := (hb1.cell (World.block_lt_of_cell? w _ t2)).trans t2; replace t3 := (hb1.cell (World.block_lt_of_cell? w _ t3)).trans t3; replace t4 := (hb1.cell (World.block_lt_of_cell? w _ t4)).trans t4; replace t5 := (hb1.cell (World.block_lt_of_cell? w _ t5)).trans t5; clear hbox hb1 hg; have r0 : w1.cell? ⟨g1, 0, none⟩ = some (.string ⟨#[]⟩) := (zC X1.out 0).trans rfl; have r1 : w1.cell? ⟨g1, 1, none⟩ = some (.string ⟨#[]⟩) := (zC X1.out 1).trans rfl; have r2 : w1.cell? ⟨g1, 2, none⟩ = some (.string ⟨#[]⟩) := (zC X1.out 2).trans rfl; have r3 : w1.cell? ⟨g1, 3, none⟩ = some (.slice none 0 0) := (zC X1.out 3).trans rfl; have r4 : w1.cell? ⟨g1, 4, none⟩ = some (.slice none 0 0) := (zC X1.out 4).trans rfl; have s0 := zR X1.out 0; have s1 := zR X1.out 1; have s2 := zR X1.out 2; have s3 := zR X1.out 3; have s4 := zR X1.out 4) | ((with_reducible refine gd (N := 5) rfl ?_); refine zb ?hg (N := 5) ?hd (cs := #[.int .i64 0, .int .i64 0, .string ⟨#[]⟩, .string ⟨#[]⟩, .string ⟨#[]⟩, .slice none 0 0]) (t := 53) ?hr ?_; (case hd => rfl); (case hg => rfl); (case hr => go_simp; first | done | rfl); intro g2 hg w2 hbox hb1; have X2 := zk hbox; have B2 := zk hb1; have G2 := zk hg; clear t0 t1 t2 t3 t4 t5 r0 r1 r2 r3 r4 s0 s1 s2 s3 s4; clear hbox hb1 hg; have q0 : w2.cell? ⟨g2, 0, none⟩ = some (.int .i64 0) := (zC X2.out 0).trans rfl; have q1 : w2.cell? ⟨g2, 1, none⟩ = some (.int .i64 0) := (zC X2.out 1).trans rfl; have q2 : w2.cell? ⟨g2, 2, none⟩ = some (.string ⟨#[]⟩) := (zC X2.out 2).trans rfl; have q3 : w2.cell? ⟨g2, 3, none⟩ = some (.string ⟨#[]⟩) := (zC X2.out 3).trans rfl; have q4 : w2.cell? ⟨g2, 4, none⟩ = some (.string ⟨#[]⟩) := (zC X2.out 4).trans rfl; have q5 : w2.cell? ⟨g2, 5, none⟩ = some (.slice none 0 0) := (zC X2.out 5).trans rfl; have z0 := zR X2.out 0; have z1 := zR X2.out 1; have z2 := zR X2.out 2; have z3 := zR X2.out 3; have z4 := zR X2.out 4; have z5 := zR X2.out 5))
  obtain ⟨W2, hW2⟩ : ∃ W2, set6 w2 g2 (.int .i64 x.f0) (.int .i64 x.f1) (.string x.f2) (.string x.f3) (.string x.f4) (.slice A5 x.f5.length c5) = W2 := ⟨_, rfl⟩; have Y2 := zk (show W2.heap[g2]? = some (.cells #[.int .i64 x.f0, .int .i64 x.f1, .string x.f2, .string x.f3, .string x.f4, .slice A5 x.f5.length c5] 53 (0, 0)) by rw [← hW2]; exact put6 X2.out _ _ _ _ _ _); have Y1 := zk (show W2.heap[g1]? = some (.cells #[.string ⟨#[]⟩, .string ⟨#[]⟩, .string ⟨#[]⟩, .slice none 0 0, .slice none 0 0] 25 (0, 0)) by rw [← hW2]; exact far6 (blk_below X1.out B2.out) (by have := blk_lt X1.out; have := G2.out; omega) _ _ _ _ _ _); have BB := zk (show Below w.heap.size w W2 by rw [← hW2]; exact below6 (B1.out.trans (B2.out.mono B1.out.size)) (by have := B1.out.size; have := G2.out; omega) _ _ _ _ _ _); unfold set6 at hW2; rw [hW2]; have HG1 := zk (show w.heap.size ≤ g1 by have := G1.out; omega); clear hW2 q0 q1 q2 q3 q4 q5 z0 z1 z2 z3 z4 z5 X1 X2 B1 B2 G1 G2; have f2 : W2.cell? ⟨g2, 2, none⟩ = some (.string x.f2) := (zC Y2.out 2).trans rfl; have f3 : W2.cell? ⟨g2, 3, none⟩ = some (.string x.f3) := (zC Y2.out 3).trans rfl; have f4 : W2.cell? ⟨g2, 4, none⟩ = some (.string x.f4) := (zC Y2.out 4).trans rfl; have f5 : W2.cell? ⟨g2, 5, none⟩ = some (.slice A5 x.f5.length c5) := (zC Y2.out 5).trans rfl
  go_upto_region 3 with ((with_reducible refine gd (N := 6) rfl ?_); refine zb ?hg (N := 6) ?hd (cs := #[.string ⟨#[]⟩, .string ⟨#[]⟩, .string ⟨#[]⟩, .slice none 0 0, .slice none 0 0]) (t := 25) ?hr ?_; (case hd => rfl); (case hg => rfl); (case hr => go_simp; first | done | rfl); intro g3 hg w3 hbox hb1; have X3 := zk hbox; have B3 := zk hb1; have G3 := zk hg; clear f2 f3 f4 f5; clear hbox hb1 hg; have q0 : w3.cell? ⟨g3, 0, none⟩ = some (.string ⟨#[]⟩) := (zC X3.out 0).trans rfl; have q1 : w3.cell? ⟨g3, 1, none⟩ = some (.string ⟨#[]⟩) := (zC X3.out 1).trans rfl; have q2 : w3.cell? ⟨g3, 2, none⟩ = some (.string ⟨#[]⟩) := (zC X3.out 2).trans rfl; have q3 : w3.cell? ⟨g3, 3, none⟩ = some (.slice none 0 0) := (zC X3.out 3).trans rfl; have q4 : w3.cell? ⟨g3, 4, none⟩ = some (.slice none 0 0) := (zC X3.out 4).trans rfl; have z0 := zR X3.out 0; have z1 := zR X3.out 1; have z2 := zR X3.out 2; have z3 := zR X3.out 3; have z4 := zR X3.out 4)
  obtain ⟨W, hW⟩ : ∃ W, (((((w3.setCell ⟨g3, 0, none⟩ (.string x.f2)).setCell ⟨g3, 1, none⟩ (.string x.f3)).setCell ⟨g3, 2, none⟩ (.string x.f4)).setCell ⟨g3, 3, none⟩ (.slice A5 x.f5.length c5)).setCell ⟨g3, 4, none⟩ (.slice none 0 0)) = W := ⟨_, rfl⟩; rw [hW]
  have T := zk (show TF w g1 g3 #[.string x.f2, .string x.f3, .string x.f4, .slice A5 x.f5.length c5, .slice none 0 0] W from by
    have h1 := blk_lt Y1.out; have h3 := G3.out; have h4 := HG1.out; have h5 := BB.out.size; refine ⟨?_, ?_, ?_, by omega, by omega⟩; (rw [← hW, set5_far (by omega)]; exact blk_below Y1.out B3.out); (rw [← hW]; exact set5 X3.out _ _ _ _ _)
    · rw [← hW]; exact set5_below (BB.out.trans (B3.out.mono BB.out.size)) (by omega) _ _ _ _ _)
  clear hW q0 q1 q2 q3 q4 z0 z1 z2 z3 z4 X3 B3 G3 Y1 Y2 BB HG1
  go_upto_region 4 with (go_at_call 21; refine (r13_Kids.calls k (some ad) c0 l0 a1 ks _ (Kd.C_below HC.out T.out.B) HD.out KS.out).mono ?_; rintro e w5 ⟨vk, rfl, hrk, hb5⟩; have T5 := zk (T.out.below hb5); have RK := zk (Kd.R_lower (Kd.R_mono (ok' := fun k => (w.heap.size ≤ k ∧ k ≠ g1 ∧ k ≠ g3) ∧ some k ≠ (Value.slice none 0 0).ownBlock) (Kd.R_bound hrk) (fun k hk => by have := blk_lt T.out.b1; have := blk_lt T.out.b3; have := T.out.B.size; exact ⟨⟨by omega, by omega, by omega⟩, by simp [Value.ownBlock]⟩)) T.out.B.size); clear hrk hb5; obtain ⟨Ak, ck, ev⟩ := Kd.R_slice RK.out; subst ev)
  clear T; obtain ⟨m, hm⟩ : ∃ m, ks.length = m := ⟨_, rfl⟩; have HM := zk hm; rw [hm] at RK; rw [hm]; clear hm; have HIN := zk (⟨p0, p1, hj0, hj1⟩ : _ ∧ _ ∧ _ ∧ _); clear p0 p1 hj0 hj1
  go_wp2_with fail
  go_loopg [28] m (fun kq v28 W' => ∃ (i : Int) (u : Value), v28 = .int .i64 i ∧ Aside0 (0 ≤ i ∧ i + kq = m) ∧ Aside0 (TF w g1 g3 #[.string x.f2, .string x.f3, .string x.f4, .slice A5 x.f5.length c5, u] W') ∧ Aside0 (Kd.R (Kd.int .i64) 3 W' w.heap.size (fun k => (w.heap.size ≤ k ∧ k ≠ g1 ∧ k ≠ g3) ∧ some k ≠ u.ownBlock) (.slice Ak m ck) ks) ∧ Aside0 (Kd.N k25 25 W' w.heap.size (fun k => (ok0 k ∧ k < w.heap.size) ∨ (w.heap.size ≤ k ∧ k ≠ g1 ∧ k ≠ g3)) u (TT.take i.toNat)))
  case atStart => exact ⟨0, .slice none 0 0, rfl, ⟨by omega, by omega⟩, T5, RK, ⟨Kd.N_nil _ _ _ _ _⟩⟩
  case round =>
  clear T5 RK; obtain ⟨i, u, rfl, HI, T, RK, N⟩ := hrel
  cases gk with
  | zero =>
    have hib : decide (i < (m : Int)) = false := decide_eq_false (by have := HI.out; omega); have htk : TT.take i.toNat = TT := List.take_of_length_le (by have := HI.out; have := HT.out.1; have := HM.out; omega); rw [htk] at N; obtain ⟨A1, e1, rfl⟩ := Kd.N_slice N.out; clear HI htk; have c30 := (zC T.out.b3 0).trans rfl; have c31 := (zC T.out.b3 1).trans rfl; have c32 := (zC T.out.b3 2).trans rfl; have c33 := (zC T.out.b3 3).trans rfl; have c34 := (zC T.out.b3 4).trans rfl; have c20 := (zC T.out.b1 0).trans rfl; have c21 := (zC T.out.b1 1).trans rfl; have c22 := (zC T.out.b1 2).trans rfl; have c23 := (zC T.out.b1 3).trans rfl; have c24 := (zC T.out.b1 4).trans rfl; have f20 := zR T.out.b1 0; have f21 := zR T.out.b1 1; have f22 := zR T.out.b1 2; have f23 := zR T.out.b1 3; have f24 := zR T.out.b1 4
    go_wp2_with fail
    refine bodyPost_ret (results_cell_row rfl _ _ g1 25 #[.string x.f2, .string x.f3, .string x.f4, .slice A5 x.f5.length c5, .slice A1 TT.length e1] (0, 0) _ rfl (set5 T.out.b1 _ _ _ _ _) Try.underlying25 rfl (by kernel_rfl)) rfl ?_; have bb := set5_below T.out.B T.out.l1 (.string x.f2) (.string x.f3) (.string x.f4) (.slice A5 x.f5.length c5) (.slice A1 TT.length e1)
    have hP : ∀ k, ((ok0 k ∧ k < w.heap.size) ∨ (w.heap.size ≤ k ∧ k ≠ g1 ∧ k ≠ g3)) → k ≠ g1 := fun k hk => hk.elim (fun h => by have := T.out.l1; omega) (fun h => h.2.1)
    refine ⟨_, _, rfl, Kd.V_mk HL5.out (Kd.F_mono (Kd.F_below HF5.out bb) (fun k hk => .inl hk.1)), ?_, bb⟩; exact Kd.V_mono (Kd.V_far (p := ⟨g1, 4, none⟩) (Kd.V_far (p := ⟨g1, 3, none⟩) (Kd.V_far (p := ⟨g1, 2, none⟩) (Kd.V_far (p := ⟨g1, 1, none⟩) (Kd.V_far (p := ⟨g1, 0, none⟩) (Kd.N_V N.out) hP _) hP _) hP _) hP _) hP _) (fun k hk => hk.elim (fun h => .inl h.1) (fun h => .inr h.1))
  | succ k1 =>
  have hib : decide (i < (m : Int)) = true := decide_eq_true (by have := HI.out; omega); have hi0 : decide (0 ≤ i) = true := decide_eq_true HI.out.1; have q0 := eq_true (show 0 ≤ i from HI.out.1); have q1 := eq_true (show i < (m : Int) by have := HI.out; omega); have hwi : IntKind.i64.wrap (i + 1) = i + 1 := IntWalk.i64_in _ (by have := HI.out; have := KL.out; have := HM.out; omega); obtain ⟨kd, eK, tk⟩ := Kd.at_int (Kd.R_reads' RK.out).2.2 i HI.out.1 (by have := HI.out; have := HM.out; omega); subst eK; obtain ⟨y, hy⟩ : ∃ y, rd ks i = y := ⟨_, rfl⟩; rw [hy] at tk
  obtain ⟨z, hz, hzt⟩ : ∃ z, TT[i.toNat]? = some z ∧ tree13 k l0 y = some z := by
    refine HT.out.2 i.toNat y ?_
    have h1 : i.toNat < ks.length := by have := HI.out; have := HM.out; omega
    rw [List.getElem?_eq_getElem h1, ← hy]; unfold rd; rw [List.getD_eq_getElem?_getD, List.getElem?_eq_getElem h1]; rfl
  have HZ := zk hzt
  have HTK := zk (show TT.take (i + 1).toNat = TT.take i.toNat ++ [z] by
    rw [show (i + 1).toNat = i.toNat + 1 by have := HI.out; omega, List.take_add_one, hz]; rfl)
  clear hy hz hzt; have c34 : wr.cell? ⟨g3, 4, none⟩ = some u := (zC T.out.b3 4).trans rfl
  go_wp2_with fail
  refine start_ (n := 12) (S := (fun w' => w'.cell? ⟨g3, 4, none⟩ = some u ∧ w'.cell? (kd.add i.toNat) = some (.int .i64 y))) (ds := [11]) #[fF,fF,fF,fF,fF,fF,fF,fF,fF,fF,fF,fF] (by kernel_rfl) rfl rfl ?_ ?_; (exact ⟨c34, tk⟩); intro hHeld; obtain ⟨W5, hW5⟩ : ∃ W5, wr.drew = W5 := ⟨_, rfl⟩; rw [hW5] at hHeld ⊢; have T5 := zk (T.out.below (hW5 ▸ below_drew (Below.refl _ _))); have R5 := zk (show Kd.R (Kd.int .i64) 3 W5 _ _ _ _ from hW5 ▸ Kd.R_drew RK.out); have N5 := zk (show Kd.N k25 25 W5 _ _ _ _ from hW5 ▸ Kd.N_drew N.out); clear hW5; refine pure_ (i := 0) (N := some 31) (v := ?_) (a' := ?_) #[tT,fF,fF,fF,fF,fF,fF,fF,fF,fF,fF,fF] rfl rfl (by kernel_rfl) (fun _ _ _ h => h) (Or.inl ⟨by rfl, ?_⟩) ?_ ?_; rotate_left; (intro w'; go_simp; (with_reducible rfl)); rotate_left; (simp only [Act.put, zt, zu, zv, i64_w, i32_w]; rfl); refine pure_ (i := 2) (N := some 33) (v := ?_) (a' := ?_) #[tT,fF,tT,fF,fF,fF,fF,fF,fF,fF,fF,fF] rfl rfl (by kernel_rfl) (fun _ _ _ h => h) (Or.inl ⟨by rfl, ?_⟩) ?_ ?_; rotate_left; (intro w'; go_simp; (with_reducible rfl)); rotate_left; (simp only [Act.put, zt, zu, zv, i64_w, i32_w]; rfl); refine pure_ (i := 3) (N := some 34) (v := ?_) (a' := ?_) #[tT,fF,tT,tT,fF,fF,fF,fF,fF,fF,fF,fF] rfl rfl (by kernel_rfl) (fun _ _ _ h => h) (Or.inl ⟨by rfl, ?_⟩) ?_ ?_; rotate_left; (intro w'; go_simp; (with_reducible rfl)); rotate_left; (simp only [Act.put, zt, zu, zv, i64_w, i32_w]; rfl); refine pure_ (i := 4) (N := some 35) (v := ?_) (a' := ?_) #[tT,fF,tT,tT,tT,fF,fF,fF,fF,fF,fF,fF] rfl rfl (by kernel_rfl) (fun _ _ _ h => h) (Or.inl ⟨by rfl, ?_⟩) ?_ ?_; rotate_left; (intro w'; go_simp; (with_reducible rfl)); rotate_left; (simp only [Act.put, zt, zu, zv, i64_w, i32_w]; rfl); refine pure_ (i := 5) (N := some 36) (v := ?_) (a' := ?_) #[tT,fF,tT,tT,tT,tT,fF,fF,fF,fF,fF,fF] rfl rfl (by kernel_rfl) (fun _ _ _ h => h) (Or.inl ⟨by rfl, ?_⟩) ?_ ?_; rotate_left; (intro w'; go_simp; (with_reducible rfl)); rotate_left; (simp only [Act.put, zt, zu, zv, i64_w, i32_w]; rfl); refine take_ (i := 1) (N := some 32) (v := ?_) (a' := ?_) #[tT,tT,tT,tT,tT,tT,fF,fF,fF,fF,fF,fF] rfl rfl (by kernel_rfl) (fun _ _ _ h => h) (Or.inl ⟨by rfl, ?_⟩) hHeld ?_ ?_; rotate_left; (rintro w' ⟨s0, s1⟩; go_simp; (with_reducible rfl)); rotate_left; (simp only [Act.put, zt, zu, zv, i64_w, i32_w]; rfl); refine take_ (i := 6) (N := some 37) (v := ?_) (a' := ?_) #[tT,tT,tT,tT,tT,tT,tT,fF,fF,fF,fF,fF] rfl rfl (by kernel_rfl) (fun _ _ _ h => h) (Or.inl ⟨by rfl, ?_⟩) hHeld ?_ ?_; rotate_left; (rintro w' ⟨s0, s1⟩; go_simp; (with_reducible rfl)); rotate_left; (simp only [Act.put, zt, zu, zv, i64_w, i32_w]; rfl); refine one_ (i := 7) (N := some 38) #[tT,tT,tT,tT,tT,tT,tT,tT,fF,fF,fF,fF] rfl rfl (by kernel_rfl) (by decide) (fun K hK => ?_); refine goes_ Try.func24 (by kernel_rfl) rfl #[.slice (some ad) l0.length c0, .int .i64 y] (by rfl) rfl rfl (by (try simp only [List.map_toArray, List.map_cons, List.map_nil]); first | done | rfl) ?_; refine (IH.out (fun k => ok0 k ∧ k < w.heap.size) (some ad) c0 l0 y z W5 (show Kd.V k53 53 W5 W5.heap.size _ _ _ from Kd.V_below HV.out T5.out.B) HZ.out).mono ?_; rintro e W6 ⟨_, _, rfl, ⟨b3, e3, rfl, he3, hF3⟩, ⟨b4, e4, rfl, he4, hF4⟩, hb⟩; refine ⟨_, rfl, ?_⟩; have T6 := zk (T5.out.below hb); have R6 := zk (Kd.R_below R5.out hb); have N6 := zk (Kd.N_below N5.out hb)
  have hok : ∀ k, ((ok0 k ∧ k < w.heap.size) ∨ W5.heap.size ≤ k) → ((ok0 k ∧ k < w.heap.size) ∨ (w.heap.size ≤ k ∧ k ≠ g1 ∧ k ≠ g3)) ∧ some k ≠ u.ownBlock := by
    intro k hk; have := blk_lt T5.out.b1; have := blk_lt T5.out.b3; have := T5.out.B.size
    rcases hk with hk | hk
    (exact ⟨.inl hk, fun e => by have := Kd.N_base N5.out k e.symm; omega⟩); (exact ⟨.inr ⟨by omega, by omega, by omega⟩, fun e => by have := Kd.N_lt N5.out k e.symm; omega⟩)
  have P6 := zk (show Kd.FK k25 W6 (fun k => ((ok0 k ∧ k < w.heap.size) ∨ (w.heap.size ≤ k ∧ k ≠ g1 ∧ k ≠ g3)) ∧ some k ≠ u.ownBlock) z [.string z.f0, .string z.f1, .string z.f2, .slice b3 z.f3.length e3, .slice b4 z.f4.length e4] from k25_mkF W6 _ z he3 (Kd.F_mono hF3 hok) he4 (Kd.F_mono hF4 hok))
  have hs := fun (a : Addr) (v : Value) (h : W5.cell? a = some v) => (hb.cell (World.block_lt_of_cell? W5 _ h)).trans h
  refine hK.out _ _ ⟨hs _ _ hHeld.1, hs _ _ hHeld.2⟩ (fun hHeld => ?_); clear hs hok hF3 hF4 he3 he4 hb T5 R5 N5; clear hK K; refine norm_ (a' := ?_) ?_ ?_; rotate_left
  · show Act.put _ (some 38) _ = _
    simp only [Act.put, zt, zu, zv, i64_w, i32_w]
    rfl
  refine one_ (i := 8) (N := some 39) #[tT,tT,tT,tT,tT,tT,tT,tT,tT,fF,fF,fF] rfl rfl (by kernel_rfl) (by decide) (fun K hK => ?_); refine value_ (w1 := ?_) (v := ?_) (by rfl) rfl ?_ ?_; rotate_left 2
  · go_simp
    constructor
    · rfl
    · rfl
  have hs := fun (a : Addr) (v : Value) (h : W6.cell? a = some v) (o : Obj) => (World.cell?_alloc_lt W6 o _ (World.block_lt_of_cell? W6 _ h)).trans h
  refine hK.out _ _ ⟨hs _ _ hHeld.1 _, hs _ _ hHeld.2 _⟩ (fun hHeld2 => ?_); clear hs; clear hK K; refine norm_ (a' := ?_) ?_ ?_; rotate_left
  · show Act.put _ (some 39) _ = _
    simp only [Act.put, zt, zu, zv, i64_w, i32_w]
    rfl
  refine one_ (i := 9) (N := some 40) #[tT,tT,tT,tT,tT,tT,tT,tT,tT,tT,fF,fF] rfl rfl (by kernel_rfl) (by decide) (fun K hK => ?_); refine Kd.N_append_step k25 (w0 := w) (W := W6) w.heap.size (by rfl) (.tmp 32) (.tmp 39) 23 25 (.agg #[(.string ⟨#[]⟩), (.string ⟨#[]⟩), (.string ⟨#[]⟩), (.slice none 0 0), (.slice none 0 0)]) 96 rfl Try.underlying23 info25 rfl (by decide) (by decide) u (TT.take i.toNat) z [.string z.f0, .string z.f1, .string z.f2, .slice b3 z.f3.length e3, .slice b4 z.f4.length e4] (fun k => (ok0 k ∧ k < w.heap.size) ∨ (w.heap.size ≤ k ∧ k ≠ g1 ∧ k ≠ g3)) _ rfl rfl P6.out (fun _ h => h) (fun k hk => .inr (by have := blk_lt T6.out.b1; have := blk_lt T6.out.b3; have := T6.out.B.size; exact ⟨by omega, by omega, by omega⟩)) N6.out T6.out.B T6.out.B.size (by have := KL.out; have := HT.out.1; simp only [List.length_take]; omega) ?_; intro u1 W7 hn hb hg hat; have N7 := zk hn; have R7 := zk (Kd.R_after R6.out hg hat)
  have hnu : ∀ g o, W6.heap[g]? = some o → (¬ ((ok0 g ∧ g < w.heap.size) ∨ (w.heap.size ≤ g ∧ g ≠ g1 ∧ g ≠ g3))) → W7.heap[g]? = some o := fun g o ho hne => blk_grown ho hg (fun e => hne (N6.out.1 g e.symm))
  have T7 := zk (show TF w g1 g3 #[.string x.f2, .string x.f3, .string x.f4, .slice A5 x.f5.length c5, u] W7 from ⟨hnu _ _ T6.out.b1 (fun h => h.elim (fun h => by have := T6.out.l1; omega) (fun h => h.2.1 rfl)), hnu _ _ T6.out.b3 (fun h => h.elim (fun h => by have := T6.out.l1; have := T6.out.l2; omega) (fun h => h.2.2 rfl)), hb, T6.out.l1, T6.out.l2⟩)
  have tk7 : W7.cell? (kd.add i.toNat) = some (.int .i64 y) := by
    obtain ⟨kd', eK, tk⟩ := Kd.at_int (Kd.R_reads' R7.out).2.2 i HI.out.1 (by have := HI.out; have := HM.out; omega); injection eK with eK; subst eK; obtain ⟨kd', eK, tk6⟩ := Kd.at_int (Kd.R_reads' R6.out).2.2 i HI.out.1 (by have := HI.out; have := HM.out; omega); injection eK with eK; subst eK; exact tk.trans (tk6.symm.trans hHeld.2)
  clear hn hg hat hnu; refine hK.out _ _ ⟨(zC T7.out.b3 4).trans rfl, tk7⟩ (fun hHeld3 => ?_); clear hK K; refine norm_ (a' := ?_) ?_ ?_; rotate_left
  · show Act.put _ (some 40) _ = _
    simp only [Act.put, zt, zu, zv, i64_w, i32_w]
    rfl
  refine pure_ (i := 10) (N := some 41) (v := ?_) (a' := ?_) #[tT,tT,tT,tT,tT,tT,tT,tT,tT,tT,tT,fF] rfl rfl (by kernel_rfl) (fun _ _ _ h => h) (Or.inl ⟨by rfl, ?_⟩) ?_ ?_; rotate_left; (intro w'; go_simp; (with_reducible rfl)); rotate_left; (simp only [Act.put, zt, zu, zv, i64_w, i32_w]; rfl); refine last_ (i := 11) (N := none) #[tT,tT,tT,tT,tT,tT,tT,tT,tT,tT,tT,tT] rfl rfl (by kernel_rfl) (by decide) (fun K hK => ?_); have c34 := (zC T7.out.b3 4).trans rfl; have f34 := zR T7.out.b3 4; obtain ⟨n1, hn1⟩ : ∃ n1, (TT.take i.toNat ++ [z]).length = n1 := ⟨_, rfl⟩; obtain ⟨A1, e1, hu1⟩ := Kd.N_slice N7.out; rw [hn1] at hu1; clear hn1; subst hu1; refine skip_ (w1 := ?_) (by rfl) rfl ?_ ?_; rotate_left; (go_simp; rfl); refine hK.out _ _ ?_; clear hK K; refine done_ (by kernel_rfl) ?_
  go_wp2_with fail
  go_roundg k1
  case measure => omega
  case rel => exact ⟨i + 1, _, rfl, ⟨by have := HI.out; omega, by have := HI.out; omega⟩, ⟨T7.out.put 4 _ rfl⟩, ⟨Kd.R_far (p := ⟨g3, 4, none⟩) R7.out (fun k hk => hk.1.2.2) _⟩, ⟨HTK.out ▸ Kd.N_far (p := ⟨g3, 4, none⟩) N7.out (fun k hk => hk.elim (fun h => by have := T7.out.l1; have := T7.out.l2; show k ≠ g3; omega) (fun h => h.2.2)) _⟩⟩
set_option maxHeartbeats 4000000 in
theorem r13_Tree.calls (k : Nat) (P0_ : Nat → Prop) (A0 : Option Addr) (c0 : Nat) (l0 : List (S53)) (a1 : Int) (r1 : ByteArray) (r2 : ByteArray) (r3 : ByteArray) (r4 : List (S69)) (r5 : List (S25)) (w : World) (hs0 : Kd.V k53 53 w w.heap.size (fun k_ => P0_ k_) (.slice A0 l0.length c0) l0) (h : r13_Tree.f k l0 a1 = some (r1, r2, r3, r4, r5)) :
    Calls Try.prog 24 #[.slice A0 l0.length c0, .int .i64 a1] w fun e w' => ∃ v3_ v4_ : Value, e = .returned (.agg #[.string r1, .string r2, .string r3, v3_, v4_]) ∧ Kd.V k69 69 w' w.heap.size (fun k_ => P0_ k_ ∨ w.heap.size ≤ k_) v3_ r4 ∧ Kd.V k25 25 w' w.heap.size (fun k_ => P0_ k_ ∨ w.heap.size ≤ k_) v4_ r5 ∧ Below w.heap.size w w' := by
  unfold r13_Tree.f at h; obtain ⟨x, hx, h⟩ := Option.bind_eq_some_iff.1 h; simp only [Option.some.injEq, Prod.mk.injEq] at h; obtain ⟨rfl, rfl, rfl, rfl, rfl⟩ := h; exact treeWalk k _ A0 c0 l0 a1 x w hs0 hx
end Go.Proofs.Ytcebfldagnjddaa.G
namespace Go.Proofs.Ytcebfldagnjddaa.G
open List renaming setIfInBounds_toArray → zt, set_cons_zero → zu, set_cons_succ → zv
open Bool renaming true → T, false → F
open Go.RowKit Go.Proofs.YtcebfldagnjddaaW.PrintWords Go.Proofs.YtcebfldagnjddaaW.PrintLast Go.Proofs.YtcebfldagnjddaaW.PrintMore
attribute [local go_sem] max2_int min2_int max_two min_two max_three min_three max_four min_four
set_option linter.unusedVariables false
set_option linter.unusedSimpArgs false
def lw_FlatTrees.f (k : Nat) (l0 : List (S53)) : Option (Bool) := (pl_FewRows.f k l0 600).bind fun t415 => (if t415 = true then ((flat_Tree.f k l0).bind fun bt417 => ((r13_Check.f k l0).bind fun t428 => ((flat_Check.f k l0).bind fun t429 => (if t429 = t428 then (if (l0.length : Int) = 0 then (if bt417.2.2.2.2.2 = 23 then ((pl_Nodes.f k bt417.1 bt417.2.1 bt417.2.2.1 bt417.2.2.2.1 bt417.2.2.2.2.1 (⟨#[]⟩ : ByteArray) (⟨#[]⟩ : ByteArray) (⟨#[]⟩ : ByteArray) ([] : List (S69)) ([] : List (S25))).bind fun t430 => (if t430 = true then ((lw_same.f k).bind fun t431 => (some t431)) else (some false))) else (some false)) else (if t428 = 0 then ((flat_Rows.f k bt417.1 bt417.2.1 bt417.2.2.1 bt417.2.2.2.1 bt417.2.2.2.2.1).bind fun bt434 => (if bt417.2.2.2.2.2 = 0 then (if bt434.2 = 0 then ((r13_Tree.f k l0 1).bind fun bt438 => ((pl_Nodes.f k bt417.1 bt417.2.1 bt417.2.2.1 bt417.2.2.2.1 bt417.2.2.2.2.1 bt438.1 bt438.2.1 bt438.2.2.1 bt438.2.2.2.1 bt438.2.2.2.2).bind fun t447 => (if t447 = true then ((pl_Shapes.f k bt434.1 l0).bind fun t448 => (if t448 = true then ((flat_Same.f k bt434.1 l0).bind fun t449 => (if t449 = true then ((lw_same.f k).bind fun t450 => (some t450)) else (some false))) else (some false))) else (some false)))) else (some false)) else (some false))) else (if bt417.2.2.2.2.2 = t428 then ((pl_Nodes.f k bt417.1 bt417.2.1 bt417.2.2.1 bt417.2.2.2.1 bt417.2.2.2.2.1 (⟨#[]⟩ : ByteArray) (⟨#[]⟩ : ByteArray) (⟨#[]⟩ : ByteArray) ([] : List (S69)) ([] : List (S25))).bind fun t432 => (if t432 = true then ((lw_same.f k).bind fun t433 => (some t433)) else (some false))) else (some false)))) else (some false))))) else ((lw_same.f k).bind fun t416 => (some t416)))
def lw_FlatTrees.T12 : Bool × List (List Nat × List Nat) := (true, [([], []), ([0], [0]), ([1], [1]), ([2], [2]), ([3, 2], [2, 3]), ([2, 4], [2, 4]), ([5, 2], [5]), ([6], [6]), ([6], [6]), ([8, 6, 6], [6, 8]), ([7, 9, 9, 6], [6, 7, 9]), ([6, 10], [6, 10]), ([11, 10], [11]), ([12], [12]), ([12], [12]), ([13, 14, 12, 12], [12, 13, 14]), ([12, 15], [12, 15]), ([16, 15], [16]), ([17], [17]), ([17], [17]), ([18, 19, 17, 17], [17, 18, 19]), ([17, 20], [17, 20]), ([21, 20], [21]), ([22, 22], [22]), ([22, 23], [22, 23]), ([24, 23, 0, 1, 2, 3, 4, 5, 6, 7, 8, 9, 10, 11, 12, 13, 14, 15, 16, 17, 18, 19, 20, 21, 22, 23, 24], [24])])
def lw_FlatTrees.B12 : List Nat := [0, 1, 3, 7, 15, 31, 63, 127, 127, 383, 1023, 2047, 4095, 8191, 8191, 32767, 65535, 131071, 262143, 262143, 1048575, 2097151, 4194303, 8388607, 16777215, 33554431]
theorem lw_FlatTrees.tab12 : rtab .any (opsOf Try.f5 12) = lw_FlatTrees.T12 := by kernel_rfl
theorem lw_FlatTrees.bits12 : waitsOk lw_FlatTrees.T12.2 lw_FlatTrees.B12 = true := by kernel_rfl
set_option maxHeartbeats 8000000 in
set_option maxRecDepth 100000 in
theorem lw_FlatTrees.calls (k : Nat) (A0 : Option Addr) (c0 : Nat) (l0 : List (S53)) (r : Bool) (w : World) (hr0 : Kd.C k53 w A0 l0.length l0) (hc0 : l0.length ≤ c0) (h : (if r = true then lw_FlatTrees.f k l0 else none) = some r) :
  Calls Try.prog 5 #[.slice A0 l0.length c0] w fun e w' => e = .returned (.bool r) ∧ Below w.heap.size w w' := by
 split at h
 case isFalse => cases h
 rename_i hr_
 have HR_ := zk hr_
 clear hr_
 have hu25 := Try.underlying25
 have HR0 := zk hr0
 have HC0 := zk hc0
 clear hr0 hc0
 have HB := zk (Below.refl w.heap.size w)
 have H : ((pl_FewRows.f k l0 600).bind fun t415 => (if t415 = true then ((flat_Tree.f k l0).bind fun bt417 => ((r13_Check.f k l0).bind fun t428 => ((flat_Check.f k l0).bind fun t429 => (if t429 = t428 then (if (l0.length : Int) = 0 then (if bt417.2.2.2.2.2 = 23 then ((pl_Nodes.f k bt417.1 bt417.2.1 bt417.2.2.1 bt417.2.2.2.1 bt417.2.2.2.2.1 (⟨#[]⟩ : ByteArray) (⟨#[]⟩ : ByteArray) (⟨#[]⟩ : ByteArray) ([] : List (S69)) ([] : List (S25))).bind fun t430 => (if t430 = true then ((lw_same.f k).bind fun t431 => (some t431)) else (some false))) else (some false)) else (if t428 = 0 then ((flat_Rows.f k bt417.1 bt417.2.1 bt417.2.2.1 bt417.2.2.2.1 bt417.2.2.2.2.1).bind fun bt434 => (if bt417.2.2.2.2.2 = 0 then (if bt434.2 = 0 then ((r13_Tree.f k l0 1).bind fun bt438 => ((pl_Nodes.f k bt417.1 bt417.2.1 bt417.2.2.1 bt417.2.2.2.1 bt417.2.2.2.2.1 bt438.1 bt438.2.1 bt438.2.2.1 bt438.2.2.2.1 bt438.2.2.2.2).bind fun t447 => (if t447 = true then ((pl_Shapes.f k bt434.1 l0).bind fun t448 => (if t448 = true then ((flat_Same.f k bt434.1 l0).bind fun t449 => (if t449 = true then ((lw_same.f k).bind fun t450 => (some t450)) else (some false))) else (some false))) else (some false)))) else (some false)) else (some false))) else (if bt417.2.2.2.2.2 = t428 then ((pl_Nodes.f k bt417.1 bt417.2.1 bt417.2.2.1 bt417.2.2.2.1 bt417.2.2.2.2.1 (⟨#[]⟩ : ByteArray) (⟨#[]⟩ : ByteArray) (⟨#[]⟩ : ByteArray) ([] : List (S69)) ([] : List (S25))).bind fun t432 => (if t432 = true then ((lw_same.f k).bind fun t433 => (some t433)) else (some false))) else (some false)))) else (some false))))) else ((lw_same.f k).bind fun t416 => (some t416)))) = some r := h
 clear h
 replace H := Option.bind_eq_some_iff.mp H
 obtain ⟨t415, A20, H⟩ := H
 replace H : (if t415 = true then ((flat_Tree.f k l0).bind fun bt417 => ((r13_Check.f k l0).bind fun t428 => ((flat_Check.f k l0).bind fun t429 => (if t429 = t428 then (if (l0.length : Int) = 0 then (if bt417.2.2.2.2.2 = 23 then ((pl_Nodes.f k bt417.1 bt417.2.1 bt417.2.2.1 bt417.2.2.2.1 bt417.2.2.2.2.1 (⟨#[]⟩ : ByteArray) (⟨#[]⟩ : ByteArray) (⟨#[]⟩ : ByteArray) ([] : List (S69)) ([] : List (S25))).bind fun t430 => (if t430 = true then ((lw_same.f k).bind fun t431 => (some t431)) else (some false))) else (some false)) else (if t428 = 0 then ((flat_Rows.f k bt417.1 bt417.2.1 bt417.2.2.1 bt417.2.2.2.1 bt417.2.2.2.2.1).bind fun bt434 => (if bt417.2.2.2.2.2 = 0 then (if bt434.2 = 0 then ((r13_Tree.f k l0 1).bind fun bt438 => ((pl_Nodes.f k bt417.1 bt417.2.1 bt417.2.2.1 bt417.2.2.2.1 bt417.2.2.2.2.1 bt438.1 bt438.2.1 bt438.2.2.1 bt438.2.2.2.1 bt438.2.2.2.2).bind fun t447 => (if t447 = true then ((pl_Shapes.f k bt434.1 l0).bind fun t448 => (if t448 = true then ((flat_Same.f k bt434.1 l0).bind fun t449 => (if t449 = true then ((lw_same.f k).bind fun t450 => (some t450)) else (some false))) else (some false))) else (some false)))) else (some false)) else (some false))) else (if bt417.2.2.2.2.2 = t428 then ((pl_Nodes.f k bt417.1 bt417.2.1 bt417.2.2.1 bt417.2.2.2.1 bt417.2.2.2.2.1 (⟨#[]⟩ : ByteArray) (⟨#[]⟩ : ByteArray) (⟨#[]⟩ : ByteArray) ([] : List (S69)) ([] : List (S25))).bind fun t432 => (if t432 = true then ((lw_same.f k).bind fun t433 => (some t433)) else (some false))) else (some false)))) else (some false))))) else ((lw_same.f k).bind fun t416 => (some t416))) = some r := H
 have A2 := zk A20
 clear A20
 by_cases c3 : t415 = true
 ·
  subst c3
  have H1 : ((flat_Tree.f k l0).bind fun bt417 => ((r13_Check.f k l0).bind fun t428 => ((flat_Check.f k l0).bind fun t429 => (if t429 = t428 then (if (l0.length : Int) = 0 then (if bt417.2.2.2.2.2 = 23 then ((pl_Nodes.f k bt417.1 bt417.2.1 bt417.2.2.1 bt417.2.2.2.1 bt417.2.2.2.2.1 (⟨#[]⟩ : ByteArray) (⟨#[]⟩ : ByteArray) (⟨#[]⟩ : ByteArray) ([] : List (S69)) ([] : List (S25))).bind fun t430 => (if t430 = true then ((lw_same.f k).bind fun t431 => (some t431)) else (some false))) else (some false)) else (if t428 = 0 then ((flat_Rows.f k bt417.1 bt417.2.1 bt417.2.2.1 bt417.2.2.2.1 bt417.2.2.2.2.1).bind fun bt434 => (if bt417.2.2.2.2.2 = 0 then (if bt434.2 = 0 then ((r13_Tree.f k l0 1).bind fun bt438 => ((pl_Nodes.f k bt417.1 bt417.2.1 bt417.2.2.1 bt417.2.2.2.1 bt417.2.2.2.2.1 bt438.1 bt438.2.1 bt438.2.2.1 bt438.2.2.2.1 bt438.2.2.2.2).bind fun t447 => (if t447 = true then ((pl_Shapes.f k bt434.1 l0).bind fun t448 => (if t448 = true then ((flat_Same.f k bt434.1 l0).bind fun t449 => (if t449 = true then ((lw_same.f k).bind fun t450 => (some t450)) else (some false))) else (some false))) else (some false)))) else (some false)) else (some false))) else (if bt417.2.2.2.2.2 = t428 then ((pl_Nodes.f k bt417.1 bt417.2.1 bt417.2.2.1 bt417.2.2.2.1 bt417.2.2.2.2.1 (⟨#[]⟩ : ByteArray) (⟨#[]⟩ : ByteArray) (⟨#[]⟩ : ByteArray) ([] : List (S69)) ([] : List (S25))).bind fun t432 => (if t432 = true then ((lw_same.f k).bind fun t433 => (some t433)) else (some false))) else (some false)))) else (some false))))) = some r := by rw [if_pos rfl] at H; exact H
  clear H; have H := H1; clear H1; replace H := Option.bind_eq_some_iff.mp H; obtain ⟨⟨t417, t418, t419, t420, t423, t426⟩, A40, H⟩ := H; replace H : ((r13_Check.f k l0).bind fun t428 => ((flat_Check.f k l0).bind fun t429 => (if t429 = t428 then (if (l0.length : Int) = 0 then (if t426 = 23 then ((pl_Nodes.f k t417 t418 t419 t420 t423 (⟨#[]⟩ : ByteArray) (⟨#[]⟩ : ByteArray) (⟨#[]⟩ : ByteArray) ([] : List (S69)) ([] : List (S25))).bind fun t430 => (if t430 = true then ((lw_same.f k).bind fun t431 => (some t431)) else (some false))) else (some false)) else (if t428 = 0 then ((flat_Rows.f k t417 t418 t419 t420 t423).bind fun bt434 => (if t426 = 0 then (if bt434.2 = 0 then ((r13_Tree.f k l0 1).bind fun bt438 => ((pl_Nodes.f k t417 t418 t419 t420 t423 bt438.1 bt438.2.1 bt438.2.2.1 bt438.2.2.2.1 bt438.2.2.2.2).bind fun t447 => (if t447 = true then ((pl_Shapes.f k bt434.1 l0).bind fun t448 => (if t448 = true then ((flat_Same.f k bt434.1 l0).bind fun t449 => (if t449 = true then ((lw_same.f k).bind fun t450 => (some t450)) else (some false))) else (some false))) else (some false)))) else (some false)) else (some false))) else (if t426 = t428 then ((pl_Nodes.f k t417 t418 t419 t420 t423 (⟨#[]⟩ : ByteArray) (⟨#[]⟩ : ByteArray) (⟨#[]⟩ : ByteArray) ([] : List (S69)) ([] : List (S25))).bind fun t432 => (if t432 = true then ((lw_same.f k).bind fun t433 => (some t433)) else (some false))) else (some false)))) else (some false)))) = some r := H; have A4 := zk A40; clear A40; replace H := Option.bind_eq_some_iff.mp H; obtain ⟨t428, A50, H⟩ := H; replace H : ((flat_Check.f k l0).bind fun t429 => (if t429 = t428 then (if (l0.length : Int) = 0 then (if t426 = 23 then ((pl_Nodes.f k t417 t418 t419 t420 t423 (⟨#[]⟩ : ByteArray) (⟨#[]⟩ : ByteArray) (⟨#[]⟩ : ByteArray) ([] : List (S69)) ([] : List (S25))).bind fun t430 => (if t430 = true then ((lw_same.f k).bind fun t431 => (some t431)) else (some false))) else (some false)) else (if t428 = 0 then ((flat_Rows.f k t417 t418 t419 t420 t423).bind fun bt434 => (if t426 = 0 then (if bt434.2 = 0 then ((r13_Tree.f k l0 1).bind fun bt438 => ((pl_Nodes.f k t417 t418 t419 t420 t423 bt438.1 bt438.2.1 bt438.2.2.1 bt438.2.2.2.1 bt438.2.2.2.2).bind fun t447 => (if t447 = true then ((pl_Shapes.f k bt434.1 l0).bind fun t448 => (if t448 = true then ((flat_Same.f k bt434.1 l0).bind fun t449 => (if t449 = true then ((lw_same.f k).bind fun t450 => (some t450)) else (some false))) else (some false))) else (some false)))) else (some false)) else (some false))) else (if t426 = t428 then ((pl_Nodes.f k t417 t418 t419 t420 t423 (⟨#[]⟩ : ByteArray) (⟨#[]⟩ : ByteArray) (⟨#[]⟩ : ByteArray) ([] : List (S69)) ([] : List (S25))).bind fun t432 => (if t432 = true then ((lw_same.f k).bind fun t433 => (some t433)) else (some false))) else (some false)))) else (some false))) = some r := H; have A5 := zk A50; clear A50; replace H := Option.bind_eq_some_iff.mp H; obtain ⟨t429, A60, H⟩ := H; replace H : (if t429 = t428 then (if (l0.length : Int) = 0 then (if t426 = 23 then ((pl_Nodes.f k t417 t418 t419 t420 t423 (⟨#[]⟩ : ByteArray) (⟨#[]⟩ : ByteArray) (⟨#[]⟩ : ByteArray) ([] : List (S69)) ([] : List (S25))).bind fun t430 => (if t430 = true then ((lw_same.f k).bind fun t431 => (some t431)) else (some false))) else (some false)) else (if t428 = 0 then ((flat_Rows.f k t417 t418 t419 t420 t423).bind fun bt434 => (if t426 = 0 then (if bt434.2 = 0 then ((r13_Tree.f k l0 1).bind fun bt438 => ((pl_Nodes.f k t417 t418 t419 t420 t423 bt438.1 bt438.2.1 bt438.2.2.1 bt438.2.2.2.1 bt438.2.2.2.2).bind fun t447 => (if t447 = true then ((pl_Shapes.f k bt434.1 l0).bind fun t448 => (if t448 = true then ((flat_Same.f k bt434.1 l0).bind fun t449 => (if t449 = true then ((lw_same.f k).bind fun t450 => (some t450)) else (some false))) else (some false))) else (some false)))) else (some false)) else (some false))) else (if t426 = t428 then ((pl_Nodes.f k t417 t418 t419 t420 t423 (⟨#[]⟩ : ByteArray) (⟨#[]⟩ : ByteArray) (⟨#[]⟩ : ByteArray) ([] : List (S69)) ([] : List (S25))).bind fun t432 => (if t432 = true then ((lw_same.f k).bind fun t433 => (some t433)) else (some false))) else (some false)))) else (some false)) = some r := H; have A6 := zk A60; clear A60
  by_cases c7 : t429 = t428
  ·
   rw [if_pos c7] at H; have c7b0 := beq_iff_eq.mpr c7; have c7b1 := bne_eq_false_iff_eq.mpr c7; clear c7
   by_cases c8 : (l0.length : Int) = 0
   ·
    rw [if_pos c8] at H; have c8b0 := beq_iff_eq.mpr c8; have c8b1 := bne_eq_false_iff_eq.mpr c8; clear c8
    by_cases c9 : t426 = 23
    ·
     rw [if_pos c9] at H; have c9b0 := beq_iff_eq.mpr c9; have c9b1 := bne_eq_false_iff_eq.mpr c9; clear c9; replace H := Option.bind_eq_some_iff.mp H; obtain ⟨t430, A100, H⟩ := H; replace H : (if t430 = true then ((lw_same.f k).bind fun t431 => (some t431)) else (some false)) = some r := H; have A10 := zk A100; clear A100
     by_cases c11 : t430 = true
     ·
      subst c11
      have H1 : ((lw_same.f k).bind fun t431 => (some t431)) = some r := by rw [if_pos rfl] at H; exact H
      clear H; have H := H1; clear H1; replace H := Option.bind_eq_some_iff.mp H; obtain ⟨t431, A120, H⟩ := H; replace H : (some t431) = some r := H; have A12 := zk A120; clear A120; obtain rfl := Option.some.inj H
      go_enter Try.func5, Try.ntmps5
      go_wp2_with (first | ((with_reducible refine gk (f := 15) rfl ?_); refine gl (some 9) rfl rfl Try.func15 (by kernel_rfl) rfl #[.slice A0 l0.length c0, .int .i64 600] rfl (by (try simp only [List.map_toArray, List.map_cons, List.map_nil]); first | done | rfl | (simp only [List.length_drop, List.length_take]; rfl)) ?_; (with_reducible refine (pl_FewRows.calls k _ _ l0 600 true _ ?side1 ?side2 A2.out).mono ?_); (case side1 => repeat (first | exact HR0.out | (with_reducible refine Kd.C_alloc ?_ _) | (with_reducible refine Kd.C_drewN ?_ _) | (with_reducible refine Kd.C_drew ?_))); (case side2 => exact HC0.out); rintro e w' ⟨rfl, ⟨nd, rfl⟩⟩; refine ⟨_, rfl, ?_⟩) | ((with_reducible refine gk (f := 12) rfl ?_); refine gl (some 14) rfl rfl Try.func12 (by kernel_rfl) rfl #[.slice A0 l0.length c0] rfl (by (try simp only [List.map_toArray, List.map_cons, List.map_nil]); first | done | rfl | (simp only [List.length_drop, List.length_take]; rfl)) ?_; (with_reducible refine (flat_Tree.calls k (fun k_ => k_ < w.heap.size) _ _ l0 t417 t418 t419 t420 t423 t426 _ ?side1 A4.out).mono ?_); (case side1 => exact Kd.V_mk HC0.out (Kd.F_below (Kd.C_F k53_heap HR0.out) (by with_reducible repeat first | exact HB.out | apply zA | apply zN | apply zD))); rintro e w13 ⟨v421, v424, rfl, ho0, ho1, hb⟩; refine ⟨_, rfl, ?_⟩; have n0_ := zk (Kd.R_lower (Kd.R_mono (ok' := fun k_ => True) ho0 (fun _ hk_ => trivial)) (zq (by with_reducible repeat first | exact HB.out | apply zA | apply zN | apply zD))); have n1_ := zk (Kd.N_lower (Kd.N_mono (ok' := fun k_ => some k_ ≠ (v421 : Value).ownBlock) (Kd.R_N (Kd.R_bound ho1)) (fun k_ hk_ => hk_.1.2)) (zq (by with_reducible repeat first | exact HB.out | apply zA | apply zN | apply zD))); have n2_ := zk (zs (by with_reducible repeat first | exact HB.out | apply zA | apply zN | apply zD) hb); clear HB; have HO422 := n0_; have HO425 := n1_; have HB := n2_; clear n0_ n1_ n2_; (try clear hb); (try clear hb2); (try clear hk); (try clear hi); (try clear ho0); (try clear ho1)) | ((with_reducible refine gd (N := 3) rfl ?_); refine zb ?hg (N := 3) ?hd (cs := #[.string ⟨#[]⟩, .string ⟨#[]⟩, .string ⟨#[]⟩, .slice none 0 0, .slice none 0 0]) (t := 25) ?hr ?_; (case hd => rfl); (case hg => rfl); (case hr => go_simp; first | done | rfl); intro gb427 hg w14 hbox hb; have n0_ := zk (Kd.R_below (by (with_reducible repeat (first | apply Kd.R_alloc | apply Kd.R_drewN | apply Kd.R_drew)); exact HO422.out) hb); have n1_ := zk (Kd.N_below (Kd.N_elderB (by (with_reducible repeat (first | apply Kd.N_alloc | apply Kd.N_drewN | apply Kd.N_drew)); exact HO425.out) gb427 (Nat.le_of_eq hg.symm)) hb); have n2_ := zk (zs (by with_reducible repeat first | exact HB.out | apply zA | apply zN | apply zD) hb); have n3_ := zk (hbox); have n4_ := zk ((by rw [hg]; exact (zq (by with_reducible repeat first | exact HB.out | apply zA | apply zN | apply zD)) : w.heap.size ≤ gb427)); have n5_ := n4_; clear HO422; clear HO425; clear HB; have HO422 := n0_; have HO425 := n1_; have HB := n2_; have BK427 := n3_; have GW427 := n4_; have GE427 := n5_; clear n0_ n1_ n2_ n3_ n4_ n5_; clear hb hbox hg; obtain ⟨hcz15_0, hcz15_1, hcz15_2, hcz15_3, hcz15_4, hfz15_0, hfz15_1, hfz15_2, hfz15_3, hfz15_4⟩ := zc5 BK427.out; obtain ⟨Ao16, co16, eo16⟩ := Kd.R_slice HO422.out; subst eo16; obtain ⟨Ao17, co17, eo17⟩ := Kd.N_slice HO425.out; subst eo17) | ((with_reducible refine gk (f := 19) rfl ?_); refine gl (some 18) rfl rfl Try.func19 (by kernel_rfl) rfl #[.slice A0 l0.length c0] rfl (by (try simp only [List.map_toArray, List.map_cons, List.map_nil]); first | done | rfl | (simp only [List.length_drop, List.length_take]; rfl)) ?_; (with_reducible refine (r13_Check.calls k _ _ l0 t428 _ ?side1 ?side2 A5.out).mono ?_); (case side1 => exact Kd.C_below HR0.out (by with_reducible repeat first | exact HB.out | apply zA | apply zN | apply zD | refine zS ?_ GE427.out)); (case side2 => exact HC0.out); rintro e w18 ⟨rfl, hb⟩; refine ⟨_, rfl, ?_⟩; have n0_ := zk (Kd.R_below (by (with_reducible repeat (first | apply Kd.R_alloc | apply Kd.R_drewN | apply Kd.R_drew)); exact (Kd.R_mono (Kd.R_far (p := ⟨gb427, 4, none⟩) (Kd.R_far (p := ⟨gb427, 3, none⟩) (Kd.R_far (p := ⟨gb427, 2, none⟩) (Kd.R_far (p := ⟨gb427, 1, none⟩) (Kd.R_far (p := ⟨gb427, 0, none⟩) (Kd.R_types HO422.out BK427.out (by decide)) (fun _ hk => hk.2) (.string t417)) (fun _ hk => hk.2) (.string t418)) (fun _ hk => hk.2) (.string t419)) (fun _ hk => hk.2) (.slice Ao16 t420.length co16)) (fun _ hk => hk.2) (.slice Ao17 t423.length co17)) (fun _ h_ => h_.1))) hb); have n1_ := zk (Kd.N_below (by (with_reducible repeat (first | apply Kd.N_alloc | apply Kd.N_drewN | apply Kd.N_drew)); exact (Kd.N_mono (Kd.N_far (p := ⟨gb427, 4, none⟩) (Kd.N_far (p := ⟨gb427, 3, none⟩) (Kd.N_far (p := ⟨gb427, 2, none⟩) (Kd.N_far (p := ⟨gb427, 1, none⟩) (Kd.N_far (p := ⟨gb427, 0, none⟩) (Kd.N_mono HO425.out (fun k_ hk => (⟨hk, hk.2⟩ : _ ∧ k_ ≠ gb427))) (fun _ hk => hk.2) (.string t417)) (fun _ hk => hk.2) (.string t418)) (fun _ hk => hk.2) (.string t419)) (fun _ hk => hk.2) (.slice Ao16 t420.length co16)) (fun _ hk => hk.2) (.slice Ao17 t423.length co17)) (fun _ h_ => h_.1))) hb); have n2_ := zk (blk_below (g := gb427) (o := .cells #[.string t417, .string t418, .string t419, .slice Ao16 t420.length co16, .slice Ao17 t423.length co17] 25 (0, 0)) (by (with_reducible repeat first | apply zM | apply zE | apply zF); refine zP (cs := #[.string t417, .string t418, .string t419, .slice Ao16 t420.length co16, .slice none 0 0]) ?_ 4 _ rfl; (with_reducible repeat first | apply zM | apply zE | apply zF); refine zP (cs := #[.string t417, .string t418, .string t419, .slice none 0 0, .slice none 0 0]) ?_ 3 _ rfl; (with_reducible repeat first | apply zM | apply zE | apply zF); refine zP (cs := #[.string t417, .string t418, .string ⟨#[]⟩, .slice none 0 0, .slice none 0 0]) ?_ 2 _ rfl; (with_reducible repeat first | apply zM | apply zE | apply zF); refine zP (cs := #[.string t417, .string ⟨#[]⟩, .string ⟨#[]⟩, .slice none 0 0, .slice none 0 0]) ?_ 1 _ rfl; (with_reducible repeat first | apply zM | apply zE | apply zF); refine zP (cs := #[.string ⟨#[]⟩, .string ⟨#[]⟩, .string ⟨#[]⟩, .slice none 0 0, .slice none 0 0]) ?_ 0 _ rfl; (with_reducible repeat first | apply zM | apply zE | apply zF); exact BK427.out) hb); have n3_ := zk (zs (by with_reducible repeat first | exact HB.out | apply zA | apply zN | apply zD | refine zS ?_ GE427.out) hb); clear HO422; clear HO425; clear BK427; clear HB; have HO422 := n0_; have HO425 := n1_; have BK427 := n2_; have HB := n3_; clear n0_ n1_ n2_ n3_; (try clear hb); (try clear hb2); (try clear hk); (try clear hi)) | ((with_reducible refine gk (f := 14) rfl ?_); refine gl (some 20) rfl rfl Try.func14 (by kernel_rfl) rfl #[.slice A0 l0.length c0] rfl (by (try simp only [List.map_toArray, List.map_cons, List.map_nil]); first | done | rfl | (simp only [List.length_drop, List.length_take]; rfl)) ?_; (with_reducible refine (flat_Check.calls k _ _ l0 t429 _ ?side1 ?side2 A6.out).mono ?_); (case side1 => repeat (first | exact (Kd.C_below HR0.out HB.out) | (with_reducible refine Kd.C_alloc ?_ _) | (with_reducible refine Kd.C_drewN ?_ _) | (with_reducible refine Kd.C_drew ?_))); (case side2 => exact HC0.out); rintro e w19 ⟨rfl, hb⟩; refine ⟨_, rfl, ?_⟩; have n0_ := zk (Kd.R_below (by (with_reducible repeat (first | apply Kd.R_alloc | apply Kd.R_drewN | apply Kd.R_drew)); exact HO422.out) hb); have n1_ := zk (Kd.N_below (by (with_reducible repeat (first | apply Kd.N_alloc | apply Kd.N_drewN | apply Kd.N_drew)); exact HO425.out) hb); have n2_ := zk (blk_below (g := gb427) (o := .cells #[.string t417, .string t418, .string t419, .slice Ao16 t420.length co16, .slice Ao17 t423.length co17] 25 (0, 0)) (by (with_reducible repeat first | apply zM | apply zE | apply zF); exact BK427.out) hb); have n3_ := zk (zs (by with_reducible repeat first | exact HB.out | apply zA | apply zN | apply zD | refine zS ?_ GE427.out) hb); clear HO422; clear HO425; clear BK427; clear HB; have HO422 := n0_; have HO425 := n1_; have BK427 := n2_; have HB := n3_; clear n0_ n1_ n2_ n3_; (try clear hb); (try clear hb2); (try clear hk); (try clear hi); obtain ⟨hcz20_0, hcz20_1, hcz20_2, hcz20_3, hcz20_4, hfz20_0, hfz20_1, hfz20_2, hfz20_3, hfz20_4⟩ := zc5 BK427.out) | (go_at_call 13; (refine (pl_Nodes.calls k t417 t418 t419 _ _ t420 _ _ t423 (⟨#[]⟩ : ByteArray) (⟨#[]⟩ : ByteArray) (⟨#[]⟩ : ByteArray) _ _ ([] : List (S69)) _ _ ([] : List (S25)) true _ ?side1 ?side2 ?side3 ?side4 ?side5 ?side6 ?side7 ?side8 A10.out).mono ?_); (case side1 => repeat (first | exact (Kd.R_reads' HO422.out).2.2 | (with_reducible refine Kd.C_alloc ?_ _) | (with_reducible refine Kd.C_drewN ?_ _) | (with_reducible refine Kd.C_drew ?_))); (case side2 => exact (Kd.R_reads' HO422.out).2.1); (case side3 => repeat (first | exact (Kd.N_reads' HO425.out).2.2 | (with_reducible refine Kd.C_alloc ?_ _) | (with_reducible refine Kd.C_drewN ?_ _) | (with_reducible refine Kd.C_drew ?_))); (case side4 => exact (Kd.N_reads' HO425.out).2.1); (case side5 => exact Kd.C_nil _ _); (case side6 => exact Nat.le_refl _); (case side7 => exact Kd.C_nil _ _); (case side8 => exact Nat.le_refl _); rintro e w21 ⟨rfl, hb⟩; have n0_ := zk (Kd.R_below (by (with_reducible repeat (first | apply Kd.R_alloc | apply Kd.R_drewN | apply Kd.R_drew)); exact HO422.out) hb); have n1_ := zk (Kd.N_below (by (with_reducible repeat (first | apply Kd.N_alloc | apply Kd.N_drewN | apply Kd.N_drew)); exact HO425.out) hb); have n2_ := zk (blk_below (g := gb427) (o := .cells #[.string t417, .string t418, .string t419, .slice Ao16 t420.length co16, .slice Ao17 t423.length co17] 25 (0, 0)) (by (with_reducible repeat first | apply zM | apply zE | apply zF); exact BK427.out) hb); have n3_ := zk (zs (by with_reducible repeat first | exact HB.out | apply zA | apply zN | apply zD | refine zS ?_ GE427.out) hb); clear HO422; clear HO425; clear BK427; clear HB; have HO422 := n0_; have HO425 := n1_; have BK427 := n2_; have HB := n3_; clear n0_ n1_ n2_ n3_; (try clear hb); (try clear hb2); (try clear hk); (try clear hi)) | (go_at_call 8; (with_reducible refine (lw_same.calls k  t431 _ A12.out).mono ?_); rintro e w22 ⟨rfl, hb⟩; have n0_ := zk (Kd.R_below (by (with_reducible repeat (first | apply Kd.R_alloc | apply Kd.R_drewN | apply Kd.R_drew)); exact HO422.out) hb); have n1_ := zk (Kd.N_below (by (with_reducible repeat (first | apply Kd.N_alloc | apply Kd.N_drewN | apply Kd.N_drew)); exact HO425.out) hb); have n2_ := zk (blk_below (g := gb427) (o := .cells #[.string t417, .string t418, .string t419, .slice Ao16 t420.length co16, .slice Ao17 t423.length co17] 25 (0, 0)) (by (with_reducible repeat first | apply zM | apply zE | apply zF); exact BK427.out) hb); have n3_ := zk (zs (by with_reducible repeat first | exact HB.out | apply zA | apply zN | apply zD | refine zS ?_ GE427.out) hb); clear HO422; clear HO425; clear BK427; clear HB; have HO422 := n0_; have HO425 := n1_; have BK427 := n2_; have HB := n3_; clear n0_ n1_ n2_ n3_; (try clear hb); (try clear hb2); (try clear hk); (try clear hi)))
      go_ret; exact ⟨by first | rfl | (simp [wN, wS] <;> rfl) | (simp [*, wN, wS] <;> rfl), by with_reducible repeat first | exact HB.out | apply zA | apply zN | apply zD | refine zS ?_ GE427.out⟩
     ·
      replace c11 := Bool.eq_false_iff.mpr c11; subst c11
      have H1 : (some false) = some r := by rw [if_neg (show ¬ (false = true) by decide)] at H; exact H
      clear H; have H := H1; clear H1; exact absurd ((Option.some.inj H).trans HR_.out) (by decide)
    ·
     rw [if_neg c9] at H; have c9b0 := beq_eq_false_iff_ne.mpr c9; have c9b1 := bne_iff_ne.mpr c9; exact absurd ((Option.some.inj H).trans HR_.out) (by decide)
   ·
    rw [if_neg c8] at H; have c8b0 := beq_eq_false_iff_ne.mpr c8; have c8b1 := bne_iff_ne.mpr c8
    have c8b2 : ¬ (l0 = []) := fun h_ => c8 (by rw [h_]; rfl)
    by_cases c39 : t428 = 0
    ·
     rw [if_pos c39] at H; have c39b0 := beq_iff_eq.mpr c39; have c39b1 := bne_eq_false_iff_eq.mpr c39; clear c39; replace H := Option.bind_eq_some_iff.mp H; obtain ⟨⟨t434, t437⟩, A400, H⟩ := H; replace H : (if t426 = 0 then (if t437 = 0 then ((r13_Tree.f k l0 1).bind fun bt438 => ((pl_Nodes.f k t417 t418 t419 t420 t423 bt438.1 bt438.2.1 bt438.2.2.1 bt438.2.2.2.1 bt438.2.2.2.2).bind fun t447 => (if t447 = true then ((pl_Shapes.f k t434 l0).bind fun t448 => (if t448 = true then ((flat_Same.f k t434 l0).bind fun t449 => (if t449 = true then ((lw_same.f k).bind fun t450 => (some t450)) else (some false))) else (some false))) else (some false)))) else (some false)) else (some false)) = some r := H; have A40 := zk A400; clear A400
     by_cases c41 : t426 = 0
     ·
      rw [if_pos c41] at H; have c41b0 := beq_iff_eq.mpr c41; have c41b1 := bne_eq_false_iff_eq.mpr c41; clear c41
      by_cases c42 : t437 = 0
      ·
       rw [if_pos c42] at H; have c42b0 := beq_iff_eq.mpr c42; have c42b1 := bne_eq_false_iff_eq.mpr c42; clear c42; replace H := Option.bind_eq_some_iff.mp H; obtain ⟨⟨t438, t439, t440, t441, t444⟩, A430, H⟩ := H; replace H : ((pl_Nodes.f k t417 t418 t419 t420 t423 t438 t439 t440 t441 t444).bind fun t447 => (if t447 = true then ((pl_Shapes.f k t434 l0).bind fun t448 => (if t448 = true then ((flat_Same.f k t434 l0).bind fun t449 => (if t449 = true then ((lw_same.f k).bind fun t450 => (some t450)) else (some false))) else (some false))) else (some false))) = some r := H; have A43 := zk A430; clear A430; replace H := Option.bind_eq_some_iff.mp H; obtain ⟨t447, A440, H⟩ := H; replace H : (if t447 = true then ((pl_Shapes.f k t434 l0).bind fun t448 => (if t448 = true then ((flat_Same.f k t434 l0).bind fun t449 => (if t449 = true then ((lw_same.f k).bind fun t450 => (some t450)) else (some false))) else (some false))) else (some false)) = some r := H; have A44 := zk A440; clear A440
       by_cases c45 : t447 = true
       ·
        subst c45
        have H1 : ((pl_Shapes.f k t434 l0).bind fun t448 => (if t448 = true then ((flat_Same.f k t434 l0).bind fun t449 => (if t449 = true then ((lw_same.f k).bind fun t450 => (some t450)) else (some false))) else (some false))) = some r := by rw [if_pos rfl] at H; exact H
        clear H; have H := H1; clear H1; replace H := Option.bind_eq_some_iff.mp H; obtain ⟨t448, A460, H⟩ := H; replace H : (if t448 = true then ((flat_Same.f k t434 l0).bind fun t449 => (if t449 = true then ((lw_same.f k).bind fun t450 => (some t450)) else (some false))) else (some false)) = some r := H; have A46 := zk A460; clear A460
        by_cases c47 : t448 = true
        ·
         subst c47
         have H1 : ((flat_Same.f k t434 l0).bind fun t449 => (if t449 = true then ((lw_same.f k).bind fun t450 => (some t450)) else (some false))) = some r := by rw [if_pos rfl] at H; exact H
         clear H; have H := H1; clear H1; replace H := Option.bind_eq_some_iff.mp H; obtain ⟨t449, A480, H⟩ := H; replace H : (if t449 = true then ((lw_same.f k).bind fun t450 => (some t450)) else (some false)) = some r := H; have A48 := zk A480; clear A480
         by_cases c49 : t449 = true
         ·
          subst c49
          have H1 : ((lw_same.f k).bind fun t450 => (some t450)) = some r := by rw [if_pos rfl] at H; exact H
          clear H; have H := H1; clear H1; replace H := Option.bind_eq_some_iff.mp H; obtain ⟨t450, A500, H⟩ := H; replace H : (some t450) = some r := H; have A50 := zk A500; clear A500; obtain rfl := Option.some.inj H
          go_enter Try.func5, Try.ntmps5
          try go_wp2_with (first | ((with_reducible refine gk (f := 15) rfl ?_); refine gl (some 9) rfl rfl Try.func15 (by kernel_rfl) rfl #[.slice A0 l0.length c0, .int .i64 600] rfl (by (try simp only [List.map_toArray, List.map_cons, List.map_nil]); first | done | rfl | (simp only [List.length_drop, List.length_take]; rfl)) ?_; (with_reducible refine (pl_FewRows.calls k _ _ l0 600 true _ ?side1 ?side2 A2.out).mono ?_); (case side1 => repeat (first | exact HR0.out | (with_reducible refine Kd.C_alloc ?_ _) | (with_reducible refine Kd.C_drewN ?_ _) | (with_reducible refine Kd.C_drew ?_))); (case side2 => exact HC0.out); rintro e w' ⟨rfl, ⟨nd, rfl⟩⟩; refine ⟨_, rfl, ?_⟩) | ((with_reducible refine gk (f := 12) rfl ?_); refine gl (some 14) rfl rfl Try.func12 (by kernel_rfl) rfl #[.slice A0 l0.length c0] rfl (by (try simp only [List.map_toArray, List.map_cons, List.map_nil]); first | done | rfl | (simp only [List.length_drop, List.length_take]; rfl)) ?_; (with_reducible refine (flat_Tree.calls k (fun k_ => k_ < w.heap.size) _ _ l0 t417 t418 t419 t420 t423 t426 _ ?side1 A4.out).mono ?_); (case side1 => exact Kd.V_mk HC0.out (Kd.F_below (Kd.C_F k53_heap HR0.out) (by with_reducible repeat first | exact HB.out | apply zA | apply zN | apply zD))); rintro e w51 ⟨v421, v424, rfl, ho0, ho1, hb⟩; refine ⟨_, rfl, ?_⟩; have n0_ := zk (Kd.R_lower (Kd.R_mono (ok' := fun k_ => True) ho0 (fun _ hk_ => trivial)) (zq (by with_reducible repeat first | exact HB.out | apply zA | apply zN | apply zD))); have n1_ := zk (Kd.N_lower (Kd.N_mono (ok' := fun k_ => some k_ ≠ (v421 : Value).ownBlock) (Kd.R_N (Kd.R_bound ho1)) (fun k_ hk_ => hk_.1.2)) (zq (by with_reducible repeat first | exact HB.out | apply zA | apply zN | apply zD))); have n2_ := zk (zs (by with_reducible repeat first | exact HB.out | apply zA | apply zN | apply zD) hb); clear HB; have HO422 := n0_; have HO425 := n1_; have HB := n2_; clear n0_ n1_ n2_; (try clear hb); (try clear hb2); (try clear hk); (try clear hi); (try clear ho0); (try clear ho1)) | ((with_reducible refine gd (N := 3) rfl ?_); refine zb ?hg (N := 3) ?hd (cs := #[.string ⟨#[]⟩, .string ⟨#[]⟩, .string ⟨#[]⟩, .slice none 0 0, .slice none 0 0]) (t := 25) ?hr ?_; (case hd => rfl); (case hg => rfl); (case hr => go_simp; first | done | rfl); intro gb427 hg w52 hbox hb; have n0_ := zk (Kd.R_below (by (with_reducible repeat (first | apply Kd.R_alloc | apply Kd.R_drewN | apply Kd.R_drew)); exact HO422.out) hb); have n1_ := zk (Kd.N_below (Kd.N_elderB (by (with_reducible repeat (first | apply Kd.N_alloc | apply Kd.N_drewN | apply Kd.N_drew)); exact HO425.out) gb427 (Nat.le_of_eq hg.symm)) hb); have n2_ := zk (zs (by with_reducible repeat first | exact HB.out | apply zA | apply zN | apply zD) hb); have n3_ := zk (hbox); have n4_ := zk ((by rw [hg]; exact (zq (by with_reducible repeat first | exact HB.out | apply zA | apply zN | apply zD)) : w.heap.size ≤ gb427)); have n5_ := n4_; clear HO422; clear HO425; clear HB; have HO422 := n0_; have HO425 := n1_; have HB := n2_; have BK427 := n3_; have GW427 := n4_; have GE427 := n5_; clear n0_ n1_ n2_ n3_ n4_ n5_; clear hb hbox hg; obtain ⟨hcz53_0, hcz53_1, hcz53_2, hcz53_3, hcz53_4, hfz53_0, hfz53_1, hfz53_2, hfz53_3, hfz53_4⟩ := zc5 BK427.out; obtain ⟨Ao54, co54, eo54⟩ := Kd.R_slice HO422.out; subst eo54; obtain ⟨Ao55, co55, eo55⟩ := Kd.N_slice HO425.out; subst eo55) | ((with_reducible refine gk (f := 19) rfl ?_); refine gl (some 18) rfl rfl Try.func19 (by kernel_rfl) rfl #[.slice A0 l0.length c0] rfl (by (try simp only [List.map_toArray, List.map_cons, List.map_nil]); first | done | rfl | (simp only [List.length_drop, List.length_take]; rfl)) ?_; (with_reducible refine (r13_Check.calls k _ _ l0 t428 _ ?side1 ?side2 A5.out).mono ?_); (case side1 => exact Kd.C_below HR0.out (by with_reducible repeat first | exact HB.out | apply zA | apply zN | apply zD | refine zS ?_ GE427.out)); (case side2 => exact HC0.out); rintro e w56 ⟨rfl, hb⟩; refine ⟨_, rfl, ?_⟩; have n0_ := zk (Kd.R_below (by (with_reducible repeat (first | apply Kd.R_alloc | apply Kd.R_drewN | apply Kd.R_drew)); exact (Kd.R_mono (Kd.R_far (p := ⟨gb427, 4, none⟩) (Kd.R_far (p := ⟨gb427, 3, none⟩) (Kd.R_far (p := ⟨gb427, 2, none⟩) (Kd.R_far (p := ⟨gb427, 1, none⟩) (Kd.R_far (p := ⟨gb427, 0, none⟩) (Kd.R_types HO422.out BK427.out (by decide)) (fun _ hk => hk.2) (.string t417)) (fun _ hk => hk.2) (.string t418)) (fun _ hk => hk.2) (.string t419)) (fun _ hk => hk.2) (.slice Ao54 t420.length co54)) (fun _ hk => hk.2) (.slice Ao55 t423.length co55)) (fun _ h_ => h_.1))) hb); have n1_ := zk (Kd.N_below (by (with_reducible repeat (first | apply Kd.N_alloc | apply Kd.N_drewN | apply Kd.N_drew)); exact (Kd.N_mono (Kd.N_far (p := ⟨gb427, 4, none⟩) (Kd.N_far (p := ⟨gb427, 3, none⟩) (Kd.N_far (p := ⟨gb427, 2, none⟩) (Kd.N_far (p := ⟨gb427, 1, none⟩) (Kd.N_far (p := ⟨gb427, 0, none⟩) (Kd.N_mono HO425.out (fun k_ hk => (⟨hk, hk.2⟩ : _ ∧ k_ ≠ gb427))) (fun _ hk => hk.2) (.string t417)) (fun _ hk => hk.2) (.string t418)) (fun _ hk => hk.2) (.string t419)) (fun _ hk => hk.2) (.slice Ao54 t420.length co54)) (fun _ hk => hk.2) (.slice Ao55 t423.length co55)) (fun _ h_ => h_.1))) hb); have n2_ := zk (blk_below (g := gb427) (o := .cells #[.string t417, .string t418, .string t419, .slice Ao54 t420.length co54, .slice Ao55 t423.length co55] 25 (0, 0)) (by (with_reducible repeat first | apply zM | apply zE | apply zF); refine zP (cs := #[.string t417, .string t418, .string t419, .slice Ao54 t420.length co54, .slice none 0 0]) ?_ 4 _ rfl; (with_reducible repeat first | apply zM | apply zE | apply zF); refine zP (cs := #[.string t417, .string t418, .string t419, .slice none 0 0, .slice none 0 0]) ?_ 3 _ rfl; (with_reducible repeat first | apply zM | apply zE | apply zF); refine zP (cs := #[.string t417, .string t418, .string ⟨#[]⟩, .slice none 0 0, .slice none 0 0]) ?_ 2 _ rfl; (with_reducible repeat first | apply zM | apply zE | apply zF); refine zP (cs := #[.string t417, .string ⟨#[]⟩, .string ⟨#[]⟩, .slice none 0 0, .slice none 0 0]) ?_ 1 _ rfl; (with_reducible repeat first | apply zM | apply zE | apply zF); refine zP (cs := #[.string ⟨#[]⟩, .string ⟨#[]⟩, .string ⟨#[]⟩, .slice none 0 0, .slice none 0 0]) ?_ 0 _ rfl; (with_reducible repeat first | apply zM | apply zE | apply zF); exact BK427.out) hb); have n3_ := zk (zs (by with_reducible repeat first | exact HB.out | apply zA | apply zN | apply zD | refine zS ?_ GE427.out) hb); clear HO422; clear HO425; clear BK427; clear HB; have HO422 := n0_; have HO425 := n1_; have BK427 := n2_; have HB := n3_; clear n0_ n1_ n2_ n3_; (try clear hb); (try clear hb2); (try clear hk); (try clear hi)) | ((with_reducible refine gk (f := 14) rfl ?_); refine gl (some 20) rfl rfl Try.func14 (by kernel_rfl) rfl #[.slice A0 l0.length c0] rfl (by (try simp only [List.map_toArray, List.map_cons, List.map_nil]); first | done | rfl | (simp only [List.length_drop, List.length_take]; rfl)) ?_; (with_reducible refine (flat_Check.calls k _ _ l0 t429 _ ?side1 ?side2 A6.out).mono ?_); (case side1 => repeat (first | exact (Kd.C_below HR0.out HB.out) | (with_reducible refine Kd.C_alloc ?_ _) | (with_reducible refine Kd.C_drewN ?_ _) | (with_reducible refine Kd.C_drew ?_))); (case side2 => exact HC0.out); rintro e w57 ⟨rfl, hb⟩; refine ⟨_, rfl, ?_⟩; have n0_ := zk (Kd.R_below (by (with_reducible repeat (first | apply Kd.R_alloc | apply Kd.R_drewN | apply Kd.R_drew)); exact HO422.out) hb); have n1_ := zk (Kd.N_below (by (with_reducible repeat (first | apply Kd.N_alloc | apply Kd.N_drewN | apply Kd.N_drew)); exact HO425.out) hb); have n2_ := zk (blk_below (g := gb427) (o := .cells #[.string t417, .string t418, .string t419, .slice Ao54 t420.length co54, .slice Ao55 t423.length co55] 25 (0, 0)) (by (with_reducible repeat first | apply zM | apply zE | apply zF); exact BK427.out) hb); have n3_ := zk (zs (by with_reducible repeat first | exact HB.out | apply zA | apply zN | apply zD | refine zS ?_ GE427.out) hb); clear HO422; clear HO425; clear BK427; clear HB; have HO422 := n0_; have HO425 := n1_; have BK427 := n2_; have HB := n3_; clear n0_ n1_ n2_ n3_; (try clear hb); (try clear hb2); (try clear hk); (try clear hi); obtain ⟨hcz58_0, hcz58_1, hcz58_2, hcz58_3, hcz58_4, hfz58_0, hfz58_1, hfz58_2, hfz58_3, hfz58_4⟩ := zc5 BK427.out) | ((with_reducible refine gk (f := 9) rfl ?_); refine gl (some 51) rfl rfl Try.func9 (by kernel_rfl) rfl #[.agg #[.string t417, .string t418, .string t419, .slice Ao54 t420.length co54, .slice Ao55 t423.length co55]] rfl (by (try simp only [List.map_toArray, List.map_cons, List.map_nil]); first | done | rfl | (simp only [List.length_drop, List.length_take]; rfl)) ?_; (with_reducible refine (flat_Rows.calls k t417 t418 t419 _ _ t420 _ _ t423 t434 t437 _ ?side1 ?side2 ?side3 ?side4 A40.out).mono ?_); (case side1 => repeat (first | exact (Kd.R_reads' HO422.out).2.2 | (with_reducible refine Kd.C_alloc ?_ _) | (with_reducible refine Kd.C_drewN ?_ _) | (with_reducible refine Kd.C_drew ?_))); (case side2 => exact (Kd.R_reads' HO422.out).2.1); (case side3 => repeat (first | exact (Kd.N_reads' HO425.out).2.2 | (with_reducible refine Kd.C_alloc ?_ _) | (with_reducible refine Kd.C_drewN ?_ _) | (with_reducible refine Kd.C_drew ?_))); (case side4 => exact (Kd.N_reads' HO425.out).2.1); rintro e w59 ⟨v435, rfl, ho0, hb⟩; refine ⟨_, rfl, ?_⟩; have n0_ := zk (Kd.R_below (by (with_reducible repeat (first | apply Kd.R_alloc | apply Kd.R_drewN | apply Kd.R_drew)); exact HO422.out) hb); have n1_ := zk (Kd.N_elder' (by (with_reducible repeat (first | apply Kd.N_alloc | apply Kd.N_drewN | apply Kd.N_drew)); exact HO425.out) (Kd.N_base ho0) hb); have n2_ := zk (Kd.N_lower (Kd.N_mono (ok' := fun k_ => some k_ ≠ (.slice Ao54 t420.length co54 : Value).ownBlock ∧ some k_ ≠ (.slice Ao55 t423.length co55 : Value).ownBlock ∧ k_ ≠ gb427) ho0 (fun k_ hk_ => ⟨(Kd.fresh' (Kd.R_lt (by (with_reducible repeat (first | apply Kd.R_alloc | apply Kd.R_drewN | apply Kd.R_drew)); exact HO422.out)) k_ hk_), (Kd.fresh' (Kd.N_lt (by (with_reducible repeat (first | apply Kd.N_alloc | apply Kd.N_drewN | apply Kd.N_drew)); exact HO425.out)) k_ hk_), (Kd.freshB (g := gb427) (o := .cells #[.string t417, .string t418, .string t419, .slice Ao54 t420.length co54, .slice Ao55 t423.length co55] 25 (0, 0)) (by (with_reducible repeat first | apply zM | apply zE | apply zF); exact BK427.out) k_ hk_)⟩)) (zq (by with_reducible repeat first | exact HB.out | apply zA | apply zN | apply zD | refine zS ?_ GE427.out))); have n3_ := zk (blk_below (g := gb427) (o := .cells #[.string t417, .string t418, .string t419, .slice Ao54 t420.length co54, .slice Ao55 t423.length co55] 25 (0, 0)) (by (with_reducible repeat first | apply zM | apply zE | apply zF); exact BK427.out) hb); have n4_ := zk (zs (by with_reducible repeat first | exact HB.out | apply zA | apply zN | apply zD | refine zS ?_ GE427.out) hb); clear HO422; clear HO425; clear BK427; clear HB; have HO422 := n0_; have HO425 := n1_; have HO436 := n2_; have BK427 := n3_; have HB := n4_; clear n0_ n1_ n2_ n3_ n4_; (try clear hb); (try clear hb2); (try clear hk); (try clear hi); (try clear ho0)))
          have n0_ := zk (Kd.R_drew HO422.out); have n1_ := zk (Kd.N_drew HO425.out); have n2_ := zk (Kd.N_drew HO436.out); have n3_ := zk (zE BK427.out); have n4_ := zk (zD HB.out); clear HO422; clear HO425; clear HO436; clear BK427; clear HB; have HO422 := n0_; have HO425 := n1_; have HO436 := n2_; have BK427 := n3_; have HB := n4_; clear n0_ n1_ n2_ n3_ n4_; refine start_ (n := 26) (S := fun w' => w'.cell? ⟨gb427, 0, none⟩ = some (.string t417) ∧ w'.cell? ⟨gb427, 1, none⟩ = some (.string t418) ∧ w'.cell? ⟨gb427, 2, none⟩ = some (.string t419) ∧ w'.cell? ⟨gb427, 3, none⟩ = some (.slice Ao54 t420.length co54) ∧ w'.cell? ⟨gb427, 4, none⟩ = some (.slice Ao55 t423.length co55)) (ds := []) #[F,F,F,F,F,F,F,F,F,F,F,F,F,F,F,F,F,F,F,F,F,F,F,F,F,F] (by kernel_rfl) rfl rfl ⟨(zC BK427.out 0).trans rfl, (zC BK427.out 1).trans rfl, (zC BK427.out 2).trans rfl, (zC BK427.out 3).trans rfl, (zC BK427.out 4).trans rfl⟩ (fun hHeld => ?_); refine with_tabW lw_FlatTrees.tab12 lw_FlatTrees.bits12 (fun HT_ HW_ => ?_); generalize w59.drew = w60 at HO422 HO425 HO436 BK427 HB hHeld ⊢; refine pure_ (i := 0) (N := some 54) (v := ?_) (a' := ?_) #[T,F,F,F,F,F,F,F,F,F,F,F,F,F,F,F,F,F,F,F,F,F,F,F,F,F] rfl rfl (any_of HT_.out (by kernel_rfl)) (fun _ _ _ h => h) (Or.inl ⟨by rfl, ?_⟩) ?_ ?_; rotate_left; (intro w'; go_simp; (with_reducible rfl)); rotate_left; (simp only [Act.put, zt, zu, zv, i64_w, i32_w]; rfl); refine pure_ (i := 1) (N := some 55) (v := ?_) (a' := ?_) #[T,T,F,F,F,F,F,F,F,F,F,F,F,F,F,F,F,F,F,F,F,F,F,F,F,F] rfl rfl (any_of HT_.out (by kernel_rfl)) (fun _ _ _ h => h) (Or.inl ⟨by rfl, ?_⟩) ?_ ?_; rotate_left; (intro w'; go_simp; (with_reducible rfl)); rotate_left; (simp only [Act.put, zt, zu, zv, i64_w, i32_w]; rfl); refine pure_ (i := 2) (N := some 56) (v := ?_) (a' := ?_) #[T,T,T,F,F,F,F,F,F,F,F,F,F,F,F,F,F,F,F,F,F,F,F,F,F,F] rfl rfl (any_of HT_.out (by kernel_rfl)) (fun _ _ _ h => h) (Or.inl ⟨by rfl, ?_⟩) ?_ ?_; rotate_left; (intro w'; go_simp; (with_reducible rfl)); rotate_left; (simp only [Act.put, zt, zu, zv, i64_w, i32_w]; rfl); refine pure_ (i := 3) (N := some 57) (v := ?_) (a' := ?_) #[T,T,T,T,F,F,F,F,F,F,F,F,F,F,F,F,F,F,F,F,F,F,F,F,F,F] rfl rfl (any_of HT_.out (by kernel_rfl)) (fun _ _ _ h => h) (Or.inl ⟨by rfl, ?_⟩) ?_ ?_; rotate_left; (intro w'; go_simp; (with_reducible rfl)); rotate_left; (simp only [Act.put, zt, zu, zv, i64_w, i32_w]; rfl); refine pure_ (i := 4) (N := some 58) (v := ?_) (a' := ?_) #[T,T,T,T,T,F,F,F,F,F,F,F,F,F,F,F,F,F,F,F,F,F,F,F,F,F] rfl rfl (any_of HT_.out (by kernel_rfl)) (fun _ _ _ h => h) (Or.inl ⟨by rfl, ?_⟩) ?_ ?_; rotate_left; (intro w'; go_simp; (with_reducible rfl)); rotate_left; (simp only [Act.put, zt, zu, zv, i64_w, i32_w]; rfl); refine pure_ (i := 5) (N := some 59) (v := ?_) (a' := ?_) #[T,T,T,T,T,T,F,F,F,F,F,F,F,F,F,F,F,F,F,F,F,F,F,F,F,F] rfl rfl (any_of HT_.out (by kernel_rfl)) (fun _ _ _ h => h) (Or.inl ⟨by rfl, ?_⟩) ?_ ?_; rotate_left; (intro w'; go_simp; (with_reducible rfl)); rotate_left; (simp only [Act.put, zt, zu, zv, i64_w, i32_w]; rfl); refine pure_ (i := 6) (N := some 60) (v := ?_) (a' := ?_) #[T,T,T,T,T,T,T,F,F,F,F,F,F,F,F,F,F,F,F,F,F,F,F,F,F,F] rfl rfl (any_of HT_.out (by kernel_rfl)) (fun _ _ _ h => h) (Or.inl ⟨by rfl, ?_⟩) ?_ ?_; rotate_left; (intro w'; go_simp; (with_reducible rfl)); rotate_left; (simp only [Act.put, zt, zu, zv, i64_w, i32_w]; rfl); refine pure_ (i := 8) (N := some 62) (v := ?_) (a' := ?_) #[T,T,T,T,T,T,T,F,T,F,F,F,F,F,F,F,F,F,F,F,F,F,F,F,F,F] rfl rfl (any_of HT_.out (by kernel_rfl)) (fun _ _ _ h => h) (Or.inl ⟨by rfl, ?_⟩) ?_ ?_; rotate_left; (intro w'; go_simp; (with_reducible rfl)); rotate_left; (simp only [Act.put, zt, zu, zv, i64_w, i32_w]; rfl); refine take_ (i := 7) (N := some 61) (v := ?_) (a' := ?_) #[T,T,T,T,T,T,T,T,T,F,F,F,F,F,F,F,F,F,F,F,F,F,F,F,F,F] rfl rfl (take_ofW HT_.out HW_.out (by kernel_rfl)) (fun _ _ _ h => h) (Or.inl ⟨by rfl, ?_⟩) hHeld ?_ ?_; rotate_left; (rintro w' ⟨s0, s1, s2, s3, s4⟩; go_simp; (with_reducible rfl)); rotate_left; (simp only [Act.put, zt, zu, zv, i64_w, i32_w]; rfl); refine one_ (i := 9) (N := some 63) #[T,T,T,T,T,T,T,T,T,T,F,F,F,F,F,F,F,F,F,F,F,F,F,F,F,F] rfl rfl (one_of HT_.out (by kernel_rfl)) (by decide) (fun K hK => ?_); refine goes_ Try.func24 (by kernel_rfl) rfl #[.slice A0 l0.length c0, .int .i64 1] (by rfl) rfl rfl (by (try simp only [List.map_toArray, List.map_cons, List.map_nil]); first | done | rfl | (simp only [List.length_drop, List.length_take]; rfl)) ?_
          with_reducible refine (r13_Tree.calls k (fun k_ => k_ < w.heap.size) _ _ l0 1 t438 t439 t440 t441 t444 _ ?side1 A43.out).mono ?_
          (case side1 => exact Kd.V_mk HC0.out (Kd.F_below (Kd.C_F k53_heap HR0.out) (by with_reducible repeat first | exact HB.out | apply zA | apply zN | apply zD | refine zS ?_ GE427.out)))
          rintro e w61 ⟨v442, v445, rfl, ho0, ho1, hb⟩; refine ⟨_, rfl, ?_⟩; have n0_ := zk (Kd.R_below (by (with_reducible repeat (first | apply Kd.R_alloc | apply Kd.R_drewN | apply Kd.R_drew)); exact HO422.out) hb); have n1_ := zk (Kd.N_below (by (with_reducible repeat (first | apply Kd.N_alloc | apply Kd.N_drewN | apply Kd.N_drew)); exact HO425.out) hb); have n2_ := zk (Kd.N_below (by (with_reducible repeat (first | apply Kd.N_alloc | apply Kd.N_drewN | apply Kd.N_drew)); exact HO436.out) hb); have n3_ := zk (Kd.V_lower (Kd.V_mono (ok' := fun k_ => some k_ ≠ (.slice Ao54 t420.length co54 : Value).ownBlock ∧ some k_ ≠ (.slice Ao55 t423.length co55 : Value).ownBlock ∧ some k_ ≠ (v435 : Value).ownBlock ∧ k_ ≠ gb427) ho0 (fun k_ hk_ => ⟨Or.elim hk_ (fun hs_ => fun e_ => Nat.not_le.2 hs_ (Kd.R_base HO422.out k_ e_.symm)) (fun hn_ => (Kd.fresh' (Kd.R_lt (by (with_reducible repeat (first | apply Kd.R_alloc | apply Kd.R_drewN | apply Kd.R_drew)); exact HO422.out)) k_ hn_)), Or.elim hk_ (fun hs_ => fun e_ => Nat.not_le.2 hs_ (Kd.N_base HO425.out k_ e_.symm)) (fun hn_ => (Kd.fresh' (Kd.N_lt (by (with_reducible repeat (first | apply Kd.N_alloc | apply Kd.N_drewN | apply Kd.N_drew)); exact HO425.out)) k_ hn_)), Or.elim hk_ (fun hs_ => fun e_ => Nat.not_le.2 hs_ (Kd.N_base HO436.out k_ e_.symm)) (fun hn_ => (Kd.fresh' (Kd.N_lt (by (with_reducible repeat (first | apply Kd.N_alloc | apply Kd.N_drewN | apply Kd.N_drew)); exact HO436.out)) k_ hn_)), Or.elim hk_ (fun hs_ => fun e_ => Nat.not_le.2 hs_ (by rw [e_]; exact GW427.out)) (fun hn_ => (Kd.freshB (g := gb427) (o := .cells #[.string t417, .string t418, .string t419, .slice Ao54 t420.length co54, .slice Ao55 t423.length co55] 25 (0, 0)) (by (with_reducible repeat first | apply zM | apply zE | apply zF); exact BK427.out) k_ hn_))⟩)) (zq (by with_reducible repeat first | exact HB.out | apply zA | apply zN | apply zD | refine zS ?_ GE427.out))); have n4_ := zk (Kd.V_lower (Kd.V_mono (ok' := fun k_ => some k_ ≠ (.slice Ao54 t420.length co54 : Value).ownBlock ∧ some k_ ≠ (.slice Ao55 t423.length co55 : Value).ownBlock ∧ some k_ ≠ (v435 : Value).ownBlock ∧ k_ ≠ gb427) ho1 (fun k_ hk_ => ⟨Or.elim hk_ (fun hs_ => fun e_ => Nat.not_le.2 hs_ (Kd.R_base HO422.out k_ e_.symm)) (fun hn_ => (Kd.fresh' (Kd.R_lt (by (with_reducible repeat (first | apply Kd.R_alloc | apply Kd.R_drewN | apply Kd.R_drew)); exact HO422.out)) k_ hn_)), Or.elim hk_ (fun hs_ => fun e_ => Nat.not_le.2 hs_ (Kd.N_base HO425.out k_ e_.symm)) (fun hn_ => (Kd.fresh' (Kd.N_lt (by (with_reducible repeat (first | apply Kd.N_alloc | apply Kd.N_drewN | apply Kd.N_drew)); exact HO425.out)) k_ hn_)), Or.elim hk_ (fun hs_ => fun e_ => Nat.not_le.2 hs_ (Kd.N_base HO436.out k_ e_.symm)) (fun hn_ => (Kd.fresh' (Kd.N_lt (by (with_reducible repeat (first | apply Kd.N_alloc | apply Kd.N_drewN | apply Kd.N_drew)); exact HO436.out)) k_ hn_)), Or.elim hk_ (fun hs_ => fun e_ => Nat.not_le.2 hs_ (by rw [e_]; exact GW427.out)) (fun hn_ => (Kd.freshB (g := gb427) (o := .cells #[.string t417, .string t418, .string t419, .slice Ao54 t420.length co54, .slice Ao55 t423.length co55] 25 (0, 0)) (by (with_reducible repeat first | apply zM | apply zE | apply zF); exact BK427.out) k_ hn_))⟩)) (zq (by with_reducible repeat first | exact HB.out | apply zA | apply zN | apply zD | refine zS ?_ GE427.out))); have n5_ := zk (blk_below (g := gb427) (o := .cells #[.string t417, .string t418, .string t419, .slice Ao54 t420.length co54, .slice Ao55 t423.length co55] 25 (0, 0)) (by (with_reducible repeat first | apply zM | apply zE | apply zF); exact BK427.out) hb); have n6_ := zk (zs (by with_reducible repeat first | exact HB.out | apply zA | apply zN | apply zD | refine zS ?_ GE427.out) hb); clear HO422; clear HO425; clear HO436; clear BK427; clear HB; have HO422 := n0_; have HO425 := n1_; have HO436 := n2_; have HO443 := n3_; have HO446 := n4_; have BK427 := n5_; have HB := n6_; clear n0_ n1_ n2_ n3_ n4_ n5_ n6_
          (try clear hb)
          (try clear hb2)
          (try clear hk)
          (try clear hi)
          (try clear ho0)
          (try clear ho1)
          obtain ⟨Ao62, co62, eo62⟩ := Kd.V_slice HO443.out
          (first | subst eo62 | (injection eo62 with f1_ f2_ f3_; have f4_ := f1_.symm; have f5_ := f3_.symm; clear f1_ f2_ f3_; subst f4_; subst f5_))
          obtain ⟨Ao63, co63, eo63⟩ := Kd.V_slice HO446.out
          (first | subst eo63 | (injection eo63 with f1_ f2_ f3_; have f4_ := f1_.symm; have f5_ := f3_.symm; clear f1_ f2_ f3_; subst f4_; subst f5_))
          refine hK.out _ _ ⟨(zC BK427.out 0).trans rfl, (zC BK427.out 1).trans rfl, (zC BK427.out 2).trans rfl, (zC BK427.out 3).trans rfl, (zC BK427.out 4).trans rfl⟩ (fun hHeld => ?_); clear hK K; refine norm_ (a' := ?_) ?_ ?_; rotate_left
          ·
           show Act.put _ (some 63) _ = _
           simp only [Act.put, zt, zu, zv, i64_w, i32_w]; rfl
          refine one_ (i := 10) (N := some 64) #[T,T,T,T,T,T,T,T,T,T,T,F,F,F,F,F,F,F,F,F,F,F,F,F,F,F] rfl rfl (one_of HT_.out (by kernel_rfl)) (by decide) (fun K hK => ?_); refine goes_ Try.func13 (by kernel_rfl) rfl #[.agg #[.string t417, .string t418, .string t419, .slice Ao54 t420.length co54, .slice Ao55 t423.length co55], .agg #[.string t438, .string t439, .string t440, .slice Ao62 t441.length co62, .slice Ao63 t444.length co63]] (by rfl) rfl rfl (by (try simp only [List.map_toArray, List.map_cons, List.map_nil]); first | done | rfl | (simp only [List.length_drop, List.length_take]; rfl)) ?_
          with_reducible refine (pl_Nodes.calls k t417 t418 t419 _ _ t420 _ _ t423 t438 t439 t440 _ _ t441 _ _ t444 true _ ?side1 ?side2 ?side3 ?side4 ?side5 ?side6 ?side7 ?side8 A44.out).mono ?_
          (case side1 => repeat (first | exact (Kd.R_reads' HO422.out).2.2 | (with_reducible refine Kd.C_alloc ?_ _) | (with_reducible refine Kd.C_drewN ?_ _) | (with_reducible refine Kd.C_drew ?_)))
          (case side2 => exact (Kd.R_reads' HO422.out).2.1)
          (case side3 => repeat (first | exact (Kd.N_reads' HO425.out).2.2 | (with_reducible refine Kd.C_alloc ?_ _) | (with_reducible refine Kd.C_drewN ?_ _) | (with_reducible refine Kd.C_drew ?_)))
          (case side4 => exact (Kd.N_reads' HO425.out).2.1)
          (case side5 => repeat (first | exact (Kd.V_reads' HO443.out).2.2 | (with_reducible refine Kd.C_alloc ?_ _) | (with_reducible refine Kd.C_drewN ?_ _) | (with_reducible refine Kd.C_drew ?_)))
          (case side6 => exact (Kd.V_reads' HO443.out).2.1)
          (case side7 => repeat (first | exact (Kd.V_reads' HO446.out).2.2 | (with_reducible refine Kd.C_alloc ?_ _) | (with_reducible refine Kd.C_drewN ?_ _) | (with_reducible refine Kd.C_drew ?_)))
          (case side8 => exact (Kd.V_reads' HO446.out).2.1)
          rintro e w64 ⟨rfl, hb⟩; refine ⟨_, rfl, ?_⟩; have n0_ := zk (Kd.R_below (by (with_reducible repeat (first | apply Kd.R_alloc | apply Kd.R_drewN | apply Kd.R_drew)); exact HO422.out) hb); have n1_ := zk (Kd.N_below (by (with_reducible repeat (first | apply Kd.N_alloc | apply Kd.N_drewN | apply Kd.N_drew)); exact HO425.out) hb); have n2_ := zk (Kd.N_below (by (with_reducible repeat (first | apply Kd.N_alloc | apply Kd.N_drewN | apply Kd.N_drew)); exact HO436.out) hb); have n3_ := zk (Kd.V_below (by (with_reducible repeat (first | apply Kd.V_alloc | apply Kd.V_drewN | apply Kd.V_drew)); exact HO443.out) hb); have n4_ := zk (Kd.V_below (by (with_reducible repeat (first | apply Kd.V_alloc | apply Kd.V_drewN | apply Kd.V_drew)); exact HO446.out) hb); have n5_ := zk (blk_below (g := gb427) (o := .cells #[.string t417, .string t418, .string t419, .slice Ao54 t420.length co54, .slice Ao55 t423.length co55] 25 (0, 0)) (by (with_reducible repeat first | apply zM | apply zE | apply zF); exact BK427.out) hb); have n6_ := zk (zs (by with_reducible repeat first | exact HB.out | apply zA | apply zN | apply zD | refine zS ?_ GE427.out) hb); clear HO422; clear HO425; clear HO436; clear HO443; clear HO446; clear BK427; clear HB; have HO422 := n0_; have HO425 := n1_; have HO436 := n2_; have HO443 := n3_; have HO446 := n4_; have BK427 := n5_; have HB := n6_; clear n0_ n1_ n2_ n3_ n4_ n5_ n6_
          (try clear hb)
          (try clear hb2)
          (try clear hk)
          (try clear hi)
          obtain ⟨Ao65, co65, eo65⟩ := Kd.N_slice HO436.out
          (first | subst eo65 | (injection eo65 with f1_ f2_ f3_; have f4_ := f1_.symm; have f5_ := f3_.symm; clear f1_ f2_ f3_; subst f4_; subst f5_))
          refine hK.out _ _ ⟨(zC BK427.out 0).trans rfl, (zC BK427.out 1).trans rfl, (zC BK427.out 2).trans rfl, (zC BK427.out 3).trans rfl, (zC BK427.out 4).trans rfl⟩ (fun hHeld => ?_); clear hK K; refine norm_ (a' := ?_) ?_ ?_; rotate_left
          ·
           show Act.put _ (some 64) _ = _
           simp only [Act.put, zt, zu, zv, i64_w, i32_w]; rfl
          refine pure_ (i := 11) (N := some 65) (v := ?_) (a' := ?_) #[T,T,T,T,T,T,T,T,T,T,T,T,F,F,F,F,F,F,F,F,F,F,F,F,F,F] rfl rfl (any_of HT_.out (by kernel_rfl)) (fun _ _ _ h => h) (Or.inl ⟨by rfl, ?_⟩) ?_ ?_; rotate_left; (intro w'; go_simp; (with_reducible rfl)); rotate_left; (simp only [Act.put, zt, zu, zv, i64_w, i32_w]; rfl); refine pure_ (i := 12) (N := some 66) (v := ?_) (a' := ?_) #[T,T,T,T,T,T,T,T,T,T,T,T,T,F,F,F,F,F,F,F,F,F,F,F,F,F] rfl rfl (any_of HT_.out (by kernel_rfl)) (fun _ _ _ h => h) (Or.inl ⟨by rfl, ?_⟩) ?_ ?_; rotate_left; (intro w'; go_simp; (with_reducible rfl)); rotate_left; (simp only [Act.put, zt, zu, zv, i64_w, i32_w]; rfl); refine pure_ (i := 13) (N := some 67) (v := ?_) (a' := ?_) #[T,T,T,T,T,T,T,T,T,T,T,T,T,T,F,F,F,F,F,F,F,F,F,F,F,F] rfl rfl (any_of HT_.out (by kernel_rfl)) (fun _ _ _ h => h) (Or.inl ⟨by rfl, ?_⟩) ?_ ?_; rotate_left; (intro w'; go_simp; (with_reducible rfl)); rotate_left; (simp only [Act.put, zt, zu, zv, i64_w, i32_w]; rfl); refine pure_ (i := 14) (N := some 68) (v := ?_) (a' := ?_) #[T,T,T,T,T,T,T,T,T,T,T,T,T,T,T,F,F,F,F,F,F,F,F,F,F,F] rfl rfl (any_of HT_.out (by kernel_rfl)) (fun _ _ _ h => h) (Or.inl ⟨by rfl, ?_⟩) ?_ ?_; rotate_left; (intro w'; go_simp; (with_reducible rfl)); rotate_left; (simp only [Act.put, zt, zu, zv, i64_w, i32_w]; rfl); refine one_ (i := 15) (N := some 69) #[T,T,T,T,T,T,T,T,T,T,T,T,T,T,T,T,F,F,F,F,F,F,F,F,F,F] rfl rfl (one_of HT_.out (by kernel_rfl)) (by decide) (fun K hK => ?_); refine goes_ Try.func25 (by kernel_rfl) rfl #[.slice Ao65 t434.length co65, .slice A0 l0.length c0] (by rfl) rfl rfl (by (try simp only [List.map_toArray, List.map_cons, List.map_nil]); first | done | rfl | (simp only [List.length_drop, List.length_take]; rfl)) ?_
          with_reducible refine (pl_Shapes.calls k _ _ t434 _ _ l0 true _ ?side1 ?side2 ?side3 ?side4 A46.out).mono ?_
          (case side1 => repeat (first | exact (Kd.N_reads' HO436.out).2.2 | (with_reducible refine Kd.C_alloc ?_ _) | (with_reducible refine Kd.C_drewN ?_ _) | (with_reducible refine Kd.C_drew ?_)))
          (case side2 => exact (Kd.N_reads' HO436.out).2.1)
          (case side3 => repeat (first | exact (Kd.C_below HR0.out HB.out) | (with_reducible refine Kd.C_alloc ?_ _) | (with_reducible refine Kd.C_drewN ?_ _) | (with_reducible refine Kd.C_drew ?_)))
          (case side4 => exact HC0.out)
          rintro e w66 ⟨rfl, hb⟩; refine ⟨_, rfl, ?_⟩; have n0_ := zk (Kd.R_below (by (with_reducible repeat (first | apply Kd.R_alloc | apply Kd.R_drewN | apply Kd.R_drew)); exact HO422.out) hb); have n1_ := zk (Kd.N_below (by (with_reducible repeat (first | apply Kd.N_alloc | apply Kd.N_drewN | apply Kd.N_drew)); exact HO425.out) hb); have n2_ := zk (Kd.N_below (by (with_reducible repeat (first | apply Kd.N_alloc | apply Kd.N_drewN | apply Kd.N_drew)); exact HO436.out) hb); have n3_ := zk (Kd.V_below (by (with_reducible repeat (first | apply Kd.V_alloc | apply Kd.V_drewN | apply Kd.V_drew)); exact HO443.out) hb); have n4_ := zk (Kd.V_below (by (with_reducible repeat (first | apply Kd.V_alloc | apply Kd.V_drewN | apply Kd.V_drew)); exact HO446.out) hb); have n5_ := zk (blk_below (g := gb427) (o := .cells #[.string t417, .string t418, .string t419, .slice Ao54 t420.length co54, .slice Ao55 t423.length co55] 25 (0, 0)) (by (with_reducible repeat first | apply zM | apply zE | apply zF); exact BK427.out) hb); have n6_ := zk (zs (by with_reducible repeat first | exact HB.out | apply zA | apply zN | apply zD | refine zS ?_ GE427.out) hb); clear HO422; clear HO425; clear HO436; clear HO443; clear HO446; clear BK427; clear HB; have HO422 := n0_; have HO425 := n1_; have HO436 := n2_; have HO443 := n3_; have HO446 := n4_; have BK427 := n5_; have HB := n6_; clear n0_ n1_ n2_ n3_ n4_ n5_ n6_
          (try clear hb)
          (try clear hb2)
          (try clear hk)
          (try clear hi)
          refine hK.out _ _ ⟨(zC BK427.out 0).trans rfl, (zC BK427.out 1).trans rfl, (zC BK427.out 2).trans rfl, (zC BK427.out 3).trans rfl, (zC BK427.out 4).trans rfl⟩ (fun hHeld => ?_); clear hK K; refine norm_ (a' := ?_) ?_ ?_; rotate_left
          ·
           show Act.put _ (some 69) _ = _
           simp only [Act.put, zt, zu, zv, i64_w, i32_w]; rfl
          refine pure_ (i := 16) (N := some 70) (v := ?_) (a' := ?_) #[T,T,T,T,T,T,T,T,T,T,T,T,T,T,T,T,T,F,F,F,F,F,F,F,F,F] rfl rfl (any_of HT_.out (by kernel_rfl)) (fun _ _ _ h => h) (Or.inl ⟨by rfl, ?_⟩) ?_ ?_; rotate_left; (intro w'; go_simp; (with_reducible rfl)); rotate_left; (simp only [Act.put, zt, zu, zv, i64_w, i32_w]; rfl); refine pure_ (i := 17) (N := some 71) (v := ?_) (a' := ?_) #[T,T,T,T,T,T,T,T,T,T,T,T,T,T,T,T,T,T,F,F,F,F,F,F,F,F] rfl rfl (any_of HT_.out (by kernel_rfl)) (fun _ _ _ h => h) (Or.inl ⟨by rfl, ?_⟩) ?_ ?_; rotate_left; (intro w'; go_simp; (with_reducible rfl)); rotate_left; (simp only [Act.put, zt, zu, zv, i64_w, i32_w]; rfl); refine pure_ (i := 18) (N := some 72) (v := ?_) (a' := ?_) #[T,T,T,T,T,T,T,T,T,T,T,T,T,T,T,T,T,T,T,F,F,F,F,F,F,F] rfl rfl (any_of HT_.out (by kernel_rfl)) (fun _ _ _ h => h) (Or.inl ⟨by rfl, ?_⟩) ?_ ?_; rotate_left; (intro w'; go_simp; (with_reducible rfl)); rotate_left; (simp only [Act.put, zt, zu, zv, i64_w, i32_w]; rfl); refine pure_ (i := 19) (N := some 73) (v := ?_) (a' := ?_) #[T,T,T,T,T,T,T,T,T,T,T,T,T,T,T,T,T,T,T,T,F,F,F,F,F,F] rfl rfl (any_of HT_.out (by kernel_rfl)) (fun _ _ _ h => h) (Or.inl ⟨by rfl, ?_⟩) ?_ ?_; rotate_left; (intro w'; go_simp; (with_reducible rfl)); rotate_left; (simp only [Act.put, zt, zu, zv, i64_w, i32_w]; rfl); refine one_ (i := 20) (N := some 74) #[T,T,T,T,T,T,T,T,T,T,T,T,T,T,T,T,T,T,T,T,T,F,F,F,F,F] rfl rfl (one_of HT_.out (by kernel_rfl)) (by decide) (fun K hK => ?_); refine goes_ Try.func26 (by kernel_rfl) rfl #[.slice Ao65 t434.length co65, .slice A0 l0.length c0] (by rfl) rfl rfl (by (try simp only [List.map_toArray, List.map_cons, List.map_nil]); first | done | rfl | (simp only [List.length_drop, List.length_take]; rfl)) ?_
          with_reducible refine (flat_Same.calls k _ _ t434 _ _ l0 true _ ?side1 ?side2 ?side3 ?side4 A48.out).mono ?_
          (case side1 => repeat (first | exact (Kd.N_reads' HO436.out).2.2 | (with_reducible refine Kd.C_alloc ?_ _) | (with_reducible refine Kd.C_drewN ?_ _) | (with_reducible refine Kd.C_drew ?_)))
          (case side2 => exact (Kd.N_reads' HO436.out).2.1)
          (case side3 => repeat (first | exact (Kd.C_below HR0.out HB.out) | (with_reducible refine Kd.C_alloc ?_ _) | (with_reducible refine Kd.C_drewN ?_ _) | (with_reducible refine Kd.C_drew ?_)))
          (case side4 => exact HC0.out)
          rintro e w67 ⟨rfl, hb⟩; refine ⟨_, rfl, ?_⟩; have n0_ := zk (Kd.R_below (by (with_reducible repeat (first | apply Kd.R_alloc | apply Kd.R_drewN | apply Kd.R_drew)); exact HO422.out) hb); have n1_ := zk (Kd.N_below (by (with_reducible repeat (first | apply Kd.N_alloc | apply Kd.N_drewN | apply Kd.N_drew)); exact HO425.out) hb); have n2_ := zk (Kd.N_below (by (with_reducible repeat (first | apply Kd.N_alloc | apply Kd.N_drewN | apply Kd.N_drew)); exact HO436.out) hb); have n3_ := zk (Kd.V_below (by (with_reducible repeat (first | apply Kd.V_alloc | apply Kd.V_drewN | apply Kd.V_drew)); exact HO443.out) hb); have n4_ := zk (Kd.V_below (by (with_reducible repeat (first | apply Kd.V_alloc | apply Kd.V_drewN | apply Kd.V_drew)); exact HO446.out) hb); have n5_ := zk (blk_below (g := gb427) (o := .cells #[.string t417, .string t418, .string t419, .slice Ao54 t420.length co54, .slice Ao55 t423.length co55] 25 (0, 0)) (by (with_reducible repeat first | apply zM | apply zE | apply zF); exact BK427.out) hb); have n6_ := zk (zs (by with_reducible repeat first | exact HB.out | apply zA | apply zN | apply zD | refine zS ?_ GE427.out) hb); clear HO422; clear HO425; clear HO436; clear HO443; clear HO446; clear BK427; clear HB; have HO422 := n0_; have HO425 := n1_; have HO436 := n2_; have HO443 := n3_; have HO446 := n4_; have BK427 := n5_; have HB := n6_; clear n0_ n1_ n2_ n3_ n4_ n5_ n6_
          (try clear hb)
          (try clear hb2)
          (try clear hk)
          (try clear hi)
          refine hK.out _ _ ⟨(zC BK427.out 0).trans rfl, (zC BK427.out 1).trans rfl, (zC BK427.out 2).trans rfl, (zC BK427.out 3).trans rfl, (zC BK427.out 4).trans rfl⟩ (fun hHeld => ?_); clear hK K; refine norm_ (a' := ?_) ?_ ?_; rotate_left
          ·
           show Act.put _ (some 74) _ = _
           simp only [Act.put, zt, zu, zv, i64_w, i32_w]; rfl
          refine pure_ (i := 21) (N := some 75) (v := ?_) (a' := ?_) #[T,T,T,T,T,T,T,T,T,T,T,T,T,T,T,T,T,T,T,T,T,T,F,F,F,F] rfl rfl (any_of HT_.out (by kernel_rfl)) (fun _ _ _ h => h) (Or.inl ⟨by rfl, ?_⟩) ?_ ?_; rotate_left; (intro w'; go_simp; (with_reducible rfl)); rotate_left; (simp only [Act.put, zt, zu, zv, i64_w, i32_w]; rfl); refine pure_ (i := 22) (N := some 76) (v := ?_) (a' := ?_) #[T,T,T,T,T,T,T,T,T,T,T,T,T,T,T,T,T,T,T,T,T,T,T,F,F,F] rfl rfl (any_of HT_.out (by kernel_rfl)) (fun _ _ _ h => h) (Or.inl ⟨by rfl, ?_⟩) ?_ ?_; rotate_left; (intro w'; go_simp; (with_reducible rfl)); rotate_left; (simp only [Act.put, zt, zu, zv, i64_w, i32_w]; rfl); refine one_ (i := 23) (N := some 77) #[T,T,T,T,T,T,T,T,T,T,T,T,T,T,T,T,T,T,T,T,T,T,T,T,F,F] rfl rfl (one_of HT_.out (by kernel_rfl)) (by decide) (fun K hK => ?_); refine goes_ Try.func8 (by kernel_rfl) rfl #[] (by rfl) rfl rfl (by (try simp only [List.map_toArray, List.map_cons, List.map_nil]); first | done | rfl | (simp only [List.length_drop, List.length_take]; rfl)) ?_
          with_reducible refine (lw_same.calls k  t450 _ A50.out).mono ?_
          rintro e w68 ⟨rfl, hb⟩; refine ⟨_, rfl, ?_⟩; have n0_ := zk (Kd.R_below (by (with_reducible repeat (first | apply Kd.R_alloc | apply Kd.R_drewN | apply Kd.R_drew)); exact HO422.out) hb); have n1_ := zk (Kd.N_below (by (with_reducible repeat (first | apply Kd.N_alloc | apply Kd.N_drewN | apply Kd.N_drew)); exact HO425.out) hb); have n2_ := zk (Kd.N_below (by (with_reducible repeat (first | apply Kd.N_alloc | apply Kd.N_drewN | apply Kd.N_drew)); exact HO436.out) hb); have n3_ := zk (Kd.V_below (by (with_reducible repeat (first | apply Kd.V_alloc | apply Kd.V_drewN | apply Kd.V_drew)); exact HO443.out) hb); have n4_ := zk (Kd.V_below (by (with_reducible repeat (first | apply Kd.V_alloc | apply Kd.V_drewN | apply Kd.V_drew)); exact HO446.out) hb); have n5_ := zk (blk_below (g := gb427) (o := .cells #[.string t417, .string t418, .string t419, .slice Ao54 t420.length co54, .slice Ao55 t423.length co55] 25 (0, 0)) (by (with_reducible repeat first | apply zM | apply zE | apply zF); exact BK427.out) hb); have n6_ := zk (zs (by with_reducible repeat first | exact HB.out | apply zA | apply zN | apply zD | refine zS ?_ GE427.out) hb); clear HO422; clear HO425; clear HO436; clear HO443; clear HO446; clear BK427; clear HB; have HO422 := n0_; have HO425 := n1_; have HO436 := n2_; have HO443 := n3_; have HO446 := n4_; have BK427 := n5_; have HB := n6_; clear n0_ n1_ n2_ n3_ n4_ n5_ n6_
          (try clear hb)
          (try clear hb2)
          (try clear hk)
          (try clear hi)
          refine hK.out _ _ ⟨(zC BK427.out 0).trans rfl, (zC BK427.out 1).trans rfl, (zC BK427.out 2).trans rfl, (zC BK427.out 3).trans rfl, (zC BK427.out 4).trans rfl⟩ (fun hHeld => ?_); clear hK K; refine norm_ (a' := ?_) ?_ ?_; rotate_left
          ·
           show Act.put _ (some 77) _ = _
           simp only [Act.put, zt, zu, zv, i64_w, i32_w]; rfl
          refine pure_ (i := 24) (N := some 78) (v := ?_) (a' := ?_) #[T,T,T,T,T,T,T,T,T,T,T,T,T,T,T,T,T,T,T,T,T,T,T,T,T,F] rfl rfl (any_of HT_.out (by kernel_rfl)) (fun _ _ _ h => h) (Or.inl ⟨by rfl, ?_⟩) ?_ ?_; rotate_left; (intro w'; go_simp; (with_reducible rfl)); rotate_left; (simp only [Act.put, zt, zu, zv, i64_w, i32_w]; rfl); refine pure_ (i := 25) (N := some 2) (v := ?_) (a' := ?_) #[T,T,T,T,T,T,T,T,T,T,T,T,T,T,T,T,T,T,T,T,T,T,T,T,T,T] rfl rfl (any_of HT_.out (by kernel_rfl)) (fun _ _ _ h => h) (Or.inl ⟨by rfl, ?_⟩) ?_ ?_; rotate_left; (intro w'; go_simp; (with_reducible rfl)); rotate_left; (simp only [Act.put, zt, zu, zv, i64_w, i32_w]; rfl); refine done_ (done_of HT_.out (by kernel_rfl)) ?_
          try go_wp2
          go_ret; exact ⟨by first | rfl | (simp [wN, wS] <;> rfl) | (simp [*, wN, wS] <;> rfl), by with_reducible repeat first | exact HB.out | apply zA | apply zN | apply zD | refine zS ?_ GE427.out⟩
         ·
          replace c49 := Bool.eq_false_iff.mpr c49; subst c49
          have H1 : (some false) = some r := by rw [if_neg (show ¬ (false = true) by decide)] at H; exact H
          clear H; have H := H1; clear H1; exact absurd ((Option.some.inj H).trans HR_.out) (by decide)
        ·
         replace c47 := Bool.eq_false_iff.mpr c47; subst c47
         have H1 : (some false) = some r := by rw [if_neg (show ¬ (false = true) by decide)] at H; exact H
         clear H; have H := H1; clear H1; exact absurd ((Option.some.inj H).trans HR_.out) (by decide)
       ·
        replace c45 := Bool.eq_false_iff.mpr c45; subst c45
        have H1 : (some false) = some r := by rw [if_neg (show ¬ (false = true) by decide)] at H; exact H
        clear H; have H := H1; clear H1; exact absurd ((Option.some.inj H).trans HR_.out) (by decide)
      ·
       rw [if_neg c42] at H; have c42b0 := beq_eq_false_iff_ne.mpr c42; have c42b1 := bne_iff_ne.mpr c42; exact absurd ((Option.some.inj H).trans HR_.out) (by decide)
     ·
      rw [if_neg c41] at H; have c41b0 := beq_eq_false_iff_ne.mpr c41; have c41b1 := bne_iff_ne.mpr c41; exact absurd ((Option.some.inj H).trans HR_.out) (by decide)
    ·
     rw [if_neg c39] at H; have c39b0 := beq_eq_false_iff_ne.mpr c39; have c39b1 := bne_iff_ne.mpr c39
     by_cases c136 : t426 = t428
     ·
      rw [if_pos c136] at H; have c136b0 := beq_iff_eq.mpr c136; have c136b1 := bne_eq_false_iff_eq.mpr c136; clear c136; replace H := Option.bind_eq_some_iff.mp H; obtain ⟨t432, A1370, H⟩ := H; replace H : (if t432 = true then ((lw_same.f k).bind fun t433 => (some t433)) else (some false)) = some r := H; have A137 := zk A1370; clear A1370
      by_cases c138 : t432 = true
      ·
       subst c138
       have H1 : ((lw_same.f k).bind fun t433 => (some t433)) = some r := by rw [if_pos rfl] at H; exact H
       clear H; have H := H1; clear H1; replace H := Option.bind_eq_some_iff.mp H; obtain ⟨t433, A1390, H⟩ := H; replace H : (some t433) = some r := H; have A139 := zk A1390; clear A1390; obtain rfl := Option.some.inj H
       go_enter Try.func5, Try.ntmps5
       go_wp2_with (first | ((with_reducible refine gk (f := 15) rfl ?_); refine gl (some 9) rfl rfl Try.func15 (by kernel_rfl) rfl #[.slice A0 l0.length c0, .int .i64 600] rfl (by (try simp only [List.map_toArray, List.map_cons, List.map_nil]); first | done | rfl | (simp only [List.length_drop, List.length_take]; rfl)) ?_; (with_reducible refine (pl_FewRows.calls k _ _ l0 600 true _ ?side1 ?side2 A2.out).mono ?_); (case side1 => repeat (first | exact HR0.out | (with_reducible refine Kd.C_alloc ?_ _) | (with_reducible refine Kd.C_drewN ?_ _) | (with_reducible refine Kd.C_drew ?_))); (case side2 => exact HC0.out); rintro e w' ⟨rfl, ⟨nd, rfl⟩⟩; refine ⟨_, rfl, ?_⟩) | ((with_reducible refine gk (f := 12) rfl ?_); refine gl (some 14) rfl rfl Try.func12 (by kernel_rfl) rfl #[.slice A0 l0.length c0] rfl (by (try simp only [List.map_toArray, List.map_cons, List.map_nil]); first | done | rfl | (simp only [List.length_drop, List.length_take]; rfl)) ?_; (with_reducible refine (flat_Tree.calls k (fun k_ => k_ < w.heap.size) _ _ l0 t417 t418 t419 t420 t423 t426 _ ?side1 A4.out).mono ?_); (case side1 => exact Kd.V_mk HC0.out (Kd.F_below (Kd.C_F k53_heap HR0.out) (by with_reducible repeat first | exact HB.out | apply zA | apply zN | apply zD))); rintro e w140 ⟨v421, v424, rfl, ho0, ho1, hb⟩; refine ⟨_, rfl, ?_⟩; have n0_ := zk (Kd.R_lower (Kd.R_mono (ok' := fun k_ => True) ho0 (fun _ hk_ => trivial)) (zq (by with_reducible repeat first | exact HB.out | apply zA | apply zN | apply zD))); have n1_ := zk (Kd.N_lower (Kd.N_mono (ok' := fun k_ => some k_ ≠ (v421 : Value).ownBlock) (Kd.R_N (Kd.R_bound ho1)) (fun k_ hk_ => hk_.1.2)) (zq (by with_reducible repeat first | exact HB.out | apply zA | apply zN | apply zD))); have n2_ := zk (zs (by with_reducible repeat first | exact HB.out | apply zA | apply zN | apply zD) hb); clear HB; have HO422 := n0_; have HO425 := n1_; have HB := n2_; clear n0_ n1_ n2_; (try clear hb); (try clear hb2); (try clear hk); (try clear hi); (try clear ho0); (try clear ho1)) | ((with_reducible refine gd (N := 3) rfl ?_); refine zb ?hg (N := 3) ?hd (cs := #[.string ⟨#[]⟩, .string ⟨#[]⟩, .string ⟨#[]⟩, .slice none 0 0, .slice none 0 0]) (t := 25) ?hr ?_; (case hd => rfl); (case hg => rfl); (case hr => go_simp; first | done | rfl); intro gb427 hg w141 hbox hb; have n0_ := zk (Kd.R_below (by (with_reducible repeat (first | apply Kd.R_alloc | apply Kd.R_drewN | apply Kd.R_drew)); exact HO422.out) hb); have n1_ := zk (Kd.N_below (Kd.N_elderB (by (with_reducible repeat (first | apply Kd.N_alloc | apply Kd.N_drewN | apply Kd.N_drew)); exact HO425.out) gb427 (Nat.le_of_eq hg.symm)) hb); have n2_ := zk (zs (by with_reducible repeat first | exact HB.out | apply zA | apply zN | apply zD) hb); have n3_ := zk (hbox); have n4_ := zk ((by rw [hg]; exact (zq (by with_reducible repeat first | exact HB.out | apply zA | apply zN | apply zD)) : w.heap.size ≤ gb427)); have n5_ := n4_; clear HO422; clear HO425; clear HB; have HO422 := n0_; have HO425 := n1_; have HB := n2_; have BK427 := n3_; have GW427 := n4_; have GE427 := n5_; clear n0_ n1_ n2_ n3_ n4_ n5_; clear hb hbox hg; obtain ⟨hcz142_0, hcz142_1, hcz142_2, hcz142_3, hcz142_4, hfz142_0, hfz142_1, hfz142_2, hfz142_3, hfz142_4⟩ := zc5 BK427.out; obtain ⟨Ao143, co143, eo143⟩ := Kd.R_slice HO422.out; subst eo143; obtain ⟨Ao144, co144, eo144⟩ := Kd.N_slice HO425.out; subst eo144) | ((with_reducible refine gk (f := 19) rfl ?_); refine gl (some 18) rfl rfl Try.func19 (by kernel_rfl) rfl #[.slice A0 l0.length c0] rfl (by (try simp only [List.map_toArray, List.map_cons, List.map_nil]); first | done | rfl | (simp only [List.length_drop, List.length_take]; rfl)) ?_; (with_reducible refine (r13_Check.calls k _ _ l0 t428 _ ?side1 ?side2 A5.out).mono ?_); (case side1 => exact Kd.C_below HR0.out (by with_reducible repeat first | exact HB.out | apply zA | apply zN | apply zD | refine zS ?_ GE427.out)); (case side2 => exact HC0.out); rintro e w145 ⟨rfl, hb⟩; refine ⟨_, rfl, ?_⟩; have n0_ := zk (Kd.R_below (by (with_reducible repeat (first | apply Kd.R_alloc | apply Kd.R_drewN | apply Kd.R_drew)); exact (Kd.R_mono (Kd.R_far (p := ⟨gb427, 4, none⟩) (Kd.R_far (p := ⟨gb427, 3, none⟩) (Kd.R_far (p := ⟨gb427, 2, none⟩) (Kd.R_far (p := ⟨gb427, 1, none⟩) (Kd.R_far (p := ⟨gb427, 0, none⟩) (Kd.R_types HO422.out BK427.out (by decide)) (fun _ hk => hk.2) (.string t417)) (fun _ hk => hk.2) (.string t418)) (fun _ hk => hk.2) (.string t419)) (fun _ hk => hk.2) (.slice Ao143 t420.length co143)) (fun _ hk => hk.2) (.slice Ao144 t423.length co144)) (fun _ h_ => h_.1))) hb); have n1_ := zk (Kd.N_below (by (with_reducible repeat (first | apply Kd.N_alloc | apply Kd.N_drewN | apply Kd.N_drew)); exact (Kd.N_mono (Kd.N_far (p := ⟨gb427, 4, none⟩) (Kd.N_far (p := ⟨gb427, 3, none⟩) (Kd.N_far (p := ⟨gb427, 2, none⟩) (Kd.N_far (p := ⟨gb427, 1, none⟩) (Kd.N_far (p := ⟨gb427, 0, none⟩) (Kd.N_mono HO425.out (fun k_ hk => (⟨hk, hk.2⟩ : _ ∧ k_ ≠ gb427))) (fun _ hk => hk.2) (.string t417)) (fun _ hk => hk.2) (.string t418)) (fun _ hk => hk.2) (.string t419)) (fun _ hk => hk.2) (.slice Ao143 t420.length co143)) (fun _ hk => hk.2) (.slice Ao144 t423.length co144)) (fun _ h_ => h_.1))) hb); have n2_ := zk (blk_below (g := gb427) (o := .cells #[.string t417, .string t418, .string t419, .slice Ao143 t420.length co143, .slice Ao144 t423.length co144] 25 (0, 0)) (by (with_reducible repeat first | apply zM | apply zE | apply zF); refine zP (cs := #[.string t417, .string t418, .string t419, .slice Ao143 t420.length co143, .slice none 0 0]) ?_ 4 _ rfl; (with_reducible repeat first | apply zM | apply zE | apply zF); refine zP (cs := #[.string t417, .string t418, .string t419, .slice none 0 0, .slice none 0 0]) ?_ 3 _ rfl; (with_reducible repeat first | apply zM | apply zE | apply zF); refine zP (cs := #[.string t417, .string t418, .string ⟨#[]⟩, .slice none 0 0, .slice none 0 0]) ?_ 2 _ rfl; (with_reducible repeat first | apply zM | apply zE | apply zF); refine zP (cs := #[.string t417, .string ⟨#[]⟩, .string ⟨#[]⟩, .slice none 0 0, .slice none 0 0]) ?_ 1 _ rfl; (with_reducible repeat first | apply zM | apply zE | apply zF); refine zP (cs := #[.string ⟨#[]⟩, .string ⟨#[]⟩, .string ⟨#[]⟩, .slice none 0 0, .slice none 0 0]) ?_ 0 _ rfl; (with_reducible repeat first | apply zM | apply zE | apply zF); exact BK427.out) hb); have n3_ := zk (zs (by with_reducible repeat first | exact HB.out | apply zA | apply zN | apply zD | refine zS ?_ GE427.out) hb); clear HO422; clear HO425; clear BK427; clear HB; have HO422 := n0_; have HO425 := n1_; have BK427 := n2_; have HB := n3_; clear n0_ n1_ n2_ n3_; (try clear hb); (try clear hb2); (try clear hk); (try clear hi)) | ((with_reducible refine gk (f := 14) rfl ?_); refine gl (some 20) rfl rfl Try.func14 (by kernel_rfl) rfl #[.slice A0 l0.length c0] rfl (by (try simp only [List.map_toArray, List.map_cons, List.map_nil]); first | done | rfl | (simp only [List.length_drop, List.length_take]; rfl)) ?_; (with_reducible refine (flat_Check.calls k _ _ l0 t429 _ ?side1 ?side2 A6.out).mono ?_); (case side1 => repeat (first | exact (Kd.C_below HR0.out HB.out) | (with_reducible refine Kd.C_alloc ?_ _) | (with_reducible refine Kd.C_drewN ?_ _) | (with_reducible refine Kd.C_drew ?_))); (case side2 => exact HC0.out); rintro e w146 ⟨rfl, hb⟩; refine ⟨_, rfl, ?_⟩; have n0_ := zk (Kd.R_below (by (with_reducible repeat (first | apply Kd.R_alloc | apply Kd.R_drewN | apply Kd.R_drew)); exact HO422.out) hb); have n1_ := zk (Kd.N_below (by (with_reducible repeat (first | apply Kd.N_alloc | apply Kd.N_drewN | apply Kd.N_drew)); exact HO425.out) hb); have n2_ := zk (blk_below (g := gb427) (o := .cells #[.string t417, .string t418, .string t419, .slice Ao143 t420.length co143, .slice Ao144 t423.length co144] 25 (0, 0)) (by (with_reducible repeat first | apply zM | apply zE | apply zF); exact BK427.out) hb); have n3_ := zk (zs (by with_reducible repeat first | exact HB.out | apply zA | apply zN | apply zD | refine zS ?_ GE427.out) hb); clear HO422; clear HO425; clear BK427; clear HB; have HO422 := n0_; have HO425 := n1_; have BK427 := n2_; have HB := n3_; clear n0_ n1_ n2_ n3_; (try clear hb); (try clear hb2); (try clear hk); (try clear hi); obtain ⟨hcz147_0, hcz147_1, hcz147_2, hcz147_3, hcz147_4, hfz147_0, hfz147_1, hfz147_2, hfz147_3, hfz147_4⟩ := zc5 BK427.out) | (go_at_call 13; (refine (pl_Nodes.calls k t417 t418 t419 _ _ t420 _ _ t423 (⟨#[]⟩ : ByteArray) (⟨#[]⟩ : ByteArray) (⟨#[]⟩ : ByteArray) _ _ ([] : List (S69)) _ _ ([] : List (S25)) true _ ?side1 ?side2 ?side3 ?side4 ?side5 ?side6 ?side7 ?side8 A137.out).mono ?_); (case side1 => repeat (first | exact (Kd.R_reads' HO422.out).2.2 | (with_reducible refine Kd.C_alloc ?_ _) | (with_reducible refine Kd.C_drewN ?_ _) | (with_reducible refine Kd.C_drew ?_))); (case side2 => exact (Kd.R_reads' HO422.out).2.1); (case side3 => repeat (first | exact (Kd.N_reads' HO425.out).2.2 | (with_reducible refine Kd.C_alloc ?_ _) | (with_reducible refine Kd.C_drewN ?_ _) | (with_reducible refine Kd.C_drew ?_))); (case side4 => exact (Kd.N_reads' HO425.out).2.1); (case side5 => exact Kd.C_nil _ _); (case side6 => exact Nat.le_refl _); (case side7 => exact Kd.C_nil _ _); (case side8 => exact Nat.le_refl _); rintro e w148 ⟨rfl, hb⟩; have n0_ := zk (Kd.R_below (by (with_reducible repeat (first | apply Kd.R_alloc | apply Kd.R_drewN | apply Kd.R_drew)); exact HO422.out) hb); have n1_ := zk (Kd.N_below (by (with_reducible repeat (first | apply Kd.N_alloc | apply Kd.N_drewN | apply Kd.N_drew)); exact HO425.out) hb); have n2_ := zk (blk_below (g := gb427) (o := .cells #[.string t417, .string t418, .string t419, .slice Ao143 t420.length co143, .slice Ao144 t423.length co144] 25 (0, 0)) (by (with_reducible repeat first | apply zM | apply zE | apply zF); exact BK427.out) hb); have n3_ := zk (zs (by with_reducible repeat first | exact HB.out | apply zA | apply zN | apply zD | refine zS ?_ GE427.out) hb); clear HO422; clear HO425; clear BK427; clear HB; have HO422 := n0_; have HO425 := n1_; have BK427 := n2_; have HB := n3_; clear n0_ n1_ n2_ n3_; (try clear hb); (try clear hb2); (try clear hk); (try clear hi)) | (go_at_call 8; (with_reducible refine (lw_same.calls k  t433 _ A139.out).mono ?_); rintro e w149 ⟨rfl, hb⟩; have n0_ := zk (Kd.R_below (by (with_reducible repeat (first | apply Kd.R_alloc | apply Kd.R_drewN | apply Kd.R_drew)); exact HO422.out) hb); have n1_ := zk (Kd.N_below (by (with_reducible repeat (first | apply Kd.N_alloc | apply Kd.N_drewN | apply Kd.N_drew)); exact HO425.out) hb); have n2_ := zk (blk_below (g := gb427) (o := .cells #[.string t417, .string t418, .string t419, .slice Ao143 t420.length co143, .slice Ao144 t423.length co144] 25 (0, 0)) (by (with_reducible repeat first | apply zM | apply zE | apply zF); exact BK427.out) hb); have n3_ := zk (zs (by with_reducible repeat first | exact HB.out | apply zA | apply zN | apply zD | refine zS ?_ GE427.out) hb); clear HO422; clear HO425; clear BK427; clear HB; have HO422 := n0_; have HO425 := n1_; have BK427 := n2_; have HB := n3_; clear n0_ n1_ n2_ n3_; (try clear hb); (try clear hb2); (try clear hk); (try clear hi)))
       go_ret; exact ⟨by first | rfl | (simp [wN, wS] <;> rfl) | (simp [*, wN, wS] <;> rfl), by with_reducible repeat first | exact HB.out | apply zA | apply zN | apply zD | refine zS ?_ GE427.out⟩
      ·
       replace c138 := Bool.eq_false_iff.mpr c138; subst c138
       have H1 : (some false) = some r := by rw [if_neg (show ¬ (false = true) by decide)] at H; exact H
       clear H; have H := H1; clear H1; exact absurd ((Option.some.inj H).trans HR_.out) (by decide)
     ·
      rw [if_neg c136] at H; have c136b0 := beq_eq_false_iff_ne.mpr c136; have c136b1 := bne_iff_ne.mpr c136; exact absurd ((Option.some.inj H).trans HR_.out) (by decide)
  ·
   rw [if_neg c7] at H; have c7b0 := beq_eq_false_iff_ne.mpr c7; have c7b1 := bne_iff_ne.mpr c7; exact absurd ((Option.some.inj H).trans HR_.out) (by decide)
 ·
  replace c3 := Bool.eq_false_iff.mpr c3; subst c3
  have H1 : ((lw_same.f k).bind fun t416 => (some t416)) = some r := by rw [if_neg (show ¬ (false = true) by decide)] at H; exact H
  clear H; have H := H1; clear H1; replace H := Option.bind_eq_some_iff.mp H; obtain ⟨t416, A1730, H⟩ := H; replace H : (some t416) = some r := H; have A173 := zk A1730; clear A1730; obtain rfl := Option.some.inj H
  go_enter Try.func5, Try.ntmps5
  go_wp2_with (first | ((with_reducible refine gk (f := 15) rfl ?_); refine gl (some 9) rfl rfl Try.func15 (by kernel_rfl) rfl #[.slice A0 l0.length c0, .int .i64 600] rfl (by (try simp only [List.map_toArray, List.map_cons, List.map_nil]); first | done | rfl | (simp only [List.length_drop, List.length_take]; rfl)) ?_; (with_reducible refine (pl_FewRows.calls k _ _ l0 600 false _ ?side1 ?side2 A2.out).mono ?_); (case side1 => repeat (first | exact HR0.out | (with_reducible refine Kd.C_alloc ?_ _) | (with_reducible refine Kd.C_drewN ?_ _) | (with_reducible refine Kd.C_drew ?_))); (case side2 => exact HC0.out); rintro e w' ⟨rfl, ⟨nd, rfl⟩⟩; refine ⟨_, rfl, ?_⟩) | ((with_reducible refine gk (f := 8) rfl ?_); refine gl (some 11) rfl rfl Try.func8 (by kernel_rfl) rfl #[] rfl (by (try simp only [List.map_toArray, List.map_cons, List.map_nil]); first | done | rfl | (simp only [List.length_drop, List.length_take]; rfl)) ?_; (with_reducible refine (lw_same.calls k  t416 _ A173.out).mono ?_); rintro e w174 ⟨rfl, hb⟩; refine ⟨_, rfl, ?_⟩; have n0_ := zk (zs (by with_reducible repeat first | exact HB.out | apply zA | apply zN | apply zD) hb); clear HB; have HB := n0_; clear n0_; (try clear hb); (try clear hb2); (try clear hk); (try clear hi)))
  go_ret; exact ⟨by first | rfl | (simp [wN, wS] <;> rfl) | (simp [*, wN, wS] <;> rfl), by with_reducible repeat first | exact HB.out | apply zA | apply zN | apply zD⟩
end Go.Proofs.Ytcebfldagnjddaa.G
namespace Go.Proofs.Ytcebfldagnjddaa.G
open Go.RowKit Go.Proofs.Ytcebfldagnjddaa.Opn Go.Proofs.YtcebfldagnjddaaW.PrintWords
set_option linter.unusedVariables false
set_option maxRecDepth 100000
theorem at_slice2 {α : Type} {P : Program} {n : Nat} {T e : TypeId} {d : Kd α} {Sm : α → Prop} {B : Nat} (ht : P.underlying T = some (.slice e)) (hc : P.cellsOf e = d.sz) (hb : P.bytesOf e = B) (hd : ∀ m, m < n → At P m e d Sm) :
    At P n T (Kd.slice e d) (fun xs => xs.length * B ≤ 140737488351232 ∧ ∀ x ∈ xs, Sm x) := hb ▸ at_slice ht hc hd
structure Sm69 (x : S69) : Prop where
  h0 : x.f0.size ≤ 140737488351232
  h1 : x.f1.size ≤ 140737488351232
theorem at_S69 (n : Nat) : At Try.prog n 69 k69 Sm69 := by
  refine at_imp (at_iso (fun x : S69 => (x.f0, x.f1)) (fun p => ⟨p.1, p.2⟩) (fun _ => rfl) (at_struct (d := (Kd.pair Kd.string Kd.string)) (Sm := fun (p : (ByteArray) × (ByteArray)) => p.1.size ≤ 140737488351232 ∧ p.2.size ≤ 140737488351232) Try.underlying69 (by kernel_rfl) (fun m hm => ?h))) ?k ?s
  case h =>
    refine fields_cons (Sm := fun (q : ByteArray) => q.size ≤ 140737488351232) (Sm2 := fun (p : (ByteArray)) => p.size ≤ 140737488351232) ?_ ?_ ?_ ?_; (rfl)
    · kernel_rfl
    (exact (at_string Try.underlying9)); refine fields_one (Sm := fun (p : (ByteArray)) => p.size ≤ 140737488351232) ?_ ?_ ?_; (rfl)
    · kernel_rfl
    · exact (at_string Try.underlying9)
  case k => exact fun _ _ _ h => h
  case s => exact fun a h => ⟨h.1, h.2⟩
inductive Sm25 : S25 → Prop
  | mk {x : S25} (h0 : x.f0.size ≤ 140737488351232) (h1 : x.f1.size ≤ 140737488351232) (h2 : x.f2.size ≤ 140737488351232) (h3 : (x.f3.length * 32 ≤ 140737488351232 ∧ ∀ y ∈ x.f3, Sm69 y)) (h4 : x.f4.length * 96 ≤ 140737488351232) (h4' : ∀ y ∈ x.f4, Sm25 y) : Sm25 x
structure Sm53 (x : S53) : Prop where
  h0 : (Lit.int .i64 x.f0).wf = true
  h1 : (Lit.int .i64 x.f1).wf = true
  h2 : x.f2.size ≤ 140737488351232
  h3 : x.f3.size ≤ 140737488351232
  h4 : x.f4.size ≤ 140737488351232
  h5 : (x.f5.length * 32 ≤ 140737488351232 ∧ ∀ y ∈ x.f5, Sm69 y)
theorem at_S53 (n : Nat) : At Try.prog n 53 k53 Sm53 := by
  refine at_imp (at_iso (fun x : S53 => (x.f0, x.f1, x.f2, x.f3, x.f4, x.f5)) (fun p => ⟨p.1, p.2.1, p.2.2.1, p.2.2.2.1, p.2.2.2.2.1, p.2.2.2.2.2⟩) (fun _ => rfl) (at_struct (d := (Kd.pair (Kd.int .i64) (Kd.pair (Kd.int .i64) (Kd.pair Kd.string (Kd.pair Kd.string (Kd.pair Kd.string (Kd.slice 69 k69))))))) (Sm := fun (p : (Int) × (Int) × (ByteArray) × (ByteArray) × (ByteArray) × (List (S69))) => (Lit.int .i64 p.1).wf = true ∧ (Lit.int .i64 p.2.1).wf = true ∧ p.2.2.1.size ≤ 140737488351232 ∧ p.2.2.2.1.size ≤ 140737488351232 ∧ p.2.2.2.2.1.size ≤ 140737488351232 ∧ (p.2.2.2.2.2.length * 32 ≤ 140737488351232 ∧ ∀ y ∈ p.2.2.2.2.2, Sm69 y)) Try.underlying53 (by kernel_rfl) (fun m hm => ?h))) ?k ?s
  case h =>
    refine fields_cons (Sm := fun (q : Int) => (Lit.int .i64 q).wf = true) (Sm2 := fun (p : (Int) × (ByteArray) × (ByteArray) × (ByteArray) × (List (S69))) => (Lit.int .i64 p.1).wf = true ∧ p.2.1.size ≤ 140737488351232 ∧ p.2.2.1.size ≤ 140737488351232 ∧ p.2.2.2.1.size ≤ 140737488351232 ∧ (p.2.2.2.2.length * 32 ≤ 140737488351232 ∧ ∀ y ∈ p.2.2.2.2, Sm69 y)) ?_ ?_ ?_ ?_; (rfl)
    · kernel_rfl
    (exact (at_int Try.underlying3)); refine fields_cons (Sm := fun (q : Int) => (Lit.int .i64 q).wf = true) (Sm2 := fun (p : (ByteArray) × (ByteArray) × (ByteArray) × (List (S69))) => p.1.size ≤ 140737488351232 ∧ p.2.1.size ≤ 140737488351232 ∧ p.2.2.1.size ≤ 140737488351232 ∧ (p.2.2.2.length * 32 ≤ 140737488351232 ∧ ∀ y ∈ p.2.2.2, Sm69 y)) ?_ ?_ ?_ ?_; (rfl)
    · kernel_rfl
    (exact (at_int Try.underlying3)); refine fields_cons (Sm := fun (q : ByteArray) => q.size ≤ 140737488351232) (Sm2 := fun (p : (ByteArray) × (ByteArray) × (List (S69))) => p.1.size ≤ 140737488351232 ∧ p.2.1.size ≤ 140737488351232 ∧ (p.2.2.length * 32 ≤ 140737488351232 ∧ ∀ y ∈ p.2.2, Sm69 y)) ?_ ?_ ?_ ?_; (rfl)
    · kernel_rfl
    (exact (at_string Try.underlying9)); refine fields_cons (Sm := fun (q : ByteArray) => q.size ≤ 140737488351232) (Sm2 := fun (p : (ByteArray) × (List (S69))) => p.1.size ≤ 140737488351232 ∧ (p.2.length * 32 ≤ 140737488351232 ∧ ∀ y ∈ p.2, Sm69 y)) ?_ ?_ ?_ ?_; (rfl)
    · kernel_rfl
    (exact (at_string Try.underlying9)); refine fields_cons (Sm := fun (q : ByteArray) => q.size ≤ 140737488351232) (Sm2 := fun (p : (List (S69))) => (p.length * 32 ≤ 140737488351232 ∧ ∀ y ∈ p, Sm69 y)) ?_ ?_ ?_ ?_; (rfl)
    · kernel_rfl
    (exact (at_string Try.underlying9)); refine fields_one (Sm := fun (p : (List (S69))) => (p.length * 32 ≤ 140737488351232 ∧ ∀ y ∈ p, Sm69 y)) ?_ ?_ ?_; (rfl)
    · kernel_rfl
    · exact (at_slice2 Try.underlying22 (by kernel_rfl) (by kernel_rfl) (fun m' hm' => (at_S69 m')))
  case k => exact fun _ _ _ h => h
  case s => exact fun a h => ⟨h.1, h.2.1, h.2.2.1, h.2.2.2.1, h.2.2.2.2.1, h.2.2.2.2.2⟩
theorem weightsEach_head {H : Type} {P : Program} {t : TypeId} {ts : List TypeId} {d : DataW H} {ds : List (DataW H)} {q : Nat → Bool} (h : (DataW.weightsEach P (t :: ts) (d :: ds)).all q = true) : (d.weights P t).all q = true ∧ (DataW.weightsEach P ts ds).all q = true := by
  simpa only [DataW.weightsEach, List.all_append, Bool.and_eq_true] using h
end Go.Proofs.Ytcebfldagnjddaa.G
namespace Go.Proofs.Ytcebfldagnjddaa.Pure
open Go.RowKit Go.Proofs.Ytcebfldagnjddaa.G Go.Proofs.YtcebfldagnjddaaW.PrintWords Go.Proofs.YtcebfldagnjddaaW.PrintLast
set_option linter.unusedVariables false
def Ev {α : Type} (f : Nat → Option α) (r : α) : Prop := ∃ k0, ∀ k, k0 ≤ k → f k = some r
theorem Ev.all {α : Type} {f : Nat → Option α} {r : α} (h : ∀ k, f k = some r) : Ev f r := ⟨0, fun k _ => h k⟩
theorem Ev.pure {α : Type} (r : α) : Ev (fun _ => some r) r := .all fun _ => rfl
theorem Ev.of {α : Type} {f : Nat → Option α} {r : α} (m : ∀ k, LeO (f k) (f (k + 1))) {k : Nat} (h : f k = some r) : Ev f r :=
  ⟨k, fun j hj => by
    obtain ⟨d, rfl⟩ : ∃ d, j = k + d := ⟨j - k, by omega⟩
    clear hj
    induction d with
    | zero => exact h
    | succ d ih => exact m _ _ ih⟩
theorem Ev.step {α : Type} {f g : Nat → Option α} {r : α} (hg : Ev g r) (h : ∀ k, f (k + 1) = g k) : Ev f r := by
  obtain ⟨k0, hk⟩ := hg; exact ⟨k0 + 1, fun k hk' => by obtain ⟨m, rfl⟩ : ∃ m, k = m + 1 := ⟨k - 1, by omega⟩; rw [h]; exact hk m (by omega)⟩
theorem Ev.eq {α : Type} {f g : Nat → Option α} {r : α} (hg : Ev g r) (h : ∀ k, f k = g k) : Ev f r := by
  obtain ⟨k0, hk⟩ := hg; exact ⟨k0, fun k hk' => by rw [h]; exact hk k hk'⟩
theorem Ev.bind {α β : Type} {f : Nat → Option α} {g : Nat → α → Option β} {a : α} {r : β} (hf : Ev f a) (hg : Ev (fun k => g k a) r) : Ev (fun k => (f k).bind (g k)) r := by
  obtain ⟨k0, h0⟩ := hf; obtain ⟨k1, h1⟩ := hg; exact ⟨max k0 k1, fun k hk => by show (f k).bind (g k) = some r; rw [h0 k (by omega)]; exact h1 k (by omega)⟩
theorem Ev.via {α β : Type} {f : Nat → Option α} {g F : Nat → Option β} {a : α} {r : β} (hf : Ev f a) (hg : Ev g r) (h : ∀ k, f k = some a → F (k + 1) = g k) : Ev F r := by
  obtain ⟨k0, h0⟩ := hf; obtain ⟨k1, h1⟩ := hg; exact ⟨max k0 k1 + 1, fun k hk => by obtain ⟨m, rfl⟩ : ∃ m, k = m + 1 := ⟨k - 1, by omega⟩; rw [h m (h0 m (by omega))]; exact h1 m (by omega)⟩
theorem Ev.via0 {α β : Type} {f : Nat → Option α} {g F : Nat → Option β} {a : α} {r : β} (hf : Ev f a) (hg : Ev g r) (h : ∀ k, f k = some a → F k = g k) : Ev F r := by
  obtain ⟨k0, h0⟩ := hf; obtain ⟨k1, h1⟩ := hg; exact ⟨max k0 k1, fun k hk => by rw [h k (h0 k (by omega))]; exact h1 k (by omega)⟩
theorem Ev.ex {α : Type} {f : Nat → Option α} {r : α} (h : Ev f r) : ∃ k, f k = some r := by
  obtain ⟨k0, hk⟩ := h; exact ⟨k0, hk k0 (Nat.le_refl _)⟩
theorem Ev.uniq {α : Type} {f : Nat → Option α} {r s : α} (h : Ev f r) (h' : Ev f s) : r = s := by
  obtain ⟨k0, h0⟩ := h; obtain ⟨k1, h1⟩ := h'; have := (h0 (max k0 k1) (by omega)).symm.trans (h1 (max k0 k1) (by omega)); injection this
theorem w1 {i : Int} (h0 : -1000000000000000000 ≤ i) (h : i ≤ 1000000000000000000) : wrap64 (i + 1) = i + 1 := by unfold wrap64; omega
theorem wm {i : Int} (h0 : -1000000000000000000 ≤ i) (h : i ≤ 1000000000000000000) : wrap64 (i - 1) = i - 1 := by unfold wrap64; omega
theorem ww {i : Int} (h0 : -9000000000000000000 ≤ i) (h : i ≤ 9000000000000000000) : wrap64 i = i := by unfold wrap64; omega
theorem rd42_mem (l : List S69) (i : Int) (h0 : 0 ≤ i) (h : i < l.length) : rd_T69 l i ∈ l := by
  unfold rd_T69; rw [List.getD_eq_getElem?_getD, List.getElem?_eq_getElem (by omega)]; exact List.getElem_mem _
theorem bt_range (s : ByteArray) (i : Int) : 0 ≤ bt s i ∧ bt s i < 256 := by
  unfold bt; split; (have := UInt8.toNat_lt (s[i.toNat]'(by assumption)); constructor <;> omega); (omega)
/-- Is a byte one of a name's? -/
def inner (c : Int) (f : Bool) : Bool := (decide (97 ≤ c) && decide (c ≤ 122)) || (decide (48 ≤ c) && decide (c ≤ 57)) || (c == 45) || (f && ((c == 58) || (c == 46)))
def extra (f : Bool) : ByteArray := if f then ⟨#[45, 58, 46]⟩ else ⟨#[45]⟩
theorem inner_ref (c : Int) (f : Bool) : r02_inner.f c f = some (inner c f) := by
  unfold r02_inner.f inner
  by_cases h1 : 97 ≤ c <;> by_cases h2 : c ≤ 122 <;> by_cases h3 : 48 ≤ c <;> by_cases h4 : c ≤ 57 <;> by_cases h5 : c = 45 <;> by_cases h6 : c = 58 <;> by_cases h7 : c = 46 <;>
    first
      | (exfalso; omega)
      | (cases f <;> simp [h1, h2, h3, h4, h5, h6, h7, show (c == 45) = decide (c = 45) from rfl, show (c == 58) = decide (c = 58) from rfl, show (c == 46) = decide (c = 46) from rfl])
theorem index_extra (f : Bool) : ∀ n : Fin 256, (decide (Lib.indexByte (extra f).data.toList n.1.toUInt8 < 0)) = !((n.1 == 45) || (f && ((n.1 == 58) || (n.1 == 46)))) := by
  cases f <;> decide +kernel
theorem index_lt (c : Int) (h0 : 0 ≤ c) (h1 : c < 256) (f : Bool) : Lib.indexByte (extra f).data.toList c.toNat.toUInt8 < 0 ↔ ((c == 45) || (f && ((c == 58) || (c == 46)))) = false := by
  have := index_extra f ⟨c.toNat, by omega⟩; simp only at this; obtain ⟨n, rfl⟩ : ∃ n : Nat, c = n := ⟨c.toNat, by omega⟩; simp only [Int.toNat_natCast] at this ⊢
  have hd : (Lib.indexByte (extra f).data.toList n.toUInt8 < 0) ↔ decide (Lib.indexByte (extra f).data.toList n.toUInt8 < 0) = true := by simp
  rw [hd, this]
  have h (m : Nat) : ((n : Int) == (m : Int)) = (n == m) := by
    by_cases e : n = m
    · subst e; rw [beq_self_eq_true, beq_self_eq_true]
    · have : ¬ (n : Int) = (m : Int) := by omega
      rw [beq_eq_false_iff_ne.2 this, beq_eq_false_iff_ne.2 e]
  rw [show ((45 : Int) = ((45 : Nat) : Int)) from rfl, show ((58 : Int) = ((58 : Nat) : Int)) from rfl, show ((46 : Int) = ((46 : Nat) : Int)) from rfl, h, h, h]; cases f <;> simp
def NamedOK (s : ByteArray) (f : Bool) : Prop := 1 ≤ s.size ∧ s.size ≤ 32 ∧ 97 ≤ bt s 0 ∧ bt s 0 ≤ 122 ∧ ∀ i : Int, 0 ≤ i → i < s.size → inner (bt s i) f = true
theorem named_prog_l0 (s : ByteArray) (f : Bool) (hs : s.size ≤ 32) (d : Nat) : ∀ i : Int, 0 ≤ i → (s.size : Int) - i = d →
    ∃ b, Ev (fun k => chars_named.l0 k s (extra f) s.size i) b ∧ (b = true ↔ ∀ j : Int, i ≤ j → j < s.size → inner (bt s j) f = true) := by
  induction d with
  | zero =>
    intro i h0 hd; exact ⟨true, (Ev.pure true).step (fun k => by rw [chars_named.l0, if_neg (by omega)]), by simp; intro j h1 h2; omega⟩
  | succ d ih =>
    intro i h0 hd; obtain ⟨b, hb, hi⟩ := ih (i + 1) (by omega) (by omega); have hr := bt_range s i; have hw : wrap64 (i + 1) = i + 1 := w1 (by omega) (by omega)
    by_cases hc : inner (bt s i) f = true
    · refine ⟨b, hb.step (fun k => ?_), ?_⟩
      · rw [chars_named.l0, if_pos (by omega), if_pos h0, if_pos (by omega), hw]
        have hidx := index_lt (bt s i) hr.1 hr.2 f
        simp only [chars_small.f, strings_IndexByte.f]
        simp only [inner, Bool.or_eq_true, Bool.and_eq_true, decide_eq_true_eq, beq_iff_eq] at hc
        simp only [Bool.or_eq_false_iff, beq_eq_false_iff_ne] at hidx
        by_cases c1 : bt s i ≥ 97
        · by_cases c2 : bt s i ≤ 122
          · simp [c1, c2]
          · have hn : ¬ Lib.indexByte (extra f).data.toList (bt s i).toNat.toUInt8 < 0 := by
              rw [hidx]
              cases f <;> simp at hc ⊢ <;> omega
            simp [c1, c2, show ¬ bt s i < 48 by omega, show bt s i > 57 by omega, hn]
        · by_cases c2 : bt s i < 48
          · have hn : ¬ Lib.indexByte (extra f).data.toList (bt s i).toNat.toUInt8 < 0 := by
              rw [hidx]
              cases f <;> simp at hc ⊢ <;> omega
            simp [c1, c2, hn]
          · by_cases c3 : bt s i > 57
            · have hn : ¬ Lib.indexByte (extra f).data.toList (bt s i).toNat.toUInt8 < 0 := by
                rw [hidx]
                cases f <;> simp at hc ⊢ <;> omega
              simp [c1, c2, c3, hn]
            · simp [c1, c2, c3]
      · rw [hi]
        constructor
        · intro h j h1 h2
          by_cases e : j = i
          · subst e; exact hc
          · exact h j (by omega) h2
        · intro h j h1 h2
          exact h j (by omega) h2
    · refine ⟨false, (Ev.pure false).step (fun k => ?_), by simp; exact ⟨i, by omega, by omega, by simpa using hc⟩⟩
      rw [chars_named.l0, if_pos (by omega), if_pos h0, if_pos (by omega)]
      have hidx := index_lt (bt s i) hr.1 hr.2 f
      simp only [chars_small.f, strings_IndexByte.f]
      simp only [inner, Bool.not_eq_true, Bool.or_eq_false_iff, Bool.and_eq_false_iff, decide_eq_false_iff_not, beq_eq_false_iff_ne] at hc
      simp only [Bool.or_eq_false_iff, Bool.and_eq_false_iff, beq_eq_false_iff_ne] at hidx
      have hn : Lib.indexByte (extra f).data.toList (bt s i).toNat.toUInt8 < 0 := by
        rw [hidx]; exact ⟨hc.1.2, hc.2⟩
      by_cases c1 : bt s i ≥ 97
      · have c2 : ¬ bt s i ≤ 122 := by omega
        simp [c1, c2, show ¬ bt s i < 48 by omega, show bt s i > 57 by omega, hn]
      · by_cases c2 : bt s i < 48
        · simp [c1, c2, hn]
        · have c3 : bt s i > 57 := by omega
          simp [c1, c2, c3, hn]
theorem named_ref_l0 (s : ByteArray) (f : Bool) (hs : s.size ≤ 32) (d : Nat) : ∀ i : Int, 0 ≤ i → (s.size : Int) - i = d →
    ∃ b, Ev (fun k => r02_Named.l0 k s f i) b ∧ (b = true ↔ ∀ j : Int, i ≤ j → j < s.size → inner (bt s j) f = true) := by
  induction d with
  | zero =>
    intro i h0 hd; exact ⟨true, (Ev.pure true).step (fun k => by rw [r02_Named.l0, if_neg (by omega)]), by simp; intro j h1 h2; omega⟩
  | succ d ih =>
    intro i h0 hd; obtain ⟨b, hb, hi⟩ := ih (i + 1) (by omega) (by omega); have hw : wrap64 (i + 1) = i + 1 := w1 (by omega) (by omega)
    by_cases hc : inner (bt s i) f = true
    · refine ⟨b, hb.step (fun k => ?_), ?_⟩
      · rw [r02_Named.l0, if_pos (by omega), if_pos h0, hw, inner_ref, hc]
        simp
      · rw [hi]
        constructor
        · intro h j h1 h2
          by_cases e : j = i
          · subst e; exact hc
          · exact h j (by omega) h2
        · intro h j h1 h2
          exact h j (by omega) h2
    · refine ⟨false, (Ev.pure false).step (fun k => ?_), by simp; exact ⟨i, by omega, by omega, by simpa using hc⟩⟩
      rw [r02_Named.l0, if_pos (by omega), if_pos h0, inner_ref]; simp [hc]
theorem toList_nil {s : ByteArray} : s.toList = [] ↔ s.size = 0 := by
  rw [Lib.toList_data]; constructor; (intro h; have := congrArg List.length h; simpa using this); (intro h; exact List.eq_nil_of_length_eq_zero (by simpa using h))
/-- The names' test: both come to the same. -/
theorem named (s : ByteArray) (f : Bool) : ∃ b, Ev (fun k => chars_named.f k s (extra f)) b ∧ Ev (fun k => r02_Named.f k s f) b ∧ (b = true ↔ NamedOK s f) := by
  by_cases h0 : s.size = 0
  · refine ⟨false, (Ev.pure false).step (fun k => ?_), (Ev.pure false).step (fun k => ?_), by simp [NamedOK, h0]⟩
    · rw [chars_named.f, if_pos (toList_nil.2 h0), chars_named.j0, if_pos rfl]
    · rw [r02_Named.f, if_pos (by omega), r02_Named.j0, if_pos rfl]
  by_cases h1 : s.size ≤ 32
  · by_cases h2 : 97 ≤ bt s 0 ∧ bt s 0 ≤ 122
    · have hin : inner (bt s 0) f = true := by simp [inner, h2.1, h2.2]
      obtain ⟨b, hb, hi⟩ := named_prog_l0 s f h1 s.size 0 (by omega) (by omega)
      obtain ⟨b', hb', hi'⟩ := named_ref_l0 s f h1 (s.size - 1) 1 (by omega) (by omega)
      have e : b = b' := by
        rw [Bool.eq_iff_iff, hi, hi']; constructor; (intro h j h3 h4; exact h j (by omega) h4)
        · intro h j h3 h4
          by_cases e : j = 0
          · subst e; exact hin
          · exact h j (by omega) h4
      subst e
      refine ⟨b, hb.step (fun k => ?_), hb'.step (fun k => ?_), ?_⟩
      · rw [chars_named.f, if_neg (fun h => h0 (toList_nil.1 h)), if_neg (by omega), if_pos (by omega), chars_small.f, if_pos h2.1]
        simp only [Option.bind_some, h2.2, decide_true, Bool.not_true]
        rw [chars_named.j0, if_neg (by decide)]
      · rw [r02_Named.f, if_neg (by omega), if_neg (by omega), if_pos (by omega), if_neg (by omega), r02_Named.j0, if_neg (by simp; omega)]
      · rw [hi]
        exact ⟨fun h => ⟨by omega, h1, h2.1, h2.2, fun i h3 h4 => h i h3 h4⟩, fun h i h3 h4 => h.2.2.2.2 i h3 h4⟩
    · refine ⟨false, (Ev.pure false).step (fun k => ?_), (Ev.pure false).step (fun k => ?_), by simp [NamedOK]; intro _ _ h3 h4; exact absurd ⟨h3, h4⟩ h2⟩
      · rw [chars_named.f, if_neg (fun h => h0 (toList_nil.1 h)), if_neg (by omega), if_pos (by omega), chars_small.f]
        by_cases c : bt s 0 ≥ 97
        · rw [if_pos c]
          have : ¬ bt s 0 ≤ 122 := fun h => h2 ⟨c, h⟩
          simp [this, chars_named.j0]
        · rw [if_neg c]
          simp [chars_named.j0]
      · rw [r02_Named.f, if_neg (by omega), if_neg (by omega), if_pos (by omega)]
        by_cases c : bt s 0 < 97
        · rw [if_pos c]
          simp [r02_Named.j0]
        · rw [if_neg c, r02_Named.j0, if_pos (by simp; omega)]
  · refine ⟨false, (Ev.pure false).step (fun k => ?_), (Ev.pure false).step (fun k => ?_), by simp [NamedOK]; intro _ h; exact absurd h h1⟩
    · rw [chars_named.f, if_neg (fun h => h0 (toList_nil.1 h)), if_pos (by omega), chars_named.j0, if_pos rfl]
    · rw [r02_Named.f, if_neg (by omega), if_pos (by omega), r02_Named.j0, if_pos rfl]
theorem drop_bt (s : ByteArray) (i : Int) (h0 : 0 ≤ i) (h : i < s.size) : ∃ b : UInt8, (b.toNat : Int) = bt s i ∧ s.toList.drop i.toNat = b :: s.toList.drop (i + 1).toNat := by
  have hl : s.toList.length = s.size := by rw [Lib.toList_data]; simp
  refine ⟨s.toList[i.toNat]'(by omega), ?_, ?_⟩
  · unfold bt
    rw [dif_pos (by omega)]
    congr 1
    simp only [Lib.toList_data]
    rfl
  · rw [List.drop_eq_getElem_cons (by omega), show (i + 1).toNat = i.toNat + 1 by omega]
theorem compare_l0 (x y : ByteArray) (hx : x.size ≤ 140737488351232) (d : Nat) : ∀ i : Int, 0 ≤ i → i ≤ x.size → i ≤ y.size → (x.size : Int) - i = d →
    ∃ t, Ev (fun k => r02_Compare.l0 k x y i) t ∧ (t > 0 ↔ Op.bytesLess (y.toList.drop i.toNat) (x.toList.drop i.toNat) = true) := by
  have hlx : x.toList.length = x.size := by rw [Lib.toList_data]; simp
  have hly : y.toList.length = y.size := by rw [Lib.toList_data]; simp
  induction d with
  | zero =>
    intro i h0 hix hiy hd; have e : x.toList.drop i.toNat = [] := List.drop_eq_nil_of_le (by omega)
    by_cases c : (x.size : Int) < y.size
    (refine ⟨-1, ((Ev.pure (-1)).step (f := fun k => r02_Compare.j1 k x y i false) (fun k => by rw [r02_Compare.j1, if_neg (by decide), if_pos c])).step (fun k => by rw [r02_Compare.l0, if_neg (by omega)]), ?_⟩; rw [e]; cases y.toList.drop i.toNat <;> simp [Op.bytesLess]); (refine ⟨0, ((Ev.pure 0).step (f := fun k => r02_Compare.j1 k x y i false) (fun k => by rw [r02_Compare.j1, if_neg (by decide), if_neg c, if_neg (by omega)])).step (fun k => by rw [r02_Compare.l0, if_neg (by omega)]), ?_⟩; rw [e]; cases y.toList.drop i.toNat <;> simp [Op.bytesLess])
  | succ d ih =>
    intro i h0 hix hiy hd; obtain ⟨bx, ex, dx⟩ := drop_bt x i h0 (by omega)
    by_cases c : i < (y.size : Int)
    · obtain ⟨by', ey, dy⟩ := drop_bt y i h0 c
      have st (g : Nat → Option Int) (t : Int) (hg : Ev g t) (h : ∀ k, r02_Compare.j1 (k + 1) x y i true = g k) : Ev (fun k => r02_Compare.l0 k x y i) t :=
        (hg.step (f := fun k => r02_Compare.j1 k x y i true) h).step (fun k => by rw [r02_Compare.l0, if_pos (by omega), decide_eq_true c])
      rw [dx, dy]
      have lt {a b : UInt8} : a < b ↔ (a.toNat : Int) < b.toNat := by rw [UInt8.lt_iff_toNat_lt]; omega
      by_cases c1 : bt x i < bt y i
      · refine ⟨-1, st _ _ (Ev.pure (-1)) (fun k => by rw [r02_Compare.j1, if_pos rfl, if_pos h0, if_pos (by omega), if_pos c, if_pos c1]), ?_⟩
        have h1 : ¬ by' < bx := by rw [lt]; omega
        have h2 : ¬ by' = bx := by intro e; subst e; omega
        simp [Op.bytesLess, h1, h2]
      · by_cases c2 : bt x i > bt y i
        · refine ⟨1, st _ _ (Ev.pure 1) (fun k => by rw [r02_Compare.j1, if_pos rfl, if_pos h0, if_pos (by omega), if_pos c, if_neg c1, if_pos c2]), ?_⟩
          have h1 : by' < bx := by rw [lt]; omega
          simp [Op.bytesLess, h1]
        · obtain ⟨t, ht, hi⟩ := ih (i + 1) (by omega) (by omega) (by omega) (by omega)
          refine ⟨t, st _ _ ht (fun k => by rw [r02_Compare.j1, if_pos rfl, if_pos h0, if_pos (by omega), if_pos c, if_neg c1, if_neg c2, w1 (by omega) (by omega)]), ?_⟩
          rw [hi]
          have h2 : by' = bx := by apply UInt8.toNat_inj.1; omega
          subst h2
          have h1 : ¬ by' < by' := by rw [lt]; omega
          simp [Op.bytesLess, h1]
    · have e : y.toList.drop i.toNat = [] := List.drop_eq_nil_of_le (by omega)
      refine ⟨1, ((Ev.pure 1).step (f := fun k => r02_Compare.j1 k x y i false) (fun k => by rw [r02_Compare.j1, if_neg (by decide), if_neg (by omega), if_pos (by omega)])).step (fun k => by rw [r02_Compare.l0, if_pos (by omega), decide_eq_false c]), ?_⟩; rw [dx, e]; simp [Op.bytesLess]
theorem compare (x y : ByteArray) (hx : x.size ≤ 140737488351232) : ∃ t, Ev (fun k => r02_Compare.f k x y) t ∧ (t > 0 ↔ Op.bytesLess y.toList x.toList = true) := by
  obtain ⟨t, ht, hi⟩ := compare_l0 x y hx x.size 0 (by omega) (by omega) (by omega) (by omega); exact ⟨t, ht.eq (fun k => rfl), by simpa using hi⟩
theorem attrs_l0 (l : List S69) (hl : l.length ≤ 140737488351232) (hs : ∀ y ∈ l, Sm69 y) (d : Nat) : ∀ i : Int, 0 ≤ i → (l.length : Int) - i = d →
    ∃ r, Ev (fun k => attrs_Check.l0 k l l l.length i) r ∧ Ev (fun k => r09_Check.l0 k l l.length i) r := by
  induction d with
  | zero =>
    intro i h0 hd; exact ⟨(0, 0), (Ev.pure _).step (fun k => by rw [attrs_Check.l0, if_neg (by omega)]), (Ev.pure _).step (fun k => by rw [r09_Check.l0, if_neg (by omega)])⟩
  | succ d ih =>
    intro i h0 hd; obtain ⟨r, hp, hq⟩ := ih (i + 1) (by omega) (by omega)
    have hi : i < (l.length : Int) := by omega
    have hw : wrap64 (i + 1) = i + 1 := w1 (by omega) (by omega); have hv : wrap64 (i - 1) = i - 1 := wm (by omega) (by omega)
    by_cases c64 : i = 64
    (exact ⟨(i, 12), (Ev.pure _).step (fun k => by rw [attrs_Check.l0, if_pos hi, if_pos h0, if_pos hi, if_pos c64, if_neg (by decide)]), (Ev.pure _).step (fun k => by rw [r09_Check.l0, if_pos hi, if_pos c64])⟩); obtain ⟨b, nb, nb', _⟩ := named (rd_T69 l i).f0 true; have nb : Ev (fun k => chars_Name.f k (rd_T69 l i).f0) b := (nb.bind (g := fun _ t => some t) (Ev.pure b)).eq (fun k => rfl)
    cases b with
    | false =>
      exact ⟨(i, 8), nb.via (Ev.pure _) (fun k hk => by rw [attrs_Check.l0, if_pos hi, if_pos h0, if_pos hi, if_neg c64, hk]; rfl),
        nb'.via (Ev.pure _) (fun k hk => by rw [r09_Check.l0, if_pos hi, if_neg c64, if_pos h0, if_pos hi, hk]; rfl)⟩
    | true =>
    by_cases cf : ((rd_T69 l i).f1.size : Int) ≤ 65536
    case neg =>
      refine ⟨(i, 3), nb.via (Ev.pure _) (fun k hk => ?_), nb'.via (Ev.pure _) (fun k hk => ?_)⟩; (rw [attrs_Check.l0, if_pos hi, if_pos h0, if_pos hi, if_neg c64, hk]; simp [chars_Fits.f, cf]); (rw [r09_Check.l0, if_pos hi, if_neg c64, if_pos h0, if_pos hi, hk]; simp [show ((rd_T69 l i).f1.size : Int) > 65536 by omega])
    by_cases ci : i > 0
    case neg =>
      have p0 : Ev (fun k => attrs_Check.j2 k l i 0 l l.length i false) r := hp.step (fun k => by rw [attrs_Check.j2, if_neg (by decide), if_pos rfl, hw]); have p1 : Ev (fun k => attrs_Check.j1 k l i 0 l l.length i false (rd_T69 l i).f0 (rd_T69 l i).f1) r := p0.step (fun k => by rw [attrs_Check.j1, if_neg (by decide), if_neg ci]); have q1 : Ev (fun k => r09_Check.j1 k l i l.length i false) r := hq.step (fun k => by rw [r09_Check.j1, if_neg (by decide), if_neg ci, hw]); refine ⟨r, nb.via p1 (fun k hk => ?_), nb'.via q1 (fun k hk => ?_)⟩; (rw [attrs_Check.l0, if_pos hi, if_pos h0, if_pos hi, if_neg c64, hk]; simp [chars_Fits.f, cf, show ¬ 0 < i by omega]); (rw [r09_Check.l0, if_pos hi, if_neg c64, if_pos h0, if_pos hi, hk]; simp [show ¬ ((rd_T69 l i).f1.size : Int) > 65536 by omega, show ¬ 0 < i by omega])
    have hvi : 0 ≤ wrap64 (i - 1) ∧ wrap64 (i - 1) < (l.length : Int) := by rw [hv]; omega
    obtain ⟨e, he⟩ : ∃ e, ((rd_T69 l (wrap64 (i - 1))).f0.toList == (rd_T69 l i).f0.toList) = e := ⟨_, rfl⟩
    have fin (r : Int × Int) (p1 : Ev (fun k => attrs_Check.j1 k l i 0 l l.length i e (rd_T69 l i).f0 (rd_T69 l i).f1) r) (q1 : Ev (fun k => r09_Check.j1 k l i l.length i e) r) :
        ∃ r, Ev (fun k => attrs_Check.l0 k l l l.length i) r ∧ Ev (fun k => r09_Check.l0 k l l.length i) r := by
      refine ⟨r, nb.via p1 (fun k hk => ?_), nb'.via q1 (fun k hk => ?_)⟩
      · rw [attrs_Check.l0, if_pos hi, if_pos h0, if_pos hi, if_neg c64, hk]; rw [← he]; simp [chars_Fits.f, cf, show 0 < i by omega, hvi]
      · rw [r09_Check.l0, if_pos hi, if_neg c64, if_pos h0, if_pos hi, hk]; rw [← he]; simp [show ¬ ((rd_T69 l i).f1.size : Int) > 65536 by omega, show 0 < i by omega, hvi]
    cases e with
    | true => exact fin (i, 10) ((Ev.pure _).step (fun k => by rw [attrs_Check.j1, if_pos rfl, if_neg (by decide)])) ((Ev.pure _).step (fun k => by rw [r09_Check.j1, if_pos rfl]))
    | false =>
      obtain ⟨t, ht, hti⟩ := compare (rd_T69 l (wrap64 (i - 1))).f0 (rd_T69 l i).f0 (hs _ (rd42_mem l _ hvi.1 hvi.2)).h0; obtain ⟨b, hb⟩ : ∃ b, Op.bytesLess (rd_T69 l i).f0.toList (rd_T69 l (wrap64 (i - 1))).f0.toList = b := ⟨_, rfl⟩; rw [hb] at hti
      cases b with
      | true =>
        have ht0 : t > 0 := hti.2 rfl; refine fin (i, 9) (((Ev.pure (i, (9 : Int))).step (f := fun k => attrs_Check.j2 k l i 0 l l.length i true) (fun k => by rw [attrs_Check.j2, if_pos rfl, if_neg (by decide)])).step (fun k => by rw [attrs_Check.j1, if_neg (by decide), if_pos ci, if_pos hvi.1, if_pos hvi.2, hb])) ?_; refine (ht.bind (g := fun k t => if t > 0 then some (i, 9) else r09_Check.l0 k l l.length (wrap64 (i + 1))) (Ev.all fun k => by rw [if_pos ht0])).step (fun k => ?_); rw [r09_Check.j1, if_neg (by decide), if_pos ci, if_pos hvi.1, if_pos hvi.2, if_pos h0, if_pos hi]
      | false =>
        have ht0 : ¬ t > 0 := fun h => by have := hti.1 h; cases this
        refine fin r ((hp.step (f := fun k => attrs_Check.j2 k l i 0 l l.length i false) (fun k => by rw [attrs_Check.j2, if_neg (by decide), if_pos rfl, hw])).step (fun k => by rw [attrs_Check.j1, if_neg (by decide), if_pos ci, if_pos hvi.1, if_pos hvi.2, hb])) ?_; refine (ht.bind (g := fun k t => if t > 0 then some (i, 9) else r09_Check.l0 k l l.length (wrap64 (i + 1))) (hq.eq fun k => by rw [if_neg ht0, hw])).step (fun k => ?_); rw [r09_Check.j1, if_neg (by decide), if_pos ci, if_pos hvi.1, if_pos hvi.2, if_pos h0, if_pos hi]
/-- The attributes' test: both come to the same. -/
theorem attrs (l : List S69) (hl : l.length ≤ 140737488351232) (hs : ∀ y ∈ l, Sm69 y) : ∃ r, Ev (fun k => attrs_Check.f k l) r ∧ Ev (fun k => r09_Check.f k l) r := by
  obtain ⟨r, h1, h2⟩ := attrs_l0 l hl hs l.length 0 (by omega) (by omega); exact ⟨r, h1.eq fun k => rfl, h2.eq fun k => rfl⟩
theorem sm_h {x : S25} (h : Sm25 x) : x.f0.size ≤ 140737488351232 ∧ x.f1.size ≤ 140737488351232 ∧ x.f2.size ≤ 140737488351232 ∧ x.f3.length * 32 ≤ 140737488351232 ∧ (∀ y ∈ x.f3, Sm69 y) ∧ x.f4.length * 96 ≤ 140737488351232 ∧ ∀ y ∈ x.f4, Sm25 y := by
  cases h with
  | mk h0 h1 h2 h3 h4 h5 => exact ⟨h0, h1, h2, h3.1, h3.2, h4, h5⟩
/-- What is wrong with a node alone: both come to the same. -/
theorem alone (x : S25) (h : Sm25 x) : ∃ e, Ev (fun k => vtree_wrong.f k x.f0 x.f1 x.f2 x.f3 x.f4) e ∧ Ev (fun k => r11_Alone.f k x.f0 x.f1 x.f2 x.f3 x.f4) e := by
  obtain ⟨s0, s1, s2, s3, s3', _, _⟩ := sm_h h; obtain ⟨b, nb, nb', _⟩ := named x.f0 false; have nb : Ev (fun k => chars_Tag.f k x.f0) b := (nb.bind (g := fun _ t => some t) (Ev.pure b)).eq (fun k => rfl)
  cases b with
  | false =>
    exact ⟨7, nb.via0 (Ev.pure _) (fun k hk => by rw [vtree_wrong.f, hk]; rfl), nb'.via0 (Ev.pure _) (fun k hk => by rw [r11_Alone.f, hk]; rfl)⟩
  | true =>
    have fin (e : Int) (p : Ev (fun k => if (x.f1.size : Int) ≤ 65536 then (if (x.f2.size : Int) ≤ 65536 then (attrs_Check.f k x.f3).bind fun t => some t.2 else some 3) else some 3) e)
        (q : Ev (fun k => if (x.f1.size : Int) ≤ 65536 then (if (x.f2.size : Int) ≤ 65536 then (r09_Check.f k x.f3).bind fun t => some t.2 else some 3) else some 3) e) :
        ∃ e, Ev (fun k => vtree_wrong.f k x.f0 x.f1 x.f2 x.f3 x.f4) e ∧ Ev (fun k => r11_Alone.f k x.f0 x.f1 x.f2 x.f3 x.f4) e := by
      refine ⟨e, nb.via0 p (fun k hk => ?_), nb'.via0 q (fun k hk => ?_)⟩
      · rw [vtree_wrong.f, hk]
        by_cases c1 : (x.f1.size : Int) ≤ 65536 <;> by_cases c2 : (x.f2.size : Int) ≤ 65536 <;> simp [chars_Fits.f, c1, c2]
      · rw [r11_Alone.f, hk]
        have g1 : ((x.f1.size : Int) > 65536) = ¬ ((x.f1.size : Int) ≤ 65536) := by rw [Int.not_le]
        have g2 : ((x.f2.size : Int) > 65536) = ¬ ((x.f2.size : Int) ≤ 65536) := by rw [Int.not_le]
        simp only [g1, g2]
        by_cases c1 : (x.f1.size : Int) ≤ 65536 <;> by_cases c2 : (x.f2.size : Int) ≤ 65536 <;> simp [c1, c2]
    by_cases c1 : (x.f1.size : Int) ≤ 65536
    · by_cases c2 : (x.f2.size : Int) ≤ 65536
      · obtain ⟨r, p, q⟩ := attrs x.f3 (by omega) s3'
        exact fin r.2 ((p.bind (g := fun k t => some t.2) (Ev.pure _)).eq fun k => by rw [if_pos c1, if_pos c2]) ((q.bind (g := fun k t => some t.2) (Ev.pure _)).eq fun k => by rw [if_pos c1, if_pos c2])
      · exact fin 3 (Ev.all fun k => by rw [if_pos c1, if_neg c2]) (Ev.all fun k => by rw [if_pos c1, if_neg c2])
    · exact fin 3 (Ev.all fun k => by rw [if_neg c1]) (Ev.all fun k => by rw [if_neg c1])
mutual
def szT : S25 → Int
  | ⟨_, _, _, _, ks⟩ => 1 + szL ks
def szL : List S25 → Int
  | [] => 0
  | y :: ys => szT y + szL ys
end
mutual
def htT : S25 → Int
  | ⟨_, _, _, _, ks⟩ => 1 + htL ks
def htL : List S25 → Int
  | [] => 0
  | y :: ys => max (htT y) (htL ys)
end
theorem szT_eq (x : S25) : szT x = 1 + szL x.f4 := by cases x; rw [szT]
theorem htT_eq (x : S25) : htT x = 1 + htL x.f4 := by cases x; rw [htT]
open Classical in
noncomputable def wr (x : S25) : Int := if h : ∃ e, Ev (fun k => vtree_wrong.f k x.f0 x.f1 x.f2 x.f3 x.f4) e then h.choose else 0
theorem wr_ev {x : S25} (h : Sm25 x) : Ev (fun k => vtree_wrong.f k x.f0 x.f1 x.f2 x.f3 x.f4) (wr x) ∧ Ev (fun k => r11_Alone.f k x.f0 x.f1 x.f2 x.f3 x.f4) (wr x) := by
  obtain ⟨e, h1, h2⟩ := alone x h; have hx : ∃ e, Ev (fun k => vtree_wrong.f k x.f0 x.f1 x.f2 x.f3 x.f4) e := ⟨e, h1⟩
  have hw : wr x = e := by
    unfold wr; rw [dif_pos hx]; exact Ev.uniq hx.choose_spec h1
  rw [hw]; exact ⟨h1, h2⟩
def next (met : List (List UInt8)) (x : S25) : List (List UInt8) := if x.f1.data.toList = [] then met else x.f1.data.toList :: met
theorem pos_of (x : S25) (h : Sm25 x) : 1 ≤ szT x ∧ 1 ≤ htT x := by
  induction h with
  | @mk x h0 h1 h2 h3 h4 h5 ih =>
    rw [szT_eq, htT_eq]
    have (ks : List S25) (hk : ∀ y ∈ ks, 1 ≤ szT y ∧ 1 ≤ htT y) : 0 ≤ szL ks ∧ 0 ≤ htL ks := by
      induction ks with
      | nil => simp [szL, htL]
      | cons y ys ih2 =>
        have a := hk y (by simp); have b := ih2 (fun z hz => hk z (by simp [hz])); rw [szL, htL]; omega
    have := this x.f4 ih; omega
theorem posL (ks : List S25) (h : ∀ y ∈ ks, Sm25 y) : 0 ≤ szL ks ∧ 0 ≤ htL ks := by
  induction ks with
  | nil => simp [szL, htL]
  | cons y ys ih =>
    have a := pos_of y (h y (by simp)); have b := ih (fun z hz => h z (by simp [hz])); rw [szL, htL]; omega
theorem rd25_drop (l : List S25) (i : Int) (h0 : 0 ≤ i) (h : i < l.length) : l.drop i.toNat = rd_T25 l i :: l.drop (i + 1).toNat := drop_T25 l i h0 h
theorem rd25_mem (l : List S25) (i : Int) (h0 : 0 ≤ i) (h : i < l.length) : rd_T25 l i ∈ l := by
  unfold rd_T25; rw [List.getD_eq_getElem?_getD, List.getElem?_eq_getElem (by omega)]; exact List.getElem_mem _
/-- All nodes have few attributes. -/
inductive FewA : S25 → Prop
  | mk {x : S25} (h3 : x.f3.length ≤ 1000000000) (h4 : ∀ y ∈ x.f4, FewA y) : FewA x
theorem FewA.h3 {x : S25} (h : FewA x) : x.f3.length ≤ 1000000000 := by cases h; assumption
theorem FewA.h4 {x : S25} (h : FewA x) : ∀ y ∈ x.f4, FewA y := by cases h; assumption
def WT (x : S25) : Prop := ∀ (a1 a2 : Int), 0 ≤ a1 → a1 ≤ 5000 → 0 ≤ a2 → a2 ≤ 81 →
  ∃ r, Ev (fun k => pl_weigh.f k x.f0 x.f1 x.f2 x.f3 x.f4 a1 a2) r ∧ (0 ≤ r → szT x + r ≤ a1 ∧ FewA x)
theorem weigh_l1 (x : S25) (hl : x.f4.length * 96 ≤ 140737488351232) (hs : ∀ y ∈ x.f4, Sm25 y) (hw : ∀ y ∈ x.f4, WT y) (d : Nat) : ∀ (i x1 x2 : Int), 0 ≤ i → (x.f4.length : Int) - i = d → x1 ≤ 5000 → 0 ≤ x2 → x2 ≤ 80 →
    ∃ r, Ev (fun k => pl_weigh.l1 k x1 x2 x.f4.length i x.f0 x.f1 x.f2 x.f3 x.f4) r ∧ (0 ≤ r → szL (x.f4.drop i.toNat) + r ≤ x1 ∧ ∀ y ∈ x.f4.drop i.toNat, FewA y) := by
  induction d with
  | zero =>
    intro i x1 x2 h0 hd h1 h2 h3; refine ⟨x1, (Ev.pure _).step (fun k => by rw [pl_weigh.l1, if_neg (by omega)]), ?_⟩; rw [List.drop_eq_nil_of_le (by omega), szL]
    exact fun _ => ⟨by omega, by simp⟩
  | succ d ih =>
    intro i x1 x2 h0 hd h1 h2 h3
    have hi : i < (x.f4.length : Int) := by omega
    by_cases c : x1 < 0
    · exact ⟨-1, (Ev.pure _).step (fun k => by rw [pl_weigh.l1, if_pos hi, if_pos c]), by omega⟩
    · have hm := rd25_mem x.f4 i h0 hi
      obtain ⟨t, ht, hti⟩ := hw _ hm x1 (x2 + 1) (by omega) h1 (by omega) (by omega)
      have hp := pos_of _ (hs _ hm)
      by_cases ct : t ≤ 5000
      · obtain ⟨r, hr, hri⟩ := ih (i + 1) t x2 (by omega) (by omega) ct h2 h3
        refine ⟨r, ht.via hr (fun k hk => by rw [pl_weigh.l1, if_pos hi, if_neg c, if_pos h0, if_pos hi, w1 (i := x2) (by omega) (by omega), hk, w1 (by omega) (by omega)]; rfl), ?_⟩
        intro hr0
        rw [rd25_drop x.f4 i h0 hi, szL]
        have := posL (x.f4.drop (i + 1).toNat) (fun y hy => hs y (List.mem_of_mem_drop hy))
        have q1 := hri hr0
        have q2 := hti (by omega)
        refine ⟨by omega, fun y hy => ?_⟩
        rcases List.mem_cons.1 hy with rfl | hy
        · exact q2.2
        · exact q1.2 y hy
      · have := hti (by omega)
        omega
theorem tdiv_small {n : Int} (h : 0 ≤ n) : Int.tdiv n 4096 = n / 4096 := Int.tdiv_eq_ediv_of_nonneg h
theorem weigh_l0 (x : S25) (hs : ∀ y ∈ x.f3, Sm69 y) (hl : x.f3.length ≤ 5000) (x2 : Int) (r1 : Int → Int → Prop)
    (hk : ∀ x1 : Int, x1 ≤ 5000 → ∃ r, Ev (fun k => pl_weigh.l1 k x1 x2 x.f4.length 0 x.f0 x.f1 x.f2 x.f3 x.f4) r ∧ (0 ≤ r → szL x.f4 + r ≤ x1 ∧ ∀ y ∈ x.f4, FewA y)) (d : Nat) : ∀ (i x1 : Int), 0 ≤ i → (x.f3.length : Int) - i = d → x1 ≤ 5000 → -(i * 137438953472) ≤ x1 →
    ∃ r, Ev (fun k => pl_weigh.l0 k x1 x2 x.f3.length i x.f0 x.f1 x.f2 x.f3 x.f4) r ∧ (0 ≤ r → szL x.f4 + r ≤ x1 ∧ ∀ y ∈ x.f4, FewA y) := by
  induction d with
  | zero =>
    intro i x1 h0 hd h1 h2; obtain ⟨r, hr, hri⟩ := hk x1 h1; exact ⟨r, hr.step (fun k => by rw [pl_weigh.l0, if_neg (by omega)]), hri⟩
  | succ d ih =>
    intro i x1 h0 hd h1 h2
    have hi : i < (x.f3.length : Int) := by omega
    have hm := hs _ (rd42_mem x.f3 i h0 hi); have m0 := hm.h0; have m1 := hm.h1; have e1 : wrap64 (((rd_T69 x.f3 i).f1.size : Int) / 4096) = ((rd_T69 x.f3 i).f1.size : Int) / 4096 := ww (by omega) (by omega); have e0 : wrap64 (((rd_T69 x.f3 i).f0.size : Int) / 4096) = ((rd_T69 x.f3 i).f0.size : Int) / 4096 := ww (by omega) (by omega); obtain ⟨r, hr, hri⟩ := ih (i + 1) (x1 - ((rd_T69 x.f3 i).f1.size : Int) / 4096 - ((rd_T69 x.f3 i).f0.size : Int) / 4096) (by omega) (by omega) (by omega) (by omega); refine ⟨r, hr.step (fun k => ?_), fun h => ⟨by have := hri h; omega, (hri h).2⟩⟩; rw [pl_weigh.l0, if_pos hi, if_pos h0, if_pos hi, e1, e0, w1 (by omega) (by omega)]; rw [ww (i := x1 - ((rd_T69 x.f3 i).f1.size : Int) / 4096) (by omega) (by omega), ww (by omega) (by omega)]
theorem weigh_T (x : S25) (h : Sm25 x) : WT x := by
  induction h with
  | @mk x s0 s1 s2 s3 s4 s5 ih =>
    intro a1 a2 h0 h1 h2 h3; have e1 : wrap64 ((x.f2.size : Int) + (x.f1.size : Int)) = (x.f2.size : Int) + (x.f1.size : Int) := ww (by omega) (by omega)
    have e2 : wrap64 (Int.tdiv (wrap64 ((x.f2.size : Int) + (x.f1.size : Int))) 4096) = ((x.f2.size : Int) + (x.f1.size : Int)) / 4096 := by
      rw [e1, tdiv_small (by omega)]; exact ww (by omega) (by omega)
    have e3 : wrap64 ((wrap64 ((wrap64 (a1 - 1)) - (x.f3.length : Int))) - (wrap64 (Int.tdiv (wrap64 ((x.f2.size : Int) + (x.f1.size : Int))) 4096))) = a1 - 1 - x.f3.length - ((x.f2.size : Int) + (x.f1.size : Int)) / 4096 := by
      have := s3.1; rw [e2, wm (by omega) (by omega), ww (i := a1 - 1 - (x.f3.length : Int)) (by omega) (by omega), ww (by omega) (by omega)]
    obtain ⟨c, hc⟩ : ∃ c, a1 - 1 - (x.f3.length : Int) - ((x.f2.size : Int) + (x.f1.size : Int)) / 4096 = c := ⟨_, rfl⟩; rw [hc] at e3
    by_cases c0 : c < 0
    · refine ⟨-1, ((Ev.pure (-1)).step (f := fun k => pl_weigh.j0 k c a2 true x.f0 x.f1 x.f2 x.f3 x.f4) (fun k => by rw [pl_weigh.j0, if_pos rfl])).step (fun k => by rw [pl_weigh.f, e3, if_pos c0]), by omega⟩
    by_cases ca : a2 > 80
    · refine ⟨-1, ((Ev.pure (-1)).step (f := fun k => pl_weigh.j0 k c a2 true x.f0 x.f1 x.f2 x.f3 x.f4) (fun k => by rw [pl_weigh.j0, if_pos rfl])).step (fun k => by rw [pl_weigh.f, e3, if_neg c0, decide_eq_true ca]), by omega⟩
    · obtain ⟨r, hr, hri⟩ := weigh_l0 x s3.2 (by omega) a2 (fun _ _ => True) (fun x1 hx1 => by
        obtain ⟨r, hr, hri⟩ := weigh_l1 x s4 s5 ih x.f4.length 0 x1 a2 (by omega) (by omega) hx1 h2 (by omega)
        exact ⟨r, hr, by simpa using hri⟩) x.f3.length 0 c (by omega) (by omega) (by omega) (by omega)
      refine ⟨r, (hr.step (f := fun k => pl_weigh.j0 k c a2 false x.f0 x.f1 x.f2 x.f3 x.f4) (fun k => by rw [pl_weigh.j0, if_neg (by decide)])).step (fun k => by rw [pl_weigh.f, e3, if_neg c0, decide_eq_false ca]), ?_⟩
      intro hr0
      have := hri hr0
      rw [szT_eq]
      exact ⟨by omega, FewA.mk (by omega) this.2⟩
theorem few (x : S25) (h : Sm25 x) (n : Int) (h0 : 0 ≤ n) (h1 : n ≤ 5000) : ∃ b, Ev (fun k => pl_Few.f k x.f0 x.f1 x.f2 x.f3 x.f4 n) b ∧ (b = true → szT x ≤ n ∧ FewA x) := by
  obtain ⟨r, hr, hri⟩ := weigh_T x h n 0 h0 h1 (by omega) (by omega); refine ⟨decide (r ≥ 0), hr.via0 (Ev.pure _) (fun k hk => by rw [pl_Few.f, hk]; rfl), ?_⟩; intro hb; have q := hri (of_decide_eq_true hb); have := of_decide_eq_true hb; exact ⟨by omega, q.2⟩
def BT (x : S25) : Prop := ∀ (l : List S63) (depth u : Int), ∃ new, Ev (fun k => blw1 k l x depth u) (l ++ new) ∧ (∀ it ∈ new, Sm25 it.f0) ∧ (¬ (l.length : Int) > 4096 → ∃ rest, new = ⟨x, depth, u⟩ :: rest)
theorem blwL_ev (ks : List S25) (hb : ∀ y ∈ ks, BT y) : ∀ (l : List S63) (depth u : Int), ∃ new, Ev (fun k => blw k l ks depth u) (l ++ new) ∧ ∀ it ∈ new, Sm25 it.f0 := by
  induction ks with
  | nil => intro l depth u; exact ⟨[], by simpa using (Ev.pure l).step (fun k => rfl), by simp⟩
  | cons y ys ih =>
    intro l depth u
    by_cases c : (l.length : Int) > 4096
    · exact ⟨[], by simpa using (Ev.pure l).step (f := fun k => blw k l (y :: ys) depth u) (fun k => by rw [blw_cons, if_pos c]), by simp⟩
    · obtain ⟨n1, e1, s1, _⟩ := hb y (by simp) l depth u
      obtain ⟨n2, e2, s2⟩ := ih (fun z hz => hb z (by simp [hz])) (l ++ n1) depth u
      refine ⟨n1 ++ n2, e1.via (by rw [← List.append_assoc]; exact e2) (fun k hk => by rw [blw_cons, if_neg c, hk]; rfl), fun it hit => ?_⟩
      rcases List.mem_append.1 hit with h | h
      · exact s1 it h
      · exact s2 it h
theorem blwT_ev (x : S25) (h : Sm25 x) : BT x := by
  induction h with
  | @mk x h0 h1 h2 h3 h4 h5 ih =>
    have hx : Sm25 x := Sm25.mk h0 h1 h2 h3 h4 h5; intro l depth u
    by_cases c : (l.length : Int) > 4096
    · exact ⟨[], by simpa using Ev.all (f := fun k => blw1 k l x depth u) (fun k => by rw [blw1, if_pos c]), by simp, fun h => absurd c h⟩
    · by_cases d : depth > 64
      · exact ⟨[⟨x, depth, u⟩], Ev.all (fun k => by rw [blw1, if_neg c, if_pos d]), by simp [hx], fun _ => ⟨[], rfl⟩⟩
      · obtain ⟨n, e, s⟩ := blwL_ev x.f4 ih (l ++ [⟨x, depth, u⟩]) (depth + 1) l.length
        refine ⟨⟨x, depth, u⟩ :: n, (by simpa using e : Ev (fun k => blw k (l ++ [⟨x, depth, u⟩]) x.f4 (depth + 1) l.length) (l ++ ⟨x, depth, u⟩ :: n)).eq (fun k => by rw [blw1, if_neg c, if_neg d]), fun it hit => ?_, fun _ => ⟨n, rfl⟩⟩
        rcases List.mem_cons.1 hit with h | h
        · rw [h]; exact hx
        · exact s it h
def Twice (L : List S63) (i : Nat) : Prop := ∃ it jt j, j < i ∧ L[i]? = some it ∧ L[j]? = some jt ∧ 0 ≤ it.f2 ∧ jt.f2 = it.f2 ∧ it.f0.f1.data.toList ≠ [] ∧ jt.f0.f1.data.toList = it.f0.f1.data.toList
def OKat (L : List S63) (i : Nat) : Prop := ∃ it, L[i]? = some it ∧ i ≠ 4096 ∧ it.f1 ≤ 64 ∧ wr it.f0 = 0 ∧ ¬ Twice L i
def BadAt (L : List S63) (i : Nat) (e : Int) : Prop := ∃ it, L[i]? = some it ∧ ((i = 4096 ∧ e = 12) ∨ (i ≠ 4096 ∧ it.f1 > 64 ∧ e = 11) ∨ (i ≠ 4096 ∧ it.f1 ≤ 64 ∧ wr it.f0 ≠ 0 ∧ e = wr it.f0) ∨ (i ≠ 4096 ∧ it.f1 ≤ 64 ∧ wr it.f0 = 0 ∧ Twice L i ∧ e = 10))
theorem get_ext {L : List S63} {i : Nat} {it : S63} (h : L[i]? = some it) (E : List S63) : (L ++ E)[i]? = some it := by
  rw [List.getElem?_append_left (List.getElem?_eq_some_iff.1 h).1]; exact h
theorem twice_ext {L : List S63} {i : Nat} (hi : i < L.length) (E : List S63) : Twice (L ++ E) i ↔ Twice L i := by
  unfold Twice; constructor; (rintro ⟨it, jt, j, hj, h1, h2, h3⟩; rw [List.getElem?_append_left hi] at h1; rw [List.getElem?_append_left (by omega)] at h2; exact ⟨it, jt, j, hj, h1, h2, h3⟩); (rintro ⟨it, jt, j, hj, h1, h2, h3⟩; exact ⟨it, jt, j, hj, get_ext h1 E, get_ext h2 E, h3⟩)
theorem OKat.ext {L : List S63} {i : Nat} (h : OKat L i) (E : List S63) : OKat (L ++ E) i := by
  obtain ⟨it, h1, h2, h3, h4, h5⟩ := h; exact ⟨it, get_ext h1 E, h2, h3, h4, fun ht => h5 ((twice_ext (List.getElem?_eq_some_iff.1 h1).1 E).1 ht)⟩
theorem BadAt.ext {L : List S63} {i : Nat} {e : Int} (h : BadAt L i e) (E : List S63) : BadAt (L ++ E) i e := by
  obtain ⟨it, h1, h2⟩ := h; refine ⟨it, get_ext h1 E, ?_⟩; rw [twice_ext (List.getElem?_eq_some_iff.1 h1).1 E]; exact h2
def Met (l : List S63) (u : Int) (met : List (List UInt8)) : Prop := ∀ key, key ∈ met ↔ key ≠ [] ∧ ∃ jt ∈ l, jt.f2 = u ∧ jt.f0.f1.data.toList = key
def md (d : Int) (it : S63) : Int := max d it.f1
/-- What a visit tells, against the list. -/
structure Sim (l new : List S63) (deep : Int) (r : Bool × Int × Int × Int) : Prop where
  sm : ∀ it ∈ new, Sm25 it.f0
  yes : r.1 = true → r.2 = (((l ++ new).length : Int), new.foldl md deep, 0) ∧ (l ++ new).length ≤ 4096 ∧ (∀ i, l.length ≤ i → i < (l ++ new).length → OKat (l ++ new) i) ∧ ∀ it ∈ new, it.f2 < (l ++ new).length
  no : r.1 = false → ∃ p : Nat, r.2.1 = p ∧ l.length ≤ p ∧ p < (l ++ new).length ∧ (∀ i, l.length ≤ i → i < p → OKat (l ++ new) i) ∧ BadAt (l ++ new) p r.2.2.2
def SimT (x : S25) : Prop := ∀ (depth deep : Int) (met : List (List UInt8)) (l : List S63) (u : Int), l.length ≤ 4096 → u < l.length → (u < 0 → met = []) → Met l u met → (∀ jt ∈ l, jt.f2 < l.length) →
  ∃ r rest, Ev (fun k => vis1 k x depth l.length deep met) r ∧ Ev (fun k => blw1 k l x depth u) (l ++ ⟨x, depth, u⟩ :: rest) ∧ Sim l (⟨x, depth, u⟩ :: rest) deep r ∧ (r.1 = true → ∀ it ∈ rest, (l.length : Int) ≤ it.f2)
theorem sim_L (ks : List S25) (hs : ∀ y ∈ ks, Sm25 y) (hv : ∀ y ∈ ks, SimT y) : ∀ (depth deep : Int) (met : List (List UInt8)) (l : List S63) (u : Int), l.length ≤ 4096 → u < l.length → 0 ≤ u → Met l u met → (∀ jt ∈ l, jt.f2 < l.length) →
    ∃ r new, Ev (fun k => vis k ks depth l.length deep met) r ∧ Ev (fun k => blw k l ks depth u) (l ++ new) ∧ Sim l new deep r ∧ (r.1 = true → ∀ it ∈ new, it.f2 = u ∨ (l.length : Int) ≤ it.f2) := by
  induction ks with
  | nil =>
    intro depth deep met l u h0 h1 h2 h3 h4; refine ⟨(true, l.length, deep, 0), [], (Ev.pure _).step (fun k => rfl), by simpa using (Ev.pure l).step (fun k => rfl), ⟨by simp, fun _ => ⟨by simp, by simpa using h0, fun i a b => by simp at b; omega, by simp⟩, by simp⟩, by simp⟩
  | cons y ys ih =>
    intro depth deep met l u h0 h1 h2 h3 h4
    have hc : ¬ (l.length : Int) > 4096 := by omega
    obtain ⟨r1, rest, e1, b1, s1, q1⟩ := hv y (by simp) depth deep met l u h0 h1 (fun h => by omega) h3 h4; obtain ⟨n1, hn1⟩ : ∃ n1, (⟨y, depth, u⟩ : S63) :: rest = n1 := ⟨_, rfl⟩
    have hmem : ∀ it, it ∈ n1 ↔ it = ⟨y, depth, u⟩ ∨ it ∈ rest := by intro it; rw [← hn1]; simp
    rw [hn1] at b1 s1
    cases hr : r1.1 with
    | false =>
      obtain ⟨n2, b2, m2⟩ := blwL_ev ys (fun z hz => blwT_ev z (hs z (by simp [hz]))) (l ++ n1) depth u; obtain ⟨p, p1, p2, p3, p4, p5⟩ := s1.no hr; refine ⟨r1, n1 ++ n2, e1.via (Ev.pure r1) (fun k hk => by rw [vis_cons, hk]; simp [hr]), b1.via (by rw [← List.append_assoc]; exact b2) (fun k hk => by rw [blw_cons, if_neg hc, hk]; rfl), ⟨?_, ?_, ?_⟩, ?_⟩
      · intro it hit
        rcases List.mem_append.1 hit with h | h
        · exact s1.sm it h
        · exact m2 it h
      (intro h; rw [hr] at h; cases h); (intro _; rw [← List.append_assoc]; exact ⟨p, p1, p2, by rw [List.length_append]; omega, fun i a b => (p4 i a b).ext n2, p5.ext n2⟩); (intro h; rw [hr] at h; cases h)
    | true =>
      obtain ⟨y1, y2, y3, y4⟩ := s1.yes hr; have q1 := q1 hr
      have hlen : l.length < (l ++ n1).length := by rw [← hn1]; simp
      obtain ⟨r2, n2, e2, b2, s2, q2⟩ := ih (fun z hz => hs z (by simp [hz])) (fun z hz => hv z (by simp [hz])) depth (n1.foldl md deep) (next met y) (l ++ n1) u y2 (by omega) h2 (by
        intro key
        have hn : key ∈ next met y ↔ key ∈ met ∨ (key ≠ [] ∧ y.f1.data.toList = key) := by
          unfold next
          split
          · next he =>
            constructor; (exact .inl)
            · rintro (h | ⟨h, rfl⟩)
              · exact h
              · exact absurd he h
          · next he =>
            rw [List.mem_cons]; constructor
            · rintro (rfl | h)
              · exact .inr ⟨he, rfl⟩
              · exact .inl h
            · rintro (h | ⟨_, rfl⟩)
              · exact .inr h
              · exact .inl rfl
        rw [hn, h3 key]; constructor
        · rintro (⟨h5, jt, h6, h7⟩ | ⟨h5, h6⟩)
          · exact ⟨h5, jt, List.mem_append_left _ h6, h7⟩
          · exact ⟨h5, ⟨y, depth, u⟩, List.mem_append_right _ ((hmem _).2 (.inl rfl)), rfl, h6⟩
        · rintro ⟨h5, jt, h6, h7, h8⟩
          rcases List.mem_append.1 h6 with h | h
          · exact .inl ⟨h5, jt, h, h7, h8⟩
          · rcases (hmem _).1 h with rfl | h
            · exact .inr ⟨h5, h8⟩
            · have := q1 jt h
              omega) (by
        intro jt hjt
        rcases List.mem_append.1 hjt with h | h
        · have := h4 jt h; omega
        · exact y4 jt h)
      refine ⟨r2, n1 ++ n2, e1.via e2 (fun k hk => by rw [vis_cons, hk]; simp only [Option.bind_some, hr, if_true, y1]; rfl), b1.via (by rw [← List.append_assoc]; exact b2) (fun k hk => by rw [blw_cons, if_neg hc, hk]; rfl), ⟨?_, ?_, ?_⟩, ?_⟩
      · intro it hit
        rcases List.mem_append.1 hit with h | h
        · exact s1.sm it h
        · exact s2.sm it h
      · intro h
        obtain ⟨z1, z2, z3, z4⟩ := s2.yes h
        rw [← List.append_assoc, List.foldl_append]
        refine ⟨z1, z2, fun i a b => ?_, fun it hit => ?_⟩
        · rcases Nat.lt_or_ge i (l ++ n1).length with c | c
          · exact (y3 i a c).ext n2
          · exact z3 i c b
        · rcases List.mem_append.1 hit with h | h
          · have := y4 it h
            rw [List.length_append]
            omega
          · exact z4 it h
      · intro h
        obtain ⟨p, p1, p2, p3, p4, p5⟩ := s2.no h
        rw [← List.append_assoc]
        refine ⟨p, p1, by omega, p3, fun i a b => ?_, p5⟩
        rcases Nat.lt_or_ge i (l ++ n1).length with c | c
        · exact (y3 i a c).ext n2
        · exact p4 i c b
      · intro h it hit
        rcases List.mem_append.1 hit with g | g
        · rcases (hmem _).1 g with rfl | g
          · exact .inl rfl
          · exact .inr (q1 it g)
        · rcases q2 h it g with g | g
          · exact .inl g
          · exact .inr (by omega)
theorem sim_T (x : S25) (h : Sm25 x) : SimT x := by
  induction h with
  | @mk x h0 h1 h2 h3 h4 h5 ih =>
    have hx : Sm25 x := Sm25.mk h0 h1 h2 h3 h4 h5; intro depth deep met l u c0 c1 c2 c3 c4; obtain ⟨it, hit⟩ : ∃ it : S63, (⟨x, depth, u⟩ : S63) = it := ⟨_, rfl⟩
    have i0 : it.f0 = x := by rw [← hit]
    have i1 : it.f1 = depth := by rw [← hit]
    have i2 : it.f2 = u := by rw [← hit]
    have hc : ¬ (l.length : Int) > 4096 := by omega
    have hget (rest : List S63) : (l ++ it :: rest)[l.length]? = some it := by simp
    have hget2 (rest : List S63) (j : Nat) (hj : j < l.length) : (l ++ it :: rest)[j]? = some (l[j]) := by rw [List.getElem?_append_left hj, List.getElem?_eq_getElem hj]
    obtain ⟨w1, _⟩ := wr_ev hx
    have fin (e0 : Int) (hE : Ev (fun k => visE k x depth l.length) e0) (hne : visX e0 x.f1.data.toList met ≠ 0) (hno : ∀ rest, BadAt (l ++ it :: rest) l.length (visX e0 x.f1.data.toList met)) :
        ∃ r rest, Ev (fun k => vis1 k x depth l.length deep met) r ∧ Ev (fun k => blw1 k l x depth u) (l ++ ⟨x, depth, u⟩ :: rest) ∧ Sim l (⟨x, depth, u⟩ :: rest) deep r ∧ (r.1 = true → ∀ it ∈ rest, (l.length : Int) ≤ it.f2) := by
      obtain ⟨new, b, s, hrest⟩ := blwT_ev x hx l depth u
      obtain ⟨rest, rfl⟩ := hrest hc
      refine ⟨(false, l.length, max deep depth, visX e0 x.f1.data.toList met), rest, hE.via0 (Ev.pure _) (fun k hk => by rw [vis1, if_pos h1, hk]; simp only [Option.bind_some]; rw [if_pos hne]), b, ⟨s, by simp, fun _ => ⟨l.length, rfl, Nat.le_refl _, by simp, fun i a b => by omega, ?_⟩⟩, by simp⟩
      rw [hit]
      exact hno rest
    by_cases cn : (l.length : Int) = 4096
    · exact fin 12 (Ev.all fun k => by rw [visE, if_pos cn]) (by rw [visX_ne (by decide)]; decide) (fun rest => ⟨it, hget rest, .inl ⟨by omega, by rw [visX_ne (by decide)]⟩⟩)
    by_cases cd : depth > 64
    (exact fin 11 (Ev.all fun k => by rw [visE, if_neg cn, if_pos cd]) (by rw [visX_ne (by decide)]; decide) (fun rest => ⟨it, hget rest, .inr (.inl ⟨by omega, by omega, by rw [visX_ne (by decide)]⟩)⟩)); have hE : Ev (fun k => visE k x depth l.length) (wr x) := w1.eq (fun k => by rw [visE, if_neg cn, if_neg cd])
    by_cases cw : wr x = 0
    case neg => exact fin (wr x) hE (by rw [visX_ne cw]; exact cw) (fun rest => ⟨it, hget rest, .inr (.inr (.inl ⟨by omega, by omega, by rw [i0]; exact cw, by rw [visX_ne cw, i0]⟩))⟩)
    have htw (rest : List S63) : Twice (l ++ it :: rest) l.length ↔ x.f1.data.toList ∈ met := by
      constructor; (rintro ⟨a, jt, j, hj, g1, g2, g3, g4, g5, g6⟩; rw [hget rest] at g1; cases g1; rw [hget2 rest j hj] at g2; cases g2; rw [i0] at g5 g6; rw [i2] at g4; exact (c3 _).2 ⟨g5, l[j], List.getElem_mem _, g4, g6⟩)
      · intro hk
        obtain ⟨g1, jt, g2, g3, g4⟩ := (c3 _).1 hk
        obtain ⟨j, hj, rfl⟩ := List.getElem_of_mem g2
        have hu : 0 ≤ u := by
          rcases Int.lt_or_le u 0 with h | h
          (rw [c2 h] at hk; cases hk); (exact h)
        exact ⟨it, l[j], j, hj, hget rest, hget2 rest j hj, by omega, by rw [g3, i2], by rw [i0]; exact g1, by rw [g4, i0]⟩
    by_cases ck : x.f1.data.toList ∈ met
    · exact fin (wr x) hE (by rw [visX, if_pos ⟨cw, ck⟩]; decide) (fun rest => ⟨it, hget rest, .inr (.inr (.inr ⟨by omega, by omega, by rw [i0]; exact cw, (htw rest).2 ck, by rw [visX, if_pos ⟨cw, ck⟩]⟩))⟩)
    have hX : visX (wr x) x.f1.data.toList met = 0 := by rw [visX, if_neg (fun h => ck h.2)]; exact cw
    have hl1 : (l ++ [it]).length = l.length + 1 := by simp
    obtain ⟨r, new, e, b, s, q⟩ := sim_L x.f4 h5 ih (depth + 1) (max deep depth) [] (l ++ [it]) l.length (by omega) (by omega) (by omega) (by
      intro key; simp only [List.not_mem_nil, false_iff]; rintro ⟨_, jt, g1, g2, _⟩
      rcases List.mem_append.1 g1 with g | g
      · have := c4 jt g; omega
      · simp at g
        subst g
        omega) (by
      intro jt g1
      rcases List.mem_append.1 g1 with g | g
      · have := c4 jt g; omega
      · simp at g
        subst g
        omega)
    have hap : l ++ [it] ++ new = l ++ it :: new := by simp
    have hcast : (((l ++ [it]).length : Nat) : Int) = (l.length : Int) + 1 := by omega
    rw [hcast] at e; rw [hap] at b; have hok : OKat (l ++ it :: new) l.length := ⟨it, hget new, by omega, by omega, by rw [i0]; exact cw, fun h => ck ((htw new).1 h)⟩; refine ⟨r, new, hE.via0 e (fun k hk => by rw [vis1, if_pos h1, hk]; simp only [Option.bind_some]; rw [if_neg (by rw [hX]; decide)]), ?_, ⟨?_, ?_, ?_⟩, ?_⟩; (rw [hit]; exact b.eq (fun k => by rw [blw1, if_neg hc, if_neg cd, hit]))
    · rw [hit]
      intro jt hjt
      rcases List.mem_cons.1 hjt with rfl | g
      · rw [i0]; exact hx
      · exact s.sm jt g
    · rw [hit]
      intro hr
      obtain ⟨z1, z2, z3, z4⟩ := s.yes hr
      rw [hap] at z1 z2 z3 z4
      refine ⟨?_, z2, fun i a b => ?_, fun jt hjt => ?_⟩
      · rw [z1, List.foldl_cons]
        have : md deep it = max deep depth := by unfold md; rw [i1]
        rw [this]
      · rcases Nat.eq_or_lt_of_le a with rfl | a
        · exact hok
        · exact z3 i (by omega) b
      · rcases List.mem_cons.1 hjt with rfl | g
        · simp only [List.length_append, List.length_cons]
          omega
        · exact z4 jt g
    · rw [hit]
      intro hr
      obtain ⟨p, p1, p2, p3, p4, p5⟩ := s.no hr
      rw [hap] at p3 p4 p5
      refine ⟨p, p1, by omega, p3, fun i a b => ?_, p5⟩
      rcases Nat.eq_or_lt_of_le a with rfl | a
      · exact hok
      · exact p4 i (by omega) b
    · intro hr jt hjt
      rcases q hr jt hjt with g | g
      · omega
      · omega
theorem rd53_mem (l : List S53) (i : Int) (h0 : 0 ≤ i) (h : i < l.length) : rd_T53 l i ∈ l := by
  unfold rd_T53; rw [List.getD_eq_getElem?_getD, List.getElem?_eq_getElem (by omega)]; exact List.getElem_mem _
theorem drp53 (xs : List S53) (i : Int) (h0 : 0 ≤ i) (hi : i < xs.length) : xs.drop i.toNat = rd_T53 xs i :: xs.drop (i + 1).toNat := by
  have e : (i + 1).toNat = i.toNat + 1 := by omega
  rw [e, List.drop_eq_getElem_cons (by omega)]; unfold rd_T53; rw [List.getD_eq_getElem?_getD, List.getElem?_eq_getElem (by omega)]; rfl
def atT (x : S69) : List UInt8 × List UInt8 := (x.f0.toList, x.f1.toList)
def attrsEq (a b : List S69) : Bool := a.map atT == b.map atT
theorem drop_T69 (l : List S69) (i : Int) (h0 : 0 ≤ i) (h : i < l.length) : l.drop i.toNat = rd_T69 l i :: l.drop (i + 1).toNat := by
  have e : (i + 1).toNat = i.toNat + 1 := by omega
  rw [e, List.drop_eq_getElem_cons (by omega)]; unfold rd_T69; rw [List.getD_eq_getElem?_getD, List.getElem?_eq_getElem (by omega)]; rfl
theorem attrsA_l0 (a b : List S69) (hl : a.length ≤ 140737488351232) (he : a.length = b.length) (d : Nat) : ∀ i : Int, 0 ≤ i → (a.length : Int) - i = d →
    Ev (fun k => pl_Attrs.l0 k a b a.length i) (attrsEq (a.drop i.toNat) (b.drop i.toNat)) := by
  induction d with
  | zero =>
    intro i h0 hd; rw [List.drop_eq_nil_of_le (by omega), List.drop_eq_nil_of_le (by omega)]; exact (Ev.pure true).step (fun k => by rw [pl_Attrs.l0, if_neg (by omega)])
  | succ d ih =>
    intro i h0 hd
    have hi : i < (a.length : Int) := by omega
    have hi2 : i < (b.length : Int) := by omega
    have hcons : attrsEq (a.drop i.toNat) (b.drop i.toNat) = ((((rd_T69 a i).f0.toList == (rd_T69 b i).f0.toList) && ((rd_T69 a i).f1.toList == (rd_T69 b i).f1.toList)) && attrsEq (a.drop (i + 1).toNat) (b.drop (i + 1).toNat)) := by
      rw [drop_T69 a i h0 hi, drop_T69 b i h0 hi2]; rfl
    rw [hcons]
    by_cases c : ((rd_T69 a i).f0.toList == (rd_T69 b i).f0.toList && (rd_T69 a i).f1.toList == (rd_T69 b i).f1.toList) = true
    · rw [c, Bool.true_and]
      refine (ih (i + 1) (by omega) (by omega)).step (fun k => ?_); rw [pl_Attrs.l0, if_pos hi, if_pos h0, if_pos hi, if_pos hi2, if_neg (by rw [Bool.and_eq_true] at c; rw [c.1, c.2]; decide), w1 (by omega) (by omega)]
    · have c' : ((rd_T69 a i).f0.toList == (rd_T69 b i).f0.toList && (rd_T69 a i).f1.toList == (rd_T69 b i).f1.toList) = false := by simpa using c
      rw [c', Bool.false_and]
      refine (Ev.pure false).step (fun k => ?_)
      rw [pl_Attrs.l0, if_pos hi, if_pos h0, if_pos hi, if_pos hi2, if_pos (by
        generalize ((rd_T69 a i).f0.toList == (rd_T69 b i).f0.toList) = p at c'; generalize ((rd_T69 a i).f1.toList == (rd_T69 b i).f1.toList) = q at c'
        revert c'; cases p <;> cases q <;> decide)]
theorem attrsEq_len {a b : List S69} (h : a.length ≠ b.length) : attrsEq a b = false := by
  unfold attrsEq; rw [beq_eq_false_iff_ne]; intro e; have := congrArg List.length e; simp at this; exact h this
theorem attrsA (a b : List S69) (hl : a.length ≤ 140737488351232) : Ev (fun k => pl_Attrs.f k a b) (attrsEq a b) := by
  by_cases he : a.length = b.length
  (exact (attrsA_l0 a b hl he a.length 0 (by omega) (by omega)).eq (fun k => by rw [pl_Attrs.f, if_pos (by omega)])); (rw [attrsEq_len he]; exact (Ev.pure false).eq (fun k => by rw [pl_Attrs.f, if_neg (by omega)]))
def rowEq (x y : S53) : Bool := decide (x.f1 = y.f1) && decide (x.f2.toList = y.f2.toList) && decide (x.f3.toList = y.f3.toList) && decide (x.f4.toList = y.f4.toList) && attrsEq x.f5 y.f5
def rowsEq : List S53 → List S53 → Bool
  | x :: xs, y :: ys => rowEq x y && rowsEq xs ys
  | [], [] => true
  | _, _ => false
theorem attrsEq_refl (a : List S69) : attrsEq a a = true := by unfold attrsEq; exact beq_self_eq_true _
theorem rowEq_refl (x : S53) : rowEq x x = true := by simp [rowEq, attrsEq_refl]
theorem rowsEq_len : ∀ {a b : List S53}, a.length ≠ b.length → rowsEq a b = false
  | [], [], h => absurd rfl h
  | [], _ :: _, _ => rfl
  | _ :: _, [], _ => rfl
  | x :: xs, y :: ys, h => by rw [rowsEq, rowsEq_len (a := xs) (b := ys) (by simpa using h), Bool.and_false]
theorem shapes_l0 (a b : List S53) (hl : a.length * 88 ≤ 140737488351232) (hs : ∀ y ∈ a, Sm53 y) (he : a.length = b.length) (d : Nat) : ∀ i : Int, 0 ≤ i → (a.length : Int) - i = d →
    Ev (fun k => pl_Shapes.l0 k a b a.length i) (rowsEq (a.drop i.toNat) (b.drop i.toNat)) := by
  induction d with
  | zero =>
    intro i h0 hd; rw [List.drop_eq_nil_of_le (by omega), List.drop_eq_nil_of_le (by omega)]; exact (Ev.pure true).step (fun k => by rw [pl_Shapes.l0, if_neg (by omega)])
  | succ d ih =>
    intro i h0 hd
    have hi : i < (a.length : Int) := by omega
    have hi2 : i < (b.length : Int) := by omega
    have hm := hs _ (rd53_mem a i h0 hi); rw [drp53 a i h0 hi, drp53 b i h0 hi2, rowsEq]; have ih' := ih (i + 1) (by omega) (by omega); have ha : Ev (fun k => pl_Attrs.f k (rd_T53 a i).f5 (rd_T53 b i).f5) (attrsEq (rd_T53 a i).f5 (rd_T53 b i).f5) := attrsA _ _ (by have := hm.h5.1; omega); generalize hx : rd_T53 a i = x at *; generalize hy : rd_T53 b i = y at *; unfold rowEq
    by_cases c1 : x.f1 = y.f1
    case neg => exact (Ev.pure _).step (fun k => by rw [pl_Shapes.l0, if_pos hi, if_pos h0, if_pos hi, if_pos hi2, hx, hy, if_neg c1, decide_eq_false c1]; rfl)
    by_cases c2 : x.f2.toList = y.f2.toList
    case neg => exact (Ev.pure _).step (fun k => by rw [pl_Shapes.l0, if_pos hi, if_pos h0, if_pos hi, if_pos hi2, hx, hy, if_pos c1, if_neg c2, decide_eq_true c1, decide_eq_false c2]; rfl)
    by_cases c3 : x.f3.toList = y.f3.toList
    case neg => exact (Ev.pure _).step (fun k => by rw [pl_Shapes.l0, if_pos hi, if_pos h0, if_pos hi, if_pos hi2, hx, hy, if_pos c1, if_pos c2, if_neg c3, decide_eq_true c1, decide_eq_true c2, decide_eq_false c3]; rfl)
    by_cases c4 : x.f4.toList = y.f4.toList
    case neg => exact (Ev.pure _).step (fun k => by rw [pl_Shapes.l0, if_pos hi, if_pos h0, if_pos hi, if_pos hi2, hx, hy, if_pos c1, if_pos c2, if_pos c3, if_neg c4, decide_eq_true c1, decide_eq_true c2, decide_eq_true c3, decide_eq_false c4]; rfl)
    rw [decide_eq_true c1, decide_eq_true c2, decide_eq_true c3, decide_eq_true c4]; simp only [Bool.and_self, Bool.true_and]
    by_cases c : attrsEq x.f5 y.f5 = true
    · rw [c, Bool.true_and]
      exact ha.via ih' (fun k hk => by rw [pl_Shapes.l0, if_pos hi, if_pos h0, if_pos hi, if_pos hi2, hx, hy, if_pos c1, if_pos c2, if_pos c3, if_pos c4, hk, c, w1 (by omega) (by omega)]; rfl)
    · have c' : attrsEq x.f5 y.f5 = false := by simpa using c
      rw [c', Bool.false_and]
      exact ha.via (Ev.pure false) (fun k hk => by rw [pl_Shapes.l0, if_pos hi, if_pos h0, if_pos hi, if_pos hi2, hx, hy, if_pos c1, if_pos c2, if_pos c3, if_pos c4, hk, c']; rfl)
theorem shapes_ev (a b : List S53) (hl : a.length * 88 ≤ 140737488351232) (hs : ∀ y ∈ a, Sm53 y) : Ev (fun k => pl_Shapes.f k a b) (rowsEq a b) := by
  by_cases he : a.length = b.length
  (exact (shapes_l0 a b hl hs he a.length 0 (by omega) (by omega)).eq (fun k => by rw [pl_Shapes.f, if_pos (by omega)])); (rw [rowsEq_len he]; exact (Ev.pure false).eq (fun k => by rw [pl_Shapes.f, if_neg (by omega)]))
theorem same_ev : Ev (fun k => lw_same.f k) true := Ev.of (fun k => lw_same.mono k) (k := 40) (by decide +kernel)
theorem fewR_l1 (Q : Prop) (l : List S53) (hl : l.length * 88 ≤ 140737488351232) (hs : ∀ y ∈ l, Sm53 y) (n : Int) (hn0 : 0 ≤ n) (hn : n ≤ 5000) (i : Int) (h0 : 0 ≤ i) (hi : i < l.length)
    (hk : ∀ x : Int, x ≤ n - (i + 1) → -4503599627370496 ≤ x → ∃ b, Ev (fun k => pl_FewRows.l0 k l x l.length (i + 1)) b ∧ (b = true → Q)) (hf : ((rd_T53 l i).f5.length : Int) ≤ 5000) (d : Nat) :
    ∀ (j y : Int), 0 ≤ j → ((rd_T53 l i).f5.length : Int) - j = d → y ≤ n - (i + 1) → -(j * 274877906944) ≤ y → ∃ b, Ev (fun k => pl_FewRows.l1 k l y i l.length i ((rd_T53 l i).f5.length : Int) j) b ∧ (b = true → Q) := by
  induction d with
  | zero =>
    intro j y hj0 hd hy1 hy2; obtain ⟨b, hb, hbi⟩ := hk y hy1 (by omega); exact ⟨b, hb.step (fun k => by rw [pl_FewRows.l1, if_neg (by omega), w1 (by omega) (by omega)]), hbi⟩
  | succ d ih =>
    intro j y hj0 hd hy1 hy2
    have hj : j < ((rd_T53 l i).f5.length : Int) := by omega
    have hm := (hs _ (rd53_mem l i h0 hi)).h5.2 _ (rd42_mem (rd_T53 l i).f5 j hj0 hj); have m0 := hm.h0; have m1 := hm.h1
    have e1 : wrap64 (Int.tdiv (wrap64 ((((rd_T69 (rd_T53 l i).f5 j).f1).size : Int) + (((rd_T69 (rd_T53 l i).f5 j).f0).size : Int))) 4096) = ((((rd_T69 (rd_T53 l i).f5 j).f1).size : Int) + (((rd_T69 (rd_T53 l i).f5 j).f0).size : Int)) / 4096 := by
      rw [ww (i := (((rd_T69 (rd_T53 l i).f5 j).f1).size : Int) + (((rd_T69 (rd_T53 l i).f5 j).f0).size : Int)) (by omega) (by omega), Int.tdiv_eq_ediv_of_nonneg (by omega)]; exact ww (by omega) (by omega)
    obtain ⟨b, hb, hbi⟩ := ih (j + 1) (y - ((((rd_T69 (rd_T53 l i).f5 j).f1).size : Int) + (((rd_T69 (rd_T53 l i).f5 j).f0).size : Int)) / 4096) (by omega) (by omega) (by omega) (by omega)
    exact ⟨b, hb.step (fun k => by
      rw [pl_FewRows.l1, if_pos hj, if_pos h0, if_pos hi, if_pos hj0, if_pos hj, e1, ww (i := y - _) (by omega) (by omega), w1 (by omega) (by omega)]), hbi⟩
theorem fewR_l0 (l : List S53) (hl : l.length * 88 ≤ 140737488351232) (hs : ∀ y ∈ l, Sm53 y) (n : Int) (hn0 : 0 ≤ n) (hn : n ≤ 5000) (d : Nat) :
    ∀ (i x : Int), 0 ≤ i → (l.length : Int) - i = d → x ≤ n - i → -4503599627370496 ≤ x → ∃ b, Ev (fun k => pl_FewRows.l0 k l x l.length i) b ∧ (b = true → (l.length : Int) ≤ n ∧ ∀ j, i ≤ j → j < l.length → ((rd_T53 l j).f5.length : Int) ≤ 5000) := by
  induction d with
  | zero =>
    intro i x h0 hd hx1 hx2; refine ⟨decide (x ≥ 0), (Ev.pure _).step (fun k => by rw [pl_FewRows.l0, if_neg (by omega)]), fun hb => ?_⟩; have := of_decide_eq_true hb; exact ⟨by omega, fun j h1 h2 => by omega⟩
  | succ d ih =>
    intro i x h0 hd hx1 hx2
    have hi : i < (l.length : Int) := by omega
    have hm := hs _ (rd53_mem l i h0 hi); have m2 := hm.h2; have m3 := hm.h3; have m4 := hm.h4; have m5 := hm.h5.1
    have e2 : wrap64 (Int.tdiv (wrap64 ((wrap64 ((((rd_T53 l i).f4).size : Int) + (((rd_T53 l i).f3).size : Int))) + (((rd_T53 l i).f2).size : Int))) 4096) = ((((rd_T53 l i).f4).size : Int) + (((rd_T53 l i).f3).size : Int) + (((rd_T53 l i).f2).size : Int)) / 4096 := by
      rw [ww (i := (((rd_T53 l i).f4).size : Int) + (((rd_T53 l i).f3).size : Int)) (by omega) (by omega), ww (i := _ + (((rd_T53 l i).f2).size : Int)) (by omega) (by omega), Int.tdiv_eq_ediv_of_nonneg (by omega)]; exact ww (by omega) (by omega)
    have e3 : wrap64 ((wrap64 ((wrap64 (x - 1)) - (((rd_T53 l i).f5).length : Int))) - (wrap64 (Int.tdiv (wrap64 ((wrap64 ((((rd_T53 l i).f4).size : Int) + (((rd_T53 l i).f3).size : Int))) + (((rd_T53 l i).f2).size : Int))) 4096))) = x - 1 - (((rd_T53 l i).f5).length : Int) - ((((rd_T53 l i).f4).size : Int) + (((rd_T53 l i).f3).size : Int) + (((rd_T53 l i).f2).size : Int)) / 4096 := by
      rw [e2, wm (by omega) (by omega), ww (i := x - 1 - (((rd_T53 l i).f5).length : Int)) (by omega) (by omega), ww (by omega) (by omega)]
    obtain ⟨c, hc⟩ : ∃ c, x - 1 - (((rd_T53 l i).f5).length : Int) - ((((rd_T53 l i).f4).size : Int) + (((rd_T53 l i).f3).size : Int) + (((rd_T53 l i).f2).size : Int)) / 4096 = c := ⟨_, rfl⟩; rw [hc] at e3
    by_cases c0 : c < 0
    · exact ⟨false, (Ev.pure false).step (fun k => by rw [pl_FewRows.l0, if_pos hi, if_pos h0, if_pos hi, e3, if_pos c0]), by simp⟩
    · obtain ⟨b, hb, hbi⟩ := fewR_l1 _ l hl hs n hn0 hn i h0 hi (fun x hx1 hx2 => ih (i + 1) x (by omega) (by omega) hx1 hx2) (by omega) ((rd_T53 l i).f5.length) 0 c (by omega) (by omega) (by omega) (by omega)
      exact ⟨b, hb.step (fun k => by rw [pl_FewRows.l0, if_pos hi, if_pos h0, if_pos hi, e3, if_neg c0]), fun h => ⟨(hbi h).1, fun j h1 h2 => by
        rcases Int.lt_or_eq_of_le h1 with h3 | rfl
        · exact (hbi h).2 j (by omega) h2
        · omega⟩⟩
theorem fewR2 (l : List S53) (hl : l.length * 88 ≤ 140737488351232) (hs : ∀ y ∈ l, Sm53 y) (n : Int) (hn0 : 0 ≤ n) (hn : n ≤ 5000) : ∃ b, Ev (fun k => pl_FewRows.f k l n) b ∧ (b = true → (l.length : Int) ≤ n ∧ ∀ j : Int, 0 ≤ j → j < l.length → ((rd_T53 l j).f5.length : Int) ≤ 5000) := by
  obtain ⟨b, hb, hbi⟩ := fewR_l0 l hl hs n hn0 hn l.length 0 n (by omega) (by omega) (by omega) (by omega); exact ⟨b, hb, hbi⟩
theorem attrs_alike (k : Nat) (a b : List S69) : slices_Equal_Attr.f k a b = pl_Attrs.f k a b := by
  have h : ∀ k x i, slices_Equal_Attr.l0 k a b x i = pl_Attrs.l0 k a b x i := by
    intro k
    induction k with
    | zero => intro x i; rfl
    | succ k ih => intro x i; rw [slices_Equal_Attr.l0, pl_Attrs.l0, ih]
  unfold slices_Equal_Attr.f pl_Attrs.f; rw [h]
theorem eqRow_ev (x y : S53) (hx : Sm53 x) : Ev (fun k => eqRow k x y) (rowEq x y) := by
  have ha : Ev (fun k => slices_Equal_Attr.f k x.f5 y.f5) (attrsEq x.f5 y.f5) := (attrsA _ _ (by have := hx.h5.1; omega)).eq (fun k => attrs_alike k _ _); unfold rowEq
  by_cases c1 : x.f1 = y.f1
  case neg => exact (Ev.pure _).eq (fun k => by rw [eqRow, flat_Same_1.f, if_neg c1, decide_eq_false c1]; rfl)
  by_cases c2 : x.f2.toList = y.f2.toList
  case neg => exact (Ev.pure _).eq (fun k => by rw [eqRow, flat_Same_1.f, if_pos c1, if_neg c2, decide_eq_true c1, decide_eq_false c2]; rfl)
  by_cases c3 : x.f3.toList = y.f3.toList
  case neg => exact (Ev.pure _).eq (fun k => by rw [eqRow, flat_Same_1.f, if_pos c1, if_pos c2, if_neg c3, decide_eq_true c1, decide_eq_true c2, decide_eq_false c3]; rfl)
  by_cases c4 : x.f4.toList = y.f4.toList
  case neg => exact (Ev.pure _).eq (fun k => by rw [eqRow, flat_Same_1.f, if_pos c1, if_pos c2, if_pos c3, if_neg c4, decide_eq_true c1, decide_eq_true c2, decide_eq_true c3, decide_eq_false c4]; rfl)
  rw [decide_eq_true c1, decide_eq_true c2, decide_eq_true c3, decide_eq_true c4]; simp only [Bool.and_self, Bool.true_and]; exact ha.via0 (Ev.pure _) (fun k hk => by rw [eqRow, flat_Same_1.f, if_pos c1, if_pos c2, if_pos c3, if_pos c4, hk]; rfl)
theorem eqRows_ev : ∀ (a b : List S53), a.length = b.length → (∀ y ∈ a, Sm53 y) → Ev (fun k => eqRows k a b) (rowsEq a b)
  | [], [], _, _ => Ev.pure true
  | [], _ :: _, h, _ => by simp at h
  | _ :: _, [], h, _ => by simp at h
  | x :: xs, y :: ys, h, hs => by
    have h1 := eqRow_ev x y (hs x (by simp))
    have h2 := eqRows_ev xs ys (by simpa using h) (fun z hz => hs z (by simp [hz]))
    rw [rowsEq]
    by_cases c : rowEq x y = true
    · rw [c, Bool.true_and]
      exact h1.via0 h2 (fun k hk => by rw [eqRows, hk, c]; rfl)
    · have c' : rowEq x y = false := by simpa using c
      rw [c', Bool.false_and]
      exact h1.via0 (Ev.pure false) (fun k hk => by rw [eqRows, hk, c']; rfl)
theorem flatSame_ev (a b : List S53) (hl : a.length * 88 ≤ 140737488351232) (hs : ∀ y ∈ a, Sm53 y) : Ev (fun k => flat_Same.f k a b) (rowsEq a b) := by
  by_cases he : a.length = b.length
  (exact (eqRows_ev a b he hs).eq (fun k => by rw [flat_Same.f, if_pos he, if_pos (by omega)])); (rw [rowsEq_len he]; exact (Ev.pure false).eq (fun k => by rw [flat_Same.f, if_neg he]))
theorem rd48 {L : List S63} {i : Nat} {it : S63} (h : L[i]? = some it) : rd_T63 L (i : Int) = it := by
  unfold rd_T63; rw [List.getD_eq_getElem?_getD, Int.toNat_natCast, h]; rfl
theorem lt48 {L : List S63} {i : Nat} {it : S63} (h : L[i]? = some it) : i < L.length := (List.getElem?_eq_some_iff.1 h).1
/-- The keys' round. -/
theorem chk_l1 (L : List S63) (hL : L.length ≤ 4097) (i : Nat) (it : S63) (hi : L[i]? = some it) (d : Nat) : ∀ j : Nat, i - j = d → j ≤ i →
    ((∃ jt k, j ≤ k ∧ k < i ∧ L[k]? = some jt ∧ 0 ≤ it.f2 ∧ jt.f2 = it.f2 ∧ it.f0.f1.data.toList ≠ [] ∧ jt.f0.f1.data.toList = it.f0.f1.data.toList) → Ev (fun k => r11_Check.l1 k L i L.length i i j) ((i : Int), 10)) ∧
    (¬ (∃ jt k, j ≤ k ∧ k < i ∧ L[k]? = some jt ∧ 0 ≤ it.f2 ∧ jt.f2 = it.f2 ∧ it.f0.f1.data.toList ≠ [] ∧ jt.f0.f1.data.toList = it.f0.f1.data.toList) → ∀ r, Ev (fun k => r11_Check.l0 k L L.length ((i + 1 : Nat) : Int)) r → Ev (fun k => r11_Check.l1 k L i L.length i i j) r) := by
  have hil := lt48 hi; have hrd := rd48 hi
  induction d with
  | zero =>
    intro j hd hj; refine ⟨fun ⟨jt, k, h1, h2, _⟩ => by omega, fun _ r hr => hr.step (fun k => by rw [r11_Check.l1, if_neg (by omega), w1 (by omega) (by omega)]; rfl)⟩
  | succ d ih =>
    intro j hd hj; obtain ⟨ih1, ih2⟩ := ih (j + 1) (by omega) (by omega); obtain ⟨jt, hjt⟩ : ∃ jt, L[j]? = some jt := ⟨_, List.getElem?_eq_getElem (by omega)⟩
    have hw : wrap64 ((j : Int) + 1) = ((j + 1 : Nat) : Int) := by rw [w1 (by omega) (by omega)]; rfl
    have hrj := rd48 hjt
    have a1 : (j : Int) < (i : Int) := by omega
    have a2 : (0 : Int) ≤ (i : Int) := by omega
    have a3 : (i : Int) < (L.length : Int) := by omega
    have a4 : (0 : Int) ≤ (j : Int) := by omega
    have a5 : (j : Int) < (L.length : Int) := by omega
    by_cases c : 0 ≤ it.f2 ∧ jt.f2 = it.f2 ∧ it.f0.f1.data.toList ≠ [] ∧ jt.f0.f1.data.toList = it.f0.f1.data.toList
    · refine ⟨fun _ => (Ev.pure _).step (fun k => ?_), fun h => absurd ⟨jt, j, Nat.le_refl _, by omega, hjt, c⟩ h⟩
      rw [r11_Check.l1, if_pos (by omega), if_pos (by omega), if_pos (by omega), hrd, if_pos c.1, if_pos (by omega), if_pos (by omega), hrj, if_pos c.2.1, Lib.toList_data, if_neg c.2.2.1, Lib.toList_data, if_pos c.2.2.2]
    · have hstep (k : Nat) : r11_Check.l1 (k + 1) L i L.length i i j = r11_Check.l1 k L i L.length i i ((j + 1 : Nat) : Int) := by
        rw [r11_Check.l1, if_pos a1, if_pos a2, if_pos a3, hrd]
        by_cases d1 : it.f2 ≥ 0
        · rw [if_pos d1, if_pos a4, if_pos a5, hrj]
          by_cases d2 : jt.f2 = it.f2
          · rw [if_pos d2, Lib.toList_data]
            by_cases d3 : it.f0.f1.data.toList = []
            · rw [if_pos d3, hw]
            · rw [if_neg d3, Lib.toList_data, if_neg (fun d4 => c ⟨d1, d2, d3, d4⟩), hw]
          · rw [if_neg d2, hw]
        · rw [if_neg d1, hw]
      have hex : (∃ jt k, j ≤ k ∧ k < i ∧ L[k]? = some jt ∧ 0 ≤ it.f2 ∧ jt.f2 = it.f2 ∧ it.f0.f1.data.toList ≠ [] ∧ jt.f0.f1.data.toList = it.f0.f1.data.toList) ↔ (∃ jt k, j + 1 ≤ k ∧ k < i ∧ L[k]? = some jt ∧ 0 ≤ it.f2 ∧ jt.f2 = it.f2 ∧ it.f0.f1.data.toList ≠ [] ∧ jt.f0.f1.data.toList = it.f0.f1.data.toList) := by
        constructor
        · rintro ⟨a, k, h1, h2, h3, h4⟩
          rcases Nat.eq_or_lt_of_le h1 with rfl | h1
          · rw [hjt] at h3
            cases h3
            exact absurd h4 c
          · exact ⟨a, k, h1, h2, h3, h4⟩
        · rintro ⟨a, k, h1, h2, h3, h4⟩
          exact ⟨a, k, by omega, h2, h3, h4⟩
      rw [hex]
      exact ⟨fun h => (ih1 h).step hstep, fun h r hr => (ih2 h r hr).step hstep⟩
theorem bad_ne {L : List S63} {p : Nat} {e : Int} (h : BadAt L p e) : e ≠ 0 := by
  obtain ⟨it, _, h | h | h | h⟩ := h; (omega); (omega); (rw [h.2.2.2]; exact h.2.2.1); (omega)
theorem chk_ok (L : List S63) (hL : L.length ≤ 4097) (hs : ∀ it ∈ L, Sm25 it.f0) (i : Nat) (h : OKat L i) {r : Int × Int} (hr : Ev (fun k => r11_Check.l0 k L L.length ((i + 1 : Nat) : Int)) r) : Ev (fun k => r11_Check.l0 k L L.length (i : Int)) r := by
  obtain ⟨it, h1, h2, h3, h4, h5⟩ := h; have hil := lt48 h1; have hrd := rd48 h1; obtain ⟨_, w2⟩ := wr_ev (hs it (List.mem_of_getElem? h1)); rw [h4] at w2; have hl := (chk_l1 L hL i it h1 i 0 (by omega) (by omega)).2 (fun ⟨jt, k, a1, a2, a3, a4⟩ => h5 ⟨it, jt, k, a2, h1, a3, a4⟩) r hr; refine w2.via hl (fun k hk => ?_); rw [r11_Check.l0, if_pos (by omega), if_neg (by omega), if_pos (by omega), if_pos (by omega), hrd, if_neg (by omega), hk, Option.bind_some, if_pos rfl]; rfl
theorem chk_bad (L : List S63) (hL : L.length ≤ 4097) (hs : ∀ it ∈ L, Sm25 it.f0) (p : Nat) (e : Int) (h : BadAt L p e) : Ev (fun k => r11_Check.l0 k L L.length (p : Int)) ((p : Int), e) := by
  obtain ⟨it, h1, h2⟩ := h; have hil := lt48 h1; have hrd := rd48 h1; obtain ⟨_, w2⟩ := wr_ev (hs it (List.mem_of_getElem? h1))
  rcases h2 with ⟨a1, rfl⟩ | ⟨a1, a2, rfl⟩ | ⟨a1, a2, a3, rfl⟩ | ⟨a1, a2, a3, a4, rfl⟩
  (exact (Ev.pure _).step (fun k => by rw [r11_Check.l0, if_pos (by omega), if_pos (by omega)])); (exact (Ev.pure _).step (fun k => by rw [r11_Check.l0, if_pos (by omega), if_neg (by omega), if_pos (by omega), if_pos (by omega), hrd, if_pos (by omega)])); (exact w2.via (Ev.pure _) (fun k hk => by rw [r11_Check.l0, if_pos (by omega), if_neg (by omega), if_pos (by omega), if_pos (by omega), hrd, if_neg (by omega), hk, Option.bind_some, if_neg a3])); (rw [a3] at w2; obtain ⟨it', jt, j, b1, b2, b3, b4⟩ := a4; rw [h1] at b2; cases b2; have hl := (chk_l1 L hL p it h1 p 0 (by omega) (by omega)).1 ⟨jt, j, by omega, b1, b3, b4⟩; refine w2.via hl (fun k hk => ?_); rw [r11_Check.l0, if_pos (by omega), if_neg (by omega), if_pos (by omega), if_pos (by omega), hrd, if_neg (by omega), hk, Option.bind_some, if_pos rfl]; rfl)
theorem chk_upto (L : List S63) (hL : L.length ≤ 4097) (hs : ∀ it ∈ L, Sm25 it.f0) (p : Nat) (h : ∀ i, i < p → OKat L i) (r : Int × Int) (hr : Ev (fun k => r11_Check.l0 k L L.length (p : Int)) r) (d : Nat) : ∀ i : Nat, p - i = d → i ≤ p → Ev (fun k => r11_Check.l0 k L L.length (i : Int)) r := by
  induction d with
  | zero =>
    intro i hd hi
    obtain rfl : i = p := by omega
    exact hr
  | succ d ih =>
    intro i hd hi; exact chk_ok L hL hs i (h i (by omega)) (ih (i + 1) (by omega) (by omega))
/-- vtree.Check and its reference, by the list of items. -/
theorem checks (x : S25) (h : Sm25 x) : ∃ L c, Ev (fun k => r11_Items.f k x.f0 x.f1 x.f2 x.f3 x.f4) L ∧ L.length ≤ 4097 ∧ (∀ it ∈ L, Sm25 it.f0) ∧
    Ev (fun k => vtree_Check.f k x.f0 x.f1 x.f2 x.f3 x.f4) c ∧ Ev (fun k => r11_Check.f k x.f0 x.f1 x.f2 x.f3 x.f4) c ∧
    ((c.2 = 0 ∧ L.length ≤ 4096 ∧ ∀ i, i < L.length → OKat L i) ∨ (c.2 ≠ 0 ∧ ∃ p : Nat, p < L.length ∧ (∀ i, i < p → OKat L i) ∧ BadAt L p c.2)) := by
  have hxe : (⟨x.f0, x.f1, x.f2, x.f3, x.f4⟩ : S25) = x := by cases x; rfl
  obtain ⟨r, rest, e, bl, s, _⟩ := sim_T x h 1 0 [] [] (-1) (by simp) (by simp) (by simp) (by intro key; simp) (by simp); obtain ⟨L, hL⟩ : ∃ L, (⟨x, 1, -1⟩ : S63) :: rest = L := ⟨_, rfl⟩; rw [hL] at bl s; simp only [List.nil_append] at bl; have hit : Ev (fun k => r11_Items.f k x.f0 x.f1 x.f2 x.f3 x.f4) L := bl.eq (fun k => by rw [r11_Items.f, hxe])
  have hlen : L.length ≤ 4097 := by
    obtain ⟨k, hk⟩ := bl.ex; exact (blw1_len hk (by simp)).2
  have hchk : Ev (fun k => vtree_check.f k x.f0 x.f1 x.f2 x.f3 x.f4) r.2 := e.via0 (Ev.pure _) (fun k hk => by rw [vtree_check.f, hxe]; rw [show ((([] : List S63).length : Nat) : Int) = 0 from rfl] at hk; rw [hk]; rfl); have hrc (r : Int × Int) (hr : Ev (fun k => r11_Check.l0 k L L.length ((0 : Nat) : Int)) r) : Ev (fun k => r11_Check.f k x.f0 x.f1 x.f2 x.f3 x.f4) r := hit.via0 hr (fun k hk => by rw [r11_Check.f, hk]; rfl)
  cases hr : r.1 with
  | true =>
    obtain ⟨y1, y2, y3, _⟩ := s.yes hr; simp only [List.nil_append] at y1 y2 y3
    have hz : r.2.2.2 = 0 := by rw [y1]
    have hcl : Ev (fun k => r11_Check.l0 k L L.length (L.length : Int)) (0, 0) := (Ev.pure _).step (fun k => by rw [r11_Check.l0, if_neg (by omega)]); exact ⟨L, (0, 0), hit, hlen, s.sm, hchk.via0 (Ev.pure _) (fun k hk => by rw [vtree_Check.f, hk, Option.bind_some, if_pos hz]), hrc _ (chk_upto L hlen s.sm L.length (fun i hi => y3 i (by simp) hi) _ hcl L.length 0 (by omega) (by omega)), .inl ⟨rfl, y2, fun i hi => y3 i (by simp) hi⟩⟩
  | false =>
    obtain ⟨p, p1, p2, p3, p4, p5⟩ := s.no hr; simp only [List.nil_append] at p3 p4 p5; have hne := bad_ne p5; exact ⟨L, (p, r.2.2.2), hit, hlen, s.sm, hchk.via0 (Ev.pure _) (fun k hk => by rw [vtree_Check.f, hk, Option.bind_some, if_neg hne, p1]), hrc _ (chk_upto L hlen s.sm p (fun i hi => p4 i (by simp) hi) _ (chk_bad L hlen s.sm p _ p5) p 0 (by omega) (by omega)), .inr ⟨hne, p, p3, fun i hi => p4 i (by simp) hi, p5⟩⟩
mutual
/-- The rows of a tree that stands behind so many rows, under a handle. -/
def rowsT : S25 → Int → Int → List S53
  | ⟨a, b, c, d, ks⟩, at_, up => ⟨0, up, a, b, c, d⟩ :: rowsL ks (at_ + 1) (at_ + 1)
def rowsL : List S25 → Int → Int → List S53
  | [], _, _ => []
  | y :: ys, at_, up => rowsT y at_ up ++ rowsL ys (at_ + szT y) up
end
mutual
/-- The items of a tree. -/
def itemsT : S25 → Int → Int → Int → List S63
  | ⟨a, b, c, d, ks⟩, dp, at_, up => ⟨⟨a, b, c, d, ks⟩, dp, up⟩ :: itemsL ks (dp + 1) (at_ + 1) at_
def itemsL : List S25 → Int → Int → Int → List S63
  | [], _, _, _ => []
  | y :: ys, dp, at_, up => itemsT y dp at_ up ++ itemsL ys dp (at_ + szT y) up
end
theorem rowsT_eq (x : S25) (at_ up : Int) : rowsT x at_ up = rowOf x up :: rowsL x.f4 (at_ + 1) (at_ + 1) := by cases x; rw [rowsT]; rfl
theorem itemsT_eq (x : S25) (dp at_ up : Int) : itemsT x dp at_ up = ⟨x, dp, up⟩ :: itemsL x.f4 (dp + 1) (at_ + 1) at_ := by cases x; rw [itemsT]
theorem rowsL_len (ks : List S25) (h : ∀ y ∈ ks, ∀ at_ up, ((rowsT y at_ up).length : Int) = szT y) : ∀ at_ up, ((rowsL ks at_ up).length : Int) = szL ks := by
  induction ks with
  | nil => intro at_ up; rfl
  | cons y ys ih =>
    intro at_ up; rw [rowsL, szL, List.length_append]; have h1 := h y (by simp) at_ up; have h2 := ih (fun z hz => h z (by simp [hz])) (at_ + szT y) up; omega
theorem rowsT_len (x : S25) (h : Sm25 x) : ∀ at_ up, ((rowsT x at_ up).length : Int) = szT x := by
  induction h with
  | @mk x h0 h1 h2 h3 h4 h5 ih =>
    intro at_ up; rw [rowsT_eq, szT_eq, List.length_cons]; have := rowsL_len x.f4 ih (at_ + 1) (at_ + 1); omega
theorem rowsL_len' (ks : List S25) (h : ∀ y ∈ ks, Sm25 y) (at_ up : Int) : ((rowsL ks at_ up).length : Int) = szL ks := rowsL_len ks (fun y hy => rowsT_len y (h y hy)) at_ up
theorem itemsL_len (ks : List S25) (h : ∀ y ∈ ks, ∀ dp at_ up, ((itemsT y dp at_ up).length : Int) = szT y) : ∀ dp at_ up, ((itemsL ks dp at_ up).length : Int) = szL ks := by
  induction ks with
  | nil => intro dp at_ up; rfl
  | cons y ys ih =>
    intro dp at_ up; rw [itemsL, szL, List.length_append]; have h1 := h y (by simp) dp at_ up; have h2 := ih (fun z hz => h z (by simp [hz])) dp (at_ + szT y) up; omega
theorem itemsT_len (x : S25) (h : Sm25 x) : ∀ dp at_ up, ((itemsT x dp at_ up).length : Int) = szT x := by
  induction h with
  | @mk x h0 h1 h2 h3 h4 h5 ih =>
    intro dp at_ up; rw [itemsT_eq, szT_eq, List.length_cons]; have := itemsL_len x.f4 ih (dp + 1) (at_ + 1) at_; omega
def PutT (x : S25) : Prop := FewA x → ∀ (l : List S53) (up : Int), (l.length : Int) + szT x ≤ 1000000 → Ev (fun k => put1 k l x up) (l ++ rowsT x l.length up)
theorem puts_L (ks : List S25) (hs : ∀ y ∈ ks, Sm25 y) (ha : ∀ y ∈ ks, FewA y) (hp : ∀ y ∈ ks, PutT y) : ∀ (l : List S53) (up : Int), (l.length : Int) + szL ks ≤ 1000000 → Ev (fun k => puts k l ks up) (l ++ rowsL ks l.length up) := by
  induction ks with
  | nil => intro l up hl; exact (Ev.pure _).step (fun k => by rw [puts, rowsL, List.append_nil])
  | cons y ys ih =>
    intro l up hl; rw [szL] at hl; have p1 := pos_of y (hs y (by simp)); have p2 := posL ys (fun z hz => hs z (by simp [hz])); have e1 := hp y (by simp) (ha y (by simp)) l up (by omega); have hlen := rowsT_len y (hs y (by simp)) l.length up
    have hcast : ((l ++ rowsT y l.length up).length : Int) = l.length + szT y := by rw [List.length_append]; omega
    have e2 := ih (fun z hz => hs z (by simp [hz])) (fun z hz => ha z (by simp [hz])) (fun z hz => hp z (by simp [hz])) (l ++ rowsT y l.length up) up (by omega); rw [hcast] at e2; rw [rowsL, ← List.append_assoc]; exact e1.via e2 (fun k hk => by rw [puts_cons, hk]; rfl)
theorem put_T (x : S25) (h : Sm25 x) : PutT x := by
  induction h with
  | @mk x h0 h1 h2 h3 h4 h5 ih =>
    intro ha l up hl; rw [szT_eq] at hl; have p2 := posL x.f4 h5
    have hk : x.f4.length ≤ 1000000000 := by
      have hge (ks : List S25) (hk : ∀ y ∈ ks, Sm25 y) : (ks.length : Int) ≤ szL ks := by
        induction ks with
        | nil => simp [szL]
        | cons y ys ih2 =>
          have a := pos_of y (hk y (by simp)); have b := ih2 (fun z hz => hk z (by simp [hz])); rw [szL, List.length_cons]; omega
      have := hge x.f4 h5; omega
    have e := puts_L x.f4 h5 ha.h4 ih (l ++ [rowOf x up]) ((l.length : Int) + 1) (by rw [List.length_append, List.length_singleton]; omega); rw [List.length_append, List.length_singleton] at e; rw [rowsT_eq, ← List.singleton_append, ← List.append_assoc]; exact e.eq (fun k => by rw [put1, if_pos ⟨by omega, ha.h3, hk⟩])
def ItT (x : S25) : Prop := ∀ (l : List S63) (dp up : Int), (l.length : Int) + szT x ≤ 4097 → dp + htT x ≤ 66 → Ev (fun k => blw1 k l x dp up) (l ++ itemsT x dp l.length up)
theorem its_L (ks : List S25) (hs : ∀ y ∈ ks, Sm25 y) (hp : ∀ y ∈ ks, ItT y) : ∀ (l : List S63) (dp up : Int), (l.length : Int) + szL ks ≤ 4097 → dp + htL ks ≤ 66 → Ev (fun k => blw k l ks dp up) (l ++ itemsL ks dp l.length up) := by
  induction ks with
  | nil => intro l dp up hl hd; exact (Ev.pure _).step (fun k => by rw [blw, itemsL, List.append_nil])
  | cons y ys ih =>
    intro l dp up hl hd; rw [szL] at hl; rw [htL] at hd; have p1 := pos_of y (hs y (by simp)); have p2 := posL ys (fun z hz => hs z (by simp [hz])); have e1 := hp y (by simp) l dp up (by omega) (by omega); have hlen := itemsT_len y (hs y (by simp)) dp l.length up
    have hcast : ((l ++ itemsT y dp l.length up).length : Int) = l.length + szT y := by rw [List.length_append]; omega
    have e2 := ih (fun z hz => hs z (by simp [hz])) (fun z hz => hp z (by simp [hz])) (l ++ itemsT y dp l.length up) dp up (by omega) (by omega); rw [hcast] at e2; rw [itemsL, ← List.append_assoc]; exact e1.via e2 (fun k hk => by rw [blw_cons, if_neg (by omega), hk]; rfl)
theorem its_T (x : S25) (h : Sm25 x) : ItT x := by
  induction h with
  | @mk x h0 h1 h2 h3 h4 h5 ih =>
    intro l dp up hl hd; rw [szT_eq] at hl; rw [htT_eq] at hd; have p2 := posL x.f4 h5
    by_cases c : dp > 64
    · have hk : x.f4 = [] := by
        cases hf : x.f4 with
        | nil => rfl
        | cons y ys =>
          rw [hf] at hd h5; have := pos_of y (h5 y (by simp)); rw [htL] at hd; omega
      refine (Ev.pure _).eq (fun k => ?_)
      rw [blw1, if_neg (by omega), if_pos c, itemsT_eq, hk, itemsL]
    have e := its_L x.f4 h5 ih (l ++ [⟨x, dp, up⟩]) (dp + 1) (l.length : Int) (by rw [List.length_append, List.length_singleton]; omega) (by omega); rw [List.length_append, List.length_singleton] at e; rw [itemsT_eq, ← List.singleton_append, ← List.append_assoc]; exact e.eq (fun k => by rw [blw1, if_neg (by omega), if_neg c])
/-- The handle that stands above one. -/
def upOf (l : List S53) (h : Int) : Int := (rd_T53 l (h - 1)).f1
/-- A handle is one, or stands above it. -/
inductive An (l : List S53) (u : Int) : Int → Prop
  | self : 0 < u → An l u u
  | up {x : Int} : 0 < x → An l u (upOf l x) → An l u x
/-- A row stands as_ a tree's does. -/
def GoodRow (l : List S53) (i : Int) : Prop := (i = 0 ∧ upOf l (i + 1) = 0) ∨ (0 < i ∧ An l (upOf l (i + 1)) i)
def GoodTo (l : List S53) (n : Int) : Prop := ∀ i, 0 ≤ i → i < n → GoodRow l i
theorem An.pos {l : List S53} {u x : Int} (h : An l u x) : 0 < u ∧ 0 < x := by
  induction h with
  | self h => exact ⟨h, h⟩
  | up hx _ ih => exact ⟨ih.1, hx⟩
theorem An.le_of {l : List S53} {u x n : Int} (hu : ∀ y, 0 < y → y ≤ n → upOf l y < y) (h : An l u x) (hx : x ≤ n) : u ≤ x := by
  induction h with
  | self h => exact Int.le_refl _
  | @up x h0 _ ih =>
    have := hu x h0 hx; have := ih (by omega); omega
theorem up_lt {l : List S53} {n : Int} (hg : GoodTo l n) (d : Nat) : ∀ x : Int, x.toNat = d → 0 < x → x ≤ n → 0 ≤ upOf l x ∧ upOf l x < x := by
  induction d using Nat.strongRecOn with
  | _ d ih =>
    intro x hd h0 hn; have h := hg (x - 1) (by omega) (by omega); unfold GoodRow at h; rw [show x - 1 + 1 = x by omega] at h
    rcases h with ⟨h1, h2⟩ | ⟨h1, h2⟩
    (omega); (have hp := h2.pos; have hl := h2.le_of (n := x - 1) (fun y hy hy2 => (ih y.toNat (by omega) y rfl hy (by omega)).2) (Int.le_refl _); omega)
theorem GoodTo.up {l : List S53} {n : Int} (hg : GoodTo l n) {x : Int} (h0 : 0 < x) (hn : x ≤ n) : 0 ≤ upOf l x ∧ upOf l x < x := up_lt hg x.toNat x rfl h0 hn
theorem GoodTo.mono {l : List S53} {n m : Int} (hg : GoodTo l n) (h : m ≤ n) : GoodTo l m := fun i h0 h1 => hg i h0 (by omega)
theorem GoodTo.succ {l : List S53} {n : Int} (hg : GoodTo l n) (h : GoodRow l n) : GoodTo l (n + 1) := fun i h0 h1 => by
  rcases Int.lt_or_eq_of_le (show i ≤ n by omega) with h2 | rfl
  · exact hg i h0 h2
  · exact h
theorem An.step {l : List S53} {u x : Int} (h : An l u x) (hne : u ≠ x) : An l u (upOf l x) := by
  cases h with
  | self h => exact absurd rfl hne
  | up _ h => exact h
theorem formed_l1 (l : List S53) (hl : (l.length : Int) ≤ 1000000000) (i : Int) (h0 : 0 ≤ i) (hi : i < l.length) (hg : GoodTo l i) (d : Nat) : ∀ x : Int, x.toNat = d → 0 ≤ x → x ≤ i →
    ((i = 0 ∧ upOf l (i + 1) = 0 ∨ 0 < i ∧ An l (upOf l (i + 1)) x) → ∀ r, Ev (fun k => flat_formed.l0 k l l l.length (i + 1)) r → Ev (fun k => flat_formed.l1 k l i x l l.length i (rd_T53 l i).f0 (rd_T53 l i).f1 (rd_T53 l i).f2 (rd_T53 l i).f3 (rd_T53 l i).f4 (rd_T53 l i).f5) r) ∧
    (¬ (i = 0 ∧ upOf l (i + 1) = 0 ∨ 0 < i ∧ An l (upOf l (i + 1)) x) → Ev (fun k => flat_formed.l1 k l i x l l.length i (rd_T53 l i).f0 (rd_T53 l i).f1 (rd_T53 l i).f2 (rd_T53 l i).f3 (rd_T53 l i).f4 (rd_T53 l i).f5) false) := by
  have hup : upOf l (i + 1) = (rd_T53 l i).f1 := by unfold upOf; rw [show i + 1 - 1 = i by omega]
  induction d using Nat.strongRecOn with
  | _ d ih =>
    intro x hd hx0 hxi; generalize hu : (rd_T53 l i).f1 = u at *; rw [hup] at *
    by_cases c0 : x = 0
    · subst c0
      by_cases c1 : (0 : Int) = u
      · subst c1
        by_cases c2 : i = 0
        · subst c2
          refine ⟨fun _ r hr => hr.step (fun k => ?_), fun h => absurd (.inl ⟨rfl, rfl⟩) h⟩
          rw [flat_formed.l1, if_pos rfl, if_pos rfl, if_neg (by decide), w1 (by omega) (by omega)]
        · refine ⟨fun h => ?_, fun _ => (Ev.pure false).step (fun k => ?_)⟩
          · rcases h with h | h
            · omega
            · have := h.2.pos; omega
          · rw [flat_formed.l1, if_pos rfl, if_pos rfl, if_pos (by rw [show (i == 0) = false by simpa using c2]; decide)]
      · refine ⟨fun h => ?_, fun _ => (Ev.pure false).step (fun k => by rw [flat_formed.l1, if_pos rfl, if_neg c1])⟩
        rcases h with h | h
        · omega
        · have := h.2.pos; omega
    · have c0b : (x == 0) = false := by simpa using c0
      have hib : (i == 0) = false := by simp; omega
      by_cases c1 : x = u
      · refine ⟨fun _ r hr => hr.step (fun k => ?_), fun h => absurd (.inr ⟨by omega, by rw [← c1]; exact An.self (by omega)⟩) h⟩
        rw [flat_formed.l1, if_neg c0, if_pos c1, if_neg (by rw [c0b, hib]; decide), w1 (by omega) (by omega)]
      · have hx := hg.up (x := x) (by omega) hxi
        obtain ⟨ih1, ih2⟩ := ih (upOf l x).toNat (by omega) (upOf l x) rfl hx.1 (by omega)
        have e : ∀ k, flat_formed.l1 (k + 1) l i x l l.length i (rd_T53 l i).f0 u (rd_T53 l i).f2 (rd_T53 l i).f3 (rd_T53 l i).f4 (rd_T53 l i).f5 = flat_formed.l1 k l i (upOf l x) l l.length i (rd_T53 l i).f0 u (rd_T53 l i).f2 (rd_T53 l i).f3 (rd_T53 l i).f4 (rd_T53 l i).f5 := by
          intro k; rw [flat_formed.l1, if_neg c0, if_neg c1, wm (by omega) (by omega), if_pos (by omega), if_pos (by omega)]; rfl
        have hiff : (i = 0 ∧ u = 0 ∨ 0 < i ∧ An l u x) ↔ (i = 0 ∧ u = 0 ∨ 0 < i ∧ An l u (upOf l x)) := by
          constructor
          · rintro (h | h)
            · exact .inl h
            · exact .inr ⟨h.1, h.2.step (fun e => c1 e.symm)⟩
          · rintro (h | h)
            · exact .inl h
            · exact .inr ⟨h.1, .up (by omega) h.2⟩
        rw [hiff]
        exact ⟨fun h r hr => (ih1 h r hr).step e, fun h => (ih2 h).step e⟩
theorem formed_l0 (l : List S53) (hl : (l.length : Int) ≤ 1000000000) (d : Nat) : ∀ i : Int, 0 ≤ i → (l.length : Int) - i = d → GoodTo l i → ∃ b, Ev (fun k => flat_formed.l0 k l l l.length i) b ∧ (b = true ↔ GoodTo l l.length) := by
  induction d with
  | zero =>
    intro i h0 hd hg
    obtain rfl : i = l.length := by omega
    exact ⟨true, (Ev.pure true).step (fun k => by rw [flat_formed.l0, if_neg (by omega)]), by simp [hg]⟩
  | succ d ih =>
    intro i h0 hd hg
    have hi : i < l.length := by omega
    obtain ⟨f1, f2⟩ := formed_l1 l hl i h0 hi hg i.toNat i rfl h0 (Int.le_refl _)
    have e : ∀ k, flat_formed.l0 (k + 1) l l l.length i = flat_formed.l1 k l i i l l.length i (rd_T53 l i).f0 (rd_T53 l i).f1 (rd_T53 l i).f2 (rd_T53 l i).f3 (rd_T53 l i).f4 (rd_T53 l i).f5 := fun k => by rw [flat_formed.l0, if_pos hi, if_pos h0, if_pos hi]
    by_cases c : GoodRow l i
    (obtain ⟨b, hb, hbi⟩ := ih (i + 1) (by omega) (by omega) (hg.succ c); exact ⟨b, (f1 c _ hb).step e, hbi⟩); (exact ⟨false, (f2 c).step e, by simp; exact fun h => c (h i h0 hi)⟩)
theorem formed_ev (l : List S53) (hl : (l.length : Int) ≤ 1000000000) : ∃ b, Ev (fun k => flat_formed.f k l) b ∧ (b = true ↔ GoodTo l l.length) := by
  obtain ⟨b, hb, hi⟩ := formed_l0 l hl l.length 0 (by omega) (by omega) (fun i h0 h1 => by omega); exact ⟨b, hb, hi⟩
theorem rd_drop {l r : List S53} {at_ : Int} {y : S53} (h0 : 0 ≤ at_) (h : l.drop at_.toNat = y :: r) : rd_T53 l at_ = y ∧ at_ < l.length ∧ l.drop (at_ + 1).toNat = r := by
  have hlt : at_.toNat < l.length := by
    rcases Nat.lt_or_ge at_.toNat l.length with h1 | h1
    (exact h1); (rw [List.drop_eq_nil_of_le h1] at h; cases h)
  rw [drp53 l at_ h0 (by omega)] at h; injection h with h1 h2; exact ⟨h1, by omega, h2⟩
theorem drop_app {l r s : List S53} {at_ n : Int} (h0 : 0 ≤ at_) (h : l.drop at_.toNat = r ++ s) (hn : (r.length : Int) = n) : l.drop (at_ + n).toNat = s := by
  rw [show (at_ + n).toNat = at_.toNat + r.length by omega, ← List.drop_drop, h, List.drop_left]
/-- How deep a handle lies: the root's is 1. -/
inductive Dp (l : List S53) : Int → Int → Prop
  | zero : Dp l 0 0
  | up {x d : Int} : 0 < x → Dp l (upOf l x) d → Dp l x (d + 1)
theorem Dp.nn {l : List S53} {x d : Int} (h : Dp l x d) : 0 ≤ x ∧ 0 ≤ d := by
  induction h with
  | zero => omega
  | up h _ ih => omega
theorem Dp.uniq {l : List S53} {x d : Int} (h : Dp l x d) : ∀ {e : Int}, Dp l x e → d = e := by
  induction h with
  | zero =>
    intro e he
    cases he with
    | zero => rfl
    | up h _ => omega
  | up h _ ih =>
    intro e he
    cases he with
    | zero => omega
    | up _ h2 => rw [ih h2]
theorem Dp.ex {l : List S53} {n : Int} (hg : GoodTo l n) (d : Nat) : ∀ x : Int, x.toNat = d → 0 ≤ x → x ≤ n → ∃ e, Dp l x e ∧ e ≤ x := by
  induction d using Nat.strongRecOn with
  | _ d ih =>
    intro x hd h0 hn
    by_cases c : x = 0
    (subst c; exact ⟨0, .zero, Int.le_refl _⟩); (have hu := hg.up (x := x) (by omega) hn; obtain ⟨e, he, hle⟩ := ih (upOf l x).toNat (by omega) (upOf l x) rfl hu.1 (by omega); exact ⟨e + 1, .up (by omega) he, by omega⟩)
theorem deep_l0 (l : List S53) (hl : (l.length : Int) ≤ 1000000000) (hg : GoodTo l l.length) (d : Nat) : ∀ (i : Int) (arr : List Int), 0 ≤ i → (l.length : Int) - i = d → (arr.length : Int) = l.length + 1 →
    (∀ j, 0 ≤ j → j ≤ i → Dp l j (rd arr j)) → (∀ j e, 0 ≤ j → j ≤ i → Dp l j e → e ≤ 64) →
    ∃ b, Ev (fun k => flat_deep.l0 k l arr l l.length i) b ∧ (b = true ↔ (∃ j e : Int, 0 ≤ j ∧ j ≤ l.length ∧ Dp l j e ∧ e > 64) ∨ (l.length : Int) > 4096) := by
  induction d with
  | zero =>
    intro i arr h0 hd ha hdp hsm
    obtain rfl : i = l.length := by omega
    refine ⟨decide ((l.length : Int) > 4096), (Ev.pure _).step (fun k => by rw [flat_deep.l0, if_neg (by omega)]), ?_⟩; rw [decide_eq_true_iff]; constructor; (exact .inr)
    · rintro (⟨j, e, a, b, c, d⟩ | h)
      · have := hsm j e a b c; omega
      · exact h
  | succ d ih =>
    intro i arr h0 hd ha hdp hsm
    have hi : i < l.length := by omega
    have hu := hg.up (x := i + 1) (by omega) (by omega)
    have hup : upOf l (i + 1) = (rd_T53 l i).f1 := by unfold upOf; rw [show i + 1 - 1 = i by omega]
    rw [hup] at hu; have hDu := hdp _ hu.1 (by omega); have hnn := hDu.nn; obtain ⟨e0, he0, hle0⟩ := Dp.ex hg (rd_T53 l i).f1.toNat _ rfl hu.1 (by omega); have hee := hDu.uniq he0; have hDi : Dp l (i + 1) (rd arr (rd_T53 l i).f1 + 1) := .up (by omega) (by rw [hup]; exact hDu); have hw : wrap64 (rd arr (rd_T53 l i).f1 + 1) = rd arr (rd_T53 l i).f1 + 1 := w1 (by omega) (by omega)
    have e : ∀ k, flat_deep.l0 (k + 1) l arr l l.length i = if rd arr (rd_T53 l i).f1 + 1 > 64 then some true else flat_deep.l0 k l (arr.set (i + 1).toNat (rd arr (rd_T53 l i).f1 + 1)) l l.length (i + 1) := by
      intro k
      have hrd : rd (arr.set (i + 1).toNat (rd arr (rd_T53 l i).f1 + 1)) (i + 1) = rd arr (rd_T53 l i).f1 + 1 := by
        unfold rd; rw [List.getD_eq_getElem?_getD, List.getElem?_set_self (by omega)]; rfl
      rw [flat_deep.l0, if_pos hi, if_pos h0, if_pos hi, if_pos hu.1, if_pos (by omega), w1 (by omega) (by omega), if_pos (by omega), if_pos (by omega), hw, Option.bind_some, hrd]
    by_cases c : rd arr (rd_T53 l i).f1 + 1 > 64
    · refine ⟨true, (Ev.pure true).step (fun k => by rw [e, if_pos c]), ?_⟩
      simp only [true_iff]; exact .inl ⟨i + 1, _, by omega, by omega, hDi, c⟩
    · obtain ⟨b, hb, hbi⟩ := ih (i + 1) (arr.set (i + 1).toNat (rd arr (rd_T53 l i).f1 + 1)) (by omega) (by omega) (by rw [List.length_set]; exact ha)
        (fun j j0 j1 => by
          rcases Int.lt_or_eq_of_le j1 with j2 | rfl
          · have : rd (arr.set (i + 1).toNat (rd arr (rd_T53 l i).f1 + 1)) j = rd arr j := by
              unfold rd
              rw [List.getD_eq_getElem?_getD, List.getElem?_set_ne (by omega), ← List.getD_eq_getElem?_getD]
            rw [this]
            exact hdp j j0 (by omega)
          · have : rd (arr.set (i + 1).toNat (rd arr (rd_T53 l i).f1 + 1)) (i + 1) = rd arr (rd_T53 l i).f1 + 1 := by
              unfold rd
              rw [List.getD_eq_getElem?_getD, List.getElem?_set_self (by omega)]
              rfl
            rw [this]
            exact hDi)
        (fun j e j0 j1 he => by
          rcases Int.lt_or_eq_of_le j1 with j2 | rfl
          · exact hsm j e j0 (by omega) he
          · have := hDi.uniq he; omega)
      exact ⟨b, hb.step (fun k => by rw [e, if_neg c]), hbi⟩
theorem deep_ev (l : List S53) (hl : (l.length : Int) ≤ 1000000000) (hg : GoodTo l l.length) : ∃ b, Ev (fun k => flat_deep.f k l) b ∧ (b = true ↔ (∃ j e : Int, 0 ≤ j ∧ j ≤ l.length ∧ Dp l j e ∧ e > 64) ∨ (l.length : Int) > 4096) := by
  have hz : ∀ j, 0 ≤ j → j ≤ (0 : Int) → j = 0 := fun j a b => by omega
  obtain ⟨b, hb, hbi⟩ := deep_l0 l hl hg l.length 0 (List.replicate (l.length + 1) 0) (by omega) (by omega) (by rw [List.length_replicate]; omega)
    (fun j a b => by
      rw [hz j a b]
      have : rd (List.replicate (l.length + 1) 0) 0 = 0 := by unfold rd; rfl
      rw [this]
      exact .zero)
    (fun j e a b he => by
      rw [hz j a b] at he; have := he.uniq .zero
      omega)
  refine ⟨b, hb.eq (fun k => ?_), hbi⟩; rw [flat_deep.f, w1 (by omega) (by omega), if_pos (by omega), if_pos (by omega)]; rw [show ((l.length : Int) + 1).toNat = l.length + 1 by omega]
def DI (x : S25) : Prop := ∀ (L : List S53) (at_ up : Int) (post : List S53) (dp u : Int), 0 ≤ at_ → L.drop at_.toNat = rowsT x at_ up ++ post → Dp L up (dp - 1) →
  ∀ (j : Nat) it, (itemsT x dp at_ u)[j]? = some it → Dp L (at_ + j + 1) it.f1 ∧ it.f1 ≤ dp + htT x - 1
theorem di_L (ks : List S25) (hs : ∀ y ∈ ks, Sm25 y) (hp : ∀ y ∈ ks, DI y) : ∀ (L : List S53) (at_ up : Int) (post : List S53) (dp u : Int), 0 ≤ at_ → L.drop at_.toNat = rowsL ks at_ up ++ post → Dp L up (dp - 1) →
    ∀ (j : Nat) it, (itemsL ks dp at_ u)[j]? = some it → Dp L (at_ + j + 1) it.f1 ∧ it.f1 ≤ dp + htL ks - 1 := by
  induction ks with
  | nil =>
    intro L at_ up post dp u h0 hd hu j it hj; rw [itemsL] at hj; simp at hj
  | cons y ys ih =>
    intro L at_ up post dp u h0 hd hu j it hj; rw [rowsL, List.append_assoc] at hd; have hs1 := itemsT_len y (hs y (by simp)) dp at_ u; have p1 := pos_of y (hs y (by simp)); rw [itemsL] at hj; rw [htL]
    by_cases c : j < (itemsT y dp at_ u).length
    (rw [List.getElem?_append_left c] at hj; have := hp y (by simp) L at_ up _ dp u h0 hd hu j it hj; exact ⟨this.1, by omega⟩); (rw [List.getElem?_append_right (by omega)] at hj; have hd2 := drop_app h0 hd (rowsT_len y (hs y (by simp)) at_ up); have := ih (fun z hz => hs z (by simp [hz])) (fun z hz => hp z (by simp [hz])) L (at_ + szT y) up post dp u (by omega) hd2 hu _ it hj; rw [show at_ + szT y + ((j - (itemsT y dp at_ u).length : Nat) : Int) + 1 = at_ + j + 1 by omega] at this; exact ⟨this.1, by omega⟩)
theorem di_T (x : S25) (h : Sm25 x) : DI x := by
  induction h with
  | @mk x h0 h1 h2 h3 h4 h5 ih =>
    intro L at_ up post dp u ha hd hu j it hj; have p2 := posL x.f4 h5; rw [rowsT_eq, List.cons_append] at hd; obtain ⟨r1, r2, r3⟩ := rd_drop ha hd
    have hup : upOf L (at_ + 1) = up := by
      unfold upOf; rw [show at_ + 1 - 1 = at_ by omega, r1]; rfl
    have hD : Dp L (at_ + 1) dp := by
      have := Dp.up (l := L) (x := at_ + 1) (d := dp - 1) (by omega) (by rw [hup]; exact hu); rwa [show dp - 1 + 1 = dp by omega] at this
    rw [itemsT_eq] at hj; rw [htT_eq]
    cases j with
    | zero =>
      rw [List.getElem?_cons_zero] at hj; obtain rfl := Option.some.inj hj; refine ⟨by simpa using hD, ?_⟩
      show dp ≤ _
      omega
    | succ j =>
      rw [List.getElem?_cons_succ] at hj; have := di_L x.f4 h5 ih L (at_ + 1) (at_ + 1) post (dp + 1) at_ (by omega) r3 (by rwa [show dp + 1 - 1 = dp by omega]) j it hj; rw [show at_ + 1 + (j : Int) + 1 = at_ + ((j + 1 : Nat) : Int) + 1 by omega] at this; exact ⟨this.1, by omega⟩
def ND (x : S25) : Prop := Ev (fun k => pl_Nodes.f k x.f0 x.f1 x.f2 x.f3 x.f4 x.f0 x.f1 x.f2 x.f3 x.f4) true
theorem nodes_l0 (ks : List S25) (hl : (ks.length : Int) ≤ 140737488351232) (hp : ∀ y ∈ ks, ND y) (a b c : ByteArray) (d : List S69) (n : Nat) : ∀ i : Int, 0 ≤ i → (ks.length : Int) - i = n →
    Ev (fun k => pl_Nodes.l0 k ks.length i a b c d ks a b c d ks) true := by
  induction n with
  | zero => intro i h0 hd; exact (Ev.pure true).step (fun k => by rw [pl_Nodes.l0, if_neg (by omega)])
  | succ n ih =>
    intro i h0 hd
    have hi : i < (ks.length : Int) := by omega
    exact Ev.via (hp _ (rd25_mem ks i h0 hi)) (ih (i + 1) (by omega) (by omega)) (fun k hk => by rw [pl_Nodes.l0, if_pos hi, if_pos h0, if_pos hi, if_pos hi, hk, Option.bind_some, if_pos rfl, w1 (by omega) (by omega)])
theorem nodes_refl (x : S25) (h : Sm25 x) : ND x := by
  induction h with
  | @mk x h0 h1 h2 h3 h4 h5 ih =>
    have ha := attrsA x.f3 x.f3 (by omega); rw [attrsEq_refl] at ha; have hn := nodes_l0 x.f4 (by omega) ih x.f0 x.f1 x.f2 x.f3 x.f4.length 0 (by omega) (by omega)
    have hj : Ev (fun k => pl_Nodes.j0 k ((x.f4.length : Int) != (x.f4.length : Int)) x.f0 x.f1 x.f2 x.f3 x.f4 x.f0 x.f1 x.f2 x.f3 x.f4) true := by
      rw [show ((x.f4.length : Int) != (x.f4.length : Int)) = false by simp]; exact hn.step (fun k => by rw [pl_Nodes.j0, if_neg (by decide)])
    exact ha.via hj (fun k hk => by rw [pl_Nodes.f, if_pos rfl, if_pos rfl, if_pos rfl, hk, Option.bind_some, if_pos rfl])
theorem wf_of {i : Int} (h0 : 0 ≤ i) (h1 : i ≤ 1000000000) : (Lit.int .i64 i).wf = true := by
  simp [Lit.wf]; have : IntKind.i64.min = -9223372036854775808 := rfl; omega
theorem smL (ks : List S25) (hs : ∀ y ∈ ks, Sm25 y) (hp : ∀ y ∈ ks, ∀ at_ up, 0 ≤ at_ → at_ + szT y ≤ 1000000 → 0 ≤ up → up ≤ 1000000 → ∀ r ∈ rowsT y at_ up, Sm53 r) : ∀ at_ up, 0 ≤ at_ → at_ + szL ks ≤ 1000000 → 0 ≤ up → up ≤ 1000000 → ∀ r ∈ rowsL ks at_ up, Sm53 r := by
  induction ks with
  | nil => intro at_ up _ _ _ _ r hr; rw [rowsL] at hr; simp at hr
  | cons y ys ih =>
    intro at_ up h0 h1 h2 h3 r hr; rw [szL] at h1; have p1 := pos_of y (hs y (by simp)); have p2 := posL ys (fun z hz => hs z (by simp [hz])); rw [rowsL] at hr
    rcases List.mem_append.1 hr with hr | hr
    (exact hp y (by simp) at_ up h0 (by omega) h2 h3 r hr); (exact ih (fun z hz => hs z (by simp [hz])) (fun z hz => hp z (by simp [hz])) (at_ + szT y) up (by omega) (by omega) h2 h3 r hr)
theorem smT (x : S25) (h : Sm25 x) : ∀ at_ up, 0 ≤ at_ → at_ + szT x ≤ 1000000 → 0 ≤ up → up ≤ 1000000 → ∀ r ∈ rowsT x at_ up, Sm53 r := by
  induction h with
  | @mk x h0 h1 h2 h3 h4 h5 ih =>
    intro at_ up a0 a1 a2 a3 r hr; rw [szT_eq] at a1; have p2 := posL x.f4 h5; rw [rowsT_eq] at hr
    rcases List.mem_cons.1 hr with rfl | hr
    (exact ⟨wf_of (i := 0) (by decide) (by decide), wf_of a2 (by show up ≤ _; omega), h0, h1, h2, h3⟩); (exact smL x.f4 h5 ih (at_ + 1) (at_ + 1) (by omega) (by omega) (by omega) (by omega) r hr)
/-- A row but for its ID. -/
def z0 (y : S53) : S53 := ⟨0, y.f1, y.f2, y.f3, y.f4, y.f5⟩
theorem z0_drop (l : List S53) (i : Int) (h0 : 0 ≤ i) (h : i < l.length) : (l.map z0).drop i.toNat = z0 (rd_T53 l i) :: (l.map z0).drop (i + 1).toNat := by
  rw [← List.map_drop, drp53 l i h0 h, List.map_cons, List.map_drop]
/-- What is built at a place. -/
structure Built (l : List S53) (at_ : Int) (n : S25) (nx : Int) : Prop where
  ev : Ev (fun k => flat_build.f k l at_) (n.f0, n.f1, n.f2, n.f3, n.f4, nx)
  lt : at_ < nx
  le : nx ≤ l.length
  post : nx = l.length ∨ An l (upOf l (nx + 1)) (upOf l (at_ + 1))
  seg : (l.map z0).drop at_.toNat = rowsT n at_ (upOf l (at_ + 1)) ++ (l.map z0).drop nx.toNat
  sm : Sm25 n
  sz : szT n = nx - at_
theorem szL_len (ks : List S25) (hk : ∀ y ∈ ks, Sm25 y) : (ks.length : Int) ≤ szL ks := by
  induction ks with
  | nil => simp [szL]
  | cons y ys ih2 =>
    have a := pos_of y (hk y (by simp)); have b := ih2 (fun z hz => hk z (by simp [hz])); rw [szL, List.length_cons]; omega
theorem builds_loop (l : List S53) (hl : (l.length : Int) ≤ 1000000) (at_ : Int) (h0 : 0 ≤ at_) (hIH : ∀ c, at_ < c → c < l.length → ∃ n nx, Built l c n nx) (a b c : ByteArray) (d : List S69) (e : Nat) :
    ∀ (nx : Int) (done : List S25), at_ < nx → nx ≤ l.length → ((l.length : Int) - nx).toNat = e → (done.length : Int) ≤ nx → (nx = l.length ∨ An l (upOf l (nx + 1)) (at_ + 1)) →
    ∃ ms nx', Ev (fun k => flat_build.l0 k l at_ nx a b c d done) (a, b, c, d, done ++ ms, nx') ∧ nx ≤ nx' ∧ nx' ≤ l.length ∧ (nx' = l.length ∨ An l (upOf l (nx' + 1)) (upOf l (at_ + 1))) ∧ (l.map z0).drop nx.toNat = rowsL ms nx (at_ + 1) ++ (l.map z0).drop nx'.toNat ∧ (∀ y ∈ ms, Sm25 y) ∧ szL ms = nx' - nx := by
  induction e using Nat.strongRecOn with
  | _ e ih =>
    intro nx done h1 h2 he hdn hinv
    by_cases c1 : nx < l.length
    · have hup : upOf l (nx + 1) = (rd_T53 l nx).f1 := by unfold upOf; rw [show nx + 1 - 1 = nx by omega]
      have hA := hinv.resolve_left (by omega)
      by_cases c2 : upOf l (nx + 1) = at_ + 1
      · obtain ⟨n, nx2, hB⟩ := hIH nx h1 c1
        have := hB.lt
        have := hB.le
        obtain ⟨ms, nx', q1, q2, q3, q4, q5, q6, q7⟩ := ih ((l.length : Int) - nx2).toNat (by omega) nx2 (done ++ [n]) (by omega) hB.le rfl (by rw [List.length_append, List.length_singleton]; omega) (by have := hB.post; rwa [c2] at this)
        refine ⟨n :: ms, nx', ?_, by omega, q3, q4, ?_, ?_, by rw [szL, hB.sz, q7]; omega⟩
        · rw [show done ++ n :: ms = done ++ [n] ++ ms by simp]
          refine hB.ev.via q1 (fun k hk => ?_)
          rw [flat_build.l0, if_pos c1, if_pos (by omega), ← hup, c2, w1 (by omega) (by omega), if_pos rfl, hk, Option.bind_some, if_pos (by omega)]
          cases n
          rfl
        · rw [hB.seg, c2, q5, rowsL, hB.sz, show nx + (nx2 - nx) = nx2 by omega, List.append_assoc]
        · intro y hy
          rcases List.mem_cons.1 hy with rfl | hy
          · exact hB.sm
          · exact q6 y hy
      · refine ⟨[], nx, (Ev.pure _).step (fun k => ?_), Int.le_refl _, h2, .inr (hA.step c2), by rw [rowsL]; rfl, by simp, by rw [szL]; omega⟩
        rw [flat_build.l0, if_pos c1, if_pos (by omega), ← hup, w1 (by omega) (by omega), if_neg c2, List.append_nil]
    · exact ⟨[], nx, (Ev.pure _).step (fun k => by rw [flat_build.l0, if_neg c1, List.append_nil]), Int.le_refl _, h2, .inl (by omega), by rw [rowsL]; rfl, by simp, by rw [szL]; omega⟩
theorem builds (l : List S53) (hl : (l.length : Int) ≤ 1000000) (hs : ∀ y ∈ l, Sm53 y) (hg : GoodTo l l.length) (d : Nat) : ∀ at_ : Int, 0 ≤ at_ → at_ < l.length → ((l.length : Int) - at_).toNat = d → ∃ n nx, Built l at_ n nx := by
  induction d using Nat.strongRecOn with
  | _ d ih =>
    intro at_ h0 h1 hd; have hm := hs _ (rd53_mem l at_ h0 h1)
    obtain ⟨ms, nx', q1, q2, q3, q4, q5, q6, q7⟩ := builds_loop l hl at_ h0 (fun c hc1 hc2 => ih ((l.length : Int) - c).toNat (by omega) c (by omega) hc2 rfl) (rd_T53 l at_).f2 (rd_T53 l at_).f3 (rd_T53 l at_).f4 (rd_T53 l at_).f5
      ((l.length : Int) - (at_ + 1)).toNat (at_ + 1) [] (by omega) (by omega) rfl (by simp; omega) (by
        by_cases c : at_ + 1 = l.length
        · exact .inl c
        · rcases hg (at_ + 1) (by omega) (by omega) with h | h
          · omega
          · exact .inr h.2)
    have hlen := szL_len ms q6; refine ⟨⟨(rd_T53 l at_).f2, (rd_T53 l at_).f3, (rd_T53 l at_).f4, (rd_T53 l at_).f5, ms⟩, nx', ⟨?_, by omega, q3, q4, ?_, Sm25.mk hm.h2 hm.h3 hm.h4 hm.h5 (by show ms.length * 96 ≤ _; omega) q6, by rw [szT_eq]; show 1 + szL ms = _; omega⟩⟩
    · rw [List.nil_append] at q1
      refine Ev.step q1 (fun k => ?_)
      rw [flat_build.f, if_pos h0, if_pos h1, w1 (by omega) (by omega)]
      show (api_Attr.f (rd_T53 l at_).f5).bind _ = _
      rw [api_Attr.f, if_pos (by have := hm.h5.1; omega)]
      rfl
    · rw [z0_drop l at_ h0 h1, rowsT_eq, List.cons_append, ← q5]
      have hup : upOf l (at_ + 1) = (rd_T53 l at_).f1 := by unfold upOf; rw [show at_ + 1 - 1 = at_ by omega]
      rw [hup]
      rfl
/-- All rows are built. -/
theorem built_all (l : List S53) (hl : (l.length : Int) ≤ 1000000) (hs : ∀ y ∈ l, Sm53 y) (hg : GoodTo l l.length) (hp : 0 < l.length) : ∃ n, Ev (fun k => flat_build.f k l 0) (n.f0, n.f1, n.f2, n.f3, n.f4, l.length) ∧ l.map z0 = rowsT n 0 0 ∧ Sm25 n ∧ szT n = l.length := by
  obtain ⟨n, nx, hB⟩ := builds l hl hs hg _ 0 (Int.le_refl _) (by omega) rfl
  have hu : upOf l (0 + 1) = 0 := by
    rcases hg 0 (Int.le_refl _) (by omega) with h | h
    (exact h.2); (omega)
  have hn : nx = l.length := by
    rcases hB.post with h | h
    (exact h); (rw [hu] at h; have := h.pos; omega)
  subst hn; refine ⟨n, hB.ev, ?_, hB.sm, by rw [hB.sz]; omega⟩; have := hB.seg; rw [hu, List.drop_eq_nil_of_le (i := (l.length : Int).toNat) (by simp), List.append_nil] at this; exact this
theorem upOf_rd (l : List S53) (i : Int) : upOf l (i + 1) = (rd_T53 l i).f1 := by unfold upOf; rw [show i + 1 - 1 = i by omega]
theorem above_l0 (l : List S53) (hl : (l.length : Int) ≤ 1000000000) (n : Int) (hn : n ≤ l.length) (hg : GoodTo l n) (u : Int) (d : Nat) : ∀ x : Int, x.toNat = d → 0 ≤ x → x ≤ n → ∃ b, Ev (fun k => r13_Above.l0 k l u x) b ∧ (b = true ↔ An l u x) := by
  induction d using Nat.strongRecOn with
  | _ d ih =>
    intro x hd h0 hx
    by_cases c : x = 0
    · subst c
      refine ⟨false, (Ev.pure _).step (fun k => by rw [r13_Above.l0, if_neg (by omega)]), ?_⟩
      constructor
      · intro h; cases h
      · intro h; have := h.pos; omega
    · by_cases c1 : x = u
      · refine ⟨true, (Ev.pure _).step (fun k => by rw [r13_Above.l0, if_pos (by omega), if_pos c1]), ?_⟩
        simp only [true_iff]
        rw [c1]
        exact .self (by omega)
      · have hu := hg.up (x := x) (by omega) hx
        obtain ⟨b, hb, hi⟩ := ih (upOf l x).toNat (by omega) (upOf l x) rfl hu.1 (by omega)
        refine ⟨b, hb.step (fun k => ?_), ?_⟩
        · rw [r13_Above.l0, if_pos (by omega), if_neg c1, wm (by omega) (by omega), if_pos (by omega), if_pos (by omega)]
          rfl
        · rw [hi]
          exact ⟨fun h => .up (by omega) h, fun h => h.step (fun e => c1 e.symm)⟩
theorem above_ev (l : List S53) (hl : (l.length : Int) ≤ 1000000000) (n : Int) (hn : n ≤ l.length) (hg : GoodTo l n) (u x : Int) (h0 : 0 ≤ x) (hx : x ≤ n) : ∃ b, Ev (fun k => r13_Above.f k l x u) b ∧ (b = true ↔ An l u x) := above_l0 l hl n hn hg u x.toNat x rfl h0 hx
theorem Formed_l0 (l : List S53) (hl : (l.length : Int) ≤ 1000000000) (d : Nat) : ∀ i : Int, 0 ≤ i → (l.length : Int) - i = d → GoodTo l i → ∃ b, Ev (fun k => r13_Formed.l0 k l l.length i) b ∧ (b = true ↔ GoodTo l l.length) := by
  induction d with
  | zero =>
    intro i h0 hd hg
    obtain rfl : i = l.length := by omega
    exact ⟨true, (Ev.pure true).step (fun k => by rw [r13_Formed.l0, if_neg (by omega)]), by simp [hg]⟩
  | succ d ih =>
    intro i h0 hd hg
    have hi : i < l.length := by omega
    have hbad : ¬ GoodRow l i → (false = true ↔ GoodTo l l.length) := fun c => by simp; exact fun h => c (h i h0 hi)
    by_cases c0 : i = 0
    · subst c0
      by_cases c1 : (rd_T53 l 0).f1 = 0
      · obtain ⟨b, hb, hbi⟩ := ih (0 + 1) (by omega) (by omega) (hg.succ (.inl ⟨rfl, by rw [upOf_rd]; exact c1⟩))
        exact ⟨b, hb.step (fun k => by rw [r13_Formed.l0, if_pos hi, if_pos rfl, if_pos (by omega), if_pos hi, if_pos c1, if_neg (by omega), w1 (by omega) (by omega)]), hbi⟩
      · refine ⟨false, (Ev.pure false).step (fun k => by rw [r13_Formed.l0, if_pos hi, if_pos rfl, if_pos (by omega), if_pos hi, if_neg c1]), hbad ?_⟩
        rintro (⟨_, h⟩ | ⟨h, _⟩)
        · rw [upOf_rd] at h; exact c1 h
        · omega
    · by_cases c1 : (rd_T53 l i).f1 < 1
      · refine ⟨false, (Ev.pure false).step (fun k => by rw [r13_Formed.l0, if_pos hi, if_neg c0, if_pos (by omega), if_pos h0, if_pos hi, if_pos c1]), hbad ?_⟩
        rintro (⟨h, _⟩ | ⟨_, h⟩)
        · omega
        · have := h.pos; rw [upOf_rd] at this; omega
      · obtain ⟨a, ha, hai⟩ := above_ev l hl i (by omega) hg (rd_T53 l i).f1 i h0 (Int.le_refl _)
        cases a with
        | true =>
          obtain ⟨b, hb, hbi⟩ := ih (i + 1) (by omega) (by omega) (hg.succ (.inr ⟨by omega, by rw [upOf_rd]; exact hai.1 rfl⟩)); exact ⟨b, ha.via hb (fun k hk => by rw [r13_Formed.l0, if_pos hi, if_neg c0, if_pos (by omega), if_pos h0, if_pos hi, if_neg c1, hk, Option.bind_some, if_pos rfl, w1 (by omega) (by omega)]), hbi⟩
        | false =>
          refine ⟨false, ha.via (Ev.pure false) (fun k hk => by rw [r13_Formed.l0, if_pos hi, if_neg c0, if_pos (by omega), if_pos h0, if_pos hi, if_neg c1, hk, Option.bind_some, if_neg (by decide)]), hbad ?_⟩; rintro (⟨h, _⟩ | ⟨_, h⟩); (omega); (rw [upOf_rd] at h; have := hai.2 h; cases this)
theorem Formed_ev (l : List S53) (hl : (l.length : Int) ≤ 1000000000) : ∃ b, Ev (fun k => r13_Formed.f k l) b ∧ (b = true ↔ GoodTo l l.length) := by
  obtain ⟨b, hb, hi⟩ := Formed_l0 l hl l.length 0 (by omega) (by omega) (fun i h0 h1 => by omega); exact ⟨b, hb, hi⟩
theorem Dp.le {l : List S53} {x d : Int} (h : Dp l x d) {n : Int} (hg : GoodTo l n) (hx : x ≤ n) : d ≤ x := by
  obtain ⟨e, he, hle⟩ := Dp.ex hg x.toNat x rfl h.nn.1 hx; rw [h.uniq he]; exact hle
theorem depth_l0 (l : List S53) (hl : (l.length : Int) ≤ 1000000000) (n : Int) (hn : n ≤ l.length) (hg : GoodTo l n) (m : Nat) : ∀ (y e : Int), y.toNat = m → Dp l y e → y ≤ n → ∀ a : Int, 0 ≤ a → a ≤ 3000000000 - y → Ev (fun k => r13_Depth.l0 k l y a) (a + e) := by
  induction m using Nat.strongRecOn with
  | _ m ihm =>
    intro y e hm he hy a a0 a1
    cases he with
    | zero => exact (Ev.pure _).step (fun k => by rw [r13_Depth.l0, if_neg (by omega), Int.add_zero])
    | @up _ e h0 he =>
      have hu := hg.up h0 hy; have h := ihm (upOf l y).toNat (by omega) (upOf l y) e rfl he (by omega) (a + 1) (by omega) (by omega); rw [show a + (e + 1) = a + 1 + e by omega]; refine h.step (fun k => ?_); rw [r13_Depth.l0, if_pos (by omega), wm (by omega) (by omega), if_pos (by omega), if_pos (by omega), w1 (by omega) (by omega)]; rfl
theorem Depth_ev (l : List S53) (hl : (l.length : Int) ≤ 1000000000) (hg : GoodTo l l.length) {x d : Int} (h : Dp l x d) (hx : x ≤ l.length) : Ev (fun k => r13_Depth.f k l x) d := by
  have := depth_l0 l hl l.length (Int.le_refl _) hg _ x d rfl h hx 0 (by omega) (by omega); rw [Int.zero_add] at this; exact this
theorem cut_l0 (l : List S53) (hl : (l.length : Int) ≤ 4096) (hg : GoodTo l l.length) (d : Nat) : ∀ (i : Int) (arr : List Int), 0 ≤ i → (l.length : Int) - i = d → (arr.length : Int) = l.length + 1 →
    (∀ j, 0 ≤ j → j ≤ i → Dp l j (rd arr j)) → (∀ j e, 0 ≤ j → j ≤ i → Dp l j e → e ≤ 64) →
    ∃ m : Int, Ev (fun k => flat_cut.l0 k l arr l l.length i) (l.take m.toNat) ∧ i ≤ m ∧ m ≤ l.length ∧ (∀ j e, 0 ≤ j → j < m → Dp l j e → e ≤ 64) ∧ (∀ e, Dp l m e → e ≤ 65) ∧ ((∀ e, Dp l m e → e ≤ 64) → m = l.length) := by
  induction d with
  | zero =>
    intro i arr h0 hd ha hdp hsm
    obtain rfl : i = l.length := by omega
    refine ⟨l.length, (Ev.pure _).step (fun k => by rw [flat_cut.l0, if_neg (by omega)]; simp), Int.le_refl _, Int.le_refl _, fun j e a b c => hsm j e a (by omega) c, fun e h => ?_, fun _ => rfl⟩; have := hsm _ e (by omega) (Int.le_refl _) h; omega
  | succ d ih =>
    intro i arr h0 hd ha hdp hsm
    have hi : i < l.length := by omega
    have hu := hg.up (x := i + 1) (by omega) (by omega); have hup := upOf_rd l i; rw [hup] at hu; have hDu := hdp _ hu.1 (by omega); have hnn := hDu.nn; have hee := hDu.le hg (by omega); have h64 := hsm _ _ hu.1 (by omega) hDu; have hDi : Dp l (i + 1) (rd arr (rd_T53 l i).f1 + 1) := .up (by omega) (by rw [hup]; exact hDu); have hw : wrap64 (rd arr (rd_T53 l i).f1 + 1) = rd arr (rd_T53 l i).f1 + 1 := w1 (by omega) (by omega)
    have hrd : rd (arr.set (i + 1).toNat (rd arr (rd_T53 l i).f1 + 1)) (i + 1) = rd arr (rd_T53 l i).f1 + 1 := by
      unfold rd; rw [List.getD_eq_getElem?_getD, List.getElem?_set_self (by omega)]; rfl
    have e : ∀ k, flat_cut.l0 (k + 1) l arr l l.length i = if rd arr (rd_T53 l i).f1 + 1 > 64 then some (l.take (i + 1).toNat) else flat_cut.l0 k l (arr.set (i + 1).toNat (rd arr (rd_T53 l i).f1 + 1)) l l.length (i + 1) := by
      intro k; rw [flat_cut.l0, if_pos hi, if_pos h0, if_pos hi, if_pos hu.1, if_pos (by omega), w1 (by omega) (by omega), if_pos (by omega), if_pos (by omega), hw, Option.bind_some, hrd, if_pos (show i + 1 ≤ (l.length : Int) by omega), if_neg (show ¬ i = 4096 by omega)]
    by_cases c : rd arr (rd_T53 l i).f1 + 1 > 64
    · refine ⟨i + 1, (Ev.pure _).step (fun k => by rw [e, if_pos c]), by omega, by omega, fun j e a b hh => hsm j e a (by omega) hh, fun e he => ?_, fun h => ?_⟩
      · have := hDi.uniq he; omega
      · have := h _ hDi; omega
    · obtain ⟨m, hm, m1, m2, m3, m4, m5⟩ := ih (i + 1) (arr.set (i + 1).toNat (rd arr (rd_T53 l i).f1 + 1)) (by omega) (by omega) (by rw [List.length_set]; exact ha)
        (fun j j0 j1 => by
          rcases Int.lt_or_eq_of_le j1 with j2 | rfl
          · have : rd (arr.set (i + 1).toNat (rd arr (rd_T53 l i).f1 + 1)) j = rd arr j := by
              unfold rd
              rw [List.getD_eq_getElem?_getD, List.getElem?_set_ne (by omega), ← List.getD_eq_getElem?_getD]
            rw [this]
            exact hdp j j0 (by omega)
          · rw [hrd]
            exact hDi)
        (fun j e j0 j1 he => by
          rcases Int.lt_or_eq_of_le j1 with j2 | rfl
          · exact hsm j e j0 (by omega) he
          · have := hDi.uniq he; omega)
      exact ⟨m, hm.step (fun k => by rw [e, if_neg c]), by omega, m2, m3, m4, m5⟩
theorem cut_ev (l : List S53) (hl : (l.length : Int) ≤ 4096) (hg : GoodTo l l.length) (hp : 0 < l.length) : ∃ m : Int, Ev (fun k => flat_cut.f k l) (l.take m.toNat) ∧ 0 < m ∧ m ≤ l.length ∧ (∀ j e, 0 ≤ j → j < m → Dp l j e → e ≤ 64) ∧ (∀ e, Dp l m e → e ≤ 65) ∧ ((∀ e, Dp l m e → e ≤ 64) → m = l.length) := by
  have hz : ∀ j, 0 ≤ j → j ≤ (0 : Int) → j = 0 := fun j a b => by omega
  obtain ⟨m, hm, m1, m2, m3, m4, m5⟩ := cut_l0 l hl hg l.length 0 (List.replicate (l.length + 1) 0) (by omega) (by omega) (by rw [List.length_replicate]; omega)
    (fun j a b => by
      rw [hz j a b]
      have : rd (List.replicate (l.length + 1) 0) 0 = 0 := by unfold rd; rfl
      rw [this]
      exact .zero)
    (fun j e a b he => by
      rw [hz j a b] at he; have := he.uniq .zero
      omega)
  refine ⟨m, hm.eq (fun k => ?_), ?_, m2, m3, m4, m5⟩; (rw [flat_cut.f, w1 (by omega) (by omega), if_pos (by omega), if_pos (by omega)]; rw [show ((l.length : Int) + 1).toNat = l.length + 1 by omega])
  · rcases Int.lt_or_eq_of_le m1 with h | h
    · exact h
    · subst h
      have := m5 (fun e he => by have := he.uniq .zero; omega)
      omega
theorem ht_L (ks : List S25) (hp : ∀ y ∈ ks, ∀ dp at_ u, ∃ it ∈ itemsT y dp at_ u, it.f1 = dp + htT y - 1) (hs : ∀ y ∈ ks, Sm25 y) : ∀ dp at_ u, htL ks = 0 ∨ ∃ it ∈ itemsL ks dp at_ u, it.f1 = dp + htL ks - 1 := by
  induction ks with
  | nil => intro dp at_ u; exact .inl rfl
  | cons y ys ih =>
    intro dp at_ u; right; rw [itemsL, htL]; have p1 := pos_of y (hs y (by simp)); obtain ⟨a, ha, ha2⟩ := hp y (by simp) dp at_ u
    rcases ih (fun z hz => hp z (by simp [hz])) (fun z hz => hs z (by simp [hz])) dp (at_ + szT y) u with h | ⟨b, hb, hb2⟩
    · exact ⟨a, List.mem_append_left _ ha, by rw [h]; omega⟩
    · by_cases c : htL ys ≤ htT y
      · exact ⟨a, List.mem_append_left _ ha, by omega⟩
      · exact ⟨b, List.mem_append_right _ hb, by omega⟩
/-- The deepest item. -/
theorem ht_T (x : S25) (h : Sm25 x) : ∀ dp at_ u, ∃ it ∈ itemsT x dp at_ u, it.f1 = dp + htT x - 1 := by
  induction h with
  | @mk x h0 h1 h2 h3 h4 h5 ih =>
    intro dp at_ u; rw [itemsT_eq, htT_eq]
    rcases ht_L x.f4 ih h5 (dp + 1) (at_ + 1) at_ with h | ⟨a, ha, ha2⟩
    (exact ⟨_, List.mem_cons_self, by rw [h]; show dp = _; omega⟩); (exact ⟨a, List.mem_cons_of_mem _ ha, by omega⟩)
def rowJ (it : S63) : S53 := ⟨0, it.f2 + 1, it.f0.f0, it.f0.f1, it.f0.f2, it.f0.f3⟩
theorem rowJ_L (ks : List S25) (hp : ∀ y ∈ ks, ∀ dp at_ up, (itemsT y dp at_ up).map rowJ = rowsT y at_ (up + 1)) : ∀ dp at_ up, (itemsL ks dp at_ up).map rowJ = rowsL ks at_ (up + 1) := by
  induction ks with
  | nil => intro dp at_ up; rfl
  | cons y ys ih =>
    intro dp at_ up; rw [itemsL, rowsL, List.map_append, hp y (by simp), ih (fun z hz => hp z (by simp [hz]))]
theorem rowJ_T (x : S25) (h : Sm25 x) : ∀ dp at_ up, (itemsT x dp at_ up).map rowJ = rowsT x at_ (up + 1) := by
  induction h with
  | @mk x h0 h1 h2 h3 h4 h5 ih =>
    intro dp at_ up; rw [itemsT_eq, rowsT_eq, List.map_cons, rowJ_L x.f4 ih]; rfl
theorem Dp.tr {l R : List S53} {m : Int} (hg : GoodTo l m) (hu : ∀ x, 0 < x → x ≤ m → upOf R x = upOf l x) {x d : Int} (h : Dp l x d) (hx : x ≤ m) : Dp R x d := by
  induction h with
  | zero => exact .zero
  | @up x d h0 _ ih =>
    have := hg.up h0 hx; exact .up h0 (by rw [hu x h0 hx]; exact ih (by omega))
theorem rd_z0 (l : List S53) (m i : Int) (h0 : 0 ≤ i) (h1 : i < m) (h2 : m ≤ l.length) : rd_T53 ((l.take m.toNat).map z0) i = z0 (rd_T53 l i) := by
  unfold rd_T53; simp only [List.getD_eq_getElem?_getD, List.getElem?_map, List.getElem?_take]; rw [if_pos (by omega), List.getElem?_eq_getElem (by omega)]; rfl
/-- Rows, as_ far as_ they are built, and their tree. -/
structure Tied (l : List S53) (m : Int) (n : S25) : Prop where
  pos : 0 < m
  le : m ≤ l.length
  len : (l.length : Int) ≤ 4096
  good : GoodTo l l.length
  rows : (l.take m.toNat).map z0 = rowsT n 0 0
  sm : Sm25 n
  sz : szT n = m
  low : ∀ j e, 0 ≤ j → j ≤ m → Dp l j e → e ≤ 65
theorem Tied.item {l : List S53} {m : Int} {n : S25} (T : Tied l m n) {i : Nat} {it : S63} (hi : (itemsT n 1 0 (-1))[i]? = some it) : (i : Int) < m ∧ Dp l (i + 1) it.f1 ∧ z0 (rd_T53 l i) = rowJ it := by
  have hil := lt48 hi; have hlen := itemsT_len n T.sm 1 0 (-1); have hrl := rowsT_len n T.sm 0 0; have hsz := T.sz; have hle := T.le
  have him : (i : Int) < m := by omega
  have hR : ∀ j : Int, 0 ≤ j → j < m → rd_T53 (rowsT n 0 0) j = z0 (rd_T53 l j) := fun j h0 h1 => by rw [← T.rows]; exact rd_z0 l m j h0 h1 T.le
  have hup : ∀ x, 0 < x → x ≤ m → upOf (rowsT n 0 0) x = upOf l x := fun x h0 h1 => by
    unfold upOf; rw [hR (x - 1) (by omega) (by omega)]; rfl
  refine ⟨him, ?_, ?_⟩; (obtain ⟨e, he, _⟩ := Dp.ex T.good (i + 1) ((i : Int) + 1) (by omega) (by omega) (by omega); have h1 := he.tr (T.good.mono T.le) hup (by omega); have h2 := (di_T n T.sm (rowsT n 0 0) 0 0 [] 1 (-1) (by omega) (by simp) .zero i it hi).1; rw [Int.zero_add] at h2; rw [← h1.uniq h2]; exact he)
  · have h := rowJ_T n T.sm 1 0 (-1)
    have h2 : ((itemsT n 1 0 (-1)).map rowJ)[i]? = some (rowJ it) := by rw [List.getElem?_map, hi]; rfl
    rw [h] at h2
    rw [← hR i (by omega) him]
    unfold rd_T53
    rw [List.getD_eq_getElem?_getD, Int.toNat_natCast]
    rw [show (-1 : Int) + 1 = 0 by decide] at h2
    rw [h2]
    rfl
theorem Tied.ht {l : List S53} {m : Int} {n : S25} (T : Tied l m n) : htT n ≤ 65 := by
  obtain ⟨it, h1, h2⟩ := ht_T n T.sm 1 0 (-1); obtain ⟨i, hi, rfl⟩ := List.getElem_of_mem h1; obtain ⟨a, b, _⟩ := T.item (List.getElem?_eq_getElem hi); have := T.low _ _ (by omega) (by omega) b; omega
theorem alone_kids (k : Nat) (a b c : ByteArray) (d : List S69) (ks : List S25) : r11_Alone.f k a b c d [] = r11_Alone.f k a b c d ks := rfl
/-- A row's likes ahead of it. -/
def Tw (l : List S53) (i j : Int) : Prop := ∃ k, j ≤ k ∧ k < i ∧ (rd_T53 l k).f1 = (rd_T53 l i).f1 ∧ (rd_T53 l i).f3.toList ≠ [] ∧ (rd_T53 l k).f3.toList = (rd_T53 l i).f3.toList
theorem chk13_l1 (l : List S53) (hl : (l.length : Int) ≤ 4096) (i : Int) (h0 : 0 ≤ i) (hi : i < l.length) (d : Nat) : ∀ j : Int, (i - j) = d → 0 ≤ j →
    (Tw l i j → Ev (fun k => r13_Check.l1 k l i l.length i i j) 10) ∧ (¬ Tw l i j → ∀ r, Ev (fun k => r13_Check.l0 k l l.length (i + 1)) r → Ev (fun k => r13_Check.l1 k l i l.length i i j) r) := by
  induction d with
  | zero =>
    intro j hd hj; exact ⟨fun ⟨k, h1, h2, _⟩ => by omega, fun _ r hr => hr.step (fun k => by rw [r13_Check.l1, if_neg (by omega), w1 (by omega) (by omega)])⟩
  | succ d ih =>
    intro j hd hj; obtain ⟨ih1, ih2⟩ := ih (j + 1) (by omega) (by omega); have hw : wrap64 (j + 1) = j + 1 := w1 (by omega) (by omega)
    have a1 : j < i := by omega
    have a5 : j < (l.length : Int) := by omega
    by_cases c : (rd_T53 l j).f1 = (rd_T53 l i).f1 ∧ (rd_T53 l i).f3.toList ≠ [] ∧ (rd_T53 l j).f3.toList = (rd_T53 l i).f3.toList
    · refine ⟨fun _ => (Ev.pure _).step (fun k => ?_), fun h => absurd ⟨j, Int.le_refl _, a1, c⟩ h⟩
      rw [r13_Check.l1, if_pos a1, if_pos h0, if_pos hi, if_neg c.2.1, if_pos hj, if_pos a5, if_pos c.1, if_pos c.2.2]
    · have hstep (k : Nat) : r13_Check.l1 (k + 1) l i l.length i i j = r13_Check.l1 k l i l.length i i (j + 1) := by
        rw [r13_Check.l1, if_pos a1, if_pos h0, if_pos hi, hw]
        by_cases d3 : (rd_T53 l i).f3.toList = []
        · rw [if_pos d3]
        · rw [if_neg d3, if_pos hj, if_pos a5]
          by_cases d2 : (rd_T53 l j).f1 = (rd_T53 l i).f1
          · rw [if_pos d2, if_neg (fun d4 => c ⟨d2, d3, d4⟩)]
          · rw [if_neg d2]
      have hex : Tw l i j ↔ Tw l i (j + 1) := by
        constructor
        · rintro ⟨k, h1, h2, h3⟩
          rcases Int.lt_or_eq_of_le h1 with h1 | rfl
          · exact ⟨k, by omega, h2, h3⟩
          · exact absurd h3 c
        · rintro ⟨k, h1, h2, h3⟩
          exact ⟨k, by omega, h2, h3⟩
      rw [hex]
      exact ⟨fun h => (ih1 h).step hstep, fun h r hr => (ih2 h r hr).step hstep⟩
theorem Tied.twice {l : List S53} {m : Int} {n : S25} (T : Tied l m n) {i : Nat} {it : S63} (hi : (itemsT n 1 0 (-1))[i]? = some it) : Twice (itemsT n 1 0 (-1)) i ↔ Tw l i 0 := by
  obtain ⟨b1, b2, b3⟩ := T.item hi; have hle := T.le; have e1 : (rd_T53 l i).f1 = it.f2 + 1 := congrArg S53.f1 b3; have e3 : (rd_T53 l i).f3 = it.f0.f1 := congrArg S53.f3 b3; constructor
  · rintro ⟨it', jt, j, h1, h2, h3, h4, h5, h6, h7⟩
    rw [hi] at h2
    cases h2
    obtain ⟨c1, c2, c3⟩ := T.item h3
    have g1 : (rd_T53 l j).f1 = jt.f2 + 1 := congrArg S53.f1 c3
    have g3 : (rd_T53 l j).f3 = jt.f0.f1 := congrArg S53.f3 c3
    refine ⟨j, by omega, by omega, by omega, ?_, ?_⟩
    · rw [e3, Lib.toList_data]; exact h6
    · rw [e3, g3, Lib.toList_data, Lib.toList_data]; exact h7
  · rintro ⟨k, h1, h2, h3, h4, h5⟩
    have hk : k.toNat < (itemsT n 1 0 (-1)).length := by have := lt48 hi; omega
    obtain ⟨jt, hjt⟩ : ∃ jt, (itemsT n 1 0 (-1))[k.toNat]? = some jt := ⟨_, List.getElem?_eq_getElem hk⟩
    obtain ⟨c1, c2, c3⟩ := T.item hjt
    rw [show ((k.toNat : Nat) : Int) = k by omega] at c3
    have g1 : (rd_T53 l k).f1 = jt.f2 + 1 := congrArg S53.f1 c3
    have g3 : (rd_T53 l k).f3 = jt.f0.f1 := congrArg S53.f3 c3
    have hrow := T.good i (by omega) (by omega)
    have hpos : 1 ≤ (rd_T53 l i).f1 := by
      rcases hrow with h | h
      (omega); (have := h.2.pos; rw [upOf_rd] at this; omega)
    refine ⟨it, jt, k.toNat, by omega, hi, hjt, by omega, by omega, ?_, ?_⟩
    · rw [e3, Lib.toList_data] at h4; exact h4
    · rw [e3, g3, Lib.toList_data, Lib.toList_data] at h5; exact h5
theorem Tied.ok {l : List S53} {m : Int} {n : S25} (T : Tied l m n) (hs : ∀ it ∈ itemsT n 1 0 (-1), Sm25 it.f0) (i : Nat) (h : OKat (itemsT n 1 0 (-1)) i) {r : Int} (hr : Ev (fun k => r13_Check.l0 k l l.length ((i : Int) + 1)) r) : Ev (fun k => r13_Check.l0 k l l.length (i : Int)) r := by
  obtain ⟨it, h1, h2, h3, h4, h5⟩ := h; obtain ⟨b1, b2, b3⟩ := T.item h1; have hle := T.le; have hlen := T.len; obtain ⟨_, w2⟩ := wr_ev (hs it (List.mem_of_getElem? h1)); rw [h4] at w2; have hl := (chk13_l1 l hlen i (by omega) (by omega) i 0 (by omega) (by omega)).2 (fun h => h5 ((T.twice h1).2 h)) r hr; have hD := Depth_ev l (by omega) T.good b2 (by omega); have e2 : (rd_T53 l i).f2 = it.f0.f0 := congrArg S53.f2 b3; have e3 : (rd_T53 l i).f3 = it.f0.f1 := congrArg S53.f3 b3; have e4 : (rd_T53 l i).f4 = it.f0.f2 := congrArg S53.f4 b3; have e5 : (rd_T53 l i).f5 = it.f0.f3 := congrArg S53.f5 b3; have hA : Ev (fun k => r11_Alone.f k (rd_T53 l i).f2 (rd_T53 l i).f3 (rd_T53 l i).f4 (rd_T53 l i).f5 []) 0 := w2.eq (fun k => by rw [e2, e3, e4, e5, alone_kids k _ _ _ _ it.f0.f4])
  have key : Ev (fun k => (r13_Depth.f k l ((i : Int) + 1)).bind fun t367 => (if t367 > 64 then (some 11) else ((r11_Alone.f k ((rd_T53 l i).f2) ((rd_T53 l i).f3) ((rd_T53 l i).f4) ((rd_T53 l i).f5) ([] : List (S25))).bind fun t372 => (if t372 = 0 then (r13_Check.l1 k l i l.length i i 0) else (some t372))))) r := by
    refine Ev.bind hD ?_; exact (Ev.bind (g := fun k (t : Int) => if t = 0 then r13_Check.l1 k l i l.length i i 0 else some t) hA (hl.eq (fun k => by rw [if_pos rfl]))).eq (fun k => by rw [if_neg (by omega)])
  refine key.step (fun k => ?_); rw [r13_Check.l0, if_pos (by omega), if_neg (by omega), w1 (by omega) (by omega), if_pos (show (0 : Int) ≤ (i : Int) by omega), if_pos (show (i : Int) < (l.length : Int) by omega)]
theorem Tied.bad {l : List S53} {m : Int} {n : S25} (T : Tied l m n) (hs : ∀ it ∈ itemsT n 1 0 (-1), Sm25 it.f0) (i : Nat) (e : Int) (h : BadAt (itemsT n 1 0 (-1)) i e) : Ev (fun k => r13_Check.l0 k l l.length (i : Int)) e := by
  obtain ⟨it, h1, h2⟩ := h; obtain ⟨b1, b2, b3⟩ := T.item h1; have hle := T.le; have hlen := T.len; obtain ⟨_, w2⟩ := wr_ev (hs it (List.mem_of_getElem? h1)); have hD := Depth_ev l (by omega) T.good b2 (by omega); have e2 : (rd_T53 l i).f2 = it.f0.f0 := congrArg S53.f2 b3; have e3 : (rd_T53 l i).f3 = it.f0.f1 := congrArg S53.f3 b3; have e4 : (rd_T53 l i).f4 = it.f0.f2 := congrArg S53.f4 b3; have e5 : (rd_T53 l i).f5 = it.f0.f3 := congrArg S53.f5 b3; have hA : Ev (fun k => r11_Alone.f k (rd_T53 l i).f2 (rd_T53 l i).f3 (rd_T53 l i).f4 (rd_T53 l i).f5 []) (wr it.f0) := w2.eq (fun k => by rw [e2, e3, e4, e5, alone_kids k _ _ _ _ it.f0.f4])
  have fin (r : Int) (key : Ev (fun k => (r13_Depth.f k l ((i : Int) + 1)).bind fun t367 => (if t367 > 64 then (some 11) else ((r11_Alone.f k ((rd_T53 l i).f2) ((rd_T53 l i).f3) ((rd_T53 l i).f4) ((rd_T53 l i).f5) ([] : List (S25))).bind fun t372 => (if t372 = 0 then (r13_Check.l1 k l i l.length i i 0) else (some t372))))) r) : Ev (fun k => r13_Check.l0 k l l.length (i : Int)) r := by
    refine key.step (fun k => ?_); rw [r13_Check.l0, if_pos (by omega), if_neg (by omega), w1 (by omega) (by omega), if_pos (show (0 : Int) ≤ (i : Int) by omega), if_pos (show (i : Int) < (l.length : Int) by omega)]
  rcases h2 with ⟨a1, rfl⟩ | ⟨a1, a2, rfl⟩ | ⟨a1, a2, a3, rfl⟩ | ⟨a1, a2, a3, a4, rfl⟩
  (omega); (exact fin _ (Ev.bind hD ((Ev.pure _).eq (fun k => by rw [if_pos a2])))); (exact fin _ (Ev.bind hD ((Ev.bind (g := fun k (t : Int) => if t = 0 then r13_Check.l1 k l i l.length i i 0 else some t) hA ((Ev.pure _).eq (fun k => by rw [if_neg a3]))).eq (fun k => by rw [if_neg (by omega)])))); (rw [a3] at hA; have hl := (chk13_l1 l hlen i (by omega) (by omega) i 0 (by omega) (by omega)).1 ((T.twice h1).1 a4); exact fin _ (Ev.bind hD ((Ev.bind (g := fun k (t : Int) => if t = 0 then r13_Check.l1 k l i l.length i i 0 else some t) hA (hl.eq (fun k => by rw [if_pos rfl]))).eq (fun k => by rw [if_neg (by omega)]))))
theorem Tied.upto {l : List S53} {m : Int} {n : S25} (T : Tied l m n) (hs : ∀ it ∈ itemsT n 1 0 (-1), Sm25 it.f0) (p : Nat) (h : ∀ i, i < p → OKat (itemsT n 1 0 (-1)) i) (r : Int) (hr : Ev (fun k => r13_Check.l0 k l l.length (p : Int)) r) (d : Nat) : ∀ i : Nat, p - i = d → i ≤ p → Ev (fun k => r13_Check.l0 k l l.length (i : Int)) r := by
  induction d with
  | zero =>
    intro i hd hi
    obtain rfl : i = p := by omega
    exact hr
  | succ d ih =>
    intro i hd hi; exact T.ok hs i (h i (by omega)) (by have := ih (i + 1) (by omega) (by omega); rwa [show ((i + 1 : Nat) : Int) = (i : Int) + 1 by omega] at this)
/-- The check of the tree is the reference's check of the rows. -/
theorem Tied.check {l : List S53} {m : Int} {n : S25} (T : Tied l m n) (hd : m < l.length → ∃ e, Dp l m e ∧ 64 < e) : ∃ c : Int × Int, Ev (fun k => vtree_Check.f k n.f0 n.f1 n.f2 n.f3 n.f4) c ∧ Ev (fun k => r13_Check.f k l) c.2 ∧ (c.2 = 0 → m = l.length ∧ ∀ i, i < (itemsT n 1 0 (-1)).length → OKat (itemsT n 1 0 (-1)) i) := by
  have hxe : (⟨n.f0, n.f1, n.f2, n.f3, n.f4⟩ : S25) = n := by cases n; rfl
  have hle := T.le; have hlen := T.len; have hsz := T.sz; have hil := itemsT_len n T.sm 1 0 (-1); have hht := T.ht; have hit := its_T n T.sm [] 1 (-1) (by simp; omega) (by omega); simp only [List.nil_append, List.length_nil, Int.ofNat_zero] at hit; have hI : Ev (fun k => r11_Items.f k n.f0 n.f1 n.f2 n.f3 n.f4) (itemsT n 1 0 (-1)) := hit.eq (fun k => by rw [r11_Items.f, hxe]); obtain ⟨L, c, q1, q2, q3, q4, q5, q6⟩ := checks n T.sm; obtain rfl := Ev.uniq q1 hI; obtain ⟨b, hb, hbi⟩ := Formed_ev l (by omega); obtain rfl : b = true := hbi.2 T.good
  have top (r : Int) (h : Ev (fun k => r13_Check.l0 k l l.length 0) r) : Ev (fun k => r13_Check.f k l) r := by
    unfold r13_Check.f; exact Ev.bind hb (h.eq (fun k => by rw [if_pos rfl]))
  refine ⟨c, q4, ?_⟩
  rcases q6 with ⟨c0, c1, c2⟩ | ⟨c0, p, c1, c2, c3⟩
  · have hm : m = l.length := by
      rcases Int.lt_or_eq_of_le hle with h | h
      · exfalso
        obtain ⟨e, he, he2⟩ := hd h
        obtain ⟨it, a1, a2, a3, a4⟩ := c2 (m - 1).toNat (by have := T.pos; omega)
        obtain ⟨_, b2, _⟩ := T.item a1
        have hp := T.pos
        rw [show (((m - 1).toNat : Nat) : Int) + 1 = m by omega] at b2
        have := he.uniq b2
        omega
      · exact h
    refine ⟨?_, fun _ => ⟨hm, c2⟩⟩
    rw [c0]
    refine top 0 ?_
    have hend : Ev (fun k => r13_Check.l0 k l l.length (((itemsT n 1 0 (-1)).length : Nat) : Int)) 0 := (Ev.pure _).step (fun k => by rw [r13_Check.l0, if_neg (by omega)])
    have := T.upto q3 _ c2 0 hend _ 0 rfl (by omega)
    exact this
  · refine ⟨?_, fun h => absurd h c0⟩
    refine top _ ?_; have := T.upto q3 p c2 _ (T.bad q3 p c.2 c3) _ 0 rfl (by omega); exact this
/-- The handles of the rows right below one. -/
def kidsIdx : List S53 → Int → Int → List Int
  | [], _, _ => []
  | y :: ys, i, h => if y.f1 = h then (i + 1) :: kidsIdx ys (i + 1) h else kidsIdx ys (i + 1) h
theorem kidsIdx_len : ∀ (a : List S53) (i h : Int), (kidsIdx a i h).length ≤ a.length
  | [], _, _ => Nat.le_refl _
  | y :: ys, i, h => by
    have := kidsIdx_len ys (i + 1) h
    rw [kidsIdx]
    split
    · simp only [List.length_cons]; omega
    · simp only [List.length_cons]; omega
theorem Kids_l0 (l : List S53) (hl : (l.length : Int) ≤ 1000000000) (h : Int) (d : Nat) : ∀ (i : Int) (acc : List Int), 0 ≤ i → (l.length : Int) - i = d → (acc.length : Int) ≤ i → Ev (fun k => r13_Kids.l0 k l h acc l.length i) (acc ++ kidsIdx (l.drop i.toNat) i h) := by
  induction d with
  | zero =>
    intro i acc h0 hd ha; rw [List.drop_eq_nil_of_le (by omega), kidsIdx, List.append_nil]; exact (Ev.pure _).step (fun k => by rw [r13_Kids.l0, if_neg (by omega)])
  | succ d ih =>
    intro i acc h0 hd ha
    have hi : i < (l.length : Int) := by omega
    rw [drp53 l i h0 hi, kidsIdx]
    by_cases c : (rd_T53 l i).f1 = h
    (rw [if_pos c, show acc ++ (i + 1) :: kidsIdx (l.drop (i + 1).toNat) (i + 1) h = (acc ++ [i + 1]) ++ kidsIdx (l.drop (i + 1).toNat) (i + 1) h by simp]; exact (ih (i + 1) (acc ++ [i + 1]) (by omega) (by omega) (by rw [List.length_append, List.length_singleton]; omega)).step (fun k => by rw [r13_Kids.l0, if_pos hi, if_pos h0, if_pos hi, if_pos c, if_pos (by omega), w1 (by omega) (by omega)])); (rw [if_neg c]; exact (ih (i + 1) acc (by omega) (by omega) (by omega)).step (fun k => by rw [r13_Kids.l0, if_pos hi, if_pos h0, if_pos hi, if_neg c, w1 (by omega) (by omega)]))
theorem Kids_ev (l : List S53) (hl : (l.length : Int) ≤ 1000000000) (h : Int) : Ev (fun k => r13_Kids.f k l h) (kidsIdx l 0 h) := by
  have := Kids_l0 l hl h l.length 0 [] (by omega) (by omega) (by simp); exact this
theorem kidsIdx_app : ∀ (a b : List S53) (i h : Int), kidsIdx (a ++ b) i h = kidsIdx a i h ++ kidsIdx b (i + a.length) h
  | [], b, i, h => by simp [kidsIdx]
  | y :: ys, b, i, h => by
    rw [List.cons_append, kidsIdx, kidsIdx, kidsIdx_app ys b (i + 1) h, show i + 1 + (ys.length : Int) = i + ((y :: ys).length : Int) by simp only [List.length_cons]; omega]
    split <;> rfl
theorem kidsIdx_none : ∀ (a : List S53) (i h : Int), (∀ y ∈ a, y.f1 ≠ h) → kidsIdx a i h = []
  | [], _, _, _ => rfl
  | y :: ys, i, h, hn => by rw [kidsIdx, if_neg (hn y (by simp)), kidsIdx_none ys (i + 1) h (fun z hz => hn z (by simp [hz]))]
theorem kidsIdx_z0 : ∀ (a : List S53) (i h : Int), kidsIdx (a.map z0) i h = kidsIdx a i h
  | [], _, _ => rfl
  | y :: ys, i, h => by
    rw [List.map_cons, kidsIdx, kidsIdx, kidsIdx_z0 ys (i + 1) h]
    rfl
theorem upsL (ks : List S25) (hp : ∀ y ∈ ks, ∀ at_ up, ∀ r ∈ rowsT y at_ up, r.f1 = up ∨ at_ < r.f1) (hs : ∀ y ∈ ks, Sm25 y) : ∀ at_ up, ∀ r ∈ rowsL ks at_ up, r.f1 = up ∨ at_ < r.f1 := by
  induction ks with
  | nil => intro at_ up r hr; rw [rowsL] at hr; simp at hr
  | cons y ys ih =>
    intro at_ up r hr; rw [rowsL] at hr; have p1 := pos_of y (hs y (by simp))
    rcases List.mem_append.1 hr with hr | hr
    · exact hp y (by simp) at_ up r hr
    · rcases ih (fun z hz => hp z (by simp [hz])) (fun z hz => hs z (by simp [hz])) (at_ + szT y) up r hr with h | h
      · exact .inl h
      · exact .inr (by omega)
theorem upsT (x : S25) (h : Sm25 x) : ∀ at_ up, ∀ r ∈ rowsT x at_ up, r.f1 = up ∨ at_ < r.f1 := by
  induction h with
  | @mk x h0 h1 h2 h3 h4 h5 ih =>
    intro at_ up r hr; rw [rowsT_eq] at hr
    rcases List.mem_cons.1 hr with rfl | hr
    · exact .inl rfl
    · rcases upsL x.f4 ih h5 (at_ + 1) (at_ + 1) r hr with h | h
      · exact .inr (by omega)
      · exact .inr (by omega)
/-- Where siblings stand. -/
def posn : List S25 → Int → List Int
  | [], _ => []
  | y :: ys, at_ => (at_ + 1) :: posn ys (at_ + szT y)
theorem kidsIdx_rows (ks : List S25) (hs : ∀ y ∈ ks, Sm25 y) : ∀ at_ h : Int, h ≤ at_ → kidsIdx (rowsL ks at_ h) at_ h = posn ks at_ := by
  induction ks with
  | nil => intro at_ h hh; rfl
  | cons y ys ih =>
    intro at_ h hh; have p1 := pos_of y (hs y (by simp)); have hlen := rowsT_len y (hs y (by simp)) at_ h; have hlen2 := rowsL_len' y.f4 (sm_h (hs y (by simp))).2.2.2.2.2.2 (at_ + 1) (at_ + 1); rw [rowsL, posn, kidsIdx_app, ← hlen, ih (fun z hz => hs z (by simp [hz])) (at_ + (rowsT y at_ h).length) h (by omega), rowsT_eq, kidsIdx, if_pos (show (rowOf y h).f1 = h from rfl), kidsIdx_none]; (rfl)
    · intro r hr
      rcases upsL y.f4 (fun z hz => upsT z ((sm_h (hs y (by simp))).2.2.2.2.2.2 z hz)) (sm_h (hs y (by simp))).2.2.2.2.2.2 (at_ + 1) (at_ + 1) r hr with h1 | h1 <;> omega
def KT (x : S25) : Prop := ∀ (l : List S53) (at_ up : Int) (post : List S53), (l.length : Int) ≤ 1000000 → GoodTo l l.length → 0 ≤ at_ → (l.map z0).drop at_.toNat = rowsT x at_ up ++ post → (∀ r ∈ post, r.f1 ≤ at_ ∨ at_ + szT x < r.f1) → Ev (fun k => tree13 k l (at_ + 1)) x
theorem tree_L (ks : List S25) (hs : ∀ y ∈ ks, Sm25 y) (hp : ∀ y ∈ ks, KT y) : ∀ (l : List S53) (at_ h : Int) (post : List S53), (l.length : Int) ≤ 1000000 → GoodTo l l.length → 0 ≤ at_ → h ≤ at_ → (l.map z0).drop at_.toNat = rowsL ks at_ h ++ post → (∀ r ∈ post, r.f1 ≤ at_ ∨ at_ + szL ks < r.f1) → Ev (fun k => mapO (tree13 k l) (posn ks at_)) ks := by
  induction ks with
  | nil => intro l at_ h post _ _ _ _ _ _; exact Ev.pure _
  | cons y ys ih =>
    intro l at_ h post hl hg h0 hh hd hpost; have p1 := pos_of y (hs y (by simp)); have p2 := posL ys (fun z hz => hs z (by simp [hz])); rw [rowsL, List.append_assoc] at hd; rw [szL] at hpost; have hd2 := drop_app h0 hd (rowsT_len y (hs y (by simp)) at_ h)
    have e1 := hp y (by simp) l at_ h _ hl hg h0 hd (fun r hr => by
      rcases List.mem_append.1 hr with hr | hr
      · rcases upsL ys (fun z hz => upsT z (hs z (by simp [hz]))) (fun z hz => hs z (by simp [hz])) (at_ + szT y) h r hr with h1 | h1
        · exact .inl (by omega)
        · exact .inr h1
      · rcases hpost r hr with h1 | h1
        · exact .inl h1
        · exact .inr (by omega))
    have e2 := ih (fun z hz => hs z (by simp [hz])) (fun z hz => hp z (by simp [hz])) l (at_ + szT y) h post hl hg (by omega) (by omega) hd2 (fun r hr => by
      rcases hpost r hr with h1 | h1
      · exact .inl (by omega)
      · exact .inr (by omega))
    exact (Ev.bind e1 (Ev.bind e2 (Ev.pure (y :: ys)))).eq (fun k => by rw [posn, mapO])
theorem tree_T (x : S25) (h : Sm25 x) : KT x := by
  induction h with
  | @mk x h0 h1 h2 h3 h4 h5 ih =>
    intro l at_ up post hl hg ha hd hpost; have hd0 := hd; rw [rowsT_eq, List.cons_append] at hd; obtain ⟨r1, r2, r3⟩ := rd_drop ha hd; rw [List.length_map] at r2
    have hz : z0 (rd_T53 l at_) = rowOf x up := by
      rw [z0_drop l at_ ha r2] at hd; exact (List.cons.inj hd).1
    have p2 := posL x.f4 h5; have hlenL := rowsL_len' x.f4 h5 (at_ + 1) (at_ + 1)
    have hK : kidsIdx l 0 (at_ + 1) = posn x.f4 (at_ + 1) := by
      have hsplit : l.map z0 = (l.map z0).take (at_ + 1).toNat ++ (rowsL x.f4 (at_ + 1) (at_ + 1) ++ post) := by rw [← r3, List.take_append_drop]
      have htl : (((l.map z0).take (at_ + 1).toNat).length : Int) = at_ + 1 := by rw [List.length_take, List.length_map]; omega
      rw [← kidsIdx_z0, hsplit, kidsIdx_app, htl, kidsIdx_app, kidsIdx_none (_ : List S53) 0 (at_ + 1), kidsIdx_none post, Int.zero_add, kidsIdx_rows x.f4 h5 _ _ (Int.le_refl _)]; (simp)
      · intro r hr
        rcases hpost r hr with h | h
        · omega
        · rw [szT_eq] at h; omega
      · intro r hr
        obtain ⟨j, hj, rfl⟩ := List.getElem_of_mem hr
        have hj2 : (j : Int) < at_ + 1 := by omega
        rw [List.getElem_take, List.getElem_map]
        have hu := hg.up (x := (j : Int) + 1) (by omega) (by omega)
        rw [upOf_rd] at hu
        unfold rd_T53 at hu
        rw [List.getD_eq_getElem?_getD, Int.toNat_natCast, List.getElem?_eq_getElem (by omega)] at hu
        have : (z0 l[j]).f1 = (l[j]).f1 := rfl
        rw [this]
        have h2 := hu.2
        simp only [Option.getD_some] at h2
        omega
    have hT := tree_L x.f4 h5 ih l (at_ + 1) (at_ + 1) post hl hg (by omega) (Int.le_refl _) r3 (fun r hr => by
      rcases hpost r hr with h | h
      · exact .inl (by omega)
      · rw [szT_eq] at h; exact .inr (by omega))
    have hkl : (posn x.f4 (at_ + 1)).length ≤ 1000000 := by
      rw [← hK]; have := kidsIdx_len l 0 (at_ + 1); omega
    have hKe := Kids_ev l (by omega) (at_ + 1); rw [hK] at hKe
    have key : Ev (fun k => (r13_Kids.f k l (at_ + 1)).bind fun ks => if ks.length ≤ 1000000 then (mapO (tree13 k l) ks).bind fun T => some (⟨(rd_T53 l at_).f2, (rd_T53 l at_).f3, (rd_T53 l at_).f4, (rd_T53 l at_).f5, T⟩ : S25) else none) x := by
      refine Ev.bind hKe ?_; refine (Ev.bind hT (g := fun k T => some (⟨(rd_T53 l at_).f2, (rd_T53 l at_).f3, (rd_T53 l at_).f4, (rd_T53 l at_).f5, T⟩ : S25)) (r := x) ?_).eq (fun k => by rw [if_pos hkl]); refine (Ev.pure _).eq (fun k => ?_); have e2 : (rd_T53 l at_).f2 = x.f0 := congrArg S53.f2 hz; have e3 : (rd_T53 l at_).f3 = x.f1 := congrArg S53.f3 hz; have e4 : (rd_T53 l at_).f4 = x.f2 := congrArg S53.f4 hz; have e5 : (rd_T53 l at_).f5 = x.f3 := congrArg S53.f5 hz; rw [e2, e3, e4, e5]; cases x; rfl
    refine key.step (fun k => ?_); rw [tree13, wm (by omega) (by omega), show at_ + 1 - 1 = at_ by omega, if_pos ⟨ha, r2⟩]
theorem tree_ev (l : List S53) (hl : (l.length : Int) ≤ 1000000) (hg : GoodTo l l.length) (n : S25) (hn : Sm25 n) (hr : l.map z0 = rowsT n 0 0) : Ev (fun k => r13_Tree.f k l 1) (n.f0, n.f1, n.f2, n.f3, n.f4) := by
  have := tree_T n hn l 0 0 [] hl hg (by omega) (by simp [hr]) (by simp); exact Ev.bind this (Ev.pure _)
theorem rows_any (l : List S53) (hl : (l.length : Int) ≤ 4096) (hs : ∀ y ∈ l, Sm53 y) (hp : 0 < l.length) : ∃ e : Int, Ev (fun k => r13_Check.f k l) e ∧ Ev (fun k => flat_Check.f k l) e ∧
    ((e ≠ 0 ∧ Ev (fun k => flat_Tree.f k l) ((⟨#[]⟩ : ByteArray), (⟨#[]⟩ : ByteArray), (⟨#[]⟩ : ByteArray), ([] : List (S69)), ([] : List (S25)), e)) ∨
     (e = 0 ∧ GoodTo l l.length ∧ ∃ n c, Sm25 n ∧ szT n = l.length ∧ l.map z0 = rowsT n 0 0 ∧ Ev (fun k => flat_Tree.f k l) (n.f0, n.f1, n.f2, n.f3, n.f4, 0) ∧ Ev (fun k => vtree_Check.f k n.f0 n.f1 n.f2 n.f3 n.f4) c ∧ c.2 = 0)) := by
  have chk (x : ByteArray × ByteArray × ByteArray × (List (S69)) × (List (S25)) × Int) (hT : Ev (fun k => flat_Tree.f k l) x) : Ev (fun k => flat_Check.f k l) x.2.2.2.2.2 := (Ev.bind hT (g := fun k bt => some bt.2.2.2.2.2) (Ev.pure _)).eq (fun k => by rw [flat_Check.f, if_neg (by omega)]); obtain ⟨b, hb, hbi⟩ := formed_ev l (by omega); obtain ⟨b', hb', hbi'⟩ := Formed_ev l (by omega)
  cases b with
  | false =>
    have hn : ¬ GoodTo l l.length := fun h => by have := hbi.2 h; cases this
    obtain rfl : b' = false := by cases b' with | false => rfl | true => exact absurd (hbi'.1 rfl) hn
    have hT : Ev (fun k => flat_Tree.f k l) ((⟨#[]⟩ : ByteArray), (⟨#[]⟩ : ByteArray), (⟨#[]⟩ : ByteArray), ([] : List (S69)), ([] : List (S25)), 2) := hb.via0 (Ev.pure _) (fun k hk => by rw [flat_Tree.f, if_neg (by omega), hk, Option.bind_some, if_neg (by decide)]); refine ⟨2, ?_, chk _ hT, .inl ⟨by decide, hT⟩⟩; exact hb'.via0 (Ev.pure _) (fun k hk => by rw [r13_Check.f, hk, Option.bind_some, if_neg (by decide)])
  | true =>
    have hg := hbi.1 rfl; obtain ⟨d, hd, hdi⟩ := deep_ev l (by omega) hg
    have main (m : Int) (m0 : 0 < m) (m1 : m ≤ l.length) (low : ∀ j e, 0 ≤ j → j ≤ m → Dp l j e → e ≤ 65) (hdp : m < l.length → ∃ e, Dp l m e ∧ 64 < e) (hJ : ∀ x, Ev (fun k => flat_Tree.j0 k (l.take m.toNat)) x → Ev (fun k => flat_Tree.f k l) x) : ∃ e : Int, Ev (fun k => r13_Check.f k l) e ∧ Ev (fun k => flat_Check.f k l) e ∧
        ((e ≠ 0 ∧ Ev (fun k => flat_Tree.f k l) ((⟨#[]⟩ : ByteArray), (⟨#[]⟩ : ByteArray), (⟨#[]⟩ : ByteArray), ([] : List (S69)), ([] : List (S25)), e)) ∨
         (e = 0 ∧ GoodTo l l.length ∧ ∃ n c, Sm25 n ∧ szT n = l.length ∧ l.map z0 = rowsT n 0 0 ∧ Ev (fun k => flat_Tree.f k l) (n.f0, n.f1, n.f2, n.f3, n.f4, 0) ∧ Ev (fun k => vtree_Check.f k n.f0 n.f1 n.f2 n.f3 n.f4) c ∧ c.2 = 0)) := by
      have htl : (l.take m.toNat).length = m.toNat := by rw [List.length_take]; omega
      have hup : ∀ x, 0 < x → x ≤ m → upOf (l.take m.toNat) x = upOf l x := fun x h0 h1 => by
        unfold upOf rd_T53; rw [List.getD_eq_getElem?_getD, List.getD_eq_getElem?_getD, List.getElem?_take, if_pos (by omega)]
      have han : ∀ u x, An l u x → x ≤ m → An (l.take m.toNat) u x := fun u x h => by
        induction h with
        | self h => exact fun _ => .self h
        | @up x h0 _ ih =>
          intro hx; have := hg.up h0 (by omega); exact .up h0 (by rw [hup x h0 hx]; exact ih (by omega))
      have hg' : GoodTo (l.take m.toNat) (l.take m.toNat).length := by
        rw [htl]; intro i h0 h1
        rcases hg i h0 (by omega) with h | h
        (exact .inl ⟨h.1, by rw [hup _ (by omega) (by omega)]; exact h.2⟩); (exact .inr ⟨h.1, by rw [hup _ (by omega) (by omega)]; exact han _ _ h.2 (by omega)⟩)
      obtain ⟨n, q1, q2, q3, q4⟩ := built_all (l.take m.toNat) (by omega) (fun y hy => hs y (List.mem_of_mem_take hy)) hg' (by omega)
      have T : Tied l m n := ⟨m0, m1, hl, hg, q2, q3, by omega, low⟩
      obtain ⟨c, c1, c2, c3⟩ := T.check hdp
      by_cases c0 : c.2 = 0
      · have hm := (c3 c0).1
        have htk : l.take m.toNat = l := List.take_of_length_le (by omega)
        have hT := hJ (n.f0, n.f1, n.f2, n.f3, n.f4, 0) (by
          have : Ev (fun k => (flat_build.f k (l.take m.toNat) 0).bind fun bt188 => ((vtree_Check.f k bt188.1 bt188.2.1 bt188.2.2.1 bt188.2.2.2.1 bt188.2.2.2.2.1).bind fun bt199 => (if bt199.2 = 0 then (some (bt188.1, bt188.2.1, bt188.2.2.1, bt188.2.2.2.1, bt188.2.2.2.2.1, (0 : Int))) else (some ((⟨#[]⟩ : ByteArray), (⟨#[]⟩ : ByteArray), (⟨#[]⟩ : ByteArray), ([] : List (S69)), ([] : List (S25)), bt199.2))))) (n.f0, n.f1, n.f2, n.f3, n.f4, 0) := Ev.bind q1 (Ev.bind c1 ((Ev.pure _).eq (fun k => by rw [if_pos c0])))
          exact this.step (fun k => rfl))
        exact ⟨c.2, c2, by rw [c0]; exact chk _ hT, .inr ⟨c0, hg, n, c, q3, by omega, by rw [htk] at q2; exact q2, hT, c1, c0⟩⟩
      · have hT := hJ ((⟨#[]⟩ : ByteArray), (⟨#[]⟩ : ByteArray), (⟨#[]⟩ : ByteArray), ([] : List (S69)), ([] : List (S25)), c.2) (by
          have : Ev (fun k => (flat_build.f k (l.take m.toNat) 0).bind fun bt188 => ((vtree_Check.f k bt188.1 bt188.2.1 bt188.2.2.1 bt188.2.2.2.1 bt188.2.2.2.2.1).bind fun bt199 => (if bt199.2 = 0 then (some (bt188.1, bt188.2.1, bt188.2.2.1, bt188.2.2.2.1, bt188.2.2.2.2.1, (0 : Int))) else (some ((⟨#[]⟩ : ByteArray), (⟨#[]⟩ : ByteArray), (⟨#[]⟩ : ByteArray), ([] : List (S69)), ([] : List (S25)), bt199.2))))) ((⟨#[]⟩ : ByteArray), (⟨#[]⟩ : ByteArray), (⟨#[]⟩ : ByteArray), ([] : List (S69)), ([] : List (S25)), c.2) := Ev.bind q1 (Ev.bind c1 ((Ev.pure _).eq (fun k => by rw [if_neg c0])))
          exact this.step (fun k => rfl))
        exact ⟨c.2, c2, chk _ hT, .inl ⟨c0, hT⟩⟩
    cases d with
    | true =>
      obtain ⟨m, w0, w1', w2, w3, w4, w5⟩ := cut_ev l hl hg hp; refine main m w1' w2 (fun j e a b h => ?_) (fun hm => ?_) (fun x hx => ?_)
      · rcases Int.lt_or_eq_of_le b with b | rfl
        · have := w3 j e a b h; omega
        · exact w4 e h
      (obtain ⟨e, he, _⟩ := Dp.ex hg m.toNat m rfl (by omega) w2; refine ⟨e, he, ?_⟩; apply Int.not_le.1; intro hle; have := w5 (fun e' he' => by rw [← he.uniq he']; exact hle); omega); (exact hb.via0 (hd.via0 (w0.via0 hx (F := fun k => (flat_cut.f k l).bind fun t185 => (flat_Tree.j0 k t185)) (fun k hk => by rw [hk, Option.bind_some])) (F := fun k => (flat_deep.f k l).bind fun t184 => (if t184 = true then ((flat_cut.f k l).bind fun t185 => (flat_Tree.j0 k t185)) else (flat_Tree.j0 k l))) (fun k hk => by rw [hk, Option.bind_some, if_pos rfl])) (fun k hk => by rw [flat_Tree.f, if_neg (by omega), hk, Option.bind_some, if_pos rfl]))
    | false =>
      have hno : ¬ ((∃ j e : Int, 0 ≤ j ∧ j ≤ l.length ∧ Dp l j e ∧ e > 64) ∨ (l.length : Int) > 4096) := fun h => by have := hdi.2 h; cases this
      refine main l.length (by omega) (Int.le_refl _) (fun j e a b h => ?_) (fun hm => by omega) (fun x hx => ?_); (apply Int.not_lt.1; intro h65; exact hno (.inl ⟨j, e, a, b, h, by omega⟩)); (rw [show l.take ((l.length : Int)).toNat = l from List.take_of_length_le (by omega)] at hx; exact hb.via0 (hd.via0 hx (F := fun k => (flat_deep.f k l).bind fun t184 => (if t184 = true then ((flat_cut.f k l).bind fun t185 => (flat_Tree.j0 k t185)) else (flat_Tree.j0 k l))) (fun k hk => by rw [hk, Option.bind_some, if_neg (by decide)])) (fun k hk => by rw [flat_Tree.f, if_neg (by omega), hk, Option.bind_some, if_pos rfl]))
theorem few_L (ks : List S25) (hp : ∀ y ∈ ks, ∀ at_ up, (∀ r ∈ rowsT y at_ up, r.f5.length ≤ 1000000000) → FewA y) : ∀ at_ up, (∀ r ∈ rowsL ks at_ up, r.f5.length ≤ 1000000000) → ∀ y ∈ ks, FewA y := by
  induction ks with
  | nil => intro at_ up _ y hy; cases hy
  | cons z zs ih =>
    intro at_ up h y hy; rw [rowsL] at h
    rcases List.mem_cons.1 hy with rfl | hy
    (exact hp y (by simp) at_ up (fun r hr => h r (List.mem_append_left _ hr))); (exact ih (fun w hw => hp w (by simp [hw])) (at_ + szT z) up (fun r hr => h r (List.mem_append_right _ hr)) y hy)
theorem few_T (x : S25) (h : Sm25 x) : ∀ at_ up, (∀ r ∈ rowsT x at_ up, r.f5.length ≤ 1000000000) → FewA x := by
  induction h with
  | @mk x h0 h1 h2 h3 h4 h5 ih =>
    intro at_ up hr; rw [rowsT_eq] at hr; exact .mk (hr _ List.mem_cons_self) (few_L x.f4 ih (at_ + 1) (at_ + 1) (fun r h => hr r (List.mem_cons_of_mem _ h)))
theorem rowsEq_z0 : ∀ l : List S53, rowsEq (l.map z0) l = true
  | [] => rfl
  | x :: xs => by
    rw [List.map_cons, rowsEq, rowsEq_z0 xs]
    have : rowEq (z0 x) x = rowEq x x := rfl
    rw [this, rowEq_refl]
    rfl
/-- The tree that is nothing. -/
theorem nodes_nil : Ev (fun k => pl_Nodes.f k (⟨#[]⟩ : ByteArray) (⟨#[]⟩ : ByteArray) (⟨#[]⟩ : ByteArray) ([] : List (S69)) ([] : List (S25)) (⟨#[]⟩ : ByteArray) (⟨#[]⟩ : ByteArray) (⟨#[]⟩ : ByteArray) ([] : List (S69)) ([] : List (S25))) true := by
  have : Sm25 ⟨⟨#[]⟩, ⟨#[]⟩, ⟨#[]⟩, [], []⟩ := Sm25.mk (by show (0 : Nat) ≤ _; omega) (by show (0 : Nat) ≤ _; omega) (by show (0 : Nat) ≤ _; omega) ⟨by simp, by simp⟩ (by simp) (by simp); exact nodes_refl _ this
theorem FlatTrees : ∀ (x0 : List (S53)), (x0.length * 88 ≤ 140737488351232 ∧ ∀ y ∈ x0, Sm53 y) → ∃ k, lw_FlatTrees.f k x0 = some true := by
  rintro l ⟨hl, hs⟩; obtain ⟨b, hb, hbi⟩ := fewR2 l hl hs 600 (by omega) (by omega); refine Ev.ex (r := true) ?_; have hsame : Ev (fun k => (lw_same.f k).bind fun t => (some t)) true := Ev.bind same_ev (Ev.pure true)
  cases b with
  | false => exact hb.via0 hsame (fun k hk => by rw [lw_FlatTrees.f, hk, Option.bind_some, if_neg (by decide)])
  | true =>
    obtain ⟨hn, hatt⟩ := hbi rfl
    by_cases c0 : l.length = 0
    · have c0' : (l.length : Int) = 0 := by omega
      have hT : Ev (fun k => flat_Tree.f k l) ((⟨#[]⟩ : ByteArray), (⟨#[]⟩ : ByteArray), (⟨#[]⟩ : ByteArray), ([] : List (S69)), ([] : List (S25)), 23) := (Ev.pure _).eq (fun k => by rw [flat_Tree.f, if_pos c0'])
      have hC : Ev (fun k => flat_Check.f k l) 0 := (Ev.pure _).eq (fun k => by rw [flat_Check.f, if_pos c0'])
      obtain ⟨b', hb', hbi'⟩ := Formed_ev l (by omega)
      obtain rfl : b' = true := hbi'.2 (fun i h0 h1 => by omega)
      have hR : Ev (fun k => r13_Check.f k l) 0 := by
        unfold r13_Check.f; refine Ev.bind hb' ?_; have : Ev (fun k => r13_Check.l0 k l l.length 0) 0 := (Ev.pure _).step (fun k => by rw [r13_Check.l0, if_neg (by omega)]); exact this.eq (fun k => by rw [if_pos rfl])
      unfold lw_FlatTrees.f
      refine Ev.bind hb ?_
      simp only [↓reduceIte]
      refine Ev.bind hT (Ev.bind hR (Ev.bind hC ?_))
      simp only [↓reduceIte, c0']
      refine Ev.bind nodes_nil ?_
      simp only [↓reduceIte]
      exact hsame
    · have c0' : ¬ (l.length : Int) = 0 := by omega
      obtain ⟨e, hR, hC, h | h⟩ := rows_any l (by omega) hs (by omega)
      · obtain ⟨e0, hT⟩ := h
        unfold lw_FlatTrees.f
        refine Ev.bind hb ?_
        simp only [↓reduceIte]
        refine Ev.bind hT (Ev.bind hR (Ev.bind hC ?_))
        simp only [↓reduceIte, c0', e0]
        refine Ev.bind nodes_nil ?_
        simp only [↓reduceIte]
        exact hsame
      · obtain ⟨rfl, hg, n, c, n1, n2, n3, hT, hv, hv0⟩ := h
        have hne : (⟨n.f0, n.f1, n.f2, n.f3, n.f4⟩ : S25) = n := by cases n; rfl
        have hfa : FewA n := few_T n n1 0 0 (fun r hr => by
          rw [← n3] at hr; obtain ⟨y, hy, rfl⟩ := List.mem_map.1 hr; obtain ⟨j, hj, rfl⟩ := List.getElem_of_mem hy; have := hatt j (by omega) (by omega); unfold rd_T53 at this; rw [List.getD_eq_getElem?_getD, Int.toNat_natCast, List.getElem?_eq_getElem hj, Option.getD_some] at this
          show (l[j]).f5.length ≤ _
          omega)
        have hput := put_T n n1 hfa [] 0 (by simp; omega)
        simp only [List.nil_append, List.length_nil, Int.ofNat_zero] at hput
        have r1 : Ev (fun k => flat_Rows.f k n.f0 n.f1 n.f2 n.f3 n.f4) (rowsT n 0 0, 0) := by
          unfold flat_Rows.f; refine Ev.bind hv ?_; exact (Ev.bind hput (g := fun k l => some (l, (0 : Int))) (Ev.pure _)).eq (fun k => by rw [if_pos hv0, hne])
        have hrl := rowsT_len n n1 0 0
        have hsm := smT n n1 0 0 (by omega) (by omega) (by omega) (by omega)
        have hE : rowsEq (rowsT n 0 0) l = true := by rw [← n3]; exact rowsEq_z0 l
        have hSh := shapes_ev (rowsT n 0 0) l (by omega) hsm
        have hSa := flatSame_ev (rowsT n 0 0) l (by omega) hsm
        rw [hE] at hSh hSa
        have hT13 := tree_ev l (by omega) hg n n1 n3
        unfold lw_FlatTrees.f
        refine Ev.bind hb ?_
        simp only [↓reduceIte]
        refine Ev.bind hT (Ev.bind hR (Ev.bind hC ?_))
        simp only [↓reduceIte, c0']
        refine Ev.bind r1 ?_
        simp only [↓reduceIte]
        refine Ev.bind hT13 (Ev.bind (nodes_refl n n1) ?_)
        simp only [↓reduceIte]
        refine Ev.bind hSh ?_
        simp only [↓reduceIte]
        refine Ev.bind hSa ?_
        simp only [↓reduceIte]
        exact hsame
end Go.Proofs.Ytcebfldagnjddaa.Pure
