/- A copy by hand (tendrillaw11.twin), in plain words: it gives its argument back, where lengths permit. -/
import Derived.Test.YtafkgjnafddgbaaGx0
import Derived.Test.YtafkgjnafddgbaaH2
namespace Go.Proofs.Ytafkgjnafddgbaa.G
open Go.RowKit Go.Proofs.YtafkgjnafddgbaaW.PrintWords Go.Proofs.YtafkgjnafddgbaaW.PrintLast Go.Proofs.YtafkgjnafddgbaaW.PrintMore
set_option linter.unusedVariables false

/-- Trees that a copy can be made of, with so many rounds. -/
def twk : Nat → List S25 → Bool
  | 0, _ => false
  | _ + 1, [] => true
  | k + 1, x :: xs => (decide (x.f3.length * 32 ≤ 140737488351232) && decide (x.f4.length * 96 ≤ 140737488351232) && twk k x.f4) && twk k xs
def twk1 (k : Nat) (x : S25) : Bool := decide (x.f3.length * 32 ≤ 140737488351232) && decide (x.f4.length * 96 ≤ 140737488351232) && twk k x.f4
theorem twk_cons (k : Nat) (x : S25) (xs : List S25) : twk (k + 1) (x :: xs) = (twk1 k x && twk k xs) := rfl
def tendrillaw11_twin.f (k : Nat) (a0_0 : ByteArray) (a0_1 : ByteArray) (a0_2 : ByteArray) (l0_3 : List (S42)) (l0_4 : List (S25)) : Option (ByteArray × ByteArray × ByteArray × (List (S42)) × (List (S25))) := if twk1 k ⟨a0_0, a0_1, a0_2, l0_3, l0_4⟩ = true then some (a0_0, a0_1, a0_2, l0_3, l0_4) else none
end Go.Proofs.Ytafkgjnafddgbaa.G
/- append(s[:0:0], s...): a copy of a list of attributes, in new memory if there are any. -/
namespace Go.Proofs.Ytafkgjnafddgbaa.G
open Go.RowKit Go.Proofs.YtafkgjnafddgbaaW.PrintWords Go.Proofs.YtafkgjnafddgbaaW.PrintLast Go.Proofs.YtafkgjnafddgbaaW.PrintMore
set_option linter.unusedVariables false
set_option linter.unusedSimpArgs false

theorem info42c : (Try.prog.info? 42).map (fun i => (i.zero, i.size, i.bytes)) = some (some (.agg #[(.string ⟨#[]⟩), (.string ⟨#[]⟩)]), 2, 32) := by kernel_rfl
theorem cut_run (W : World) (A : Option Addr) (l : List S42) (c : Nat) (hC : Kd.C k42 W A l.length l) (hl : l.length * 32 ≤ 140737488351232) :
    ∃ v1 W1, (Builtin.append_ #[22, 22] 22 #[.slice A 0 0, .slice A l.length c]).run Try.prog W = .ok v1 W1 ∧ Kd.V k42 42 W1 W.heap.size (fun k => W.heap.size ≤ k) v1 l ∧ Below W.heap.size W W1 := by
  obtain ⟨i0, hi, hzz⟩ := Option.map_eq_some_iff.1 info42c
  simp only [Prod.mk.injEq] at hzz
  obtain ⟨hz0, hz1, hz2⟩ := hzz
  have ht := Try.underlying22
  by_cases hn : l = []
  · subst hn
    refine ⟨.slice A 0 0, W, ?_, ⟨A, 0, rfl, Nat.le_refl _, fun W' _ => ⟨rfl, by simp, fun h => absurd h (by simp)⟩⟩, Below.refl _ _⟩
    rcases A with _ | ad
    · simp [Builtin.append_, run_underlying ht, sizeOf, typeInfo, hi, Builtin.lenOf, Builtin.firstCells, loadCells, loadCellsFrom]
    · simp [Builtin.append_, run_underlying ht, sizeOf, typeInfo, hi, Builtin.lenOf, Builtin.firstCells, loadCells, loadCellsFrom, storeCells]
  · have h0 : 0 < l.length := List.length_pos_iff.2 hn
    obtain ⟨ad, e, _⟩ := hC.2.2 h0
    subst e
    obtain ⟨news, hnr, hnc⟩ := ReadsRow.inner_ (show ReadsRow (k42.K W) k42.sz W (some ad) l.length l from hC)
    have hnl : news.length = l.length * 2 := hnr.1
    have hone : ∀ u ∈ news, u.oneCell' = true := by
      intro u hu
      obtain ⟨q, hq, rfl⟩ := List.mem_iff_getElem.1 hu
      have hql : q / 2 < l.length := by omega
      have hc := hnr.2 (q / 2) _ (List.getElem?_eq_getElem hql)
      refine k42.K_one hc _ ?_
      rw [List.mem_iff_getElem?]
      refine ⟨q % 2, ?_⟩
      show ((news.drop (q / 2 * 2)).take 2)[q % 2]? = _
      rw [List.getElem?_take, if_pos (Nat.mod_lt _ (by omega)), List.getElem?_drop, Nat.mul_comm, Nat.div_add_mod, List.getElem?_eq_getElem hq]
    obtain ⟨v1, w1, hrun, h2, hg, _, hat⟩ := run_append_own_at (P := Try.prog) W W.heap.size 22 22 42 i0 _ 2 32 ht hi hz0 hz1 hz2 rfl (by omega) (.slice none 0 0) 0 [] (World.ownsRow_nil W _ _ _) ad l.length c news hnl hnc hone (by simp only [maxLen]; omega) (by omega) (Nat.le_refl _)
    have hr1 := run_append_nil (P := Try.prog) W 22 22 42 i0 _ ht hi hz0 ad l.length c news (by rw [hz1]; exact hnl) hnc h0 (by omega) (by rw [hz2]; omega)
    have hr2 := run_append_grow (P := Try.prog) W 22 22 42 i0 _ ht hi hz0 ad 0 0 [] (by simp) (fun j v h => by simp at h) ad l.length c news (by rw [hz1]; exact hnl) hnc (by omega) (by omega) (growslice_fits (by omega) (by rw [hz2]; omega))
    have heq : (Builtin.append_ #[22, 22] 22 #[.slice (some ad) 0 0, .slice (some ad) l.length c]).run Try.prog W = .ok v1 w1 := by
      rw [hr2, ← hrun, hr1]
      simp only [Nat.zero_add, List.nil_append, Array.empty_append]
    have hb : Below W.heap.size W w1 := ⟨hg.os, hg.tape, hg.output, hg.size, fun k hk => hg.block k hk (by simp [Value.ownBlock])⟩
    have hR : Kd.R k42 42 w1 W.heap.size (fun k => W.heap.size ≤ k) v1 l := by
      refine ⟨fun k hk => ?_, news, ?_, ?_⟩
      · exact (h2.lt k hk).1
      · have h3 : w1.ownsRow W.heap.size 42 2 v1 l.length news := by simpa using h2
        exact h3
      · exact hnr.imp_ (fun x cs hx => by have hx := k42_open hx; subst hx; exact k42_mkM _ _ _ x)
    obtain ⟨A1, c1, e1⟩ := Kd.R_slice hR
    subst e1
    exact ⟨_, _, heq, ⟨A1, c1, rfl, (Kd.R_reads' hR).2.1, Kd.R_F hR⟩, hb⟩
end Go.Proofs.Ytafkgjnafddgbaa.G
/- The walk of tendrillaw11.twin. -/
namespace Go.Proofs.Ytafkgjnafddgbaa.G
open Go.RowKit Go.Proofs.YtafkgjnafddgbaaW.PrintWords Go.Proofs.YtafkgjnafddgbaaW.PrintLast Go.Proofs.YtafkgjnafddgbaaW.PrintMore
set_option linter.unusedVariables false
set_option linter.unusedSimpArgs false

theorem set5 {W : World} {g : Nat} {u0 u1 u2 u3 u4 : Value} (h : W.heap[g]? = some (.cells #[u0, u1, u2, u3, u4] 25 (0, 0))) (v0 v1 v2 v3 v4 : Value) : (((((W.setCell ⟨g, 0, none⟩ v0).setCell ⟨g, 1, none⟩ v1).setCell ⟨g, 2, none⟩ v2).setCell ⟨g, 3, none⟩ v3).setCell ⟨g, 4, none⟩ v4).heap[g]? = some (.cells #[v0, v1, v2, v3, v4] 25 (0, 0)) :=
  blk_put (cs := #[v0, v1, v2, v3, u4]) (blk_put (cs := #[v0, v1, v2, u3, u4]) (blk_put (cs := #[v0, v1, u2, u3, u4]) (blk_put (cs := #[v0, u1, u2, u3, u4]) (blk_put (cs := #[u0, u1, u2, u3, u4]) h 0 v0 rfl) 1 v1 rfl) 2 v2 rfl) 3 v3 rfl) 4 v4 rfl
theorem set5_far {W : World} {g b : Nat} (h : b ≠ g) (v0 v1 v2 v3 v4 : Value) : (((((W.setCell ⟨g, 0, none⟩ v0).setCell ⟨g, 1, none⟩ v1).setCell ⟨g, 2, none⟩ v2).setCell ⟨g, 3, none⟩ v3).setCell ⟨g, 4, none⟩ v4).heap[b]? = W.heap[b]? := by
  rw [Below.heap_setCell _ ⟨g, 4, none⟩ v4 b h, Below.heap_setCell _ ⟨g, 3, none⟩ v3 b h, Below.heap_setCell _ ⟨g, 2, none⟩ v2 b h, Below.heap_setCell _ ⟨g, 1, none⟩ v1 b h, Below.heap_setCell _ ⟨g, 0, none⟩ v0 b h]
theorem set5_below {w0 W : World} {g : Nat} (h : Below w0.heap.size w0 W) (hg : w0.heap.size ≤ g) (v0 v1 v2 v3 v4 : Value) : Below w0.heap.size w0 (((((W.setCell ⟨g, 0, none⟩ v0).setCell ⟨g, 1, none⟩ v1).setCell ⟨g, 2, none⟩ v2).setCell ⟨g, 3, none⟩ v3).setCell ⟨g, 4, none⟩ v4) :=
  below_set (below_set (below_set (below_set (below_set h hg) hg) hg) hg) hg

def TW (k : Nat) : Prop := ∀ (a0_0 : ByteArray) (a0_1 : ByteArray) (a0_2 : ByteArray) (A0_3 : Option Addr) (c0_3 : Nat) (l0_3 : List (S42)) (A0_4 : Option Addr) (c0_4 : Nat) (l0_4 : List (S25)) (w : World) (hr0_3 : Kd.C k42 w A0_3 l0_3.length l0_3) (hc0_3 : l0_3.length ≤ c0_3) (hr0_4 : Kd.C k25 w A0_4 l0_4.length l0_4) (hc0_4 : l0_4.length ≤ c0_4) (h : twk1 k ⟨a0_0, a0_1, a0_2, l0_3, l0_4⟩ = true),
    Calls Try.prog 19 #[.agg #[.string a0_0, .string a0_1, .string a0_2, .slice A0_3 l0_3.length c0_3, .slice A0_4 l0_4.length c0_4]] w fun e w' => ∃ v3_ v4_ : Value, e = .returned (.agg #[.string a0_0, .string a0_1, .string a0_2, v3_, v4_]) ∧ Kd.V k42 42 w' w.heap.size (fun k_ => w.heap.size ≤ k_) v3_ l0_3 ∧ Kd.V k25 25 w' w.heap.size (fun k_ => w.heap.size ≤ k_) v4_ l0_4 ∧ Below w.heap.size w w'

theorem run_append_op {P : Program} {o : Oper} {a : Act} {w w' : World} {s x : Operand} {t : TypeId} {vs vx v : Value} (ho : o.op = .call { callee := .builtin .append, args := #[s, x], argTypes := #[t, t] }) (hs : a.eval s = vs) (hx : a.eval x = vx)
    (hrun : (Builtin.append_ #[t, t] o.type #[vs, vx]).run P w = .ok v w') : (execOp a.eval o).run P w = .ok (.value v) w' := by
  unfold execOp
  simp only [ho, resolve, invoke, builtin, Sem.run_bind, Sem.run_pure, Result.andThen_ok, List.map_toArray, List.map_cons, List.map_nil, hs, hx, hrun]

theorem take_T25 (l : List S25) (i : Int) (h0 : 0 ≤ i) (h : i < l.length) : l.take (i + 1).toNat = l.take i.toNat ++ [rd_T25 l i] := by
  have e : (i + 1).toNat = i.toNat + 1 := by omega
  rw [e, List.take_add_one]
  unfold rd_T25
  rw [List.getD_eq_getElem?_getD, List.getElem?_eq_getElem (by omega)]
  rfl
/-- The three variables in memory: the argument, the result, the copy. -/
structure TF (w : World) (g1 g2 g3 : Nat) (r1 r3 : Array Value) (W : World) : Prop where
  b1 : W.heap[g1]? = some (.cells r1 25 (0, 0))
  b2 : W.heap[g2]? = some (.cells #[.string ⟨#[]⟩, .string ⟨#[]⟩, .string ⟨#[]⟩, .slice none 0 0, .slice none 0 0] 25 (0, 0))
  b3 : W.heap[g3]? = some (.cells r3 25 (0, 0))
  B : Below w.heap.size w W
  l1 : w.heap.size ≤ g1
  l2 : g1 < g2
  l3 : g2 < g3
theorem TF.below {w W W' : World} {g1 g2 g3 : Nat} {r1 r3 : Array Value} (h : TF w g1 g2 g3 r1 r3 W) (hb : Below W.heap.size W W') : TF w g1 g2 g3 r1 r3 W' :=
  ⟨blk_below h.b1 hb, blk_below h.b2 hb, blk_below h.b3 hb, h.B.trans (hb.mono h.B.size), h.l1, h.l2, h.l3⟩
theorem TF.put {w W : World} {g1 g2 g3 : Nat} {r1 r3 r4 : Array Value} (h : TF w g1 g2 g3 r1 r3 W) (i : Nat) (u : Value) (e : r3.setIfInBounds i u = r4) : TF w g1 g2 g3 r1 r4 (W.setCell ⟨g3, i, none⟩ u) :=
  ⟨blk_far h.b1 (p := ⟨g3, i, none⟩) (Nat.ne_of_lt (Nat.lt_trans h.l2 h.l3)) u, blk_far h.b2 (p := ⟨g3, i, none⟩) (Nat.ne_of_lt h.l3) u, blk_put h.b3 i u e, below_set h.B (Nat.le_trans h.l1 (Nat.le_of_lt (Nat.lt_trans h.l2 h.l3))), h.l1, h.l2, h.l3⟩
set_option maxHeartbeats 4000000 in
set_option maxRecDepth 100000 in
theorem twin (k : Nat) : TW k := by
  induction k using Nat.strongRecOn with
  | _ k ih =>
  intro a0 a1 a2 A3 c3 l3 A4 c4 l4 w hr3 hc3 hr4 hc4 h
  have H3 := Aside0.mk hr3
  have H4 := Aside0.mk hr4
  have C3 := Aside0.mk hc3
  have C4 := Aside0.mk hc4
  have H := Aside0.mk h
  have IH := Aside0.mk ih
  clear hr3 hc3 hr4 hc4 h ih
  go_enter Try.func19, Try.ntmps19
  go_upto_region 2 with (first | ((with_reducible refine gate_dst (N := 1) rfl ?_); refine box_event ?hg (N := 1) ?hd (cs := #[.string a0, .string a1, .string a2, .slice A3 l3.length c3, .slice A4 l4.length c4]) (t := 25) ?hr ?_; (case hd => rfl); (case hg => rfl); (case hr => first | (go_simp; done) | (go_simp; rfl)); intro g1 hg w1 hbox hb; have G1 := Aside0.mk hg; have X1 := Aside0.mk hbox; have B1 := Aside0.mk hb; clear hbox hb hg) | ((with_reducible refine gate_dst (N := 2) rfl ?_); refine box_event ?hg (N := 2) ?hd (cs := #[.string ⟨#[]⟩, .string ⟨#[]⟩, .string ⟨#[]⟩, .slice none 0 0, .slice none 0 0]) (t := 25) ?hr ?_; (case hd => rfl); (case hg => rfl); (case hr => first | (go_simp; done) | (go_simp; rfl)); intro g2 hg w2 hbox hb; have G2 := Aside0.mk hg; have X2 := Aside0.mk hbox; have B2 := Aside0.mk hb; have g10 : w2.cell? ⟨g1, 0, none⟩ = some (.string a0) := (blk_cell (blk_below X1.out hb) 0).trans rfl; have g11 : w2.cell? ⟨g1, 1, none⟩ = some (.string a1) := (blk_cell (blk_below X1.out hb) 1).trans rfl; have g12 : w2.cell? ⟨g1, 2, none⟩ = some (.string a2) := (blk_cell (blk_below X1.out hb) 2).trans rfl; have g13 : w2.cell? ⟨g1, 3, none⟩ = some (.slice A3 l3.length c3) := (blk_cell (blk_below X1.out hb) 3).trans rfl; have g14 : w2.cell? ⟨g1, 4, none⟩ = some (.slice A4 l4.length c4) := (blk_cell (blk_below X1.out hb) 4).trans rfl; clear hbox hb hg) | ((with_reducible refine gate_dst (N := 3) rfl ?_); refine box_event ?hg (N := 3) ?hd (cs := #[.string ⟨#[]⟩, .string ⟨#[]⟩, .string ⟨#[]⟩, .slice none 0 0, .slice none 0 0]) (t := 25) ?hr ?_; (case hd => rfl); (case hg => rfl); (case hr => first | (go_simp; done) | (go_simp; rfl)); intro g3 hg w3 hbox hb; have G3 := Aside0.mk hg; have X3 := Aside0.mk hbox; have B3 := Aside0.mk hb; have c30 : w3.cell? ⟨g3, 0, none⟩ = some (.string ⟨#[]⟩) := (blk_cell hbox 0).trans rfl; have c31 : w3.cell? ⟨g3, 1, none⟩ = some (.string ⟨#[]⟩) := (blk_cell hbox 1).trans rfl; have c32 : w3.cell? ⟨g3, 2, none⟩ = some (.string ⟨#[]⟩) := (blk_cell hbox 2).trans rfl; have c33 : w3.cell? ⟨g3, 3, none⟩ = some (.slice none 0 0) := (blk_cell hbox 3).trans rfl; have c34 : w3.cell? ⟨g3, 4, none⟩ = some (.slice none 0 0) := (blk_cell hbox 4).trans rfl; have f30 := blk_frozen hbox 0; have f31 := blk_frozen hbox 1; have f32 := blk_frozen hbox 2; have f33 := blk_frozen hbox 3; have f34 := blk_frozen hbox 4; clear hbox hb hg))
  obtain ⟨W, hW⟩ : ∃ W, (((((w3.setCell ⟨g3, 0, none⟩ (.string a0)).setCell ⟨g3, 1, none⟩ (.string a1)).setCell ⟨g3, 2, none⟩ (.string a2)).setCell ⟨g3, 3, none⟩ (.slice A3 l3.length c3)).setCell ⟨g3, 4, none⟩ (.slice A4 l4.length c4)) = W := ⟨_, rfl⟩
  rw [hW]
  have T := Aside0.mk (show TF w g1 g2 g3 #[.string a0, .string a1, .string a2, .slice A3 l3.length c3, .slice A4 l4.length c4] #[.string a0, .string a1, .string a2, .slice A3 l3.length c3, .slice A4 l4.length c4] W from by
    have b12 := B1.out.trans (B2.out.mono B1.out.size)
    have s1 := B1.out.size
    have s2 := B2.out.size
    have t1 := blk_lt X1.out
    have t2 := blk_lt X2.out
    have h1 := G1.out
    have h2 := G2.out
    have h3 := G3.out
    refine ⟨?_, ?_, ?_, ?_, by omega, by omega, by omega⟩
    · rw [← hW, set5_far (by omega)]; exact blk_below (blk_below X1.out B2.out) B3.out
    · rw [← hW, set5_far (by omega)]; exact blk_below X2.out B3.out
    · rw [← hW]; exact set5 X3.out _ _ _ _ _
    · rw [← hW]; exact set5_below (b12.trans (B3.out.mono b12.size)) (by omega) _ _ _ _ _)
  clear hW c30 c31 c32 c33 c34 f30 f31 f32 f33 f34 g10 g11 g12 g13 g14 X1 X2 X3 B1 B2 B3 G1 G2 G3
  have HL := Aside0.mk (show l3.length * 32 ≤ 140737488351232 ∧ l4.length * 96 ≤ 140737488351232 ∧ twk k l4 = true by have h := H.out; unfold twk1 at h; rw [Bool.and_eq_true, Bool.and_eq_true] at h; exact ⟨of_decide_eq_true h.1.1, of_decide_eq_true h.1.2, h.2⟩)
  clear H
  have g13 : W.cell? ⟨g1, 3, none⟩ = some (.slice A3 l3.length c3) := (blk_cell T.out.b1 3).trans rfl
  go_wp2_with fail
  refine start_ (n := 8) (S := (fun w' => w'.cell? ⟨g1, 3, none⟩ = some (.slice A3 l3.length c3))) (ds := [7]) #[false, false, false, false, false, false, false, false] (by kernel_rfl) rfl rfl ?_ ?_
  · exact g13
  intro hHeld
  obtain ⟨W5, hW5⟩ : ∃ W5, W.drew = W5 := ⟨_, rfl⟩; rw [hW5] at hHeld ⊢; have T5 := Aside0.mk (T.out.below (hW5 ▸ below_drew (Below.refl _ _))); clear hW5
  refine pure_ (i := 0) (N := some 6) (v := ?_) (a' := ?_) #[true, false, false, false, false, false, false, false] rfl rfl (by kernel_rfl) (fun _ _ _ h => h) (Or.inl ⟨by rfl, ?_⟩) ?_ ?_
  rotate_left
  · intro w'
    go_simp
    with_reducible rfl
  rotate_left
  · simp only [Act.put, List.setIfInBounds_toArray, List.set_cons_zero, List.set_cons_succ, i64_w, i32_w]
    rfl
  refine pure_ (i := 3) (N := some 9) (v := ?_) (a' := ?_) #[true, false, false, true, false, false, false, false] rfl rfl (by kernel_rfl) (fun _ _ _ h => h) (Or.inl ⟨by rfl, ?_⟩) ?_ ?_
  rotate_left
  · intro w'
    go_simp
    with_reducible rfl
  rotate_left
  · simp only [Act.put, List.setIfInBounds_toArray, List.set_cons_zero, List.set_cons_succ, i64_w, i32_w]
    rfl
  refine take_ (i := 1) (N := some 7) (v := ?_) (a' := ?_) #[true, true, false, true, false, false, false, false] rfl rfl (by kernel_rfl) (fun _ _ _ h => h) (Or.inl ⟨by rfl, ?_⟩) hHeld ?_ ?_
  rotate_left
  · intro w' s0
    go_simp
    with_reducible rfl
  rotate_left
  · simp only [Act.put, List.setIfInBounds_toArray, List.set_cons_zero, List.set_cons_succ, i64_w, i32_w]
    rfl
  refine pure_ (i := 2) (N := some 8) (v := ?_) (a' := ?_) #[true, true, true, true, false, false, false, false] rfl rfl (by kernel_rfl) (fun _ _ _ h => h) (Or.inl ⟨by rfl, ?_⟩) ?_ ?_
  rotate_left
  · intro w'
    go_simp
    with_reducible rfl
  rotate_left
  · simp only [Act.put, List.setIfInBounds_toArray, List.set_cons_zero, List.set_cons_succ, i64_w, i32_w]
    rfl
  refine take_ (i := 4) (N := some 10) (v := ?_) (a' := ?_) #[true, true, true, true, true, false, false, false] rfl rfl (by kernel_rfl) (fun _ _ _ h => h) (Or.inl ⟨by rfl, ?_⟩) hHeld ?_ ?_
  rotate_left
  · intro w' s0
    go_simp
    with_reducible rfl
  rotate_left
  · simp only [Act.put, List.setIfInBounds_toArray, List.set_cons_zero, List.set_cons_succ, i64_w, i32_w]
    rfl
  refine one_ (i := 5) (N := some 11) #[true, true, true, true, true, true, false, false] rfl rfl (by kernel_rfl) (by decide) (fun K hK => ?_)
  obtain ⟨_, W6, hrun, ⟨Av, cv, rfl, hcv, hF⟩, hb6⟩ := cut_run W5 A3 l3 c3 (Kd.C_below H3.out T5.out.B) HL.out.1
  have T6 := Aside0.mk (T5.out.below hb6)
  have V3 := Aside0.mk (Kd.F_mono (ok' := fun k => w.heap.size ≤ k ∧ k ≠ g1 ∧ k ≠ g2 ∧ k ≠ g3) hF (fun k hk => by have := blk_lt T5.out.b1; have := blk_lt T5.out.b2; have := blk_lt T5.out.b3; have := T5.out.B.size; exact ⟨by omega, by omega, by omega, by omega⟩))
  have CV := Aside0.mk hcv
  refine value_ (w1 := W6) (v := .slice Av l3.length cv) (by rfl) rfl (run_append_op (s := .tmp 8) (x := .tmp 10) (t := 22) rfl rfl rfl hrun) ?_
  clear hrun hb6 hF hcv
  have c63 : W6.cell? ⟨g1, 3, none⟩ = some (.slice A3 l3.length c3) := (blk_cell T6.out.b1 3).trans rfl
  refine hK.out _ _ c63 (fun hHeld => ?_)
  clear hK K
  refine norm_ (a' := ?_) ?_ ?_
  rotate_left
  · show Act.put _ (some 11) _ = _
    simp only [Act.put, List.setIfInBounds_toArray, List.set_cons_zero, List.set_cons_succ, i64_w, i32_w]
    rfl
  refine pure_ (i := 6) (N := some 12) (v := ?_) (a' := ?_) #[true, true, true, true, true, true, true, false] rfl rfl (by kernel_rfl) (fun _ _ _ h => h) (Or.inl ⟨by rfl, ?_⟩) ?_ ?_
  rotate_left
  · intro w'
    go_simp
    with_reducible rfl
  rotate_left
  · simp only [Act.put, List.setIfInBounds_toArray, List.set_cons_zero, List.set_cons_succ, i64_w, i32_w]
    rfl
  refine last_ (i := 7) (N := none) #[true, true, true, true, true, true, true, true] rfl rfl (by kernel_rfl) (by decide) (fun K hK => ?_)
  have c33 := (blk_cell T6.out.b3 3).trans rfl
  have f33 := blk_frozen T6.out.b3 3
  refine skip_ (w1 := ?_) (by rfl) rfl ?_ ?_
  rotate_left
  · go_simp
    rfl
  refine hK.out _ _ ?_
  clear hK K
  refine done_ (by kernel_rfl) ?_
  have c34 : (W6.setCell ⟨g3, 3, none⟩ (.slice Av l3.length cv)).cell? ⟨g3, 4, none⟩ = some (.slice A4 l4.length c4) := (blk_cell (T6.out.put 3 _ rfl).b3 4).trans rfl
  have f34 := blk_frozen (T6.out.put 3 (.slice Av l3.length cv) rfl).b3 4
  have c14 : (W6.setCell ⟨g3, 3, none⟩ (.slice Av l3.length cv)).cell? ⟨g1, 4, none⟩ = some (.slice A4 l4.length c4) := (blk_cell (T6.out.put 3 _ rfl).b1 4).trans rfl
  have n14 : ¬ (g1 = g3) := by have := T6.out.l2; have := T6.out.l3; omega
  go_wp2_with fail
  obtain ⟨W7, hW7⟩ : ∃ W7, (W6.setCell ⟨g3, 3, none⟩ (.slice Av l3.length cv)).setCell ⟨g3, 4, none⟩ (.slice none 0 0) = W7 := ⟨_, rfl⟩
  rw [hW7]
  have T7 := Aside0.mk (show TF w g1 g2 g3 #[.string a0, .string a1, .string a2, .slice A3 l3.length c3, .slice A4 l4.length c4] #[.string a0, .string a1, .string a2, .slice Av l3.length cv, .slice none 0 0] W7 from hW7 ▸ (T6.out.put 3 (.slice Av l3.length cv) rfl).put 4 (.slice none 0 0) rfl)
  have V7 := Aside0.mk (show Kd.F k42 W7 (fun k => w.heap.size ≤ k ∧ k ≠ g1 ∧ k ≠ g2 ∧ k ≠ g3) Av l3.length l3 from hW7 ▸ Kd.F_far (p := ⟨g3, 4, none⟩) (Kd.F_far (p := ⟨g3, 3, none⟩) V3.out (fun k hk => hk.2.2.2) _) (fun k hk => hk.2.2.2) _)
  clear hW7 T T5 T6 V3 c34 f34 c14 n14 g13
  go_loopg [4, 17] k (fun kq v4 v17 W' => ∃ (i : Int) (u : Value), v17 = .int .i64 i ∧ Aside0 (0 ≤ i ∧ i ≤ l4.length ∧ twk kq (l4.drop i.toNat) = true ∧ kq ≤ k) ∧ Aside0 (TF w g1 g2 g3 #[.string a0, .string a1, .string a2, .slice A3 l3.length c3, .slice A4 l4.length c4] #[.string a0, .string a1, .string a2, .slice Av l3.length cv, u] W') ∧ Aside0 (Kd.F k42 W' (fun k => (w.heap.size ≤ k ∧ k ≠ g1 ∧ k ≠ g2 ∧ k ≠ g3) ∧ some k ≠ u.ownBlock) Av l3.length l3) ∧ Aside0 (Kd.N k25 25 W' w.heap.size (fun k => w.heap.size ≤ k ∧ k ≠ g1 ∧ k ≠ g2 ∧ k ≠ g3) u (l4.take i.toNat)))
  case atStart => exact ⟨0, .slice none 0 0, rfl, ⟨by omega, by omega, by simpa using HL.out.2.2, by omega⟩, T7, ⟨Kd.F_apart_nil V7.out⟩, ⟨Kd.N_nil _ _ _ _ _⟩⟩
  case round =>
  clear T7 V7
  obtain ⟨i, u, rfl, HI, T, V3, N⟩ := hrel
  cases gk with
  | zero => exact absurd HI.out.2.2.1 (by simp [twk])
  | succ k1 =>
  by_cases hi : i < l4.length
  case neg =>
    have hib : decide (i < (l4.length : Int)) = false := decide_eq_false hi
    have htk : l4.take i.toNat = l4 := List.take_of_length_le (by have := HI.out; omega)
    rw [htk] at N
    obtain ⟨A1, e1, rfl⟩ := Kd.N_slice N.out
    clear HI hi htk
    have c30 := (blk_cell T.out.b3 0).trans rfl
    have c31 := (blk_cell T.out.b3 1).trans rfl
    have c32 := (blk_cell T.out.b3 2).trans rfl
    have c33 := (blk_cell T.out.b3 3).trans rfl
    have c34 := (blk_cell T.out.b3 4).trans rfl
    have c20 := (blk_cell T.out.b2 0).trans rfl
    have c21 := (blk_cell T.out.b2 1).trans rfl
    have c22 := (blk_cell T.out.b2 2).trans rfl
    have c23 := (blk_cell T.out.b2 3).trans rfl
    have c24 := (blk_cell T.out.b2 4).trans rfl
    have f20 := blk_frozen T.out.b2 0
    have f21 := blk_frozen T.out.b2 1
    have f22 := blk_frozen T.out.b2 2
    have f23 := blk_frozen T.out.b2 3
    have f24 := blk_frozen T.out.b2 4
    go_wp2_with fail
    refine bodyPost_ret (results_cell_row rfl _ _ g2 25 #[.string a0, .string a1, .string a2, .slice Av l3.length cv, .slice A1 l4.length e1] (0, 0) _ rfl (set5 T.out.b2 _ _ _ _ _) Try.underlying25 rfl (by kernel_rfl)) rfl ?_
    refine ⟨_, _, rfl, Kd.V_mk CV.out (Kd.F_mono (Kd.F_far (p := ⟨g2, 4, none⟩) (Kd.F_far (p := ⟨g2, 3, none⟩) (Kd.F_far (p := ⟨g2, 2, none⟩) (Kd.F_far (p := ⟨g2, 1, none⟩) (Kd.F_far (p := ⟨g2, 0, none⟩) V3.out (fun k hk => hk.1.2.2.1) _) (fun k hk => hk.1.2.2.1) _) (fun k hk => hk.1.2.2.1) _) (fun k hk => hk.1.2.2.1) _) (fun k hk => hk.1.2.2.1) _) (fun k hk => hk.1.1)), ?_, set5_below T.out.B (by have := T.out.l1; have := T.out.l2; omega) _ _ _ _ _⟩
    exact Kd.V_mono (Kd.V_far (p := ⟨g2, 4, none⟩) (Kd.V_far (p := ⟨g2, 3, none⟩) (Kd.V_far (p := ⟨g2, 2, none⟩) (Kd.V_far (p := ⟨g2, 1, none⟩) (Kd.V_far (p := ⟨g2, 0, none⟩) (Kd.N_V N.out) (fun k hk => hk.2.2.1) _) (fun k hk => hk.2.2.1) _) (fun k hk => hk.2.2.1) _) (fun k hk => hk.2.2.1) _) (fun k hk => hk.2.2.1) _) (fun k hk => hk.1)
  obtain ⟨h0, hi2, htw, hkk⟩ := HI.out
  clear HI
  have hib : decide (i < (l4.length : Int)) = true := decide_eq_true hi
  have hi0 : decide (0 ≤ i) = true := decide_eq_true h0
  rw [drop_T25 _ _ h0 hi, twk_cons, Bool.and_eq_true] at htw
  have HX := Aside0.mk htw.1
  have HY := Aside0.mk htw.2
  have HK := Aside0.mk hkk
  obtain ⟨ad, a3, d3, a4, d4, eA, t0, t1, t2, t3, t4, hd3, hC3, hd4, hC4⟩ := at_T25 H4.out i h0 hi
  subst eA
  obtain ⟨y, hy⟩ : ∃ y, rd_T25 l4 i = y := ⟨_, rfl⟩
  rw [hy] at t0 t1 t2 t3 t4 hd3 hC3 hd4 hC4 HX
  have HTK := Aside0.mk (show l4.take (i + 1).toNat = l4.take i.toNat ++ [y] by rw [← hy]; exact take_T25 _ _ h0 hi)
  have HLT := Aside0.mk (World.block_lt_of_cell? w _ t0)
  replace t0 := (T.out.B.cell (World.block_lt_of_cell? w _ t0)).trans t0
  replace t1 := (T.out.B.cell (World.block_lt_of_cell? w _ t1)).trans t1
  replace t2 := (T.out.B.cell (World.block_lt_of_cell? w _ t2)).trans t2
  replace t3 := (T.out.B.cell (World.block_lt_of_cell? w _ t3)).trans t3
  replace t4 := (T.out.B.cell (World.block_lt_of_cell? w _ t4)).trans t4
  have CC3 := Aside0.mk hC3
  have CC4 := Aside0.mk hC4
  have D3 := Aside0.mk hd3
  have D4 := Aside0.mk hd4
  clear hC3 hC4 hd3 hd4 hy htw hkk hi2
  have hwi : IntKind.i64.wrap (i + 1) = i + 1 := IntWalk.i64_in _ (by have := HL.out.2.1; omega)
  have c14 : wr.cell? ⟨g1, 4, none⟩ = some (.slice (some ad) l4.length c4) := (blk_cell T.out.b1 4).trans rfl
  have c34 : wr.cell? ⟨g3, 4, none⟩ = some u := (blk_cell T.out.b3 4).trans rfl
  go_wp2_with fail
  refine start_ (n := 12) (S := (fun w' => w'.cell? ⟨g3, 4, none⟩ = some u ∧ w'.cell? ⟨g1, 4, none⟩ = some (.slice (some ad) l4.length c4) ∧ w'.cell? (ad.add (i.toNat * 5)) = some (.string y.f0) ∧ w'.cell? ⟨(ad.add (i.toNat * 5)).block, (ad.add (i.toNat * 5)).off + 1, none⟩ = some (.string y.f1) ∧ w'.cell? ⟨(ad.add (i.toNat * 5)).block, (ad.add (i.toNat * 5)).off + 2, none⟩ = some (.string y.f2) ∧ w'.cell? ⟨(ad.add (i.toNat * 5)).block, (ad.add (i.toNat * 5)).off + 3, none⟩ = some (.slice a3 y.f3.length d3) ∧ w'.cell? ⟨(ad.add (i.toNat * 5)).block, (ad.add (i.toNat * 5)).off + 4, none⟩ = some (.slice a4 y.f4.length d4))) (ds := [11]) #[false, false, false, false, false, false, false, false, false, false, false, false] (by kernel_rfl) rfl rfl ?_ ?_
  · exact ⟨c34, c14, t0, t1, t2, t3, t4⟩
  intro hHeld
  obtain ⟨W5, hW5⟩ : ∃ W5, wr.drew = W5 := ⟨_, rfl⟩; rw [hW5] at hHeld ⊢; have T5 := Aside0.mk (T.out.below (hW5 ▸ below_drew (Below.refl _ _))); have V5 := Aside0.mk (show Kd.F k42 W5 _ _ _ _ from hW5 ▸ Kd.F_drew V3.out); have N5 := Aside0.mk (show Kd.N k25 25 W5 _ _ _ _ from hW5 ▸ Kd.N_drew N.out); clear hW5
  refine pure_ (i := 0) (N := some 20) (v := ?_) (a' := ?_) #[true, false, false, false, false, false, false, false, false, false, false, false] rfl rfl (by kernel_rfl) (fun _ _ _ h => h) (Or.inl ⟨by rfl, ?_⟩) ?_ ?_
  rotate_left
  · intro w'
    go_simp
    with_reducible rfl
  rotate_left
  · simp only [Act.put, List.setIfInBounds_toArray, List.set_cons_zero, List.set_cons_succ, i64_w, i32_w]
    rfl
  refine pure_ (i := 2) (N := some 22) (v := ?_) (a' := ?_) #[true, false, true, false, false, false, false, false, false, false, false, false] rfl rfl (by kernel_rfl) (fun _ _ _ h => h) (Or.inl ⟨by rfl, ?_⟩) ?_ ?_
  rotate_left
  · intro w'
    go_simp
    with_reducible rfl
  rotate_left
  · simp only [Act.put, List.setIfInBounds_toArray, List.set_cons_zero, List.set_cons_succ, i64_w, i32_w]
    rfl
  refine pure_ (i := 4) (N := some 24) (v := ?_) (a' := ?_) #[true, false, true, false, true, false, false, false, false, false, false, false] rfl rfl (by kernel_rfl) (fun _ _ _ h => h) (Or.inl ⟨by rfl, ?_⟩) ?_ ?_
  rotate_left
  · intro w'
    go_simp
    with_reducible rfl
  rotate_left
  · simp only [Act.put, List.setIfInBounds_toArray, List.set_cons_zero, List.set_cons_succ, i64_w, i32_w]
    rfl
  refine take_ (i := 1) (N := some 21) (v := ?_) (a' := ?_) #[true, true, true, false, true, false, false, false, false, false, false, false] rfl rfl (by kernel_rfl) (fun _ _ _ h => h) (Or.inl ⟨by rfl, ?_⟩) hHeld ?_ ?_
  rotate_left
  · rintro w' ⟨s0, s1, s2, s3, s4, s5, s6⟩
    go_simp
    with_reducible rfl
  rotate_left
  · simp only [Act.put, List.setIfInBounds_toArray, List.set_cons_zero, List.set_cons_succ, i64_w, i32_w]
    rfl
  refine take_ (i := 3) (N := some 23) (v := ?_) (a' := ?_) #[true, true, true, true, true, false, false, false, false, false, false, false] rfl rfl (by kernel_rfl) (fun _ _ _ h => h) (Or.inl ⟨by rfl, ?_⟩) hHeld ?_ ?_
  rotate_left
  · rintro w' ⟨s0, s1, s2, s3, s4, s5, s6⟩
    go_simp
    with_reducible rfl
  rotate_left
  · simp only [Act.put, List.setIfInBounds_toArray, List.set_cons_zero, List.set_cons_succ, i64_w, i32_w]
    rfl
  refine pure_ (i := 5) (N := some 25) (v := ?_) (a' := ?_) #[true, true, true, true, true, true, false, false, false, false, false, false] rfl rfl (by kernel_rfl) (fun _ _ _ h => h) (Or.inl ⟨by rfl, ?_⟩) ?_ ?_
  rotate_left
  · intro w'
    go_simp
    with_reducible rfl
  rotate_left
  · simp only [Act.put, List.setIfInBounds_toArray, List.set_cons_zero, List.set_cons_succ, i64_w, i32_w]
    rfl
  refine take_ (i := 6) (N := some 26) (v := ?_) (a' := ?_) #[true, true, true, true, true, true, true, false, false, false, false, false] rfl rfl (by kernel_rfl) (fun _ _ _ h => h) (Or.inl ⟨by rfl, ?_⟩) hHeld ?_ ?_
  rotate_left
  · rintro w' ⟨s0, s1, s2, s3, s4, s5, s6⟩
    go_simp
    with_reducible rfl
  rotate_left
  · simp only [Act.put, List.setIfInBounds_toArray, List.set_cons_zero, List.set_cons_succ, i64_w, i32_w]
    rfl
  refine one_ (i := 7) (N := some 27) #[true, true, true, true, true, true, true, true, false, false, false, false] rfl rfl (by kernel_rfl) (by decide) (fun K hK => ?_)
  refine goes_ Try.func19 (by kernel_rfl) rfl #[.agg #[.string y.f0, .string y.f1, .string y.f2, .slice a3 y.f3.length d3, .slice a4 y.f4.length d4]] (by rfl) rfl rfl (by (try simp only [List.map_toArray, List.map_cons, List.map_nil]); first | done | rfl) ?_
  refine (IH.out k1 (by have := HK.out; omega) y.f0 y.f1 y.f2 a3 d3 y.f3 a4 d4 y.f4 W5 (Kd.C_below CC3.out T5.out.B) D3.out (Kd.C_below CC4.out T5.out.B) D4.out HX.out).mono ?_
  rintro e W6 ⟨_, _, rfl, ⟨b3, e3, rfl, he3, hF3⟩, ⟨b4, e4, rfl, he4, hF4⟩, hb⟩
  refine ⟨_, rfl, ?_⟩
  have T6 := Aside0.mk (T5.out.below hb)
  have V6 := Aside0.mk (Kd.F_below V5.out hb)
  have N6 := Aside0.mk (Kd.N_below N5.out hb)
  have hok : ∀ k, W5.heap.size ≤ k → (w.heap.size ≤ k ∧ k ≠ g1 ∧ k ≠ g2 ∧ k ≠ g3) ∧ some k ≠ u.ownBlock := by
    intro k hk
    have := blk_lt T5.out.b1
    have := blk_lt T5.out.b2
    have := blk_lt T5.out.b3
    have := T5.out.B.size
    exact ⟨⟨by omega, by omega, by omega, by omega⟩, fun e => by have := Kd.N_lt N5.out k e.symm; omega⟩
  have P6 := Aside0.mk (show Kd.FK k25 W6 (fun k => (w.heap.size ≤ k ∧ k ≠ g1 ∧ k ≠ g2 ∧ k ≠ g3) ∧ some k ≠ u.ownBlock) y [.string y.f0, .string y.f1, .string y.f2, .slice b3 y.f3.length e3, .slice b4 y.f4.length e4] from k25_mkF W6 _ y he3 (Kd.F_mono hF3 hok) he4 (Kd.F_mono hF4 hok))
  have hs := fun (a : Addr) (v : Value) (h : W5.cell? a = some v) => (hb.cell (World.block_lt_of_cell? W5 _ h)).trans h
  refine hK.out _ _ ⟨hs _ _ hHeld.1, hs _ _ hHeld.2.1, hs _ _ hHeld.2.2.1, hs _ _ hHeld.2.2.2.1, hs _ _ hHeld.2.2.2.2.1, hs _ _ hHeld.2.2.2.2.2.1, hs _ _ hHeld.2.2.2.2.2.2⟩ (fun hHeld => ?_)
  clear hs hok hF3 hF4 he3 he4 hb T5 V5 N5
  clear hK K
  refine norm_ (a' := ?_) ?_ ?_
  rotate_left
  · show Act.put _ (some 27) _ = _
    simp only [Act.put, List.setIfInBounds_toArray, List.set_cons_zero, List.set_cons_succ, i64_w, i32_w]
    rfl
  refine one_ (i := 8) (N := some 28) #[true, true, true, true, true, true, true, true, true, false, false, false] rfl rfl (by kernel_rfl) (by decide) (fun K hK => ?_)
  refine value_ (w1 := ?_) (v := ?_) (by rfl) rfl ?_ ?_
  rotate_left 2
  · go_simp
    constructor
    · rfl
    · rfl
  have hs := fun (a : Addr) (v : Value) (h : W6.cell? a = some v) (o : Obj) => (World.cell?_alloc_lt W6 o _ (World.block_lt_of_cell? W6 _ h)).trans h
  refine hK.out _ _ ⟨hs _ _ hHeld.1 _, hs _ _ hHeld.2.1 _, hs _ _ hHeld.2.2.1 _, hs _ _ hHeld.2.2.2.1 _, hs _ _ hHeld.2.2.2.2.1 _, hs _ _ hHeld.2.2.2.2.2.1 _, hs _ _ hHeld.2.2.2.2.2.2 _⟩ (fun hHeld2 => ?_)
  clear hs
  clear hK K
  refine norm_ (a' := ?_) ?_ ?_
  rotate_left
  · show Act.put _ (some 28) _ = _
    simp only [Act.put, List.setIfInBounds_toArray, List.set_cons_zero, List.set_cons_succ, i64_w, i32_w]
    rfl
  refine one_ (i := 9) (N := some 29) #[true, true, true, true, true, true, true, true, true, true, false, false] rfl rfl (by kernel_rfl) (by decide) (fun K hK => ?_)
  refine Kd.N_append_step k25 (w0 := w) (W := W6) w.heap.size (by rfl) (.tmp 21) (.tmp 28) 23 25 (.agg #[(.string ⟨#[]⟩), (.string ⟨#[]⟩), (.string ⟨#[]⟩), (.slice none 0 0), (.slice none 0 0)]) 96 rfl Try.underlying23 info25 rfl (by decide) (by decide) u (l4.take i.toNat) y [.string y.f0, .string y.f1, .string y.f2, .slice b3 y.f3.length e3, .slice b4 y.f4.length e4] (fun k => w.heap.size ≤ k ∧ k ≠ g1 ∧ k ≠ g2 ∧ k ≠ g3) _ rfl rfl P6.out (fun _ h => h) (fun k hk => by have := blk_lt T6.out.b1; have := blk_lt T6.out.b2; have := blk_lt T6.out.b3; have := T6.out.B.size; exact ⟨by omega, by omega, by omega, by omega⟩) N6.out T6.out.B T6.out.B.size (by have := HL.out.2.1; simp only [List.length_take]; omega) ?_
  intro u1 W7 hn hb hg hat
  have N7 := Aside0.mk hn
  have V7 := Aside0.mk (Kd.F_after V6.out hg hat)
  have hnu : ∀ g o, W6.heap[g]? = some o → (¬ (w.heap.size ≤ g ∧ g ≠ g1 ∧ g ≠ g2 ∧ g ≠ g3)) → W7.heap[g]? = some o := fun g o ho hne => blk_grown ho hg (fun e => hne (N6.out.1 g e.symm))
  have T7 := Aside0.mk (show TF w g1 g2 g3 #[.string a0, .string a1, .string a2, .slice A3 l3.length c3, .slice (some ad) l4.length c4] #[.string a0, .string a1, .string a2, .slice Av l3.length cv, u] W7 from ⟨hnu _ _ T6.out.b1 (fun h => h.2.1 rfl), hnu _ _ T6.out.b2 (fun h => h.2.2.1 rfl), hnu _ _ T6.out.b3 (fun h => h.2.2.2 rfl), hb, T6.out.l1, T6.out.l2, T6.out.l3⟩)
  have hlow : ∀ (a : Addr) (v : Value), W6.cell? a = some v → a.block < w.heap.size → W7.cell? a = some v := fun a v h hl => (hb.cell hl).trans ((T6.out.B.cell hl).symm.trans h)
  clear hn hg hat hnu
  refine hK.out _ _ ⟨(blk_cell T7.out.b3 4).trans rfl, (blk_cell T7.out.b1 4).trans rfl, hlow _ _ hHeld.2.2.1 HLT.out, hlow _ _ hHeld.2.2.2.1 HLT.out, hlow _ _ hHeld.2.2.2.2.1 HLT.out, hlow _ _ hHeld.2.2.2.2.2.1 HLT.out, hlow _ _ hHeld.2.2.2.2.2.2 HLT.out⟩ (fun hHeld3 => ?_)
  clear hK K
  refine norm_ (a' := ?_) ?_ ?_
  rotate_left
  · show Act.put _ (some 29) _ = _
    simp only [Act.put, List.setIfInBounds_toArray, List.set_cons_zero, List.set_cons_succ, i64_w, i32_w]
    rfl
  refine pure_ (i := 10) (N := some 30) (v := ?_) (a' := ?_) #[true, true, true, true, true, true, true, true, true, true, true, false] rfl rfl (by kernel_rfl) (fun _ _ _ h => h) (Or.inl ⟨by rfl, ?_⟩) ?_ ?_
  rotate_left
  · intro w'
    go_simp
    with_reducible rfl
  rotate_left
  · simp only [Act.put, List.setIfInBounds_toArray, List.set_cons_zero, List.set_cons_succ, i64_w, i32_w]
    rfl
  refine last_ (i := 11) (N := none) #[true, true, true, true, true, true, true, true, true, true, true, true] rfl rfl (by kernel_rfl) (by decide) (fun K hK => ?_)
  have c34 := (blk_cell T7.out.b3 4).trans rfl
  have f34 := blk_frozen T7.out.b3 4
  obtain ⟨n1, hn1⟩ : ∃ n1, (l4.take i.toNat ++ [y]).length = n1 := ⟨_, rfl⟩
  obtain ⟨A1, e1, hu1⟩ := Kd.N_slice N7.out
  rw [hn1] at hu1
  clear hn1
  subst hu1
  refine skip_ (w1 := ?_) (by rfl) rfl ?_ ?_
  rotate_left
  · go_simp
    rfl
  refine hK.out _ _ ?_
  clear hK K
  refine done_ (by kernel_rfl) ?_
  go_wp2_with fail
  go_roundg k1
  case measure => omega
  case rel => exact ⟨i + 1, _, rfl, ⟨by omega, by omega, HY.out, by have := HK.out; omega⟩, ⟨T7.out.put 4 _ rfl⟩, ⟨Kd.F_far (p := ⟨g3, 4, none⟩) V7.out (fun k hk => hk.1.2.2.2) _⟩, ⟨HTK.out ▸ Kd.N_far (p := ⟨g3, 4, none⟩) N7.out (fun k hk => hk.2.2.2) _⟩⟩

set_option maxHeartbeats 4000000 in
theorem tendrillaw11_twin.calls (k : Nat) (a0_0 : ByteArray) (a0_1 : ByteArray) (a0_2 : ByteArray) (A0_3 : Option Addr) (c0_3 : Nat) (l0_3 : List (S42)) (A0_4 : Option Addr) (c0_4 : Nat) (l0_4 : List (S25)) (r1 : ByteArray) (r2 : ByteArray) (r3 : ByteArray) (r4 : List (S42)) (r5 : List (S25)) (w : World) (hr0_3 : Kd.C k42 w A0_3 l0_3.length l0_3) (hc0_3 : l0_3.length ≤ c0_3) (hr0_4 : Kd.C k25 w A0_4 l0_4.length l0_4) (hc0_4 : l0_4.length ≤ c0_4) (h : tendrillaw11_twin.f k a0_0 a0_1 a0_2 l0_3 l0_4 = some (r1, r2, r3, r4, r5)) :
    Calls Try.prog 19 #[.agg #[.string a0_0, .string a0_1, .string a0_2, .slice A0_3 l0_3.length c0_3, .slice A0_4 l0_4.length c0_4]] w fun e w' => ∃ v3_ v4_ : Value, e = .returned (.agg #[.string r1, .string r2, .string r3, v3_, v4_]) ∧ Kd.V k42 42 w' w.heap.size (fun k_ => w.heap.size ≤ k_) v3_ r4 ∧ Kd.V k25 25 w' w.heap.size (fun k_ => w.heap.size ≤ k_) v4_ r5 ∧ Below w.heap.size w w' := by
  unfold tendrillaw11_twin.f at h
  split at h
  · next hk =>
    simp only [Option.some.injEq, Prod.mk.injEq] at h
    obtain ⟨rfl, rfl, rfl, rfl, rfl⟩ := h
    exact twin k a0_0 a0_1 a0_2 A0_3 c0_3 l0_3 A0_4 c0_4 l0_4 w hr0_3 hc0_3 hr0_4 hc0_4 hk
  · cases h
end Go.Proofs.Ytafkgjnafddgbaa.G
