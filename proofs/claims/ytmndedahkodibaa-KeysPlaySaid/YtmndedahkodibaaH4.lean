/- The table of labels walked: growing without need, putting. -/
import Derived.Test.YtmndedahkodibaaH3
namespace Go.Proofs.Ytmndedahkodibaa.G
open Go.RowKit Go.Proofs.YtmndedahkodibaaW.PrintWords Go.Proofs.YtmndedahkodibaaW.PrintLast Go.Proofs.YtmndedahkodibaaW.PrintMore
set_option linter.unusedVariables false
set_option linter.unusedSimpArgs false

/-- All blocks but two are kept. -/
structure Kp (W w : World) (p g : Nat) : Prop where
  os : w.os = W.os
  tape : w.tape = W.tape
  output : w.output = W.output
  size : W.heap.size ≤ w.heap.size
  block : ∀ b, b < W.heap.size → b ≠ p → b ≠ g → w.heap[b]? = W.heap[b]?
theorem Kp.of {W w : World} (h : Below W.heap.size W w) (p g : Nat) : Kp W w p g := ⟨h.os, h.tape, h.output, h.size, fun b hb _ _ => h.block b hb⟩
theorem Kp.below {W w : World} {p g base : Nat} (h : Kp W w p g) (hp : base ≤ p) (hg : base ≤ g) (hs : base ≤ W.heap.size) : Below base W w := ⟨h.os, h.tape, h.output, h.size, fun b hb => h.block b (by omega) (by omega) (by omega)⟩
theorem Kp.trans {W w v : World} {p g g' : Nat} (h : Kp W w p g) (hg : g' = g ∨ W.heap.size ≤ g') (h2 : Kp w v p g') : Kp W v p g :=
  ⟨h2.os.trans h.os, h2.tape.trans h.tape, h2.output.trans h.output, Nat.le_trans h.size h2.size, fun b hb h3 h4 => (h2.block b (Nat.lt_of_lt_of_le hb h.size) h3 (by rcases hg with e | e <;> omega)).trans (h.block b hb h3 h4)⟩
theorem Kp.set {W : World} {p g : Nat} (a : Addr) (v : Value) (ha : a.block = p ∨ a.block = g) : Kp W (W.setCell a v) p g := by
  have h := (Below.refl a.block W).setCell (Nat.le_refl _) v
  exact ⟨h.os, h.tape, h.output, h.size, fun b hb h1 h2 => Below.heap_setCell W a v b (by rcases ha with e | e <;> omega)⟩

/-- A table in memory that holds a map. -/
structure TB (W : World) (base p g : Nat) (S : List S60) (n used : Nat) (D : S28 → Option Int) : Prop where
  tw : TW W base p g S (n : Int) (used : Int)
  ok : OK S n used D
  le : 4 * used ≤ 3 * S.length
theorem TB.below {W W' : World} {base p g : Nat} {S : List S60} {n used : Nat} {D : S28 → Option Int} (h : TB W base p g S n used D) (hb : Below W.heap.size W W') : TB W' base p g S n used D := ⟨h.tw.below hb, h.ok, h.le⟩

set_option maxHeartbeats 4000000 in
set_option maxRecDepth 100000 in
theorem grow_no (W : World) (base p g : Nat) (S : List S60) (n used : Nat) (D : S28 → Option Int) (h : TB W base p g S n used D) (hn : 4 * (used + 1) ≤ 3 * S.length) :
    Calls Try.prog 29 #[.pointer (some ⟨p, 0, none⟩)] W fun e w' => e = .returned (.tuple #[]) ∧ Below W.heap.size W w' := by
  have HT := Aside0.mk h
  have hp0 : W.cell? ⟨p, 0, none⟩ = some (.slice (some ⟨g, 0, none⟩) S.length S.length) := (blk_cell h.tw.bp 0).trans rfl
  have hp2 : W.cell? ⟨p, 2, none⟩ = some (.int .i64 (used : Int)) := (blk_cell h.tw.bp 2).trans rfl
  have hL := h.ok.len.2
  have w1 : wrap64 ((used : Int) + 1) = (used : Int) + 1 := by unfold wrap64; omega
  have w2 : wrap64 (4 * ((used : Int) + 1)) = 4 * ((used : Int) + 1) := by unfold wrap64; omega
  have w3 : wrap64 (3 * (S.length : Int)) = 3 * (S.length : Int) := by unfold wrap64; omega
  have hd : decide (4 * ((used : Int) + 1) ≤ 3 * (S.length : Int)) = true := decide_eq_true (by omega)
  clear h hn hL
  go_enter Try.func29, Try.ntmps29
  go_upto_region 0 with (fail)
  refine start_ (n := 13) (S := (fun w' => w'.cell? ⟨p, 0, none⟩ = some (.slice (some ⟨g, 0, none⟩) S.length S.length) ∧ w'.cell? ⟨p, 2, none⟩ = some (.int .i64 (used : Int)))) (ds := []) #[false, false, false, false, false, false, false, false, false, false, false, false, false] (by kernel_rfl) rfl rfl ?_ ?_
  · exact ⟨hp0, hp2⟩
  intro hHeld
  refine pure_ (i := 0) (N := some 6) (v := ?_) (a' := ?_) #[true, false, false, false, false, false, false, false, false, false, false, false, false] rfl rfl (by kernel_rfl) (fun _ _ _ h => h) (Or.inl ⟨by rfl, ?_⟩) ?_ ?_
  rotate_left
  · intro w'
    go_simp
    with_reducible rfl
  rotate_left
  · simp only [Act.put, List.setIfInBounds_toArray, List.set_cons_zero, List.set_cons_succ, i64_w, i32_w]
    rfl
  refine pure_ (i := 1) (N := some 7) (v := ?_) (a' := ?_) #[true, true, false, false, false, false, false, false, false, false, false, false, false] rfl rfl (by kernel_rfl) (fun _ _ _ h => h) (Or.inl ⟨by rfl, ?_⟩) ?_ ?_
  rotate_left
  · intro w'
    go_simp
    with_reducible rfl
  rotate_left
  · simp only [Act.put, List.setIfInBounds_toArray, List.set_cons_zero, List.set_cons_succ, i64_w, i32_w]
    rfl
  refine pure_ (i := 2) (N := some 8) (v := ?_) (a' := ?_) #[true, true, true, false, false, false, false, false, false, false, false, false, false] rfl rfl (by kernel_rfl) (fun _ _ _ h => h) (Or.inl ⟨by rfl, ?_⟩) ?_ ?_
  rotate_left
  · intro w'
    go_simp
    with_reducible rfl
  rotate_left
  · simp only [Act.put, List.setIfInBounds_toArray, List.set_cons_zero, List.set_cons_succ, i64_w, i32_w]
    rfl
  refine pure_ (i := 6) (N := some 12) (v := ?_) (a' := ?_) #[true, true, true, false, false, false, true, false, false, false, false, false, false] rfl rfl (by kernel_rfl) (fun _ _ _ h => h) (Or.inl ⟨by rfl, ?_⟩) ?_ ?_
  rotate_left
  · intro w'
    go_simp
    with_reducible rfl
  rotate_left
  · simp only [Act.put, List.setIfInBounds_toArray, List.set_cons_zero, List.set_cons_succ, i64_w, i32_w]
    rfl
  refine pure_ (i := 7) (N := some 13) (v := ?_) (a' := ?_) #[true, true, true, false, false, false, true, true, false, false, false, false, false] rfl rfl (by kernel_rfl) (fun _ _ _ h => h) (Or.inl ⟨by rfl, ?_⟩) ?_ ?_
  rotate_left
  · intro w'
    go_simp
    with_reducible rfl
  rotate_left
  · simp only [Act.put, List.setIfInBounds_toArray, List.set_cons_zero, List.set_cons_succ, i64_w, i32_w]
    rfl
  refine pure_ (i := 8) (N := some 14) (v := ?_) (a' := ?_) #[true, true, true, false, false, false, true, true, true, false, false, false, false] rfl rfl (by kernel_rfl) (fun _ _ _ h => h) (Or.inl ⟨by rfl, ?_⟩) ?_ ?_
  rotate_left
  · intro w'
    go_simp
    with_reducible rfl
  rotate_left
  · simp only [Act.put, List.setIfInBounds_toArray, List.set_cons_zero, List.set_cons_succ, i64_w, i32_w]
    rfl
  refine take_ (i := 3) (N := some 9) (v := ?_) (a' := ?_) #[true, true, true, true, false, false, true, true, true, false, false, false, false] rfl rfl (by kernel_rfl) (fun _ _ _ h => h) (Or.inl ⟨by rfl, ?_⟩) hHeld ?_ ?_
  rotate_left
  · rintro w' ⟨s0, s1⟩
    go_simp
    with_reducible rfl
  rotate_left
  · simp only [Act.put, List.setIfInBounds_toArray, List.set_cons_zero, List.set_cons_succ, i64_w, i32_w]
    rfl
  refine pure_ (i := 4) (N := some 10) (v := ?_) (a' := ?_) #[true, true, true, true, true, false, true, true, true, false, false, false, false] rfl rfl (by kernel_rfl) (fun _ _ _ h => h) (Or.inl ⟨by rfl, ?_⟩) ?_ ?_
  rotate_left
  · intro w'
    go_simp
    with_reducible rfl
  rotate_left
  · simp only [Act.put, List.setIfInBounds_toArray, List.set_cons_zero, List.set_cons_succ, i64_w, i32_w]
    rfl
  refine pure_ (i := 5) (N := some 11) (v := ?_) (a' := ?_) #[true, true, true, true, true, true, true, true, true, false, false, false, false] rfl rfl (by kernel_rfl) (fun _ _ _ h => h) (Or.inl ⟨by rfl, ?_⟩) ?_ ?_
  rotate_left
  · intro w'
    go_simp
    with_reducible rfl
  rotate_left
  · simp only [Act.put, List.setIfInBounds_toArray, List.set_cons_zero, List.set_cons_succ, i64_w, i32_w]
    rfl
  refine take_ (i := 9) (N := some 15) (v := ?_) (a' := ?_) #[true, true, true, true, true, true, true, true, true, true, false, false, false] rfl rfl (by kernel_rfl) (fun _ _ _ h => h) (Or.inl ⟨by rfl, ?_⟩) hHeld ?_ ?_
  rotate_left
  · rintro w' ⟨s0, s1⟩
    go_simp
    with_reducible rfl
  rotate_left
  · simp only [Act.put, List.setIfInBounds_toArray, List.set_cons_zero, List.set_cons_succ, i64_w, i32_w]
    rfl
  refine pure_ (i := 10) (N := some 16) (v := ?_) (a' := ?_) #[true, true, true, true, true, true, true, true, true, true, true, false, false] rfl rfl (by kernel_rfl) (fun _ _ _ h => h) (Or.inl ⟨by rfl, ?_⟩) ?_ ?_
  rotate_left
  · intro w'
    go_simp
    with_reducible rfl
  rotate_left
  · simp only [Act.put, List.setIfInBounds_toArray, List.set_cons_zero, List.set_cons_succ, i64_w, i32_w]
    rfl
  refine pure_ (i := 11) (N := some 17) (v := ?_) (a' := ?_) #[true, true, true, true, true, true, true, true, true, true, true, true, false] rfl rfl (by kernel_rfl) (fun _ _ _ h => h) (Or.inl ⟨by rfl, ?_⟩) ?_ ?_
  rotate_left
  · intro w'
    go_simp
    with_reducible rfl
  rotate_left
  · simp only [Act.put, List.setIfInBounds_toArray, List.set_cons_zero, List.set_cons_succ, i64_w, i32_w]
    rfl
  refine pure_ (i := 12) (N := some 18) (v := ?_) (a' := ?_) #[true, true, true, true, true, true, true, true, true, true, true, true, true] rfl rfl (by kernel_rfl) (fun _ _ _ h => h) (Or.inl ⟨by rfl, ?_⟩) ?_ ?_
  rotate_left
  · intro w'
    go_simp
    with_reducible rfl
  rotate_left
  · simp only [Act.put, List.setIfInBounds_toArray, List.set_cons_zero, List.set_cons_succ, i64_w, i32_w]
    rfl
  refine done_ (by kernel_rfl) ?_
  go_wp2_with fail
  refine bodyPost_ret (results_none rfl _ _ _) rfl ?_
  exact ⟨rfl, (Below.refl _ W).drew⟩
theorem TB.ne {W : World} {base p g : Nat} {S : List S60} {n used : Nat} {D : S28 → Option Int} (h : TB W base p g S n used D) : p ≠ g := by
  intro e
  have a := h.tw.bp
  have b := h.tw.bg
  rw [e] at a
  rw [a] at b
  simp at b
theorem OK.place2 {S : List S60} {live used : Nat} {D : S28 → Option Int} (ok : OK S live used D) (hf : 4 * used ≤ 3 * S.length) (k : S28) :
    ∃ (f j : Nat) (b : Bool), plc S k f (hashN k % S.length) (-1) = some ((j : Int), b) ∧ j < S.length ∧
      ((b = true ∧ (at60 S j).f0 = 1 ∧ (at60 S j).f1 = k) ∨
       (b = false ∧ (at60 S j).f0 ≠ 1 ∧ (∀ i, i < S.length → (at60 S i).f0 = 1 → (at60 S i).f1 ≠ k) ∧ ∃ t, j = (hashN k + t) % S.length ∧ ∀ u, u < t → ¬ (at60 S ((hashN k + u) % S.length)).f0 = 0)) := by
  have hL := ok.len.1
  obtain ⟨f, r, h1, ⟨j, hj, rfl, h2⟩ | ⟨j, hj, rfl, h2⟩⟩ := ok.place (by omega) k
  · exact ⟨f, j, true, h1, hj, Or.inl ⟨rfl, h2⟩⟩
  · exact ⟨f, j, false, h1, hj, Or.inr ⟨rfl, h2⟩⟩
theorem fs_set (x : S60) : ∀ (S : List S60) (j : Nat), j < S.length → ((((((fs S).set (j * 5) (.int .i64 x.f0)).set (j * 5 + 1) (.string x.f1.f0)).set (j * 5 + 2) (.string x.f1.f1)).set (j * 5 + 3) (.int .i64 x.f1.f2)).set (j * 5 + 4) (.int .i64 x.f2)) = fs (S.set j x) := by
  intro S
  induction S with
  | nil => intro j h; exact absurd h (Nat.not_lt_zero _)
  | cons y S ih =>
    intro j h
    cases j with
    | zero => rfl
    | succ j =>
      have h' : j < S.length := by simpa using h
      rw [List.set_cons_succ, fs, fs, ← ih j h', show (j + 1) * 5 = j * 5 + 5 by omega]
      rfl
theorem TW.slot {W : World} {base p g : Nat} {S : List S60} {live used : Int} (h : TW W base p g S live used) (hpg : p ≠ g) (j : Nat) (hj : j < S.length) (x : S60) :
    TW (((((W.setCell ⟨g, j * 5, none⟩ (.int .i64 x.f0)).setCell ⟨g, j * 5 + 1, none⟩ (.string x.f1.f0)).setCell ⟨g, j * 5 + 2, none⟩ (.string x.f1.f1)).setCell ⟨g, j * 5 + 3, none⟩ (.int .i64 x.f1.f2)).setCell ⟨g, j * 5 + 4, none⟩ (.int .i64 x.f2)) base p g (S.set j x) live used := by
  have e := blk_put (blk_put (blk_put (blk_put (blk_put h.bg (j * 5) (.int .i64 x.f0) rfl) (j * 5 + 1) (.string x.f1.f0) rfl) (j * 5 + 2) (.string x.f1.f1) rfl) (j * 5 + 3) (.int .i64 x.f1.f2) rfl) (j * 5 + 4) (.int .i64 x.f2) rfl
  refine ⟨?_, ?_, h.hp, h.hg⟩
  · rw [List.length_set]
    exact blk_far (blk_far (blk_far (blk_far (blk_far h.bp (p := ⟨g, j * 5, none⟩) hpg _) (p := ⟨g, j * 5 + 1, none⟩) hpg _) (p := ⟨g, j * 5 + 2, none⟩) hpg _) (p := ⟨g, j * 5 + 3, none⟩) hpg _) (p := ⟨g, j * 5 + 4, none⟩) hpg _
  · rw [e]
    simp only [List.setIfInBounds_toArray]
    rw [fs_set x S j hj]
theorem Kp.slot {W V : World} {p g g' : Nat} (h : Kp W V p g) (hg : g' = g ∨ W.heap.size ≤ g') (a b c d e : Nat) (v1 v2 v3 v4 v5 : Value) :
    Kp W (((((V.setCell ⟨g', a, none⟩ v1).setCell ⟨g', b, none⟩ v2).setCell ⟨g', c, none⟩ v3).setCell ⟨g', d, none⟩ v4).setCell ⟨g', e, none⟩ v5) p g :=
  ((((h.trans hg (Kp.set _ _ (Or.inr rfl))).trans hg (Kp.set _ _ (Or.inr rfl))).trans hg (Kp.set _ _ (Or.inr rfl))).trans hg (Kp.set _ _ (Or.inr rfl))).trans hg (Kp.set _ _ (Or.inr rfl))
theorem TW.used {W : World} {base p g : Nat} {S : List S60} {live used : Int} (h : TW W base p g S live used) (hpg : p ≠ g) (u : Int) : TW (W.setCell ⟨p, 2, none⟩ (.int .i64 u)) base p g S live u :=
  ⟨blk_put h.bp 2 _ rfl, blk_far h.bg (p := ⟨p, 2, none⟩) (Ne.symm hpg) _, h.hp, h.hg⟩
theorem TW.live {W : World} {base p g : Nat} {S : List S60} {live used : Int} (h : TW W base p g S live used) (hpg : p ≠ g) (u : Int) : TW (W.setCell ⟨p, 1, none⟩ (.int .i64 u)) base p g S u used :=
  ⟨blk_put h.bp 1 _ rfl, blk_far h.bg (p := ⟨p, 1, none⟩) (Ne.symm hpg) _, h.hp, h.hg⟩
theorem box_kept {W w1 w2 : World} {gb p g : Nat} {o : Obj} (h : w1.heap[gb]? = some o) (hgb : gb = W.heap.size) (hl : p < W.heap.size ∧ g < W.heap.size) (hk : Kp w1 w2 p g) : w2.heap[gb]? = some o :=
  (hk.block gb (blk_lt h) (by omega) (by omega)).trans h
/-- What growing leaves. -/
def Grown (W w : World) (base p g n : Nat) (D : S28 → Option Int) (P : Nat → Nat → Prop) : Prop := Kp W w p g ∧ ∃ g' S' used', (g' = g ∨ W.heap.size ≤ g') ∧ TB w base p g' S' n used' D ∧ 4 * (used' + 1) ≤ 3 * S'.length ∧ P S'.length used'
/-- What putting leaves. -/
def Put (W w : World) (base p g n : Nat) (D : S28 → Option Int) (P : Nat → Nat → Prop) : Prop := Kp W w p g ∧ ∃ g' S' used', (g' = g ∨ W.heap.size ≤ g') ∧ TB w base p g' S' n used' D ∧ ∃ u, P S'.length u ∧ used' ≤ u + 1

set_option maxHeartbeats 4000000 in
set_option maxRecDepth 100000 in
theorem put_walk (W : World) (base p g : Nat) (n : Nat) (D : S28 → Option Int) (k : S28) (v : Int) (hk : Fit k) (hnb : n ≤ 1073741824) (P : Nat → Nat → Prop)
    (HT0 : ∃ S used, TB W base p g S n used D)
    (Hg : ∀ W1, Below W.heap.size W W1 → Calls Try.prog 29 #[.pointer (some ⟨p, 0, none⟩)] W1 fun e w' => e = .returned (.tuple #[]) ∧ Grown W1 w' base p g n D P) :
    Calls Try.prog 23 #[.pointer (some ⟨p, 0, none⟩), .agg #[.string k.f0, .string k.f1, .int .i64 k.f2], .int .i64 v] W fun e w' => (D k ≠ none ∧ e = .returned (.bool false) ∧ Put W w' base p g n D P) ∨ (D k = none ∧ e = .returned (.bool true) ∧ Put W w' base p g (n + 1) (upd D k (some v)) P) := by
  have HK := Aside0.mk hk
  have HN := Aside0.mk hnb
  have HG := Aside0.mk Hg
  have hlt : Aside0 (p < W.heap.size ∧ g < W.heap.size) := ⟨by obtain ⟨S, used, h⟩ := HT0; exact ⟨blk_lt h.tw.bp, blk_lt h.tw.bg⟩⟩
  clear hk hnb Hg HT0
  go_enter Try.func23, Try.ntmps23
  go_upto_region 3 with (first | ((with_reducible refine gate_dst (N := 4) rfl ?_); refine box_event ?hg (N := 4) ?hd (cs := #[.string k.f0, .string k.f1, .int .i64 k.f2]) (t := 28) ?hr ?_; (case hd => rfl); (case hg => rfl); (case hr => first | (go_simp; done) | (go_simp; rfl)); intro gb hg w1 hbox hb; have G1 := Aside0.mk hg; have X1 := Aside0.mk hbox; have B1 := Aside0.mk hb; clear hbox hb hg) | (go_at_call 29; refine (HG.out w1 B1.out).mono ?_; rintro e w2 ⟨rfl, hgr⟩; obtain ⟨hk2, g', S', used', hgg, hT2, hle, hP⟩ := hgr; have PP := Aside0.mk hP; obtain ⟨f, j, b, hplc, hjl, hcase⟩ := hT2.ok.place2 hT2.le k; have K2 := Aside0.mk hk2; have GG := Aside0.mk hgg; have T2 := Aside0.mk hT2; have LE := Aside0.mk hle; have PL := Aside0.mk hplc; have JL := Aside0.mk hjl; have CA := Aside0.mk hcase; have X2 := Aside0.mk (box_kept X1.out G1.out hlt.out hk2); clear hgg hT2 hle hplc hjl hcase hk2 hP; have c0 : w2.cell? ⟨gb, 0, none⟩ = some (.string k.f0) := (blk_cell X2.out 0).trans rfl; have c1 : w2.cell? ⟨gb, 1, none⟩ = some (.string k.f1) := (blk_cell X2.out 1).trans rfl; have c2 : w2.cell? ⟨gb, 2, none⟩ = some (.int .i64 k.f2) := (blk_cell X2.out 2).trans rfl) | (go_at_call 30; refine (place f w2 base p g' S' n used' k _ _ T2.out.tw T2.out.ok.pw.choose_spec.1 T2.out.ok.pw.choose_spec.2 PL.out HK.out.1 HK.out.2).mono ?_; rintro e w3 ⟨rfl, hb3⟩; have B3 := Aside0.mk hb3; clear hb3))
  have T3 := Aside0.mk (T2.out.below B3.out)
  have X3 := Aside0.mk (blk_below X2.out B3.out)
  have KP := Aside0.mk (show Kp W w3 p g from ((Kp.of B1.out p g).trans (Or.inl rfl) K2.out).trans (by have := GG.out; have := B1.out.size; rcases GG.out with e | e <;> omega) (Kp.of B3.out p g'))
  have GF := Aside0.mk (show g' = g ∨ W.heap.size ≤ g' from by have := B1.out.size; rcases GG.out with e | e <;> omega)
  have GB := Aside0.mk (show gb ≠ p ∧ gb ≠ g' from by
    have h1 := G1.out
    have h2 := hlt.out
    have h3 := X3.out
    refine ⟨by omega, fun e => ?_⟩
    have h4 := T3.out.tw.bg
    rw [← e, h3] at h4
    simp at h4)
  clear c0 c1 c2 T2 X2 X1 B1 B3 K2 GG HG G1
  rcases CA.out with ⟨rfl, q1, q2⟩ | ⟨rfl, q1, q2, q3⟩
  · have Q := Aside0.mk (T3.out.ok.some_of JL.out q1 q2)
    clear q1 q2 CA
    go_wp2_with fail
    refine bodyPost_ret (results_tmp rfl _ _ _) rfl ?_
    exact Or.inl ⟨(by rw [Q.out]; intro h; cases h), rfl, KP.out, g', S', used', GF.out, T3.out, used', PP.out, by omega⟩
  · have hp0 : w3.cell? ⟨p, 0, none⟩ = some (.slice (some ⟨g', 0, none⟩) S'.length S'.length) := (blk_cell T3.out.tw.bp 0).trans rfl
    have hp1 : w3.cell? ⟨p, 1, none⟩ = some (.int .i64 (n : Int)) := (blk_cell T3.out.tw.bp 1).trans rfl
    have hp2 : w3.cell? ⟨p, 2, none⟩ = some (.int .i64 (used' : Int)) := (blk_cell T3.out.tw.bp 2).trans rfl
    have fz := blk_frozen T3.out.tw.bp 2
    have fz1 := blk_frozen T3.out.tw.bp 1
    obtain ⟨s0, hs0⟩ : ∃ s0, (at60 S' j).f0 = s0 := ⟨_, rfl⟩
    have t0 : w3.cell? ⟨g', j * 5, none⟩ = some (.int .i64 s0) := hs0 ▸ T3.out.tw.cell j JL.out 0 (by omega)
    have c0 : w3.cell? ⟨gb, 0, none⟩ = some (.string k.f0) := (blk_cell X3.out 0).trans rfl
    have c1 : w3.cell? ⟨gb, 1, none⟩ = some (.string k.f1) := (blk_cell X3.out 1).trans rfl
    have c2 : w3.cell? ⟨gb, 2, none⟩ = some (.int .i64 k.f2) := (blk_cell X3.out 2).trans rfl
    have hjb : (0 : Int) ≤ (j : Int) ∧ (j : Int) < (S'.length : Int) := by have := JL.out; omega

    have Q1 := Aside0.mk q1
    have Q2 := Aside0.mk q2
    have Q3 := Aside0.mk q3
    have HS0 := Aside0.mk hs0
    clear q1 q2 q3 CA hs0
    by_cases h0 : s0 = 0
    · have h0b : (s0 == 0) = true := by simp [h0]
      have U4 := Aside0.mk (show (if (at60 S' j).f0 = 0 then used' + 1 else used') = used' + 1 from by rw [HS0.out, if_pos h0])
      clear h0
      go_upto_region 7 with (fail)
      obtain ⟨w4, hw4⟩ : ∃ w4, w3.setCell ⟨p, 2, none⟩ (.int .i64 (wrap64 ((used' : Int) + 1))) = w4 := ⟨_, rfl⟩
      rw [hw4]
      have hwu : wrap64 ((used' : Int) + 1) = ((used' + 1 : Nat) : Int) := by have := LE.out; have := T3.out.ok.len.2; unfold wrap64; omega
      rw [hwu] at hw4
      obtain ⟨u4, hu4⟩ : ∃ u4, used' + 1 = u4 := ⟨_, rfl⟩
      have U4 := Aside0.mk (show (if (at60 S' j).f0 = 0 then used' + 1 else used') = u4 from U4.out.trans hu4)
      rw [hu4] at hw4
      have HU := Aside0.mk (show u4 ≤ used' + 1 from by omega)
      have T4 := Aside0.mk (show TW w4 base p g' S' (n : Int) (u4 : Int) from hw4 ▸ T3.out.tw.used T3.out.ne _)
      have X4 := Aside0.mk (show w4.heap[gb]? = some (.cells #[.string k.f0, .string k.f1, .int .i64 k.f2] 28 (0, 0)) from by
        rw [← hw4]
        refine blk_far (p := ⟨p, 2, none⟩) X3.out ?_ _
        have := GB.out.1
        exact this)
      have KP4 := Aside0.mk (show Kp W w4 p g from hw4 ▸ KP.out.trans GF.out (Kp.set _ _ (Or.inl rfl)))
      clear hp0 hp1 hp2 t0 c0 c1 c2 fz fz1 hw4 X3 KP
      have hp0 : w4.cell? ⟨p, 0, none⟩ = some (.slice (some ⟨g', 0, none⟩) S'.length S'.length) := (blk_cell T4.out.bp 0).trans rfl
      have c0 : w4.cell? ⟨gb, 0, none⟩ = some (.string k.f0) := (blk_cell X4.out 0).trans rfl
      have c1 : w4.cell? ⟨gb, 1, none⟩ = some (.string k.f1) := (blk_cell X4.out 1).trans rfl
      have c2 : w4.cell? ⟨gb, 2, none⟩ = some (.int .i64 k.f2) := (blk_cell X4.out 2).trans rfl
      refine start_ (n := 10) (S := (fun w' => w'.cell? ⟨p, 0, none⟩ = some (.slice (some ⟨g', 0, none⟩) S'.length S'.length) ∧ w'.cell? ⟨gb, 0, none⟩ = some (.string k.f0) ∧ w'.cell? ⟨gb, 1, none⟩ = some (.string k.f1) ∧ w'.cell? ⟨gb, 2, none⟩ = some (.int .i64 k.f2))) (ds := [9]) #[false, false, false, false, false, false, false, false, false, false] (by kernel_rfl) rfl rfl ?_ ?_
      · exact ⟨hp0, c0, c1, c2⟩
      intro hHeld
      refine pure_ (i := 0) (N := some 34) (v := ?_) (a' := ?_) #[true, false, false, false, false, false, false, false, false, false] rfl rfl (by kernel_rfl) (fun _ _ _ h => h) (Or.inl ⟨by rfl, ?_⟩) ?_ ?_
      rotate_left
      · intro w'
        go_simp
        with_reducible rfl
      rotate_left
      · simp only [Act.put, List.setIfInBounds_toArray, List.set_cons_zero, List.set_cons_succ, i64_w, i32_w]
        rfl
      refine pure_ (i := 1) (N := some 35) (v := ?_) (a' := ?_) #[true, true, false, false, false, false, false, false, false, false] rfl rfl (by kernel_rfl) (fun _ _ _ h => h) (Or.inl ⟨by rfl, ?_⟩) ?_ ?_
      rotate_left
      · intro w'
        go_simp
        with_reducible rfl
      rotate_left
      · simp only [Act.put, List.setIfInBounds_toArray, List.set_cons_zero, List.set_cons_succ, i64_w, i32_w]
        rfl
      refine pure_ (i := 2) (N := some 36) (v := ?_) (a' := ?_) #[true, true, true, false, false, false, false, false, false, false] rfl rfl (by kernel_rfl) (fun _ _ _ h => h) (Or.inl ⟨by rfl, ?_⟩) ?_ ?_
      rotate_left
      · intro w'
        go_simp
        with_reducible rfl
      rotate_left
      · simp only [Act.put, List.setIfInBounds_toArray, List.set_cons_zero, List.set_cons_succ, i64_w, i32_w]
        rfl
      refine pure_ (i := 4) (N := some 38) (v := ?_) (a' := ?_) #[true, true, true, false, true, false, false, false, false, false] rfl rfl (by kernel_rfl) (fun _ _ _ h => h) (Or.inl ⟨by rfl, ?_⟩) ?_ ?_
      rotate_left
      · intro w'
        go_simp
        with_reducible rfl
      rotate_left
      · simp only [Act.put, List.setIfInBounds_toArray, List.set_cons_zero, List.set_cons_succ, i64_w, i32_w]
        rfl
      refine pure_ (i := 6) (N := some 40) (v := ?_) (a' := ?_) #[true, true, true, false, true, false, true, false, false, false] rfl rfl (by kernel_rfl) (fun _ _ _ h => h) (Or.inl ⟨by rfl, ?_⟩) ?_ ?_
      rotate_left
      · intro w'
        go_simp
        with_reducible rfl
      rotate_left
      · simp only [Act.put, List.setIfInBounds_toArray, List.set_cons_zero, List.set_cons_succ, i64_w, i32_w]
        rfl
      refine take_ (i := 3) (N := some 37) (v := ?_) (a' := ?_) #[true, true, true, true, true, false, true, false, false, false] rfl rfl (by kernel_rfl) (fun _ _ _ h => h) (Or.inl ⟨by rfl, ?_⟩) hHeld ?_ ?_
      rotate_left
      · rintro w' ⟨s0, s1, s2, s3⟩
        go_simp
        with_reducible rfl
      rotate_left
      · simp only [Act.put, List.setIfInBounds_toArray, List.set_cons_zero, List.set_cons_succ, i64_w, i32_w]
        rfl
      refine take_ (i := 5) (N := some 39) (v := ?_) (a' := ?_) #[true, true, true, true, true, true, true, false, false, false] rfl rfl (by kernel_rfl) (fun _ _ _ h => h) (Or.inl ⟨by rfl, ?_⟩) hHeld ?_ ?_
      rotate_left
      · rintro w' ⟨s0, s1, s2, s3⟩
        go_simp
        with_reducible rfl
      rotate_left
      · simp only [Act.put, List.setIfInBounds_toArray, List.set_cons_zero, List.set_cons_succ, i64_w, i32_w]
        rfl
      refine pure_ (i := 7) (N := some 41) (v := ?_) (a' := ?_) #[true, true, true, true, true, true, true, true, false, false] rfl rfl (by kernel_rfl) (fun _ _ _ h => h) (Or.inl ⟨by rfl, ?_⟩) ?_ ?_
      rotate_left
      · intro w'
        go_simp
        with_reducible rfl
      rotate_left
      · simp only [Act.put, List.setIfInBounds_toArray, List.set_cons_zero, List.set_cons_succ, i64_w, i32_w]
        rfl
      refine pure_ (i := 8) (N := some 42) (v := ?_) (a' := ?_) #[true, true, true, true, true, true, true, true, true, false] rfl rfl (by kernel_rfl) (fun _ _ _ h => h) (Or.inl ⟨by rfl, ?_⟩) ?_ ?_
      rotate_left
      · intro w'
        go_simp
        with_reducible rfl
      rotate_left
      · simp only [Act.put, List.setIfInBounds_toArray, List.set_cons_zero, List.set_cons_succ, i64_w, i32_w]
        rfl
      refine last_ (i := 9) (N := none) #[true, true, true, true, true, true, true, true, true, true] rfl rfl (by kernel_rfl) (by decide) (fun K hK => ?_)
      obtain ⟨W5, hW5⟩ : ∃ W5, w4.drew = W5 := ⟨_, rfl⟩
      rw [hW5]
      have T5 := Aside0.mk (show TW W5 base p g' S' (n : Int) (u4 : Int) from hW5 ▸ T4.out.below ((Below.refl _ w4).drew))
      have KP5 := Aside0.mk (show Kp W W5 p g from hW5 ▸ KP4.out.trans GF.out (Kp.of (Below.refl _ w4).drew p g'))
      have z0 := blk_frozen T5.out.bg (j * 5)
      have z1 := blk_frozen T5.out.bg (j * 5 + 1)
      have z2 := blk_frozen T5.out.bg (j * 5 + 2)
      have z3 := blk_frozen T5.out.bg (j * 5 + 3)
      have z4 := blk_frozen T5.out.bg (j * 5 + 4)
      have y0 : W5.cell? ⟨g', j * 5, none⟩ = some (.int .i64 (at60 S' j).f0) := T5.out.cell j JL.out 0 (by omega)
      have y1 : W5.cell? ⟨g', j * 5 + 1, none⟩ = some (.string (at60 S' j).f1.f0) := T5.out.cell j JL.out 1 (by omega)
      have y2 : W5.cell? ⟨g', j * 5 + 2, none⟩ = some (.string (at60 S' j).f1.f1) := T5.out.cell j JL.out 2 (by omega)
      have y3 : W5.cell? ⟨g', j * 5 + 3, none⟩ = some (.int .i64 (at60 S' j).f1.f2) := T5.out.cell j JL.out 3 (by omega)
      have y4 : W5.cell? ⟨g', j * 5 + 4, none⟩ = some (.int .i64 (at60 S' j).f2) := T5.out.cell j JL.out 4 (by omega)
      refine skip_ (w1 := ?_) (by rfl) rfl ?_ ?_
      rotate_left
      · go_simp
        rfl
      refine hK.out _ _ ?_
      clear hK K
      refine done_ (by kernel_rfl) ?_
      obtain ⟨W6, hW6⟩ : ∃ W6, ((((W5.setCell ⟨g', j * 5, none⟩ (.int .i64 1)).setCell ⟨g', j * 5 + 1, none⟩ (.string k.f0)).setCell ⟨g', j * 5 + 2, none⟩ (.string k.f1)).setCell ⟨g', j * 5 + 3, none⟩ (.int .i64 k.f2)).setCell ⟨g', j * 5 + 4, none⟩ (.int .i64 v) = W6 := ⟨_, rfl⟩
      rw [hW6]
      have T6 := Aside0.mk (show TW W6 base p g' (S'.set j ⟨1, k, v⟩) (n : Int) (u4 : Int) from hW6 ▸ T5.out.slot T3.out.ne j JL.out ⟨1, k, v⟩)
      have KP6 := Aside0.mk (show Kp W W6 p g from hW6 ▸ KP5.out.slot GF.out _ _ _ _ _ _ _ _ _ _)
      have hp1 : W6.cell? ⟨p, 1, none⟩ = some (.int .i64 (n : Int)) := (blk_cell T6.out.bp 1).trans rfl
      have fz1 := blk_frozen T6.out.bp 1
      clear hW6 z0 z1 z2 z3 z4 y0 y1 y2 y3 y4 hp0 c0 c1 c2 hHeld hW5
      go_wp2_with fail
      refine bodyPost_ret (results_tmp rfl _ _ _) rfl ?_
      have hwn : wrap64 ((n : Int) + 1) = ((n + 1 : Nat) : Int) := by have := HN.out; unfold wrap64; omega
      rw [hwn]
      have K7 := KP6.out.trans GF.out (Kp.set (W := W6) (p := p) (g := g') ⟨p, 1, none⟩ (.int .i64 ((n + 1 : Nat) : Int)) (Or.inl rfl))
      have T7 := T6.out.live T3.out.ne ((n + 1 : Nat) : Int)
      have O7 := T3.out.ok.put v JL.out Q1.out Q2.out Q3.out HK.out
      rw [U4.out] at O7
      exact Or.inr ⟨T3.out.ok.none_of Q2.out, rfl, K7, g', _, u4, GF.out, ⟨T7, O7, by rw [List.length_set]; have := LE.out; have := HU.out; omega⟩, used', by rw [List.length_set]; exact PP.out, HU.out⟩
    · have h0b : (s0 == 0) = false := by simp [h0]
      have U4 := Aside0.mk (show (if (at60 S' j).f0 = 0 then used' + 1 else used') = used' from by rw [HS0.out, if_neg h0])
      clear h0
      go_upto_region 7 with (fail)
      obtain ⟨w4, hw4⟩ : ∃ w4, w3 = w4 := ⟨_, rfl⟩
      obtain ⟨u4, hu4⟩ : ∃ u4, used' = u4 := ⟨_, rfl⟩
      have HU := Aside0.mk (show u4 ≤ used' + 1 from by omega)
      have U4 := Aside0.mk (show (if (at60 S' j).f0 = 0 then used' + 1 else used') = u4 from U4.out.trans hu4)
      have T4 := Aside0.mk (show TW w4 base p g' S' (n : Int) (u4 : Int) from by rw [← hw4, ← hu4]; exact T3.out.tw)
      have X4 := Aside0.mk (hw4 ▸ X3.out)
      have KP4 := Aside0.mk (hw4 ▸ KP.out)
      rw [hw4]
      clear hp0 hp1 hp2 t0 c0 c1 c2 fz fz1 hw4 hu4 X3 KP
      have hp0 : w4.cell? ⟨p, 0, none⟩ = some (.slice (some ⟨g', 0, none⟩) S'.length S'.length) := (blk_cell T4.out.bp 0).trans rfl
      have c0 : w4.cell? ⟨gb, 0, none⟩ = some (.string k.f0) := (blk_cell X4.out 0).trans rfl
      have c1 : w4.cell? ⟨gb, 1, none⟩ = some (.string k.f1) := (blk_cell X4.out 1).trans rfl
      have c2 : w4.cell? ⟨gb, 2, none⟩ = some (.int .i64 k.f2) := (blk_cell X4.out 2).trans rfl
      refine start_ (n := 10) (S := (fun w' => w'.cell? ⟨p, 0, none⟩ = some (.slice (some ⟨g', 0, none⟩) S'.length S'.length) ∧ w'.cell? ⟨gb, 0, none⟩ = some (.string k.f0) ∧ w'.cell? ⟨gb, 1, none⟩ = some (.string k.f1) ∧ w'.cell? ⟨gb, 2, none⟩ = some (.int .i64 k.f2))) (ds := [9]) #[false, false, false, false, false, false, false, false, false, false] (by kernel_rfl) rfl rfl ?_ ?_
      · exact ⟨hp0, c0, c1, c2⟩
      intro hHeld
      refine pure_ (i := 0) (N := some 34) (v := ?_) (a' := ?_) #[true, false, false, false, false, false, false, false, false, false] rfl rfl (by kernel_rfl) (fun _ _ _ h => h) (Or.inl ⟨by rfl, ?_⟩) ?_ ?_
      rotate_left
      · intro w'
        go_simp
        with_reducible rfl
      rotate_left
      · simp only [Act.put, List.setIfInBounds_toArray, List.set_cons_zero, List.set_cons_succ, i64_w, i32_w]
        rfl
      refine pure_ (i := 1) (N := some 35) (v := ?_) (a' := ?_) #[true, true, false, false, false, false, false, false, false, false] rfl rfl (by kernel_rfl) (fun _ _ _ h => h) (Or.inl ⟨by rfl, ?_⟩) ?_ ?_
      rotate_left
      · intro w'
        go_simp
        with_reducible rfl
      rotate_left
      · simp only [Act.put, List.setIfInBounds_toArray, List.set_cons_zero, List.set_cons_succ, i64_w, i32_w]
        rfl
      refine pure_ (i := 2) (N := some 36) (v := ?_) (a' := ?_) #[true, true, true, false, false, false, false, false, false, false] rfl rfl (by kernel_rfl) (fun _ _ _ h => h) (Or.inl ⟨by rfl, ?_⟩) ?_ ?_
      rotate_left
      · intro w'
        go_simp
        with_reducible rfl
      rotate_left
      · simp only [Act.put, List.setIfInBounds_toArray, List.set_cons_zero, List.set_cons_succ, i64_w, i32_w]
        rfl
      refine pure_ (i := 4) (N := some 38) (v := ?_) (a' := ?_) #[true, true, true, false, true, false, false, false, false, false] rfl rfl (by kernel_rfl) (fun _ _ _ h => h) (Or.inl ⟨by rfl, ?_⟩) ?_ ?_
      rotate_left
      · intro w'
        go_simp
        with_reducible rfl
      rotate_left
      · simp only [Act.put, List.setIfInBounds_toArray, List.set_cons_zero, List.set_cons_succ, i64_w, i32_w]
        rfl
      refine pure_ (i := 6) (N := some 40) (v := ?_) (a' := ?_) #[true, true, true, false, true, false, true, false, false, false] rfl rfl (by kernel_rfl) (fun _ _ _ h => h) (Or.inl ⟨by rfl, ?_⟩) ?_ ?_
      rotate_left
      · intro w'
        go_simp
        with_reducible rfl
      rotate_left
      · simp only [Act.put, List.setIfInBounds_toArray, List.set_cons_zero, List.set_cons_succ, i64_w, i32_w]
        rfl
      refine take_ (i := 3) (N := some 37) (v := ?_) (a' := ?_) #[true, true, true, true, true, false, true, false, false, false] rfl rfl (by kernel_rfl) (fun _ _ _ h => h) (Or.inl ⟨by rfl, ?_⟩) hHeld ?_ ?_
      rotate_left
      · rintro w' ⟨s0, s1, s2, s3⟩
        go_simp
        with_reducible rfl
      rotate_left
      · simp only [Act.put, List.setIfInBounds_toArray, List.set_cons_zero, List.set_cons_succ, i64_w, i32_w]
        rfl
      refine take_ (i := 5) (N := some 39) (v := ?_) (a' := ?_) #[true, true, true, true, true, true, true, false, false, false] rfl rfl (by kernel_rfl) (fun _ _ _ h => h) (Or.inl ⟨by rfl, ?_⟩) hHeld ?_ ?_
      rotate_left
      · rintro w' ⟨s0, s1, s2, s3⟩
        go_simp
        with_reducible rfl
      rotate_left
      · simp only [Act.put, List.setIfInBounds_toArray, List.set_cons_zero, List.set_cons_succ, i64_w, i32_w]
        rfl
      refine pure_ (i := 7) (N := some 41) (v := ?_) (a' := ?_) #[true, true, true, true, true, true, true, true, false, false] rfl rfl (by kernel_rfl) (fun _ _ _ h => h) (Or.inl ⟨by rfl, ?_⟩) ?_ ?_
      rotate_left
      · intro w'
        go_simp
        with_reducible rfl
      rotate_left
      · simp only [Act.put, List.setIfInBounds_toArray, List.set_cons_zero, List.set_cons_succ, i64_w, i32_w]
        rfl
      refine pure_ (i := 8) (N := some 42) (v := ?_) (a' := ?_) #[true, true, true, true, true, true, true, true, true, false] rfl rfl (by kernel_rfl) (fun _ _ _ h => h) (Or.inl ⟨by rfl, ?_⟩) ?_ ?_
      rotate_left
      · intro w'
        go_simp
        with_reducible rfl
      rotate_left
      · simp only [Act.put, List.setIfInBounds_toArray, List.set_cons_zero, List.set_cons_succ, i64_w, i32_w]
        rfl
      refine last_ (i := 9) (N := none) #[true, true, true, true, true, true, true, true, true, true] rfl rfl (by kernel_rfl) (by decide) (fun K hK => ?_)
      obtain ⟨W5, hW5⟩ : ∃ W5, w4.drew = W5 := ⟨_, rfl⟩
      rw [hW5]
      have T5 := Aside0.mk (show TW W5 base p g' S' (n : Int) (u4 : Int) from hW5 ▸ T4.out.below ((Below.refl _ w4).drew))
      have KP5 := Aside0.mk (show Kp W W5 p g from hW5 ▸ KP4.out.trans GF.out (Kp.of (Below.refl _ w4).drew p g'))
      have z0 := blk_frozen T5.out.bg (j * 5)
      have z1 := blk_frozen T5.out.bg (j * 5 + 1)
      have z2 := blk_frozen T5.out.bg (j * 5 + 2)
      have z3 := blk_frozen T5.out.bg (j * 5 + 3)
      have z4 := blk_frozen T5.out.bg (j * 5 + 4)
      have y0 : W5.cell? ⟨g', j * 5, none⟩ = some (.int .i64 (at60 S' j).f0) := T5.out.cell j JL.out 0 (by omega)
      have y1 : W5.cell? ⟨g', j * 5 + 1, none⟩ = some (.string (at60 S' j).f1.f0) := T5.out.cell j JL.out 1 (by omega)
      have y2 : W5.cell? ⟨g', j * 5 + 2, none⟩ = some (.string (at60 S' j).f1.f1) := T5.out.cell j JL.out 2 (by omega)
      have y3 : W5.cell? ⟨g', j * 5 + 3, none⟩ = some (.int .i64 (at60 S' j).f1.f2) := T5.out.cell j JL.out 3 (by omega)
      have y4 : W5.cell? ⟨g', j * 5 + 4, none⟩ = some (.int .i64 (at60 S' j).f2) := T5.out.cell j JL.out 4 (by omega)
      refine skip_ (w1 := ?_) (by rfl) rfl ?_ ?_
      rotate_left
      · go_simp
        rfl
      refine hK.out _ _ ?_
      clear hK K
      refine done_ (by kernel_rfl) ?_
      obtain ⟨W6, hW6⟩ : ∃ W6, ((((W5.setCell ⟨g', j * 5, none⟩ (.int .i64 1)).setCell ⟨g', j * 5 + 1, none⟩ (.string k.f0)).setCell ⟨g', j * 5 + 2, none⟩ (.string k.f1)).setCell ⟨g', j * 5 + 3, none⟩ (.int .i64 k.f2)).setCell ⟨g', j * 5 + 4, none⟩ (.int .i64 v) = W6 := ⟨_, rfl⟩
      rw [hW6]
      have T6 := Aside0.mk (show TW W6 base p g' (S'.set j ⟨1, k, v⟩) (n : Int) (u4 : Int) from hW6 ▸ T5.out.slot T3.out.ne j JL.out ⟨1, k, v⟩)
      have KP6 := Aside0.mk (show Kp W W6 p g from hW6 ▸ KP5.out.slot GF.out _ _ _ _ _ _ _ _ _ _)
      have hp1 : W6.cell? ⟨p, 1, none⟩ = some (.int .i64 (n : Int)) := (blk_cell T6.out.bp 1).trans rfl
      have fz1 := blk_frozen T6.out.bp 1
      clear hW6 z0 z1 z2 z3 z4 y0 y1 y2 y3 y4 hp0 c0 c1 c2 hHeld hW5
      go_wp2_with fail
      refine bodyPost_ret (results_tmp rfl _ _ _) rfl ?_
      have hwn : wrap64 ((n : Int) + 1) = ((n + 1 : Nat) : Int) := by have := HN.out; unfold wrap64; omega
      rw [hwn]
      have K7 := KP6.out.trans GF.out (Kp.set (W := W6) (p := p) (g := g') ⟨p, 1, none⟩ (.int .i64 ((n + 1 : Nat) : Int)) (Or.inl rfl))
      have T7 := T6.out.live T3.out.ne ((n + 1 : Nat) : Int)
      have O7 := T3.out.ok.put v JL.out Q1.out Q2.out Q3.out HK.out
      rw [U4.out] at O7
      exact Or.inr ⟨T3.out.ok.none_of Q2.out, rfl, K7, g', _, u4, GF.out, ⟨T7, O7, by rw [List.length_set]; have := LE.out; have := HU.out; omega⟩, used', by rw [List.length_set]; exact PP.out, HU.out⟩
end Go.Proofs.Ytmndedahkodibaa.G
