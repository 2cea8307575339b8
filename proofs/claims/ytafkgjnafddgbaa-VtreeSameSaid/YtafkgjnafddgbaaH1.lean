import Derived.Test.YtafkgjnafddgbaaH1a
namespace Go.Proofs.Ytafkgjnafddgbaa.G
open Go.RowKit Go.Proofs.YtafkgjnafddgbaaW.PrintWords Go.Proofs.YtafkgjnafddgbaaW.PrintLast Go.Proofs.YtafkgjnafddgbaaW.PrintMore
set_option linter.unusedVariables false
set_option linter.unusedSimpArgs false

theorem max2_max (k k' : IntKind) (x y : Int) : Builtin.max2 (.int k x) (.int k' y) = pure (.int k (max x y)) := by
  rw [max2_int]
  congr 2
  split <;> omega

/-- What the visits keep: the place of what is found (block bl), and the function's own variable (block bv). -/
structure VW (w0 : World) (bl bv : Nat) (num deep err : Int) (w : World) : Prop where
  below : Below w0.heap.size w0 w
  l0 : w0.heap.size ≤ bl
  v0 : w0.heap.size ≤ bv
  hl : w.heap[bl]? = some (.cells #[.int .i64 num, .int .i64 deep, .int .i64 err] 45 (0, 0))
  hv : w.heap[bv]? = some (.cells #[.func (.func 28) #[] #[.pointer (some ⟨bl, 0, none⟩), .pointer (some ⟨bv, 0, none⟩)]] 53 (0, 0))
theorem VW.ne {w0 : World} {bl bv : Nat} {num deep err : Int} {w : World} (h : VW w0 bl bv num deep err w) : bl ≠ bv := blk_ne h.hl h.hv (by decide)
theorem VW.alloc {w0 : World} {bl bv : Nat} {num deep err : Int} {w : World} (h : VW w0 bl bv num deep err w) (o : Obj) : VW w0 bl bv num deep err (w.alloc o) :=
  ⟨h.below.alloc h.below.size o, h.l0, h.v0, blk_alloc h.hl o, blk_alloc h.hv o⟩
theorem VW.grown {w0 : World} {bl bv m : Nat} {num deep err : Int} {w w' : World} (h : VW w0 bl bv num deep err w) (hg : w.grownBy w' (some m)) (hm : w0.heap.size ≤ m) (hl : m ≠ bl) (hv : m ≠ bv) : VW w0 bl bv num deep err w' :=
  ⟨h.below.grown hg h.below.size (fun k hk => by cases hk; exact hm), h.l0, h.v0, blk_grown h.hl hg (fun e => hl (Option.some.inj e).symm), blk_grown h.hv hg (fun e => hv (Option.some.inj e).symm)⟩
theorem VW.other {w0 : World} {bl bv : Nat} {num deep err : Int} {w : World} (h : VW w0 bl bv num deep err w) {p : Addr} (hp : w0.heap.size ≤ p.block) (hl : bl ≠ p.block) (hv : bv ≠ p.block) (u : Value) : VW w0 bl bv num deep err (w.setCell p u) :=
  ⟨h.below.setCell hp u, h.l0, h.v0, blk_far h.hl hl u, blk_far h.hv hv u⟩
theorem VW.set0 {w0 : World} {bl bv : Nat} {num deep err : Int} {w : World} (h : VW w0 bl bv num deep err w) (v : Int) : VW w0 bl bv v deep err (w.setCell ⟨bl, 0, none⟩ (.int .i64 v)) :=
  ⟨h.below.setCell h.l0 _, h.l0, h.v0, blk_put h.hl 0 _ rfl, blk_far h.hv h.ne.symm _⟩
theorem VW.set1 {w0 : World} {bl bv : Nat} {num deep err : Int} {w : World} (h : VW w0 bl bv num deep err w) (v : Int) : VW w0 bl bv num v err (w.setCell ⟨bl, 1, none⟩ (.int .i64 v)) :=
  ⟨h.below.setCell h.l0 _, h.l0, h.v0, blk_put h.hl 1 _ rfl, blk_far h.hv h.ne.symm _⟩
theorem VW.set2 {w0 : World} {bl bv : Nat} {num deep err : Int} {w : World} (h : VW w0 bl bv num deep err w) (v : Int) : VW w0 bl bv num deep v (w.setCell ⟨bl, 2, none⟩ (.int .i64 v)) :=
  ⟨h.below.setCell h.l0 _, h.l0, h.v0, blk_put h.hl 2 _ rfl, blk_far h.hv h.ne.symm _⟩
theorem VW.low {w0 : World} {bl bv : Nat} {num deep err : Int} {w w' : World} (h : VW w0 bl bv num deep err w) (hb : Below w.heap.size w w') : VW w0 bl bv num deep err w' :=
  ⟨h.below.trans (hb.mono h.below.size), h.l0, h.v0, blk_below h.hl hb, blk_below h.hv hb⟩
theorem VW.c0 {w0 : World} {bl bv : Nat} {num deep err : Int} {w : World} (h : VW w0 bl bv num deep err w) : w.cell? ⟨bl, 0, none⟩ = some (.int .i64 num) := (blk_cell h.hl 0).trans rfl
theorem VW.c1 {w0 : World} {bl bv : Nat} {num deep err : Int} {w : World} (h : VW w0 bl bv num deep err w) : w.cell? ⟨bl, 1, none⟩ = some (.int .i64 deep) := (blk_cell h.hl 1).trans rfl
theorem VW.c2 {w0 : World} {bl bv : Nat} {num deep err : Int} {w : World} (h : VW w0 bl bv num deep err w) : w.cell? ⟨bl, 2, none⟩ = some (.int .i64 err) := (blk_cell h.hl 2).trans rfl
theorem VW.cv {w0 : World} {bl bv : Nat} {num deep err : Int} {w : World} (h : VW w0 bl bv num deep err w) : w.cell? ⟨bv, 0, none⟩ = some (.func (.func 28) #[] #[.pointer (some ⟨bl, 0, none⟩), .pointer (some ⟨bv, 0, none⟩)]) := (blk_cell h.hv 0).trans rfl
theorem VW.fz {w0 : World} {bl bv : Nat} {num deep err : Int} {w : World} (h : VW w0 bl bv num deep err w) (i : Nat) : w.frozen? ⟨bl, i, none⟩ = false := blk_frozen h.hl i
theorem MapIs.low {w w' : World} {m : Nat} {met : List (List UInt8)} (h : MapIs w m met) (hb : Below w.heap.size w w') : MapIs w' m met := by
  obtain ⟨D, ho, hs⟩ := h
  have hlt := ho.lt
  obtain ⟨es, clock, hb1, r⟩ := ho
  exact ⟨D, ⟨es, clock, (hb.block m hlt).trans hb1, r⟩, hs⟩
theorem MapIs.set {w : World} {m : Nat} {met : List (List UInt8)} (h : MapIs w m met) {p : Addr} (hp : m ≠ p.block) (u : Value) : MapIs (w.setCell p u) m met := by
  obtain ⟨D, ho, hs⟩ := h
  exact ⟨D, ho.setCell hp u, hs⟩
/-- The frame of a visit: what was there ahead of it stays, but for block bl and the map's. -/
structure Fr (bl m : Nat) (w w' : World) : Prop where
  size : w.heap.size ≤ w'.heap.size
  same : ∀ b, b < w.heap.size → b ≠ bl → b ≠ m → w'.heap[b]? = w.heap[b]?
theorem Fr.refl (bl m : Nat) (w : World) : Fr bl m w w := ⟨Nat.le_refl _, fun _ _ _ _ => rfl⟩
theorem Fr.trans {bl m : Nat} {a b c : World} (h : Fr bl m a b) (k : Fr bl m b c) : Fr bl m a c := ⟨Nat.le_trans h.size k.size, fun b hb h1 h2 => (k.same b (Nat.lt_of_lt_of_le hb h.size) h1 h2).trans (h.same b hb h1 h2)⟩
theorem Fr.alloc {bl m : Nat} {a b : World} (h : Fr bl m a b) (o : Obj) : Fr bl m a (b.alloc o) :=
  ⟨Nat.le_trans h.size (by simp), fun k hk h1 h2 => (Below.heap_alloc b o k (Nat.lt_of_lt_of_le hk h.size)).trans (h.same k hk h1 h2)⟩
theorem Fr.set {bl m : Nat} {a b : World} (h : Fr bl m a b) (j : Nat) (u : Value) : Fr bl m a (b.setCell ⟨bl, j, none⟩ u) :=
  ⟨by simpa using h.size, fun k hk h1 h2 => (Below.heap_setCell b _ u k h1).trans (h.same k hk h1 h2)⟩
theorem Fr.new {bl m : Nat} {a b : World} (h : Fr bl m a b) {p : Addr} (hp : a.heap.size ≤ p.block) (u : Value) : Fr bl m a (b.setCell p u) :=
  ⟨by simpa using h.size, fun k hk h1 h2 => (Below.heap_setCell b _ u k (by omega)).trans (h.same k hk h1 h2)⟩
theorem Fr.grown {bl m : Nat} {a b c : World} (h : Fr bl m a b) (hg : b.grownBy c (some m)) : Fr bl m a c :=
  ⟨Nat.le_trans h.size hg.size, fun k hk h1 h2 => (hg.block k (Nat.lt_of_lt_of_le hk h.size) (fun e => h2 (Option.some.inj e))).trans (h.same k hk h1 h2)⟩
theorem Fr.below {bl m : Nat} {a b c : World} (h : Fr bl m a b) (hg : Below b.heap.size b c) : Fr bl m a c :=
  ⟨Nat.le_trans h.size hg.size, fun k hk h1 h2 => (hg.block k (Nat.lt_of_lt_of_le hk h.size)).trans (h.same k hk h1 h2)⟩
/-- A visit with a map of its own (a new one), seen from outside. -/
theorem Fr.inner {bl m m' : Nat} {a b c : World} (h : Fr bl m a b) (hg : Fr bl m' b c) (hm : a.heap.size ≤ m') : Fr bl m a c :=
  ⟨Nat.le_trans h.size hg.size, fun k hk h1 h2 => (hg.same k (Nat.lt_of_lt_of_le hk h.size) h1 (by omega)).trans (h.same k hk h1 h2)⟩
theorem Fr.cell {bl m : Nat} {w w' : World} (h : Fr bl m w w') {a : Addr} {v : Value} (hc : w.cell? a = some v) (h1 : a.block ≠ bl) (h2 : a.block ≠ m) : w'.cell? a = some v :=
  (World.cell?_of_block (w := w) (h.same _ (World.block_lt_of_cell? w _ hc) h1 h2)).trans hc
theorem MapIs.fr {w w' : World} {bl m m' : Nat} {met : List (List UInt8)} (h : MapIs w m met) (hf : Fr bl m' w w') (h1 : m ≠ bl) (h2 : m ≠ m') : MapIs w' m met := by
  obtain ⟨D, ho, hs⟩ := h
  have hlt := ho.lt
  obtain ⟨es, clock, hb1, r⟩ := ho
  exact ⟨D, ⟨es, clock, (hf.same m hlt h1 h2).trans hb1, r⟩, hs⟩

end Go.Proofs.Ytafkgjnafddgbaa.G
