import Derived.Test.YtcebfldagnjddaaH1a
import Derived.Laws.EntriesVeiled
namespace Go.Proofs.Ytcebfldagnjddaa.G
open Go.RowKit Go.Proofs.YtcebfldagnjddaaW.PrintWords Go.Proofs.YtcebfldagnjddaaW.PrintLast Go.Proofs.YtcebfldagnjddaaW.PrintMore
set_option linter.unusedVariables false
set_option linter.unusedSimpArgs false
theorem max2_max (k k' : IntKind) (x y : Int) : Builtin.max2 (.int k x) (.int k' y) = pure (.int k (max x y)) := by
  rw [max2_int]
  congr 2
  split <;> omega
/-- What the visits keep: the place of what is found (block bl), and the function's own variable (block bv). -/
structure VW (w0 : World) (bl bv : Nat) (num deep err : Int) (w : World) : Prop where
  below : Below w0.heap.size w0 w
  l0 : w0.heap.size ≤ bl
  v0 : w0.heap.size ≤ bv
  hl : w.heap[bl]? = some (.cells #[.int .i64 num, .int .i64 deep, .int .i64 err] 76 (0, 0))
  hv : w.heap[bv]? = some (.cells #[.func (.func 51) #[] #[.pointer (some ⟨bl, 0, none⟩), .pointer (some ⟨bv, 0, none⟩)]] 82 (0, 0))
theorem VW.ne {w0 : World} {bl bv : Nat} {num deep err : Int} {w : World} (h : VW w0 bl bv num deep err w) : bl ≠ bv := blk_ne h.hl h.hv (by decide)
theorem VW.alloc {w0 : World} {bl bv : Nat} {num deep err : Int} {w : World} (h : VW w0 bl bv num deep err w) (o : Obj) : VW w0 bl bv num deep err (w.alloc o) :=
  ⟨h.below.alloc h.below.size o, h.l0, h.v0, blk_alloc h.hl o, blk_alloc h.hv o⟩
theorem VW.drewN {w0 : World} {bl bv : Nat} {num deep err : Int} {w : World} (h : VW w0 bl bv num deep err w) (n : Nat) : VW w0 bl bv num deep err (w.drewN n) :=
  ⟨pw_below_drewN h.below n, h.l0, h.v0, blk_drewN h.hl n, blk_drewN h.hv n⟩
theorem VW.grown {w0 : World} {bl bv m : Nat} {num deep err : Int} {w w' : World} (h : VW w0 bl bv num deep err w) (hg : w.grownBy w' (some m)) (hm : w0.heap.size ≤ m) (hl : m ≠ bl) (hv : m ≠ bv) : VW w0 bl bv num deep err w' :=
  ⟨h.below.grown hg h.below.size (fun k hk => by cases hk; exact hm), h.l0, h.v0, blk_grown h.hl hg (fun e => hl (Option.some.inj e).symm), blk_grown h.hv hg (fun e => hv (Option.some.inj e).symm)⟩
theorem VW.other {w0 : World} {bl bv : Nat} {num deep err : Int} {w : World} (h : VW w0 bl bv num deep err w) {p : Addr} (hp : w0.heap.size ≤ p.block) (hl : bl ≠ p.block) (hv : bv ≠ p.block) (u : Value) : VW w0 bl bv num deep err (w.setCell p u) :=
  ⟨h.below.setCell hp u, h.l0, h.v0, blk_far h.hl hl u, blk_far h.hv hv u⟩
theorem VW.set0 {w0 : World} {bl bv : Nat} {num deep err : Int} {w : World} (h : VW w0 bl bv num deep err w) (v : Int) : VW w0 bl bv v deep err (w.setCell ⟨bl, 0, none⟩ (.int .i64 v)) :=
  ⟨h.below.setCell h.l0 _, h.l0, h.v0, blk_put h.hl 0 _ rfl, blk_far h.hv h.ne.symm _⟩
theorem VW.set1 {w0 : World} {bl bv : Nat} {num deep err : Int} {w : World} (h : VW w0 bl bv num deep err w) (v : Int) : VW w0 bl bv num v err (w.setCell ⟨bl, 1, none⟩ (.int .i64 v)) :=
  ⟨h.below.setCell h.l0 _, h.l0, h.v0, blk_put h.hl 1 _ rfl, blk_far h.hv h.ne.symm _⟩
theorem VW.set2 {w0 : World} {bl bv : Nat} {num deep err : Int} {w : World} (h : VW w0 bl bv num deep err w) (v : Int) : VW w0 bl bv num deep v (w.setCell ⟨bl, 2, none⟩ (.int .i64 v)) :=
  ⟨h.below.setCell h.l0 _, h.l0, h.v0, blk_put h.hl 2 _ rfl, blk_far h.hv h.ne.symm _⟩
theorem VW.low {w0 : World} {bl bv : Nat} {num deep err : Int} {w w' : World} (h : VW w0 bl bv num deep err w) (hb : Below w.heap.size w w') : VW w0 bl bv num deep err w' :=
  ⟨h.below.trans (hb.mono h.below.size), h.l0, h.v0, blk_below h.hl hb, blk_below h.hv hb⟩
theorem VW.c0 {w0 : World} {bl bv : Nat} {num deep err : Int} {w : World} (h : VW w0 bl bv num deep err w) : w.cell? ⟨bl, 0, none⟩ = some (.int .i64 num) := (blk_cell h.hl 0).trans rfl
theorem VW.c1 {w0 : World} {bl bv : Nat} {num deep err : Int} {w : World} (h : VW w0 bl bv num deep err w) : w.cell? ⟨bl, 1, none⟩ = some (.int .i64 deep) := (blk_cell h.hl 1).trans rfl
theorem VW.c2 {w0 : World} {bl bv : Nat} {num deep err : Int} {w : World} (h : VW w0 bl bv num deep err w) : w.cell? ⟨bl, 2, none⟩ = some (.int .i64 err) := (blk_cell h.hl 2).trans rfl
theorem VW.cv {w0 : World} {bl bv : Nat} {num deep err : Int} {w : World} (h : VW w0 bl bv num deep err w) : w.cell? ⟨bv, 0, none⟩ = some (.func (.func 51) #[] #[.pointer (some ⟨bl, 0, none⟩), .pointer (some ⟨bv, 0, none⟩)]) := (blk_cell h.hv 0).trans rfl
theorem VW.fz {w0 : World} {bl bv : Nat} {num deep err : Int} {w : World} (h : VW w0 bl bv num deep err w) (i : Nat) : w.frozen? ⟨bl, i, none⟩ = false := blk_frozen h.hl i
theorem MapIs.low {w w' : World} {m : Nat} {met : List (List UInt8)} (h : MapIs w m met) (hb : Below w.heap.size w w') : MapIs w' m met := by
  obtain ⟨D, ho, hs⟩ := h
  have hlt := ho.lt
  obtain ⟨es, clock, hb1, r⟩ := ho
  exact ⟨D, ⟨es, clock, (hb.block m hlt).trans hb1, r⟩, hs⟩
theorem MapIs.set {w : World} {m : Nat} {met : List (List UInt8)} (h : MapIs w m met) {p : Addr} (hp : m ≠ p.block) (u : Value) : MapIs (w.setCell p u) m met := by
  obtain ⟨D, ho, hs⟩ := h
  exact ⟨D, ho.setCell hp u, hs⟩
/-- The frame of a visit: what was there ahead of it stays, but for block bl and the map's. -/
structure Fr (bl m : Nat) (w w' : World) : Prop where
  size : w.heap.size ≤ w'.heap.size
  same : ∀ b, b < w.heap.size → b ≠ bl → b ≠ m → w'.heap[b]? = w.heap[b]?
theorem Fr.refl (bl m : Nat) (w : World) : Fr bl m w w := ⟨Nat.le_refl _, fun _ _ _ _ => rfl⟩
theorem Fr.trans {bl m : Nat} {a b c : World} (h : Fr bl m a b) (k : Fr bl m b c) : Fr bl m a c := ⟨Nat.le_trans h.size k.size, fun b hb h1 h2 => (k.same b (Nat.lt_of_lt_of_le hb h.size) h1 h2).trans (h.same b hb h1 h2)⟩
theorem Fr.alloc {bl m : Nat} {a b : World} (h : Fr bl m a b) (o : Obj) : Fr bl m a (b.alloc o) :=
  ⟨Nat.le_trans h.size (by simp), fun k hk h1 h2 => (Below.heap_alloc b o k (Nat.lt_of_lt_of_le hk h.size)).trans (h.same k hk h1 h2)⟩
theorem Fr.drewN {bl m : Nat} {a b : World} (h : Fr bl m a b) (n : Nat) : Fr bl m a (b.drewN n) := ⟨by simpa using h.size, fun k hk h1 h2 => by simpa using h.same k hk h1 h2⟩
theorem Fr.set {bl m : Nat} {a b : World} (h : Fr bl m a b) (j : Nat) (u : Value) : Fr bl m a (b.setCell ⟨bl, j, none⟩ u) :=
  ⟨by simpa using h.size, fun k hk h1 h2 => (Below.heap_setCell b _ u k h1).trans (h.same k hk h1 h2)⟩
theorem Fr.new {bl m : Nat} {a b : World} (h : Fr bl m a b) {p : Addr} (hp : a.heap.size ≤ p.block) (u : Value) : Fr bl m a (b.setCell p u) :=
  ⟨by simpa using h.size, fun k hk h1 h2 => (Below.heap_setCell b _ u k (by omega)).trans (h.same k hk h1 h2)⟩
theorem Fr.grown {bl m : Nat} {a b c : World} (h : Fr bl m a b) (hg : b.grownBy c (some m)) : Fr bl m a c :=
  ⟨Nat.le_trans h.size hg.size, fun k hk h1 h2 => (hg.block k (Nat.lt_of_lt_of_le hk h.size) (fun e => h2 (Option.some.inj e))).trans (h.same k hk h1 h2)⟩
theorem Fr.below {bl m : Nat} {a b c : World} (h : Fr bl m a b) (hg : Below b.heap.size b c) : Fr bl m a c :=
  ⟨Nat.le_trans h.size hg.size, fun k hk h1 h2 => (hg.block k (Nat.lt_of_lt_of_le hk h.size)).trans (h.same k hk h1 h2)⟩
/-- A visit with a map of its own (a new one), seen from outside. -/
theorem Fr.inner {bl m m' : Nat} {a b c : World} (h : Fr bl m a b) (hg : Fr bl m' b c) (hm : a.heap.size ≤ m') : Fr bl m a c :=
  ⟨Nat.le_trans h.size hg.size, fun k hk h1 h2 => (hg.same k (Nat.lt_of_lt_of_le hk h.size) h1 (by omega)).trans (h.same k hk h1 h2)⟩
theorem Fr.cell {bl m : Nat} {w w' : World} (h : Fr bl m w w') {a : Addr} {v : Value} (hc : w.cell? a = some v) (h1 : a.block ≠ bl) (h2 : a.block ≠ m) : w'.cell? a = some v :=
  (World.cell?_of_block (w := w) (h.same _ (World.block_lt_of_cell? w _ hc) h1 h2)).trans hc
theorem MapIs.fr {w w' : World} {bl m m' : Nat} {met : List (List UInt8)} (h : MapIs w m met) (hf : Fr bl m' w w') (h1 : m ≠ bl) (h2 : m ≠ m') : MapIs w' m met := by
  obtain ⟨D, ho, hs⟩ := h
  have hlt := ho.lt
  obtain ⟨es, clock, hb1, r⟩ := ho
  exact ⟨D, ⟨es, clock, (hf.same m hlt h1 h2).trans hb1, r⟩, hs⟩
end Go.Proofs.Ytcebfldagnjddaa.G
namespace Go.Proofs.Ytcebfldagnjddaa.G
open Go.RowKit Go.Maps Go.Proofs.YtcebfldagnjddaaW.PrintWords Go.Proofs.YtcebfldagnjddaaW.PrintLast Go.Proofs.YtcebfldagnjddaaW.PrintMore
set_option linter.unusedVariables false
set_option linter.unusedSimpArgs false
def VisitOK (w0 : World) (bl bv k : Nat) : Prop := ∀ (x : S25) (A3 : Option Addr) (c3 : Nat) (A4 : Option Addr) (c4 : Nat) (depth num deep err : Int) (met : List (List UInt8)) (m : Nat) (r : Bool × Int × Int × Int) (w : World),
    k69.C w0 A3 x.f3.length x.f3 → x.f3.length ≤ c3 → k25.C w0 A4 x.f4.length x.f4 → x.f4.length ≤ c4 → VW w0 bl bv num deep err w → MapIs w m met → w0.heap.size ≤ m → m ≠ bl → m ≠ bv → 0 ≤ depth → 0 ≤ num → num ≤ 4096 → (met.length : Int) ≤ num →
    vis1 k x depth num deep met = some r →
    Calls Try.prog 51 #[.agg #[.string x.f0, .string x.f1, .string x.f2, .slice A3 x.f3.length c3, .slice A4 x.f4.length c4], .int .i64 depth, .map (some m), .pointer (some ⟨bl, 0, none⟩), .pointer (some ⟨bv, 0, none⟩)] w fun e w' =>
      e = .returned (.bool r.1) ∧ VW w0 bl bv r.2.1 r.2.2.1 r.2.2.2 w' ∧ Fr bl m w w' ∧ (r.1 = true → MapIs w' m (if x.f1.data.toList = [] then met else x.f1.data.toList :: met))
attribute [local go_sem] max2_max max_two
set_option maxHeartbeats 4000000 in
set_option maxRecDepth 100000 in
theorem visit (w0 : World) (bl bv : Nat) (k : Nat) : VisitOK w0 bl bv k := by
  induction k using Nat.strongRecOn with
  | _ k ih =>
  intro x A3 c3 A4 c4 depth num deep err met m r w h3 hc3 h4 hc4 hV hM hm hml hmv hd hn hn4 hmn h
  have hmm := @run_makeMap Try.prog
  have H3 := Aside0.mk h3
  have H4 := Aside0.mk h4
  have HV := Aside0.mk hV
  have HM := Aside0.mk hM
  have H := Aside0.mk h
  have IH := Aside0.mk ih
  clear h3 h4 hV hM h ih
  obtain ⟨met2, hmet2⟩ : ∃ l, (if x.f1.data.toList = [] then met else x.f1.data.toList :: met) = l := ⟨_, rfl⟩
  rw [hmet2]
  have HMET := Aside0.mk hmet2
  clear hmet2
  go_enter Try.func51, Try.ntmps51
  go_upto_region 1 with ((with_reducible refine gate_dst (N := 5) rfl ?_); refine box_event ?hg (N := 5) ?hd (cs := #[.string x.f0, .string x.f1, .string x.f2, .slice A3 x.f3.length c3, .slice A4 x.f4.length c4]) (t := 25) ?hr ?_; (case hd => rfl); (case hg => rfl); (case hr => first | (go_simp; done) | (go_simp; rfl)); intro g hg w1 hbox hb; have HG := Aside0.mk hg; have HBOX := Aside0.mk hbox; have HB := Aside0.mk hb; clear hbox hb hg)
  have V1 := Aside0.mk (HV.out.low HB.out)
  have q0 := V1.out.c0
  have q1 := V1.out.c1
  have q2 := V1.out.c2
  have z1 := V1.out.fz 1
  go_upto_block 0 with (fail)
  obtain ⟨w2, hw2⟩ : ∃ w2, w1.setCell ⟨bl, 1, none⟩ (.int .i64 (max deep depth)) = w2 := ⟨_, rfl⟩
  rw [hw2]
  have V2 := Aside0.mk (hw2 ▸ V1.out.set1 (max deep depth))
  have F2 := Aside0.mk (hw2 ▸ ((Fr.refl bl m w).below HB.out).set 1 (.int .i64 (max deep depth)))
  have M2 := Aside0.mk (hw2 ▸ (HM.out.low HB.out).set (p := ⟨bl, 1, none⟩) hml (.int .i64 (max deep depth)))
  have G2 := Aside0.mk (hw2 ▸ blk_far (p := ⟨bl, 1, none⟩) HBOX.out (by have := HG.out; have := blk_lt HV.out.hl; show g ≠ bl; omega) (.int .i64 (max deep depth)))
  clear hw2 q0 q1 q2 z1 V1 HV HM HBOX
  have hks : x.f1.size ≤ 140737488351232 := by
    have h := H.out; unfold vis1 at h
    split at h
    · assumption
    · cases h
  obtain ⟨e0, E0, H⟩ : ∃ e0, Aside0 (visE k x depth num = some e0) ∧ Aside0 ((if visX e0 x.f1.data.toList met ≠ 0 then some (false, num, max deep depth, visX e0 x.f1.data.toList met)
    else vis k x.f4 (depth + 1) (num + 1) (max deep depth) []) = some r) := by
    have h := H.out; unfold vis1 at h
    rw [if_pos hks] at h
    obtain ⟨e0, h1, h2⟩ := Option.bind_eq_some_iff.1 h; exact ⟨e0, ⟨h1⟩, ⟨h2⟩⟩
  go_cut [] (fun wc => Aside0 (VW w0 bl bv num (max deep depth) e0 wc) ∧ Aside0 (Fr bl m w wc) ∧ Aside0 (MapIs wc m met) ∧ Aside0 (wc.heap[g]? = some (.cells #[.string x.f0, .string x.f1, .string x.f2, .slice A3 x.f3.length c3, .slice A4 x.f4.length c4] 25 (0, 0))))
  case first =>
    have q0 := V2.out.c0; have q2 := V2.out.c2; have z2 := V2.out.fz 2; have g0 : w2.cell? ⟨g, 0, none⟩ = some (.string x.f0) := (blk_cell G2.out 0).trans rfl; have g1 : w2.cell? ⟨g, 1, none⟩ = some (.string x.f1) := (blk_cell G2.out 1).trans rfl; have g2 : w2.cell? ⟨g, 2, none⟩ = some (.string x.f2) := (blk_cell G2.out 2).trans rfl; have g3 : w2.cell? ⟨g, 3, none⟩ = some (.slice A3 x.f3.length c3) := (blk_cell G2.out 3).trans rfl; have g4 : w2.cell? ⟨g, 4, none⟩ = some (.slice A4 x.f4.length c4) := (blk_cell G2.out 4).trans rfl
    by_cases c1 : num = 4096
    · have c1b : (num == 4096) = true := beq_iff_eq.mpr c1
      have he : e0 = 12 := by have h := E0.out; unfold visE at h; rw [if_pos c1] at h; exact (Option.some.inj h).symm
      clear c1
      go_wp2_with fail
      go_meet
      case rel => exact ⟨⟨he ▸ V2.out.set2 _⟩, ⟨F2.out.set _ _⟩, ⟨M2.out.set (p := ⟨bl, 2, none⟩) hml _⟩, ⟨blk_far (p := ⟨bl, 2, none⟩) G2.out (fun e => by subst e; have := blk_ne G2.out V2.out.hl (by decide); exact this rfl) _⟩⟩
    · have c1b : (num == 4096) = false := beq_eq_false_iff_ne.mpr c1
      by_cases c2 : depth > 64
      · have c2b : decide (64 < depth) = true := decide_eq_true c2
        have he : e0 = 11 := by have h := E0.out; unfold visE at h; rw [if_neg c1, if_pos c2] at h; exact (Option.some.inj h).symm
        clear c1 c2
        go_wp2_with fail
        go_meet
        case rel => exact ⟨⟨he ▸ V2.out.set2 _⟩, ⟨F2.out.set _ _⟩, ⟨M2.out.set (p := ⟨bl, 2, none⟩) hml _⟩, ⟨blk_far (p := ⟨bl, 2, none⟩) G2.out (fun e => by subst e; have := blk_ne G2.out V2.out.hl (by decide); exact this rfl) _⟩⟩
      · have c2b : decide (64 < depth) = false := decide_eq_false c2
        have HE := Aside0.mk (show vtree_wrong.f k x.f0 x.f1 x.f2 x.f3 x.f4 = some e0 by have h := E0.out; unfold visE at h; rwa [if_neg c1, if_neg c2] at h); clear c1 c2
        go_wp2_with (go_at_call 52; refine (vtree_wrong.calls k x.f0 x.f1 x.f2 _ _ x.f3 _ _ x.f4 e0 _ (Kd.C_below H3.out V2.out.below) hc3 (Kd.C_below H4.out V2.out.below) hc4 HE.out).mono ?_; rintro e w3 ⟨rfl, hb3⟩; have V3 := Aside0.mk (V2.out.low hb3); have B3 := Aside0.mk hb3; have q3 := V3.out.c2; have z3 := V3.out.fz 2; clear hb3)
        go_meet
        case rel => exact ⟨⟨V3.out.set2 _⟩, ⟨(F2.out.below B3.out).set _ _⟩, ⟨(M2.out.low B3.out).set (p := ⟨bl, 2, none⟩) hml _⟩, ⟨blk_far (p := ⟨bl, 2, none⟩) (blk_below G2.out B3.out) (fun e => by subst e; have := blk_ne G2.out V2.out.hl (by decide); exact this rfl) _⟩⟩
  case rest =>
  clear V2 F2 M2 G2
  revert wc
  intro w3 hcut
  obtain ⟨V3, F3, M3, G3⟩ := hcut
  have hkey : keyOf Try.prog 9 (.string x.f1) = some (.string x.f1.data.toList) := WideMaps.keyOf_string_mk Try.underlying9 (by unfold maxLen; omega)
  obtain ⟨D, ho, hs⟩ := M3.out
  have HO := Aside0.mk ho
  have HS := Aside0.mk hs
  clear ho hs M3
  go_upto_region 7 with (fail)
  go_cut [10] (fun v10 wc => v10 = .bool (decide (x.f1.data.toList ∈ met)) ∧ Aside0 (VW w0 bl bv num (max deep depth) e0 wc) ∧ Aside0 (Fr bl m w wc) ∧ Aside0 (wc.ownsMap Try.prog 9 unitElem m met.length D) ∧ Aside0 (wc.heap[g]? = some (.cells #[.string x.f0, .string x.f1, .string x.f2, .slice A3 x.f3.length c3, .slice A4 x.f4.length c4] 25 (0, 0))))
  case first =>
    have g1 : w3.cell? ⟨g, 1, none⟩ = some (.string x.f1) := (blk_cell G3.out 1).trans rfl
    go_wp2_with (at_lookup; refine wpList_lookup_own_unit _ rfl _ _ 83 rfl 9 85 law9 Try.underlying83 (zero85 _) m met.length D rfl HO.out _ _ rfl hkey ?_)
    go_meet
    case rel => exact ⟨by rw [HS.out], ⟨V3.out.alloc _⟩, ⟨F3.out.alloc _⟩, ⟨HO.out.alloc _⟩, ⟨blk_alloc G3.out _⟩⟩
  case rest =>
  clear V3 F3 HO G3
  revert wc
  intro w4 hcut
  obtain ⟨rfl, V4, F4, HO, G4⟩ := hcut
  go_upto_region 8 with (fail)
  go_cut [10, 43] (fun v10 v43 wc => v10 = .bool (decide (x.f1.data.toList ∈ met)) ∧ v43 = .bool (decide (e0 = 0 ∧ x.f1.data.toList ∈ met)) ∧ wc = w4)
  case first =>
    have q2 := V4.out.c2
    by_cases c1 : e0 = 0
    · have c1b : (e0 == 0) = true := beq_iff_eq.mpr c1
      obtain ⟨b, hb⟩ : ∃ b, decide (x.f1.data.toList ∈ met) = b := ⟨_, rfl⟩; rw [hb]; have HB := Aside0.mk hb; have C1 := Aside0.mk c1; clear c1 hb
      go_wp2_with fail
      go_meet
      case rel => exact ⟨by rw [← HB.out], by rw [← HB.out]; simp [C1.out], rfl⟩
    · have c1b : (e0 == 0) = false := beq_eq_false_iff_ne.mpr c1
      have C1 := Aside0.mk c1; clear c1
      go_wp2_with fail
      go_meet
      case rel => exact ⟨rfl, by simp [C1.out], rfl⟩
  case rest =>
  revert wc
  intro w5 hcut
  obtain ⟨rfl, rfl, rfl⟩ := hcut
  have hvx : visX e0 x.f1.data.toList met = if decide (e0 = 0 ∧ x.f1.data.toList ∈ met) = true then 10 else e0 := by unfold visX; simp only [decide_eq_true_eq]
  obtain ⟨b43, hb43⟩ : ∃ b, decide (e0 = 0 ∧ x.f1.data.toList ∈ met) = b := ⟨_, rfl⟩
  obtain ⟨b10, hb10⟩ : ∃ b, decide (x.f1.data.toList ∈ met) = b := ⟨_, rfl⟩
  rw [hb43] at hvx
  rw [hb43, hb10]
  clear hb43 hb10
  obtain ⟨e1, he1⟩ : ∃ e1, visX e0 x.f1.data.toList met = e1 := ⟨_, rfl⟩
  rw [he1] at hvx H
  have HN : e1 = 0 → num + 1 ≤ 4096 ∧ depth ≤ 64 := by
    intro h0
    by_cases c : num = 4096
    · have h := E0.out
      unfold visE at h
      rw [if_pos c] at h
      have h := Option.some.inj h; subst h; rw [visX_ne (by decide)] at he1
      omega
    · by_cases c2 : depth > 64
      · have h := E0.out
        unfold visE at h
        rw [if_neg c, if_pos c2] at h
        have h := Option.some.inj h; subst h; rw [visX_ne (by decide)] at he1
        omega
      · omega
  clear he1
  have HVX := Aside0.mk hvx
  clear hvx
  go_upto_if 43 with (fail)
  go_cut [] (fun wc => Aside0 (VW w0 bl bv num (max deep depth) e1 wc) ∧ Aside0 (Fr bl m w wc) ∧ Aside0 (wc.ownsMap Try.prog 9 unitElem m met.length D) ∧ Aside0 (wc.heap[g]? = some (.cells #[.string x.f0, .string x.f1, .string x.f2, .slice A3 x.f3.length c3, .slice A4 x.f4.length c4] 25 (0, 0))))
  case first =>
    have q2 := V4.out.c2; have z2 := V4.out.fz 2; cases b43 with
    | true =>
      have he : e1 = 10 := HVX.out; clear HVX
      go_wp2_with fail
      go_meet
      case rel => exact ⟨⟨he ▸ V4.out.set2 _⟩, ⟨F4.out.set _ _⟩, ⟨HO.out.setCell (a := ⟨bl, 2, none⟩) hml _⟩, ⟨blk_far (p := ⟨bl, 2, none⟩) G4.out (fun e => by subst e; have := blk_ne G4.out V4.out.hl (by decide); exact this rfl) _⟩⟩
    | false =>
      have he : e1 = e0 := HVX.out; clear HVX
      go_wp2_with fail
      go_meet
      case rel => exact ⟨⟨he ▸ V4.out⟩, ⟨F4.out⟩, ⟨HO.out⟩, ⟨G4.out⟩⟩
  case rest =>
  clear V4 F4 HO G4 HVX
  revert wc
  intro w5 hcut
  obtain ⟨V5, F5, HO, G5⟩ := hcut
  have q2 := V5.out.c2
  by_cases ce : e1 = 0
  case neg =>
    have ceb : (e1 != 0) = true := bne_iff_ne.mpr ce; have hr : r = (false, num, max deep depth, e1) := by have h := H.out; rw [if_pos ce] at h; exact (Option.some.inj h).symm
    clear H; subst hr; clear ce
    go_wp2_with fail
    go_ret
    exact ⟨rfl, V5.out, F5.out⟩
  have ceb : (e1 != 0) = false := bne_eq_false_iff_eq.mpr ce
  replace H := Aside0.mk (show vis k x.f4 (depth + 1) (num + 1) (max deep depth) [] = some r by have h := H.out; rwa [if_neg (by omega)] at h)
  obtain ⟨hn5, HD⟩ := HN ce
  clear HN
  have CE := Aside0.mk ce
  clear ce
  have g1 : w5.cell? ⟨g, 1, none⟩ = some (.string x.f1) := (blk_cell G5.out 1).trans rfl
  go_upto_if 50 with (fail)
  go_cut [50] (fun v50 wc => Aside0 (VW w0 bl bv num (max deep depth) 0 wc) ∧ Aside0 (Fr bl m w wc) ∧ Aside0 (MapIs wc m met2) ∧ Aside0 (wc.heap[g]? = some (.cells #[.string x.f0, .string x.f1, .string x.f2, .slice A3 x.f3.length c3, .slice A4 x.f4.length c4] 25 (0, 0))))
  case first =>
    cases hk : x.f1.toList.isEmpty with
    | true =>
      have hm2 : met2 = met := by rw [← HMET.out, if_pos (by rw [← Lib.toList_data]; exact List.isEmpty_iff.1 hk)]
      go_wp2_with fail
      go_meet
      case rel => exact ⟨⟨CE.out ▸ V5.out⟩, ⟨F5.out⟩, ⟨hm2 ▸ ⟨D, HO.out, HS.out⟩⟩, ⟨G5.out⟩⟩
    | false =>
      have hm2 : met2 = x.f1.data.toList :: met := by rw [← HMET.out, if_neg (by rw [← Lib.toList_data]; intro e; rw [e] at hk; cases hk)]
      go_wp2_with (at_mapUpdate; refine wpList_mapUpdate_own _ rfl _ _ _ 83 rfl 9 85 law9 Try.underlying83 (unitElem (H := Unit)) m met.length D rfl HO.out (by unfold maxLen; omega) _ _ _ rfl rfl hkey _ [] unitElem_mk ?_; intro w6 hown1 hgrow1; have O6 := Aside0.mk hown1; have GR := Aside0.mk hgrow1; clear hown1 hgrow1)
      go_meet
      case rel => exact ⟨⟨CE.out ▸ V5.out.grown GR.out hm hml hmv⟩, ⟨F5.out.grown GR.out⟩, ⟨hm2 ▸ MapIs.put HS.out HO.out.isMap O6.out⟩, ⟨blk_grown G5.out GR.out (fun e => by have e := Option.some.inj e; subst e; obtain ⟨_, _, h1, _⟩ := HO.out; have h2 := G5.out; rw [h1] at h2; cases h2)⟩⟩
  case rest =>
  clear V5 F5 HO G5 HS CE ceb g1 q2
  revert wc
  intro w6 hcut
  obtain ⟨V6, F6, M6, G6⟩ := hcut
  have q0 := V6.out.c0
  have z0 := V6.out.fz 0
  have hw1 : IntKind.i64.wrap (num + 1) = num + 1 := IntWalk.i64_in _ (by omega)
  go_upto_region 15 with (fail)
  obtain ⟨w7, hw7⟩ : ∃ w7, w6.setCell ⟨bl, 0, none⟩ (.int .i64 (num + 1)) = w7 := ⟨_, rfl⟩
  rw [hw7]
  have V7 := Aside0.mk (hw7 ▸ V6.out.set0 (num + 1))
  have F7 := Aside0.mk (hw7 ▸ F6.out.set 0 (.int .i64 (num + 1)))
  have M7 := Aside0.mk (hw7 ▸ M6.out.set (p := ⟨bl, 0, none⟩) hml (.int .i64 (num + 1)))
  have G7 := Aside0.mk (hw7 ▸ blk_far (p := ⟨bl, 0, none⟩) G6.out (fun e => by subst e; have := blk_ne G6.out V6.out.hl (by decide); exact this rfl) (.int .i64 (num + 1)))
  clear hw7 q0 z0 V6 F6 M6 G6 hw1
  obtain ⟨w8, hw8⟩ : ∃ w8, w7.alloc (.map #[] 0) = w8 := ⟨_, rfl⟩
  obtain ⟨mb, hmb⟩ : ∃ mb, w7.heap.size = mb := ⟨_, rfl⟩
  replace hmm : ∀ t, (Instr.makeMap t none).run Try.prog w7 = .ok (.map (some mb)) w8 := fun t => by rw [hmm, hmb, hw8]
  have V8 := Aside0.mk (hw8 ▸ V7.out.alloc (.map #[] 0))
  have F8 := Aside0.mk (hw8 ▸ F7.out.alloc (.map #[] 0))
  have M8 := Aside0.mk (hw8 ▸ M7.out.low (below_alloc (Below.refl _ _) (.map #[] 0)))
  have B8 := Aside0.mk (show MapIs w8 mb [] from hw8 ▸ hmb ▸ MapIs.made w7)
  have G8 := Aside0.mk (hw8 ▸ blk_alloc G7.out (.map #[] 0))
  have HMB := Aside0.mk (show mb ≠ bl ∧ mb ≠ bv ∧ mb ≠ m ∧ w.heap.size ≤ mb ∧ w0.heap.size ≤ mb by
    have h1 := blk_lt V7.out.hl; have h2 := blk_lt V7.out.hv; obtain ⟨_, h3, _⟩ := M7.out; have h3 := h3.lt; have h4 := F7.out.size; have h5 := V7.out.below.size; refine ⟨?_, ?_, ?_, ?_, ?_⟩ <;> omega)
  clear hw8 hmb V7 F7 M7 G7
  have g4 : w8.cell? ⟨g, 4, none⟩ = some (.slice A4 x.f4.length c4) := (blk_cell G8.out 4).trans rfl
  go_wp2_with fail
  go_loopg [63] k (fun kq v63 w' => ∃ (i num2 deep2 : Int) (met3 : List (List UInt8)), v63 = .int .i64 i ∧ Aside0 (0 ≤ i ∧ i ≤ x.f4.length ∧ i ≤ num2 ∧ vis kq (x.f4.drop i.toNat) (depth + 1) num2 deep2 met3 = some r ∧ kq ≤ k ∧ 0 ≤ num2 ∧ num2 ≤ 4096 ∧ (met3.length : Int) ≤ num2) ∧ Aside0 (VW w0 bl bv num2 deep2 0 w') ∧ Aside0 (Fr bl m w w') ∧ Aside0 (MapIs w' m met2) ∧ Aside0 (MapIs w' mb met3))
  case atStart => exact ⟨0, num + 1, max deep depth, [], rfl, ⟨by omega, by omega, by omega, by simpa using H.out, by omega, by omega, by omega, by simp; omega⟩, V8, F8, M8, B8⟩
  case round =>
  clear V8 F8 M8 B8 H
  obtain ⟨i, num2, deep2, met3, rfl, HI, V, F, M, B⟩ := hrel
  cases gk with
  | zero => exact absurd HI.out.2.2.2.1 (by simp [vis])
  | succ k1 =>
  by_cases hi : i < x.f4.length
  case neg =>
    have hr : r = (true, num2, deep2, 0) := by
      have h := HI.out.2.2.2.1; rw [List.drop_eq_nil_of_le (by omega)] at h
      exact (Option.some.inj h).symm
    have hib : decide (i < (x.f4.length : Int)) = false := decide_eq_false hi; clear HI hi; subst hr
    go_wp2_with fail
    go_ret
    exact ⟨rfl, V.out, F.out, M.out⟩
  obtain ⟨h0, hi2, hin, hvis, hkk, hn0, hn9, hml3⟩ := HI.out
  clear HI
  obtain ⟨ad, a3, d3, a4, d4, eA, t0, t1, t2, t3, t4, hd3, hC3, hd4, hC4⟩ := at_T25 H4.out i h0 hi
  obtain ⟨y, hy⟩ : ∃ y, rd_T25 x.f4 i = y := ⟨_, rfl⟩
  rw [drop_T25 _ _ h0 hi, vis_cons, hy] at hvis
  rw [hy] at t0 t1 t2 t3 t4 hd3 hC3 hd4 hC4
  obtain ⟨r1, hr1, hvis⟩ := Option.bind_eq_some_iff.1 hvis
  subst eA
  replace t0 := (V.out.below.cell (World.block_lt_of_cell? w0 _ t0)).trans t0
  replace t1 := (V.out.below.cell (World.block_lt_of_cell? w0 _ t1)).trans t1
  replace t2 := (V.out.below.cell (World.block_lt_of_cell? w0 _ t2)).trans t2
  replace t3 := (V.out.below.cell (World.block_lt_of_cell? w0 _ t3)).trans t3
  replace t4 := (V.out.below.cell (World.block_lt_of_cell? w0 _ t4)).trans t4
  have C3 := Aside0.mk hC3
  have C4 := Aside0.mk hC4
  have D3 := Aside0.mk hd3
  have D4 := Aside0.mk hd4
  have HR1 := Aside0.mk hr1
  have HVIS := Aside0.mk hvis
  have HY := Aside0.mk hy
  clear hC3 hC4 hd3 hd4 hr1 hvis hy
  have hib : decide (i < (x.f4.length : Int)) = true := decide_eq_true hi
  have hi0 : decide (0 ≤ i) = true := decide_eq_true h0
  go_upto_region 18 with (fail)
  go_cut [13] (fun v13 wc => ∃ g2, v13 = .pointer (some ⟨g2, 0, none⟩) ∧ Aside0 (wc.heap[g2]? = some (.cells #[.string y.f0, .string y.f1, .string y.f2, .slice a3 y.f3.length d3, .slice a4 y.f4.length d4] 25 (0, 0))) ∧ Aside0 (VW w0 bl bv num2 deep2 0 wc) ∧ Aside0 (Fr bl m w wc) ∧ Aside0 (MapIs wc m met2) ∧ Aside0 (MapIs wc mb met3))
  case first =>
    go_wp2_with ((with_reducible refine gate_dst (N := 13) rfl ?_); refine box_event ?hg (N := 13) ?hd (cs := #[.string ⟨#[]⟩, .string ⟨#[]⟩, .string ⟨#[]⟩, .slice none 0 0, .slice none 0 0]) (t := 25) ?hr ?_; (case hd => rfl); (case hg => rfl); (case hr => first | (go_simp; done) | (go_simp; rfl)); intro g2 hg2 w9 hbox hb; have HG2 := Aside0.mk hg2; have HBOX := Aside0.mk hbox; have HB2 := Aside0.mk hb; have f0 := blk_frozen hbox 0; have f1 := blk_frozen hbox 1; have f2 := blk_frozen hbox 2; have f3 := blk_frozen hbox 3; have f4 := blk_frozen hbox 4; have b0 : w9.cell? ⟨g2, 0, none⟩ = some (.string ⟨#[]⟩) := (blk_cell hbox 0).trans rfl; have b1 : w9.cell? ⟨g2, 1, none⟩ = some (.string ⟨#[]⟩) := (blk_cell hbox 1).trans rfl; have b2 : w9.cell? ⟨g2, 2, none⟩ = some (.string ⟨#[]⟩) := (blk_cell hbox 2).trans rfl; have b3 : w9.cell? ⟨g2, 3, none⟩ = some (.slice none 0 0) := (blk_cell hbox 3).trans rfl; have b4 : w9.cell? ⟨g2, 4, none⟩ = some (.slice none 0 0) := (blk_cell hbox 4).trans rfl; clear hbox hb hg2)
    go_meet
    case rel =>
      have V9 := V.out.low HB2.out; have l1 := blk_lt V.out.hl; have l2 := blk_lt V.out.hv; have l3 := V.out.below.size; have l4 := F.out.size; have n1 : bl ≠ g2 := by have := HG2.out; omega
      have n2 : bv ≠ g2 := by have := HG2.out; omega
      have n3 : w0.heap.size ≤ g2 := by have := HG2.out; omega
      have n4 : w.heap.size ≤ g2 := by have := HG2.out; omega
      have n5 : m ≠ g2 := by obtain ⟨_, h, _⟩ := M.out; have := h.lt; have := HG2.out; omega
      have n6 : mb ≠ g2 := by obtain ⟨_, h, _⟩ := B.out; have := h.lt; have := HG2.out; omega
      exact ⟨g2, rfl, ⟨blk_put (blk_put (blk_put (blk_put (blk_put HBOX.out 0 _ rfl) 1 _ rfl) 2 _ rfl) 3 _ rfl) 4 _ rfl⟩,
        ⟨((((V9.other (p := ⟨g2, 0, none⟩) n3 n1 n2 _).other (p := ⟨g2, 1, none⟩) n3 n1 n2 _).other (p := ⟨g2, 2, none⟩) n3 n1 n2 _).other (p := ⟨g2, 3, none⟩) n3 n1 n2 _).other (p := ⟨g2, 4, none⟩) n3 n1 n2 _⟩,
        ⟨(((((F.out.below HB2.out).new (p := ⟨g2, 0, none⟩) n4 _).new (p := ⟨g2, 1, none⟩) n4 _).new (p := ⟨g2, 2, none⟩) n4 _).new (p := ⟨g2, 3, none⟩) n4 _).new (p := ⟨g2, 4, none⟩) n4 _⟩,
        ⟨(((((M.out.low HB2.out).set (p := ⟨g2, 0, none⟩) n5 _).set (p := ⟨g2, 1, none⟩) n5 _).set (p := ⟨g2, 2, none⟩) n5 _).set (p := ⟨g2, 3, none⟩) n5 _).set (p := ⟨g2, 4, none⟩) n5 _⟩,
        ⟨(((((B.out.low HB2.out).set (p := ⟨g2, 0, none⟩) n6 _).set (p := ⟨g2, 1, none⟩) n6 _).set (p := ⟨g2, 2, none⟩) n6 _).set (p := ⟨g2, 3, none⟩) n6 _).set (p := ⟨g2, 4, none⟩) n6 _⟩⟩
  case rest =>
  clear V F M B t0 t1 t2 t3 t4
  revert wc
  intro w9 hcut
  obtain ⟨g2, rfl, G9, V9, F9, M9, B9⟩ := hcut
  have b0 : w9.cell? ⟨g2, 0, none⟩ = some (.string y.f0) := (blk_cell G9.out 0).trans rfl
  have b1 : w9.cell? ⟨g2, 1, none⟩ = some (.string y.f1) := (blk_cell G9.out 1).trans rfl
  have b2 : w9.cell? ⟨g2, 2, none⟩ = some (.string y.f2) := (blk_cell G9.out 2).trans rfl
  have b3 : w9.cell? ⟨g2, 3, none⟩ = some (.slice a3 y.f3.length d3) := (blk_cell G9.out 3).trans rfl
  have b4 : w9.cell? ⟨g2, 4, none⟩ = some (.slice a4 y.f4.length d4) := (blk_cell G9.out 4).trans rfl
  have qv := V9.out.cv
  have hd64 : depth ≤ 64 := HD
  have hwd : IntKind.i64.wrap (depth + 1) = depth + 1 := IntWalk.i64_in _ (by omega)
  have hwi : IntKind.i64.wrap (i + 1) = i + 1 := IntWalk.i64_in _ (by omega)
  obtain ⟨hmb1, hmb2, hmb3, hmb4, hmb5⟩ := HMB.out
  obtain ⟨b, n1, d1, e2⟩ := r1
  cases b with
  | false =>
    have hr : r = (false, n1, d1, e2) := by have h := HVIS.out; simp at h; exact h.symm
    clear HVIS; subst hr
    go_wp2_with (go_at_call 51; refine (IH.out k1 (by omega) y _ d3 _ d4 (depth + 1) num2 deep2 0 met3 mb (false, n1, d1, e2) _ C3.out D3.out C4.out D4.out V9.out B9.out hmb5 hmb1 hmb2 (by omega) hn0 hn9 hml3 HR1.out).mono ?_; rintro e w10 ⟨rfl, hv, hf, hm'⟩; have VA := Aside0.mk hv; have FA := Aside0.mk hf; clear hv hf hm')
    go_ret
    exact ⟨rfl, VA.out, F9.out.inner FA.out hmb4⟩
  | true =>
    obtain ⟨hj1, hj2, hj3⟩ := vis1_num HR1.out hn9 rfl; have hj3 : e2 = 0 := hj3; have hj1 : num2 + 1 ≤ n1 := hj1; have hj2 : n1 ≤ 4096 := hj2; subst hj3
    go_wp2_with (go_at_call 51; refine (IH.out k1 (by omega) y _ d3 _ d4 (depth + 1) num2 deep2 0 met3 mb (true, n1, d1, 0) _ C3.out D3.out C4.out D4.out V9.out B9.out hmb5 hmb1 hmb2 (by omega) hn0 hn9 hml3 HR1.out).mono ?_; rintro e w10 ⟨rfl, hv, hf, hm'⟩; have VA := Aside0.mk hv; have FA := Aside0.mk hf; have MA := Aside0.mk (hm' rfl); clear hv hf hm')
    go_roundg k1
    case measure => omega
    case rel => exact ⟨i + 1, n1, d1, _, rfl, ⟨by omega, by omega, by omega, by have h := HVIS.out; simpa using h, by omega, by omega, hj2, by split <;> (try simp) <;> omega⟩, VA, ⟨F9.out.inner FA.out hmb4⟩, ⟨M9.out.fr FA.out hml (Ne.symm hmb3)⟩, MA⟩
end Go.Proofs.Ytcebfldagnjddaa.G
namespace Go.Proofs.Ytcebfldagnjddaa.G
open Go.RowKit Go.Maps Go.Proofs.YtcebfldagnjddaaW.PrintWords Go.Proofs.YtcebfldagnjddaaW.PrintLast Go.Proofs.YtcebfldagnjddaaW.PrintMore
set_option linter.unusedVariables false
set_option linter.unusedSimpArgs false
set_option maxHeartbeats 4000000 in
set_option maxRecDepth 100000 in
theorem vtree_check.calls (k : Nat) (a0_0 : ByteArray) (a0_1 : ByteArray) (a0_2 : ByteArray) (A0_3 : Option Addr) (c0_3 : Nat) (l0_3 : List (S69)) (A0_4 : Option Addr) (c0_4 : Nat) (l0_4 : List (S25)) (r1 r2 r3 : Int) (w : World) (hr0_3 : Kd.C k69 w A0_3 l0_3.length l0_3) (hc0_3 : l0_3.length ≤ c0_3) (hr0_4 : Kd.C k25 w A0_4 l0_4.length l0_4) (hc0_4 : l0_4.length ≤ c0_4) (h : vtree_check.f k a0_0 a0_1 a0_2 l0_3 l0_4 = some (r1, r2, r3)) :
    Calls Try.prog 46 #[.agg #[.string a0_0, .string a0_1, .string a0_2, .slice A0_3 l0_3.length c0_3, .slice A0_4 l0_4.length c0_4]] w fun e w' => e = .returned (.agg #[.int .i64 r1, .int .i64 r2, .int .i64 r3]) ∧ Below w.heap.size w w' := by
  obtain ⟨r, h1, h2⟩ := Option.bind_eq_some_iff.1 h
  obtain ⟨b, n1, d1, e1⟩ := r
  obtain ⟨rfl, rfl, rfl⟩ : n1 = r1 ∧ d1 = r2 ∧ e1 = r3 := by simpa using h2
  have H3 := Aside0.mk hr0_3
  have H4 := Aside0.mk hr0_4
  have HC3 := Aside0.mk hc0_3
  have HC4 := Aside0.mk hc0_4
  have H := Aside0.mk h1
  clear h h1 h2 hr0_3 hr0_4 hc0_3 hc0_4
  have hmm := @run_makeMap Try.prog
  have hmf : ∀ (fn : Fn) (first cap : Array Value) (w : World), (Instr.makeFunc fn first cap).run Try.prog w = .ok (.func fn first cap) w := fun _ _ _ _ => rfl
  go_enter Try.func46, Try.ntmps46
  go_upto_region 3 with (first | ((with_reducible refine gate_dst (N := 1) rfl ?_); refine box_event ?hg (N := 1) ?hd (cs := #[.string a0_0, .string a0_1, .string a0_2, .slice A0_3 l0_3.length c0_3, .slice A0_4 l0_4.length c0_4]) (t := 25) ?hr ?_; (case hd => rfl); (case hg => rfl); (case hr => first | (go_simp; done) | (go_simp; rfl)); intro g1 hg w1 hbox hb; have HG1 := Aside0.mk hg; have HX1 := Aside0.mk hbox; have HB1 := Aside0.mk hb; clear hbox hb hg) | ((with_reducible refine gate_dst (N := 2) rfl ?_); refine box_event ?hg (N := 2) ?hd (cs := #[(.int .i64 0), (.int .i64 0), (.int .i64 0)]) (t := 76) ?hr ?_; (case hd => rfl); (case hg => rfl); (case hr => first | (go_simp; done) | (go_simp; rfl)); intro g2 hg w2 hbox hb; have HG2 := Aside0.mk hg; have HX2 := Aside0.mk hbox; have HB2 := Aside0.mk hb; clear hbox hb hg) | ((with_reducible refine gate_dst (N := 3) rfl ?_); refine box_event ?hg (N := 3) ?hd (cs := #[(.int .i64 0), (.int .i64 0), (.int .i64 0)]) (t := 76) ?hr ?_; (case hd => rfl); (case hg => rfl); (case hr => first | (go_simp; done) | (go_simp; rfl)); intro g3 hg w3 hbox hb; have HG3 := Aside0.mk hg; have HX3 := Aside0.mk hbox; have HB3 := Aside0.mk hb; clear hbox hb hg) | ((with_reducible refine gate_dst (N := 4) rfl ?_); refine box_event ?hg (N := 4) ?hd (cs := #[.nilFunc]) (t := 82) ?hr ?_; (case hd => rfl); (case hg => rfl); (case hr => first | (go_simp; done) | (go_simp; rfl)); intro g4 hg w4 hbox hb; have HG4 := Aside0.mk hg; have HX4 := Aside0.mk hbox; have HB4 := Aside0.mk hb; clear hbox hb hg))
  have X1 := Aside0.mk (blk_below (blk_below (blk_below HX1.out HB2.out) HB3.out) HB4.out)
  have X2 := Aside0.mk (blk_below (blk_below HX2.out HB3.out) HB4.out)
  have X3 := Aside0.mk (blk_below HX3.out HB4.out)
  have L1 := Aside0.mk (blk_lt HX1.out)
  have L2 := Aside0.mk (blk_lt HX2.out)
  have L3 := Aside0.mk (blk_lt HX3.out)
  have L4 := Aside0.mk (blk_lt HX4.out)
  have N34 : Aside0 (w.heap.size ≤ g3 ∧ w.heap.size ≤ g4 ∧ g1 ≠ g4 ∧ g2 ≠ g4 ∧ g3 ≠ g4 ∧ g2 ≠ g3 ∧ g1 ≠ g3 ∧ w.heap.size ≤ g2) := ⟨by
    have e1 := HG1.out; have e2 := HG2.out; have e3 := HG3.out; have e4 := HG4.out; have b1 := HB1.out.size; have b2 := HB2.out.size; have b3 := HB3.out.size; have l1 := L1.out; have l2 := L2.out; have l3 := L3.out; refine ⟨?_, ?_, ?_, ?_, ?_, ?_, ?_, ?_⟩ <;> omega⟩
  have BW : Aside0 (Below w.heap.size w w4) := ⟨by
    have b1 := HB1.out; have b2 := b1.trans (HB2.out.mono b1.size); have b3 := b2.trans (HB3.out.mono b2.size); exact b3.trans (HB4.out.mono b3.size)⟩
  have f0 := blk_frozen HX4.out 0
  have c0 : w4.cell? ⟨g4, 0, none⟩ = some .nilFunc := (blk_cell HX4.out 0).trans rfl
  go_upto_region 4 with (fail)
  obtain ⟨w5, hw5⟩ : ∃ w5, w4.setCell ⟨g4, 0, none⟩ (.func (.func 51) #[] #[.pointer (some ⟨g3, 0, none⟩), .pointer (some ⟨g4, 0, none⟩)]) = w5 := ⟨_, rfl⟩
  rw [hw5]
  obtain ⟨n1', n2', n3', n4', n5', n6', n7', n8'⟩ := N34.out
  have V5 := Aside0.mk (show VW w g3 g4 0 0 0 w5 from hw5 ▸ ⟨BW.out.setCell n2' _, n1', n2', blk_far X3.out n5' _, blk_put HX4.out 0 _ rfl⟩)
  have Y1 := Aside0.mk (hw5 ▸ blk_far (p := ⟨g4, 0, none⟩) X1.out n3' (.func (.func 51) #[] #[.pointer (some ⟨g3, 0, none⟩), .pointer (some ⟨g4, 0, none⟩)]))
  have Y2 := Aside0.mk (hw5 ▸ blk_far (p := ⟨g4, 0, none⟩) X2.out n4' (.func (.func 51) #[] #[.pointer (some ⟨g3, 0, none⟩), .pointer (some ⟨g4, 0, none⟩)]))
  clear hw5 f0 c0 X1 X2 X3 HX1 HX2 HX3 HX4 BW
  obtain ⟨w6, hw6⟩ : ∃ w6, w5.alloc (.map #[] 0) = w6 := ⟨_, rfl⟩
  obtain ⟨mb, hmb⟩ : ∃ mb, w5.heap.size = mb := ⟨_, rfl⟩
  replace hmm : ∀ t, (Instr.makeMap t none).run Try.prog w5 = .ok (.map (some mb)) w6 := fun t => by rw [hmm, hmb, hw6]
  have V6 := Aside0.mk (hw6 ▸ V5.out.alloc (.map #[] 0))
  have B6 := Aside0.mk (show MapIs w6 mb [] from hw6 ▸ hmb ▸ MapIs.made w5)
  have Z2 := Aside0.mk (hw6 ▸ blk_alloc Y2.out (.map #[] 0))
  have HMB := Aside0.mk (show mb ≠ g3 ∧ mb ≠ g4 ∧ mb ≠ g2 ∧ w.heap.size ≤ mb by
    have h1 := blk_lt V5.out.hl; have h2 := blk_lt V5.out.hv; have h3 := blk_lt Y2.out; refine ⟨?_, ?_, ?_, ?_⟩ <;> omega)
  obtain ⟨m1, m2, m3, m4⟩ := HMB.out
  have qv := V5.out.cv
  have b0 : w5.cell? ⟨g1, 0, none⟩ = some (.string a0_0) := (blk_cell Y1.out 0).trans rfl
  have b1 : w5.cell? ⟨g1, 1, none⟩ = some (.string a0_1) := (blk_cell Y1.out 1).trans rfl
  have b2 : w5.cell? ⟨g1, 2, none⟩ = some (.string a0_2) := (blk_cell Y1.out 2).trans rfl
  have b3 : w5.cell? ⟨g1, 3, none⟩ = some (.slice A0_3 l0_3.length c0_3) := (blk_cell Y1.out 3).trans rfl
  have b4 : w5.cell? ⟨g1, 4, none⟩ = some (.slice A0_4 l0_4.length c0_4) := (blk_cell Y1.out 4).trans rfl
  clear hw6 hmb
  go_upto_region 5 with (go_at_call 51; refine (visit w g3 g4 k ⟨a0_0, a0_1, a0_2, l0_3, l0_4⟩ _ c0_3 _ c0_4 1 0 0 0 [] mb (b, n1, d1, e1) _ H3.out HC3.out H4.out HC4.out V6.out B6.out m4 m1 m2 (by omega) (by omega) (by omega) (by simp) H.out).mono ?_; rintro e w7 ⟨rfl, hv, hf, hm'⟩; have VA := Aside0.mk hv; have FA := Aside0.mk hf; clear hv hf hm')
  have q0 := VA.out.c0
  have q1 := VA.out.c1
  have q2 := VA.out.c2
  have K2 := (FA.out.same g2 (blk_lt Z2.out) n6' (Ne.symm m3)).trans Z2.out
  have h0_ : w7.cell? ⟨g2, 0, none⟩ = some (.int .i64 0) := (blk_cell K2 0).trans rfl
  have h1_ : w7.cell? ⟨g2, 1, none⟩ = some (.int .i64 0) := (blk_cell K2 1).trans rfl
  have h2_ : w7.cell? ⟨g2, 2, none⟩ = some (.int .i64 0) := (blk_cell K2 2).trans rfl
  have f0 := blk_frozen K2 0
  have f1 := blk_frozen K2 1
  have f2 := blk_frozen K2 2
  have HK2 := Aside0.mk K2
  clear K2
  go_wp2_with fail
  refine bodyPost_ret (results_cell_row rfl _ _ g2 76 #[.int .i64 n1, .int .i64 d1, .int .i64 e1] (0, 0) _ rfl (blk_put (blk_put (blk_put HK2.out 0 _ rfl) 1 _ rfl) 2 _ rfl) Try.underlying76 rfl (by kernel_rfl)) rfl ?_
  exact ⟨rfl, ((VA.out.below.setCell (p := ⟨g2, 0, none⟩) n8' _).setCell (p := ⟨g2, 1, none⟩) n8' _).setCell (p := ⟨g2, 2, none⟩) n8' _⟩
end Go.Proofs.Ytcebfldagnjddaa.G
