/- Linked items in memory: what they are, in plain words; whether one is under another, walked. -/
import Derived.Test.YtgamhkhninogeaaGx0
import Derived.WalkMore
import Derived.LaidEql
namespace Go.Proofs.Ytgamhkhninogeaa.G
open Go.RowKit Go.Proofs.YtgamhkhninogeaaW.PrintWords Go.Proofs.YtgamhkhninogeaaW.PrintLast Go.Proofs.YtgamhkhninogeaaW.PrintMore
set_option linter.unusedVariables false
set_option linter.unusedSimpArgs false

/-- The block of an item. -/
def blq (bs : List Nat) (i : Int) : Nat := bs.getD i.toNat 0
/-- The pointer to an item; below 0: to none. -/
def pa (bs : List Nat) (v : Int) : Option Addr := if v < 0 then none else some ⟨blq bs v, 0, none⟩
def pv (bs : List Nat) (v : Int) : Value := .pointer (pa bs v)
theorem pv_neg (bs : List Nat) {v : Int} (h : v < 0) : pv bs v = .pointer none := by unfold pv pa; rw [if_pos h]
theorem pv_pos (bs : List Nat) {v : Int} (h : ¬ v < 0) : pv bs v = .pointer (some ⟨blq bs v, 0, none⟩) := by unfold pv pa; rw [if_neg h]
/-- The links of items: up 1, first 2, last 3, prev 4, next 5. -/
abbrev FF := Int → Nat → Int
def setF (F : FF) (i : Int) (k : Nat) (v : Int) : FF := fun j l => if j = i ∧ l = k then v else F j l
def cellsF (bs : List Nat) (F : FF) (i : Int) : Array Value := #[.int .i64 i, pv bs (F i 1), pv bs (F i 2), pv bs (F i 3), pv bs (F i 4), pv bs (F i 5)]
/-- Items in memory. -/
structure GW (W : World) (base : Nat) (bs : List Nat) (F : FF) : Prop where
  blk : ∀ i : Int, 0 ≤ i → i < bs.length → W.heap[blq bs i]? = some (.cells (cellsF bs F i) 63 (0, 0))
  ge : ∀ i : Int, 0 ≤ i → i < bs.length → base ≤ blq bs i
  inj : ∀ i j : Int, 0 ≤ i → i < bs.length → 0 ≤ j → j < bs.length → blq bs i = blq bs j → i = j
  rng : ∀ (i : Int) (k : Nat), 0 ≤ i → i < bs.length → F i k < bs.length
theorem GW.below {W W' : World} {base : Nat} {bs : List Nat} {F : FF} (h : GW W base bs F) (hb : Below W.heap.size W W') : GW W' base bs F :=
  ⟨fun i h0 h1 => blk_below (h.blk i h0 h1) hb, h.ge, h.inj, h.rng⟩
theorem GW.mark {W : World} {base : Nat} {bs : List Nat} {F : FF} (h : GW W base bs F) (i : Int) (h0 : 0 ≤ i) (h1 : i < bs.length) : W.cell? ⟨blq bs i, 0, none⟩ = some (.int .i64 i) := (blk_cell (h.blk i h0 h1) 0).trans rfl
theorem GW.cell {W : World} {base : Nat} {bs : List Nat} {F : FF} (h : GW W base bs F) (i : Int) (h0 : 0 ≤ i) (h1 : i < bs.length) (k : Nat) (hk : 1 ≤ k ∧ k ≤ 5) : W.cell? ⟨blq bs i, k, none⟩ = some (pv bs (F i k)) := by
  rw [blk_cell (h.blk i h0 h1) k]
  match k, hk with
  | 1, _ => rfl
  | 2, _ => rfl
  | 3, _ => rfl
  | 4, _ => rfl
  | 5, _ => rfl
theorem GW.frozen {W : World} {base : Nat} {bs : List Nat} {F : FF} (h : GW W base bs F) (i : Int) (h0 : 0 ≤ i) (h1 : i < bs.length) (k : Nat) : W.frozen? ⟨blq bs i, k, none⟩ = false := blk_frozen (h.blk i h0 h1) k
theorem cellsF_set (bs : List Nat) (F : FF) (i : Int) (k : Nat) (v : Int) (hk : 1 ≤ k ∧ k ≤ 5) : (cellsF bs F i).setIfInBounds k (pv bs v) = cellsF bs (setF F i k v) i := by
  match k, hk with
  | 1, _ => simp [cellsF, setF]
  | 2, _ => simp [cellsF, setF]
  | 3, _ => simp [cellsF, setF]
  | 4, _ => simp [cellsF, setF]
  | 5, _ => simp [cellsF, setF]
theorem cellsF_other (bs : List Nat) (F : FF) (i j : Int) (k : Nat) (v : Int) (h : j ≠ i) : cellsF bs (setF F i k v) j = cellsF bs F j := by
  simp [cellsF, setF, h]
theorem GW.set {W : World} {base : Nat} {bs : List Nat} {F : FF} (h : GW W base bs F) (i : Int) (h0 : 0 ≤ i) (h1 : i < bs.length) (k : Nat) (hk : 1 ≤ k ∧ k ≤ 5) (v : Int) (hv : v < bs.length) (u : Value) (hu : pv bs v = u) :
    GW (W.setCell ⟨blq bs i, k, none⟩ u) base bs (setF F i k v) := by
  subst hu
  refine ⟨fun j j0 j1 => ?_, h.ge, h.inj, fun j l j0 j1 => ?_⟩
  · by_cases e : j = i
    · subst e
      exact blk_put (h.blk j j0 j1) k (pv bs v) (cellsF_set bs F j k v hk)
    · rw [cellsF_other bs F i j k v e]
      exact blk_far (h.blk j j0 j1) (p := ⟨blq bs i, k, none⟩) (fun q => e (h.inj j i j0 j1 h0 h1 q)) _
  · unfold setF
    split
    · exact hv
    · exact h.rng j l j0 j1
/-- All blocks but the items' are kept. -/
structure Kq (W w : World) (bs : List Nat) : Prop where
  os : w.os = W.os
  tape : w.tape = W.tape
  output : w.output = W.output
  size : W.heap.size ≤ w.heap.size
  block : ∀ b, b < W.heap.size → b ∉ bs → w.heap[b]? = W.heap[b]?
theorem Kq.of {W w : World} (h : Below W.heap.size W w) (bs : List Nat) : Kq W w bs := ⟨h.os, h.tape, h.output, h.size, fun b hb _ => h.block b hb⟩
theorem Kq.refl (W : World) (bs : List Nat) : Kq W W bs := Kq.of (Below.refl _ _) bs
theorem Kq.trans {W w v : World} {bs : List Nat} (h : Kq W w bs) (h2 : Kq w v bs) : Kq W v bs :=
  ⟨h2.os.trans h.os, h2.tape.trans h.tape, h2.output.trans h.output, Nat.le_trans h.size h2.size, fun b hb hn => (h2.block b (Nat.lt_of_lt_of_le hb h.size) hn).trans (h.block b hb hn)⟩
theorem blq_mem (bs : List Nat) (i : Int) (h0 : 0 ≤ i) (h1 : i < bs.length) : blq bs i ∈ bs := by
  unfold blq
  have : i.toNat < bs.length := by omega
  simp [this]
theorem Kq.set {W : World} {bs : List Nat} (i : Int) (h0 : 0 ≤ i) (h1 : i < bs.length) (k : Nat) (v : Value) : Kq W (W.setCell ⟨blq bs i, k, none⟩ v) bs := by
  have h := (Below.refl (blq bs i) W).setCell (p := ⟨blq bs i, k, none⟩) (Nat.le_refl _) v
  exact ⟨h.os, h.tape, h.output, h.size, fun b hb hn => Below.heap_setCell W _ v b (fun e => hn (e ▸ blq_mem bs i h0 h1))⟩
theorem Kq.below {W w : World} {bs : List Nat} {base : Nat} (h : Kq W w bs) (hge : ∀ b ∈ bs, base ≤ b) (hs : base ≤ W.heap.size) : Below base W w :=
  ⟨h.os, h.tape, h.output, h.size, fun b hb => h.block b (by omega) (fun e => by have := hge b e; omega)⟩

/-- Two pointers to items, compared. -/
theorem eqi_same (d : Nat) (g : Nat) (w : World) : (Op.equalIn (d + 1) 47 (.pointer (some ⟨g, 0, none⟩)) (.pointer (some ⟨g, 0, none⟩))).run Try.prog w = .ok true w := by
  obtain ⟨j, hj, hs⟩ : ∃ j, Try.prog.info? 63 = some j ∧ j.size ≠ 0 := ⟨_, rfl, by decide⟩
  simp [Op.equalIn, run_underlying Try.underlying47, sizeOf, typeInfo, hj, hs, run_sameAddr_same]
theorem eqi_other (d : Nat) {a b : Nat} {ca cb : Array Value} {ta tb : TypeId} (w : World) (hne : ¬ a = b) (ha : w.heap[a]? = some (.cells ca ta (0, 0))) (hb : w.heap[b]? = some (.cells cb tb (0, 0))) :
    (Op.equalIn (d + 1) 47 (.pointer (some ⟨a, 0, none⟩)) (.pointer (some ⟨b, 0, none⟩))).run Try.prog w = .ok false w := by
  obtain ⟨j, hj, hs⟩ : ∃ j, Try.prog.info? 63 = some j ∧ j.size ≠ 0 := ⟨_, rfl, by decide⟩
  have h := run_sameAddr_other (P := Try.prog) w (a := ⟨a, 0, none⟩) (b := ⟨b, 0, none⟩) (fun e => hne (by injection e)) ha hb
  simp [Op.equalIn, run_underlying Try.underlying47, sizeOf, typeInfo, hj, hs, h]
theorem eqp_same (g : Nat) (w : World) : (Op.equal 47 (.pointer (some ⟨g, 0, none⟩)) (.pointer (some ⟨g, 0, none⟩))).run Try.prog w = .ok true w := eqi_same 9999 g w
theorem eqp_other {a b : Nat} {ca cb : Array Value} {ta tb : TypeId} (w : World) (hne : ¬ a = b) (ha : w.heap[a]? = some (.cells ca ta (0, 0))) (hb : w.heap[b]? = some (.cells cb tb (0, 0))) :
    (Op.equal 47 (.pointer (some ⟨a, 0, none⟩)) (.pointer (some ⟨b, 0, none⟩))).run Try.prog w = .ok false w := eqi_other 9999 w hne ha hb
theorem eql_same (g : Nat) (w : World) : (binOp .eql 47 (.pointer (some ⟨g, 0, none⟩)) (.pointer (some ⟨g, 0, none⟩))).run Try.prog w = .ok (.bool true) w := by
  simp only [binOp]
  simp [eqp_same g w]
theorem neq_same (g : Nat) (w : World) : (binOp .neq 47 (.pointer (some ⟨g, 0, none⟩)) (.pointer (some ⟨g, 0, none⟩))).run Try.prog w = .ok (.bool false) w := by
  simp only [binOp]
  simp [eqp_same g w]
theorem GW.eql_other {W : World} {base : Nat} {bs : List Nat} {F : FF} (h : GW W base bs F) (i j : Int) (h0 : 0 ≤ i) (h1 : i < bs.length) (h2 : 0 ≤ j) (h3 : j < bs.length) (hne : i ≠ j) :
    (binOp .eql 47 (.pointer (some ⟨blq bs i, 0, none⟩)) (.pointer (some ⟨blq bs j, 0, none⟩))).run Try.prog W = .ok (.bool false) W := by
  simp only [binOp]
  simp [eqp_other W (fun e => hne (h.inj i j h0 h1 h2 h3 e)) (h.blk i h0 h1) (h.blk j h2 h3)]
theorem GW.neq_other {W : World} {base : Nat} {bs : List Nat} {F : FF} (h : GW W base bs F) (i j : Int) (h0 : 0 ≤ i) (h1 : i < bs.length) (h2 : 0 ≤ j) (h3 : j < bs.length) (hne : i ≠ j) :
    (binOp .neq 47 (.pointer (some ⟨blq bs i, 0, none⟩)) (.pointer (some ⟨blq bs j, 0, none⟩))).run Try.prog W = .ok (.bool true) W := by
  simp only [binOp]
  simp [eqp_other W (fun e => hne (h.inj i j h0 h1 h2 h3 e)) (h.blk i h0 h1) (h.blk j h2 h3)]

/-- Is x the item y, or below it? -/
def und (F : FF) : Nat → Int → Int → Bool
  | 0, _, _ => false
  | k + 1, x, y => if x < 0 then false else if x = y then true else und F k (F x 1) y
/-- The way up from x ends. -/
def fin (F : FF) : Nat → Int → Prop
  | 0, x => x < 0
  | k + 1, x => x < 0 ∨ fin F k (F x 1)

set_option maxHeartbeats 4000000 in
set_option maxRecDepth 100000 in
theorem Under (W : World) (base : Nat) (bs : List Nat) (F : FF) (h : GW W base bs F) (k : Nat) (x y : Int) (hx : x < bs.length) (hy0 : 0 ≤ y) (hy : y < bs.length) (hf : fin F k x) (b : Bool) (hb : und F k x y = b) :
    Calls Try.prog 25 #[pv bs x, pv bs y] W fun e w' => e = .returned (.bool b) ∧ w' = W := by
  have HG := Aside0.mk h
  have HX := Aside0.mk (And.intro hx (And.intro hy0 hy))
  have HF := Aside0.mk (And.intro hf hb)
  rw [pv_pos bs (show ¬ y < 0 by omega)]
  clear h hx hy0 hy hf hb
  obtain ⟨z, hz⟩ : ∃ z, pv bs x = z := ⟨_, rfl⟩
  have HZ := Aside0.mk hz
  rw [hz]
  clear hz
  go_enter Try.func25, Try.ntmps25
  go_wp2_with fail
  go_loopg [0] k (fun kq v0 w => ∃ x : Int, Aside0 (pv bs x = v0) ∧ Aside0 (x < bs.length) ∧ Aside0 (fin F kq x ∧ und F kq x y = b) ∧ w = W)
  case atStart => exact ⟨x, HZ, ⟨HX.out.1⟩, HF, rfl⟩
  case round =>
  clear HF HZ
  obtain ⟨v, hv⟩ : ∃ v, u0 = v := ⟨_, rfl⟩
  subst hv
  obtain ⟨m, HM, HL, HF, rfl⟩ := hrel
  by_cases hn : m < 0
  · have hu : u0 = .pointer none := by rw [← HM.out, pv_neg bs hn]
    have hb : b = false := by
      have := HF.out.2
      cases gk with
      | zero => exact this.symm
      | succ j => unfold und at this; rw [if_pos hn] at this; exact this.symm
    subst hu
    subst hb
    clear hn
    go_wp2_with fail
    refine bodyPost_ret (results_tmp rfl _ _ _) rfl ?_
    exact ⟨rfl, rfl⟩
  · have hu : u0 = .pointer (some ⟨blq bs m, 0, none⟩) := by rw [← HM.out, pv_pos bs hn]
    subst hu
    cases gk with
    | zero => exact absurd HF.out.1 hn
    | succ j =>
      have HB := HF.out.2
      have HE := HF.out.1
      unfold und at HB
      rw [if_neg hn] at HB
      have HM0 := Aside0.mk (show 0 ≤ m by omega)
      by_cases e : m = y
      · rw [if_pos e] at HB
        subst HB
        subst e
        have q1 := eql_same (blq bs m) wr
        clear hn HE
        go_wp2_with fail
        refine bodyPost_ret (results_tmp rfl _ _ _) rfl ?_
        exact ⟨rfl, rfl⟩
      · rw [if_neg e] at HB
        have q1 := HG.out.eql_other m y HM0.out HL.out HX.out.2.1 HX.out.2.2 e
        have hE2 : fin F j (F m 1) := by
          rcases HE with q | q
          · exact absurd q hn
          · exact q
        have HF2 := Aside0.mk (And.intro hE2 HB)
        have c1 := HG.out.cell m HM0.out HL.out 1 (by decide)
        obtain ⟨z2, hz2⟩ : ∃ z2, pv bs (F m 1) = z2 := ⟨_, rfl⟩
        have HZ2 := Aside0.mk hz2
        rw [hz2] at c1
        clear hz2 hE2 HB HE hn e
        go_wp2_with fail
        go_roundg j
        case measure => omega
        case rel => exact ⟨F m 1, HZ2, ⟨HG.out.rng m 1 HM0.out HL.out⟩, HF2, rfl⟩
end Go.Proofs.Ytgamhkhninogeaa.G
