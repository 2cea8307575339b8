/- What the claim LawAdiffLeast rests on, part 1 of 5: the kit's words, the printed walks, the walks by hand, the plain laws. -/
import Derived.Test.YtmpdbblljofjfaaB0
import Derived.Laws.EntriesVeiled
namespace Go.Proofs.Ytmpdbblljofjfaa.G
open Go.RowKit Go.Proofs.YtmpdbblljofjfaaW.PrintWords Go.Proofs.YtmpdbblljofjfaaW.PrintLast Go.Proofs.YtmpdbblljofjfaaW.PrintMore
set_option linter.unusedVariables false
set_option linter.unusedSimpArgs false
abbrev El := Option (Addr × S43) × Option (Addr × S43)
def ptrO (o : Option (Addr × S43)) : Value := .pointer (o.map (·.1))
def encB (x : El) : Array Value := #[ptrO x.1, ptrO x.2]
def leS (a b : ByteArray) : Bool := Op.bytesLess a.toList b.toList || a.toList == b.toList
@[local go_sem high] theorem binOp_leS (t : TypeId) (a b : ByteArray) : binOp .leq t (.string a) (.string b) = pure (.bool (leS a b)) := by simp [binOp, Op.stringOp, leS]
/-- What the iterator hands on: addresses and what lies there. -/
def els : Nat → Addr → Addr → List S43 → List S43 → List El
  | 0, _, _, _, _ => []
  | n + 1, p, q, r, s => match r, s with
    | [], [] => []
    | x :: r, [] => (some (p, x), none) :: els n (p.add 2) q r []
    | [], y :: s => (none, some (q, y)) :: els n p (q.add 2) [] s
    | x :: r, y :: s => if leS x.f0 y.f0 = true then (if leS y.f0 x.f0 = true then (some (p, x), some (q, y)) :: els n (p.add 2) (q.add 2) r s else (some (p, x), none) :: els n (p.add 2) q r (y :: s)) else (none, some (q, y)) :: els n p (q.add 2) (x :: r) s
theorem tailF {w : World} {ok : Nat → Prop} {A : Option Addr} {x : S43} {r : List S43} {c : Nat} (h : Kd.F k43 w ok A (x :: r).length (x :: r)) (hc : (x :: r).length ≤ c) :
    Kd.F k43 w ok (if c = 1 then A else A.map (·.add 2)) r.length r := by
  have := Kd.F_cut (m := 1) h (by simp) hc; have e2 : k43.sz = 2 := rfl; rw [e2] at this; simpa using this
/-- The iterator's two boxes, the lists' blocks, and what the caller holds. -/
structure BX (w : World) (bA bB : Nat) (ok : Nat → Prop) (J : World → Prop) (va vb : Value) (wr : World) : Prop where
  a : wr.heap[bA]? = some (.cells #[va] 22 (0, 0))
  b : wr.heap[bB]? = some (.cells #[vb] 22 (0, 0))
  o : ∀ k, ok k → wr.heap[k]? = w.heap[k]?
  j : J wr
theorem BX.setA {w : World} {bA bB : Nat} {ok : Nat → Prop} {J : World → Prop} {va vb : Value} {wr : World} (h : BX w bA bB ok J va vb wr)
    (hJ : ∀ A B, Mv (fun k => k = bA ∨ k = bB) A B → J A → J B) (hok : ∀ k, ok k → k ≠ bA) (hne : bA ≠ bB) (v : Value) : BX w bA bB ok J v vb (wr.setCell ⟨bA, 0, none⟩ v) :=
  ⟨blk_set h.a 0 v, zG h.b (fun e => hne e.symm) v, fun k hk => (Below.heap_setCell wr ⟨bA, 0, none⟩ v k (hok k hk)).trans (h.o k hk),
    hJ wr _ ⟨(Below.refl 0 wr).setCell (p := ⟨bA, 0, none⟩) (Nat.zero_le _) v, fun k hk => Below.heap_setCell wr ⟨bA, 0, none⟩ v k (fun e => hk (.inl e))⟩ h.j⟩
theorem BX.setB {w : World} {bA bB : Nat} {ok : Nat → Prop} {J : World → Prop} {va vb : Value} {wr : World} (h : BX w bA bB ok J va vb wr)
    (hJ : ∀ A B, Mv (fun k => k = bA ∨ k = bB) A B → J A → J B) (hok : ∀ k, ok k → k ≠ bB) (hne : bA ≠ bB) (v : Value) : BX w bA bB ok J va v (wr.setCell ⟨bB, 0, none⟩ v) :=
  ⟨zG h.a hne v, blk_set h.b 0 v, fun k hk => (Below.heap_setCell wr ⟨bB, 0, none⟩ v k (hok k hk)).trans (h.o k hk),
    hJ wr _ ⟨(Below.refl 0 wr).setCell (p := ⟨bB, 0, none⟩) (Nat.zero_le _) v, fun k hk => Below.heap_setCell wr ⟨bB, 0, none⟩ v k (fun e => hk (.inr e))⟩ h.j⟩
theorem BX.drew {w : World} {bA bB : Nat} {ok : Nat → Prop} {J : World → Prop} {va vb : Value} {wr : World} (h : BX w bA bB ok J va vb wr)
    (hJ : ∀ A B, Mv (fun k => k = bA ∨ k = bB) A B → J A → J B) : BX w bA bB ok J va vb wr.drew :=
  ⟨h.a, h.b, h.o, hJ wr _ ⟨(Below.refl 0 wr).drew, fun _ _ => rfl⟩ h.j⟩
theorem BX.round {w : World} {bA bB t : Nat} {ok : Nat → Prop} {J J' : World → Prop} {va vb : Value} {wr W : World} (h : BX w bA bB ok J va vb wr)
    (hN : bA < w.heap.size ∧ bB < w.heap.size ∧ bA ≠ bB ∧ bA ≠ t ∧ bB ≠ t) (hok : ∀ k, ok k → k < w.heap.size ∧ k ≠ bA ∧ k ≠ bB ∧ k ≠ t)
    (hk : ∀ k, (k < w.heap.size ∧ k ≠ t) → W.heap[k]? = wr.heap[k]?) (hj : J' W) : BX w bA bB ok J' va vb W := by
  exact ⟨(hk _ ⟨hN.1, hN.2.2.2.1⟩).trans h.a, (hk _ ⟨hN.2.1, hN.2.2.2.2⟩).trans h.b, fun k hkk => (hk _ ⟨(hok k hkk).1, (hok k hkk).2.2.2⟩).trans (h.o k hkk), hj⟩
set_option maxHeartbeats 4000000 in
set_option maxRecDepth 100000 in
theorem iter_walk (w : World) (bA bB t : Nat) (hA : bA < w.heap.size) (hB : bB < w.heap.size) (hne : bA ≠ bB) (A0 B0 : Option Addr) (a b : List S43) (ca cb : Nat)
    (cA : w.heap[bA]? = some (.cells #[.slice A0 a.length ca] 22 (0, 0))) (cB : w.heap[bB]? = some (.cells #[.slice B0 b.length cb] 22 (0, 0))) (la : a.length ≤ ca) (lb : b.length ≤ cb)
    (ok : Nat → Prop) (hok : ∀ k, ok k → k < w.heap.size ∧ k ≠ bA ∧ k ≠ bB ∧ k ≠ t) (FA : Kd.F k43 w ok A0 a.length a) (FB : Kd.F k43 w ok B0 b.length b)
    (p q : Addr) (hp : a ≠ [] → A0 = some p) (hq : b ≠ [] → B0 = some q) (hlen : a.length + b.length ≤ 1073741824) (htA : bA ≠ t) (htB : bB ≠ t)
    (m l : Nat) (J : List El → World → Prop) (hJ : ∀ s A B, Mv (fun k => k = bA ∨ k = bB) A B → J s A → J s B)
    (hY : ∀ pre x W1, J pre W1 → pre ++ [x] <+: els (a.length + b.length) p q a b → YieldAt Fence.wide m Try.prog l (encB x) W1 fun e W' => e = .returned (.bool true) ∧ J (pre ++ [x]) W' ∧ ∀ k, (k < w.heap.size ∧ k ≠ t) → W'.heap[k]? = W1.heap[k]?)
    (W : World) (hW : ∀ k, k < w.heap.size → W.heap[k]? = w.heap[k]?) (h0 : J [] W) :
    Calls Try.prog 24 (#[.func (.yield l) #[] #[]] ++ #[.pointer (some ⟨bA, 0, none⟩), .pointer (some ⟨bB, 0, none⟩)]) W fun e W' => (∃ v, e = .returned v) ∧ J (els (a.length + b.length) p q a b) W' := by
  have HF := Aside0.mk (And.intro FA FB); have HOK := Aside0.mk hok; have HJ := Aside0.mk hJ; have HY := Aside0.mk hY; have HL := Aside0.mk hlen; have HW := Aside0.mk hW; have HN := Aside0.mk (And.intro hA (And.intro hB (And.intro hne (And.intro htA htB)))); have HC := Aside0.mk (And.intro cA (And.intro cB (And.intro la (And.intro lb (And.intro hp (And.intro hq h0)))))); clear FA FB hok hJ hY hlen hW hA hB hne cA cB la lb hp hq h0 htA htB
  go_enter Try.func24, Try.ntmps24
  go_wp2_with fail
  go_loopg [4] (a.length + b.length) (fun kq v4 wr => ∃ (pre : List El) (r s : List S43) (Ai Bi : Option Addr) (c1 c2 : Nat) (p1 q1 : Addr), Aside0 (els (a.length + b.length) p q a b = pre ++ els kq p1 q1 r s ∧ r.length + s.length ≤ kq ∧ kq ≤ a.length + b.length ∧ r.length ≤ c1 ∧ s.length ≤ c2 ∧ (r ≠ [] → Ai = some p1) ∧ (s ≠ [] → Bi = some q1)) ∧
    Aside0 (Kd.F k43 w ok Ai r.length r ∧ Kd.F k43 w ok Bi s.length s) ∧ Aside0 (BX w bA bB ok (J pre) (.slice Ai r.length c1) (.slice Bi s.length c2) wr))
  case atStart =>
    obtain ⟨cA, cB, la, lb, hp, hq, h0⟩ := HC.out; obtain ⟨hA, hB, _⟩ := HN.out; exact ⟨[], a, b, A0, B0, ca, cb, p, q, ⟨rfl, Nat.le_refl _, Nat.le_refl _, la, lb, hp, hq⟩, ⟨HF.out⟩, ⟨⟨(HW.out _ hA).trans cA, (HW.out _ hB).trans cB, fun k hk => HW.out k (HOK.out k hk).1, h0⟩⟩⟩
  case round =>
  obtain ⟨pre, r, s, Ai, Bi, c1, c2, p1, q1, HI, HR, HB⟩ := hrel; have b1 : wr.cell? ⟨bA, 0, none⟩ = some (.slice Ai r.length c1) := (zC HB.out.a 0).trans rfl; have b2 : wr.cell? ⟨bB, 0, none⟩ = some (.slice Bi s.length c2) := (zC HB.out.b 0).trans rfl; have f1 : wr.frozen? ⟨bA, 0, none⟩ = false := zR HB.out.a 0; have f2 : wr.frozen? ⟨bB, 0, none⟩ = false := zR HB.out.b 0; obtain ⟨n1, hn1⟩ : ∃ n, r.length = n := ⟨_, rfl⟩; obtain ⟨n2, hn2⟩ : ∃ n, s.length = n := ⟨_, rfl⟩; rw [hn1] at b1; rw [hn2] at b2; have hw12 : Aside0 (wrap64 ((n1 : Int) + (n2 : Int)) = (n1 : Int) + (n2 : Int)) := ⟨by have := HI.out.2.1; have := HI.out.2.2.1; have := HL.out; unfold wrap64; omega⟩; have HN1 := Aside0.mk hn1; have HN2 := Aside0.mk hn2; have neA : Aside0 (∀ k, ok k → k ≠ bA) := ⟨fun k hk => (HOK.out k hk).2.1⟩; have neB : Aside0 (∀ k, ok k → k ≠ bB) := ⟨fun k hk => (HOK.out k hk).2.2.1⟩
  cases r with
  | nil =>
    obtain rfl : 0 = n1 := hn1
    cases s with
    | nil =>
      obtain rfl : 0 = n2 := hn2; clear hw12 neA neB HN1 HN2
      go_wp2_with fail
      go_end0
      refine ⟨⟨_, rfl⟩, ?_⟩; have h1 := HI.out.1
      have h2 : els gk p1 q1 [] [] = [] := by cases gk <;> rfl
      rw [h2, List.append_nil] at h1; rw [h1]; exact HB.out.j
    | cons y s =>
      have hk2 : Aside0 (0 < n2) := ⟨by rw [← HN2.out]; simp⟩
      have u2 : ((n2 : Int) == 0) = false := by have := hk2.out; simp; omega
      have u2' : decide (0 < (n2 : Int)) = true := by have := hk2.out; simp; omega
      have hl2 : (1 : Int) ≤ (n2 : Int) := by have := hk2.out; omega
      have hBi := HI.out.2.2.2.2.2.2 (by simp); subst hBi
      have t1 : decide (0 < wrap64 (((0 : Nat) : Int) + (n2 : Int))) = true := by rw [hw12.out]; have := hk2.out; simp; omega
      have t1' : decide (0 < wrap64 (n2 : Int)) = true := by simpa using t1
      have HB0_ := Aside0.mk (show BX w bA bB ok (J pre) (.slice Ai 0 c1) (.slice (some q1) n2 c2) wr from HN2.out ▸ HB.out)
      go_upto_region 2 with fail
      refine start_ (n := 19) (S := (fun w' => w'.cell? ⟨bA, 0, none⟩ = some (.slice Ai 0 c1) ∧ w'.cell? ⟨bB, 0, none⟩ = some (.slice (some q1) n2 c2))) (ds := []) #[false, false, false, false, false, false, false, false, false, false, false, false, false, false, false, false, false, false, false] (by kernel_rfl) rfl rfl ?_ ?_
      · (first | exact ⟨by assumption, by assumption⟩ | assumption)
      intro hHeld; refine take_ (i := 0) (N := some 12) (v := ?_) (a' := ?_) #[true, false, false, false, false, false, false, false, false, false, false, false, false, false, false, false, false, false, false] rfl rfl (by kernel_rfl) (fun _ _ _ h => h) (Or.inl ⟨by rfl, ?_⟩) hHeld ?_ ?_; rotate_left; (rintro w' ⟨s0, s1⟩; go_simp; (with_reducible rfl)); rotate_left; (simp only [Act.put, List.setIfInBounds_toArray, List.set_cons_zero, List.set_cons_succ, i64_w, i32_w]; rfl); refine pure_ (i := 1) (N := some 13) (v := ?_) (a' := ?_) #[true, true, false, false, false, false, false, false, false, false, false, false, false, false, false, false, false, false, false] rfl rfl (by kernel_rfl) (fun _ _ _ h => h) (Or.inl ⟨by rfl, ?_⟩) ?_ ?_; rotate_left; (intro w'; go_simp; (with_reducible rfl)); rotate_left; (simp only [Act.put, List.setIfInBounds_toArray, List.set_cons_zero, List.set_cons_succ, i64_w, i32_w]; rfl); refine pure_ (i := 2) (N := some 14) (v := ?_) (a' := ?_) #[true, true, true, false, false, false, false, false, false, false, false, false, false, false, false, false, false, false, false] rfl rfl (by kernel_rfl) (fun _ _ _ h => h) (Or.inl ⟨by rfl, ?_⟩) ?_ ?_; rotate_left; (intro w'; go_simp; (with_reducible rfl)); rotate_left; (simp only [Act.put, List.setIfInBounds_toArray, List.set_cons_zero, List.set_cons_succ, i64_w, i32_w]; rfl); refine pure_ (i := 3) (N := some 15) (v := ?_) (a' := ?_) #[true, true, true, true, false, false, false, false, false, false, false, false, false, false, false, false, false, false, false] rfl rfl (by kernel_rfl) (fun _ _ _ h => h) (Or.inl ⟨by rfl, ?_⟩) ?_ ?_; rotate_left; (intro w'; go_simp; (with_reducible rfl)); rotate_left; (simp only [Act.put, List.setIfInBounds_toArray, List.set_cons_zero, List.set_cons_succ, i64_w, i32_w]; rfl); refine take_ (i := 4) (N := some 16) (v := ?_) (a' := ?_) #[true, true, true, true, true, false, false, false, false, false, false, false, false, false, false, false, false, false, false] rfl rfl (by kernel_rfl) (fun _ _ _ h => h) (Or.inl ⟨by rfl, ?_⟩) hHeld ?_ ?_; rotate_left; (rintro w' ⟨s0, s1⟩; go_simp; (with_reducible rfl)); rotate_left; (simp only [Act.put, List.setIfInBounds_toArray, List.set_cons_zero, List.set_cons_succ, i64_w, i32_w]; rfl); refine pure_ (i := 5) (N := some 17) (v := ?_) (a' := ?_) #[true, true, true, true, true, true, false, false, false, false, false, false, false, false, false, false, false, false, false] rfl rfl (by kernel_rfl) (fun _ _ _ h => h) (Or.inl ⟨by rfl, ?_⟩) ?_ ?_; rotate_left; (intro w'; go_simp; (with_reducible rfl)); rotate_left; (simp only [Act.put, List.setIfInBounds_toArray, List.set_cons_zero, List.set_cons_succ, i64_w, i32_w]; rfl); refine pure_ (i := 6) (N := some 18) (v := ?_) (a' := ?_) #[true, true, true, true, true, true, true, false, false, false, false, false, false, false, false, false, false, false, false] rfl rfl (by kernel_rfl) (fun _ _ _ h => h) (Or.inl ⟨by rfl, ?_⟩) ?_ ?_; rotate_left; (intro w'; go_simp; (with_reducible rfl)); rotate_left; (simp only [Act.put, List.setIfInBounds_toArray, List.set_cons_zero, List.set_cons_succ, i64_w, i32_w]; rfl); refine pure_ (i := 7) (N := some 19) (v := ?_) (a' := ?_) #[true, true, true, true, true, true, true, true, false, false, false, false, false, false, false, false, false, false, false] rfl rfl (by kernel_rfl) (fun _ _ _ h => h) (Or.inl ⟨by rfl, ?_⟩) ?_ ?_; rotate_left; (intro w'; go_simp; (with_reducible rfl)); rotate_left; (simp only [Act.put, List.setIfInBounds_toArray, List.set_cons_zero, List.set_cons_succ, i64_w, i32_w]; rfl); refine pure_ (i := 8) (N := some 20) (v := undef) (a' := ?_) #[true, true, true, true, true, true, true, true, true, false, false, false, false, false, false, false, false, false, false] rfl rfl (by kernel_rfl) (fun _ _ _ h => h) (Or.inr ⟨by rfl, rfl⟩) ?_ ?_; rotate_left; (simp only [Act.put, List.setIfInBounds_toArray, List.set_cons_zero, List.set_cons_succ, i64_w, i32_w]; rfl); refine pure_ (i := 9) (N := some 21) (v := undef) (a' := ?_) #[true, true, true, true, true, true, true, true, true, true, false, false, false, false, false, false, false, false, false] rfl rfl (by kernel_rfl) (fun _ _ _ h => h) (Or.inr ⟨by rfl, rfl⟩) ?_ ?_; rotate_left; (simp only [Act.put, List.setIfInBounds_toArray, List.set_cons_zero, List.set_cons_succ, i64_w, i32_w]; rfl); refine pure_ (i := 10) (N := some 22) (v := undef) (a' := ?_) #[true, true, true, true, true, true, true, true, true, true, true, false, false, false, false, false, false, false, false] rfl rfl (by kernel_rfl) (fun _ _ _ h => h) (Or.inr ⟨by rfl, rfl⟩) ?_ ?_; rotate_left; (simp only [Act.put, List.setIfInBounds_toArray, List.set_cons_zero, List.set_cons_succ, i64_w, i32_w]; rfl); refine pure_ (i := 11) (N := some 23) (v := undef) (a' := ?_) #[true, true, true, true, true, true, true, true, true, true, true, true, false, false, false, false, false, false, false] rfl rfl (by kernel_rfl) (fun _ _ _ h => h) (Or.inr ⟨by rfl, rfl⟩) ?_ ?_; rotate_left; (simp only [Act.put, List.setIfInBounds_toArray, List.set_cons_zero, List.set_cons_succ, i64_w, i32_w]; rfl); refine pure_ (i := 12) (N := some 24) (v := undef) (a' := ?_) #[true, true, true, true, true, true, true, true, true, true, true, true, true, false, false, false, false, false, false] rfl rfl (by kernel_rfl) (fun _ _ _ h => h) (Or.inr ⟨by rfl, rfl⟩) ?_ ?_; rotate_left; (simp only [Act.put, List.setIfInBounds_toArray, List.set_cons_zero, List.set_cons_succ, i64_w, i32_w]; rfl); refine pure_ (i := 13) (N := some 25) (v := undef) (a' := ?_) #[true, true, true, true, true, true, true, true, true, true, true, true, true, true, false, false, false, false, false] rfl rfl (by kernel_rfl) (fun _ _ _ h => h) (Or.inr ⟨by rfl, rfl⟩) ?_ ?_; rotate_left; (simp only [Act.put, List.setIfInBounds_toArray, List.set_cons_zero, List.set_cons_succ, i64_w, i32_w]; rfl); refine pure_ (i := 14) (N := some 26) (v := undef) (a' := ?_) #[true, true, true, true, true, true, true, true, true, true, true, true, true, true, true, false, false, false, false] rfl rfl (by kernel_rfl) (fun _ _ _ h => h) (Or.inr ⟨by rfl, rfl⟩) ?_ ?_; rotate_left; (simp only [Act.put, List.setIfInBounds_toArray, List.set_cons_zero, List.set_cons_succ, i64_w, i32_w]; rfl); refine pure_ (i := 15) (N := some 27) (v := undef) (a' := ?_) #[true, true, true, true, true, true, true, true, true, true, true, true, true, true, true, true, false, false, false] rfl rfl (by kernel_rfl) (fun _ _ _ h => h) (Or.inr ⟨by rfl, rfl⟩) ?_ ?_; rotate_left; (simp only [Act.put, List.setIfInBounds_toArray, List.set_cons_zero, List.set_cons_succ, i64_w, i32_w]; rfl); refine pure_ (i := 16) (N := some 28) (v := undef) (a' := ?_) #[true, true, true, true, true, true, true, true, true, true, true, true, true, true, true, true, true, false, false] rfl rfl (by kernel_rfl) (fun _ _ _ h => h) (Or.inr ⟨by rfl, rfl⟩) ?_ ?_; rotate_left; (simp only [Act.put, List.setIfInBounds_toArray, List.set_cons_zero, List.set_cons_succ, i64_w, i32_w]; rfl); refine pure_ (i := 17) (N := some 29) (v := ?_) (a' := ?_) #[true, true, true, true, true, true, true, true, true, true, true, true, true, true, true, true, true, true, false] rfl rfl (by kernel_rfl) (fun _ _ _ h => h) (Or.inl ⟨by rfl, ?_⟩) ?_ ?_; rotate_left; (intro w'; go_simp; (with_reducible rfl)); rotate_left; (simp only [Act.put, List.setIfInBounds_toArray, List.set_cons_zero, List.set_cons_succ, i64_w, i32_w]; rfl); refine pure_ (i := 18) (N := some 30) (v := ?_) (a' := ?_) #[true, true, true, true, true, true, true, true, true, true, true, true, true, true, true, true, true, true, true] rfl rfl (by kernel_rfl) (fun _ _ _ h => h) (Or.inl ⟨by rfl, ?_⟩) ?_ ?_; rotate_left; (intro w'; go_simp; (with_reducible rfl)); rotate_left; (simp only [Act.put, List.setIfInBounds_toArray, List.set_cons_zero, List.set_cons_succ, i64_w, i32_w]; rfl); refine done_ (by kernel_rfl) ?_
      go_upto_region 4 with fail
      refine start_ (n := 19) (S := (fun w' => w'.cell? ⟨bA, 0, none⟩ = some (.slice Ai 0 c1) ∧ w'.cell? ⟨bB, 0, none⟩ = some (.slice (some q1) n2 c2))) (ds := []) #[false, false, false, false, false, false, false, false, false, false, false, false, false, false, false, false, false, false, false] (by kernel_rfl) rfl rfl ?_ ?_
      · (first | exact ⟨by assumption, by assumption⟩ | assumption)
      intro hHeld; refine take_ (i := 0) (N := some 33) (v := ?_) (a' := ?_) #[true, false, false, false, false, false, false, false, false, false, false, false, false, false, false, false, false, false, false] rfl rfl (by kernel_rfl) (fun _ _ _ h => h) (Or.inl ⟨by rfl, ?_⟩) hHeld ?_ ?_; rotate_left; (rintro w' ⟨s0, s1⟩; go_simp; (with_reducible rfl)); rotate_left; (simp only [Act.put, List.setIfInBounds_toArray, List.set_cons_zero, List.set_cons_succ, i64_w, i32_w]; rfl); refine pure_ (i := 1) (N := some 34) (v := ?_) (a' := ?_) #[true, true, false, false, false, false, false, false, false, false, false, false, false, false, false, false, false, false, false] rfl rfl (by kernel_rfl) (fun _ _ _ h => h) (Or.inl ⟨by rfl, ?_⟩) ?_ ?_; rotate_left; (intro w'; go_simp; (with_reducible rfl)); rotate_left; (simp only [Act.put, List.setIfInBounds_toArray, List.set_cons_zero, List.set_cons_succ, i64_w, i32_w]; rfl); refine pure_ (i := 2) (N := some 35) (v := ?_) (a' := ?_) #[true, true, true, false, false, false, false, false, false, false, false, false, false, false, false, false, false, false, false] rfl rfl (by kernel_rfl) (fun _ _ _ h => h) (Or.inl ⟨by rfl, ?_⟩) ?_ ?_; rotate_left; (intro w'; go_simp; (with_reducible rfl)); rotate_left; (simp only [Act.put, List.setIfInBounds_toArray, List.set_cons_zero, List.set_cons_succ, i64_w, i32_w]; rfl); refine pure_ (i := 3) (N := some 36) (v := ?_) (a' := ?_) #[true, true, true, true, false, false, false, false, false, false, false, false, false, false, false, false, false, false, false] rfl rfl (by kernel_rfl) (fun _ _ _ h => h) (Or.inl ⟨by rfl, ?_⟩) ?_ ?_; rotate_left; (intro w'; go_simp; (with_reducible rfl)); rotate_left; (simp only [Act.put, List.setIfInBounds_toArray, List.set_cons_zero, List.set_cons_succ, i64_w, i32_w]; rfl); refine pure_ (i := 4) (N := some 37) (v := undef) (a' := ?_) #[true, true, true, true, true, false, false, false, false, false, false, false, false, false, false, false, false, false, false] rfl rfl (by kernel_rfl) (fun _ _ _ h => h) (Or.inr ⟨by rfl, rfl⟩) ?_ ?_; rotate_left; (simp only [Act.put, List.setIfInBounds_toArray, List.set_cons_zero, List.set_cons_succ, i64_w, i32_w]; rfl); refine pure_ (i := 5) (N := some 38) (v := undef) (a' := ?_) #[true, true, true, true, true, true, false, false, false, false, false, false, false, false, false, false, false, false, false] rfl rfl (by kernel_rfl) (fun _ _ _ h => h) (Or.inr ⟨by rfl, rfl⟩) ?_ ?_; rotate_left; (simp only [Act.put, List.setIfInBounds_toArray, List.set_cons_zero, List.set_cons_succ, i64_w, i32_w]; rfl); refine pure_ (i := 6) (N := some 39) (v := undef) (a' := ?_) #[true, true, true, true, true, true, true, false, false, false, false, false, false, false, false, false, false, false, false] rfl rfl (by kernel_rfl) (fun _ _ _ h => h) (Or.inr ⟨by rfl, rfl⟩) ?_ ?_; rotate_left; (simp only [Act.put, List.setIfInBounds_toArray, List.set_cons_zero, List.set_cons_succ, i64_w, i32_w]; rfl); refine pure_ (i := 7) (N := some 40) (v := undef) (a' := ?_) #[true, true, true, true, true, true, true, true, false, false, false, false, false, false, false, false, false, false, false] rfl rfl (by kernel_rfl) (fun _ _ _ h => h) (Or.inr ⟨by rfl, rfl⟩) ?_ ?_; rotate_left; (simp only [Act.put, List.setIfInBounds_toArray, List.set_cons_zero, List.set_cons_succ, i64_w, i32_w]; rfl); refine pure_ (i := 8) (N := some 41) (v := undef) (a' := ?_) #[true, true, true, true, true, true, true, true, true, false, false, false, false, false, false, false, false, false, false] rfl rfl (by kernel_rfl) (fun _ _ _ h => h) (Or.inr ⟨by rfl, rfl⟩) ?_ ?_; rotate_left; (simp only [Act.put, List.setIfInBounds_toArray, List.set_cons_zero, List.set_cons_succ, i64_w, i32_w]; rfl); refine pure_ (i := 9) (N := some 42) (v := undef) (a' := ?_) #[true, true, true, true, true, true, true, true, true, true, false, false, false, false, false, false, false, false, false] rfl rfl (by kernel_rfl) (fun _ _ _ h => h) (Or.inr ⟨by rfl, rfl⟩) ?_ ?_; rotate_left; (simp only [Act.put, List.setIfInBounds_toArray, List.set_cons_zero, List.set_cons_succ, i64_w, i32_w]; rfl); refine pure_ (i := 10) (N := some 43) (v := undef) (a' := ?_) #[true, true, true, true, true, true, true, true, true, true, true, false, false, false, false, false, false, false, false] rfl rfl (by kernel_rfl) (fun _ _ _ h => h) (Or.inr ⟨by rfl, rfl⟩) ?_ ?_; rotate_left; (simp only [Act.put, List.setIfInBounds_toArray, List.set_cons_zero, List.set_cons_succ, i64_w, i32_w]; rfl); refine pure_ (i := 11) (N := some 44) (v := undef) (a' := ?_) #[true, true, true, true, true, true, true, true, true, true, true, true, false, false, false, false, false, false, false] rfl rfl (by kernel_rfl) (fun _ _ _ h => h) (Or.inr ⟨by rfl, rfl⟩) ?_ ?_; rotate_left; (simp only [Act.put, List.setIfInBounds_toArray, List.set_cons_zero, List.set_cons_succ, i64_w, i32_w]; rfl); refine pure_ (i := 12) (N := some 45) (v := undef) (a' := ?_) #[true, true, true, true, true, true, true, true, true, true, true, true, true, false, false, false, false, false, false] rfl rfl (by kernel_rfl) (fun _ _ _ h => h) (Or.inr ⟨by rfl, rfl⟩) ?_ ?_; rotate_left; (simp only [Act.put, List.setIfInBounds_toArray, List.set_cons_zero, List.set_cons_succ, i64_w, i32_w]; rfl); refine pure_ (i := 13) (N := some 46) (v := undef) (a' := ?_) #[true, true, true, true, true, true, true, true, true, true, true, true, true, true, false, false, false, false, false] rfl rfl (by kernel_rfl) (fun _ _ _ h => h) (Or.inr ⟨by rfl, rfl⟩) ?_ ?_; rotate_left; (simp only [Act.put, List.setIfInBounds_toArray, List.set_cons_zero, List.set_cons_succ, i64_w, i32_w]; rfl); refine pure_ (i := 14) (N := some 47) (v := undef) (a' := ?_) #[true, true, true, true, true, true, true, true, true, true, true, true, true, true, true, false, false, false, false] rfl rfl (by kernel_rfl) (fun _ _ _ h => h) (Or.inr ⟨by rfl, rfl⟩) ?_ ?_; rotate_left; (simp only [Act.put, List.setIfInBounds_toArray, List.set_cons_zero, List.set_cons_succ, i64_w, i32_w]; rfl); refine pure_ (i := 15) (N := some 48) (v := undef) (a' := ?_) #[true, true, true, true, true, true, true, true, true, true, true, true, true, true, true, true, false, false, false] rfl rfl (by kernel_rfl) (fun _ _ _ h => h) (Or.inr ⟨by rfl, rfl⟩) ?_ ?_; rotate_left; (simp only [Act.put, List.setIfInBounds_toArray, List.set_cons_zero, List.set_cons_succ, i64_w, i32_w]; rfl); refine pure_ (i := 16) (N := some 49) (v := undef) (a' := ?_) #[true, true, true, true, true, true, true, true, true, true, true, true, true, true, true, true, true, false, false] rfl rfl (by kernel_rfl) (fun _ _ _ h => h) (Or.inr ⟨by rfl, rfl⟩) ?_ ?_; rotate_left; (simp only [Act.put, List.setIfInBounds_toArray, List.set_cons_zero, List.set_cons_succ, i64_w, i32_w]; rfl); refine pure_ (i := 17) (N := some 50) (v := undef) (a' := ?_) #[true, true, true, true, true, true, true, true, true, true, true, true, true, true, true, true, true, true, false] rfl rfl (by kernel_rfl) (fun _ _ _ h => h) (Or.inr ⟨by rfl, rfl⟩) ?_ ?_; rotate_left; (simp only [Act.put, List.setIfInBounds_toArray, List.set_cons_zero, List.set_cons_succ, i64_w, i32_w]; rfl); refine pure_ (i := 18) (N := some 51) (v := ?_) (a' := ?_) #[true, true, true, true, true, true, true, true, true, true, true, true, true, true, true, true, true, true, true] rfl rfl (by kernel_rfl) (fun _ _ _ h => h) (Or.inl ⟨by rfl, ?_⟩) ?_ ?_; rotate_left; (intro w'; go_simp; (with_reducible rfl)); rotate_left; (simp only [Act.put, List.setIfInBounds_toArray, List.set_cons_zero, List.set_cons_succ, i64_w, i32_w]; rfl); refine done_ (by kernel_rfl) ?_
      by_cases e2 : c2 = 1
      · go_upto_region 10 with fail
        have HB0 := Aside0.mk (show BX w bA bB ok (J pre) (.slice Ai 0 c1) (.slice (some q1) n2 c2) wr from HB0_.out)
        obtain ⟨w2, hw2⟩ : ∃ w2, (wr.setCell ⟨bB, 0, none⟩ (.slice (some q1) (n2 - 1) 0)).drew.drew = w2 := ⟨_, rfl⟩
        rw [hw2]
        have B2 := Aside0.mk (show BX w bA bB ok (J pre) (.slice Ai 0 c1) (.slice (some q1) (n2 - 1) 0) w2 from hw2 ▸ (((HB0.out.setB (HJ.out pre) neB.out HN.out.2.2.1 _).drew (HJ.out pre)).drew (HJ.out pre)))
        clear hw2 HB HB0 HB0_ b1 b2 f1 f2
        cases gk with
        | zero => exact absurd HI.out.2.1 (by simp)
        | succ k1 =>
        have HE := Aside0.mk (show els (a.length + b.length) p q a b = pre ++ (none, some (q1, y)) :: els k1 p1 (q1.add 2) [] s from HI.out.1.trans (by rw [els]))
        obtain ⟨fn, tmps, asg, bdy, hy, hR⟩ := HY.out pre (none, some (q1, y)) w2 B2.out.j ⟨els k1 p1 (q1.add 2) [] s, by rw [HE.out]; simp⟩
        simp only [encB, ptrO, Option.map_some, Option.map_none] at hy
        refine (wpIn_wide (n := m + 1)).1 ?_
        gi_wp2
        refine hR.mono ?_
        rintro e w3 ⟨rfl, hj3, hk3⟩
        have B3 := Aside0.mk (B2.out.round HN.out HOK.out hk3 hj3)
        clear hj3 hk3 hR hy
        gi_wp2
        go_wp2_with fail
        go_roundg k1
        case measure => omega
        case rel =>
          obtain ⟨h1, h2, h3, h4, h5, h6, h7⟩ := HI.out; have FA1 := HR.out.1; have FB1 := HR.out.2; have B4 := B3.out; simp only [List.length_cons, List.length_nil] at h2 h4 h5
          have en2 : n2 - 1 = s.length := by rw [← HN2.out]; rfl
          rw [en2] at B4; have FB2 := tailF FB1 (c := c2) (by simpa using h5); rw [if_pos e2] at FB2; refine ⟨pre ++ [(none, some (q1, y))], [], s, Ai, some q1, c1, 0, p1, (q1.add 2), ⟨by rw [HE.out]; simp, ?_, ?_, ?_, ?_, fun h => absurd rfl h, fun h => absurd (List.length_eq_zero_iff.1 (by omega)) h⟩, ⟨FA1, FB2⟩, ⟨B4⟩⟩
          all_goals ((try simp only [List.length_cons, List.length_nil]); omega)
      · go_upto_region 10 with fail
        have HB0 := Aside0.mk (show BX w bA bB ok (J pre) (.slice Ai 0 c1) (.slice (some q1) n2 c2) wr from HB0_.out)
        obtain ⟨w2, hw2⟩ : ∃ w2, (wr.setCell ⟨bB, 0, none⟩ (.slice (some ⟨q1.block, q1.off + 2, none⟩) (n2 - 1) (c2 - 1))).drew.drew = w2 := ⟨_, rfl⟩
        rw [hw2]
        have B2 := Aside0.mk (show BX w bA bB ok (J pre) (.slice Ai 0 c1) (.slice (some ⟨q1.block, q1.off + 2, none⟩) (n2 - 1) (c2 - 1)) w2 from hw2 ▸ (((HB0.out.setB (HJ.out pre) neB.out HN.out.2.2.1 _).drew (HJ.out pre)).drew (HJ.out pre)))
        clear hw2 HB HB0 HB0_ b1 b2 f1 f2
        cases gk with
        | zero => exact absurd HI.out.2.1 (by simp)
        | succ k1 =>
        have HE := Aside0.mk (show els (a.length + b.length) p q a b = pre ++ (none, some (q1, y)) :: els k1 p1 (q1.add 2) [] s from HI.out.1.trans (by rw [els]))
        obtain ⟨fn, tmps, asg, bdy, hy, hR⟩ := HY.out pre (none, some (q1, y)) w2 B2.out.j ⟨els k1 p1 (q1.add 2) [] s, by rw [HE.out]; simp⟩
        simp only [encB, ptrO, Option.map_some, Option.map_none] at hy
        refine (wpIn_wide (n := m + 1)).1 ?_
        gi_wp2
        refine hR.mono ?_
        rintro e w3 ⟨rfl, hj3, hk3⟩
        have B3 := Aside0.mk (B2.out.round HN.out HOK.out hk3 hj3)
        clear hj3 hk3 hR hy
        gi_wp2
        go_wp2_with fail
        go_roundg k1
        case measure => omega
        case rel =>
          obtain ⟨h1, h2, h3, h4, h5, h6, h7⟩ := HI.out; have FA1 := HR.out.1; have FB1 := HR.out.2; have B4 := B3.out; simp only [List.length_cons, List.length_nil] at h2 h4 h5
          have en2 : n2 - 1 = s.length := by rw [← HN2.out]; rfl
          rw [en2] at B4; have FB2 := tailF FB1 (c := c2) (by simpa using h5); rw [if_neg e2] at FB2; refine ⟨pre ++ [(none, some (q1, y))], [], s, Ai, some (q1.add 2), c1, c2 - 1, p1, (q1.add 2), ⟨by rw [HE.out]; simp, ?_, ?_, ?_, ?_, fun h => absurd rfl h, fun _ => rfl⟩, ⟨FA1, FB2⟩, ⟨B4⟩⟩
          all_goals ((try simp only [List.length_cons, List.length_nil]); omega)
  | cons x r =>
    cases s with
    | nil =>
      obtain rfl : 0 = n2 := hn2; have hk1 : Aside0 (0 < n1) := ⟨by rw [← HN1.out]; simp⟩
      have u1 : ((n1 : Int) == 0) = false := by have := hk1.out; simp; omega
      have u1' : decide (0 < (n1 : Int)) = true := by have := hk1.out; simp; omega
      have hl1 : (1 : Int) ≤ (n1 : Int) := by have := hk1.out; omega
      have hAi := HI.out.2.2.2.2.2.1 (by simp); subst hAi
      have t1 : decide (0 < wrap64 ((n1 : Int) + ((0 : Nat) : Int))) = true := by rw [hw12.out]; have := hk1.out; simp; omega
      have t1' : decide (0 < wrap64 (n1 : Int)) = true := by simpa using t1
      have HB0_ := Aside0.mk (show BX w bA bB ok (J pre) (.slice (some p1) n1 c1) (.slice Bi 0 c2) wr from HN1.out ▸ HB.out)
      go_upto_region 2 with fail
      refine start_ (n := 19) (S := (fun w' => w'.cell? ⟨bA, 0, none⟩ = some (.slice (some p1) n1 c1) ∧ w'.cell? ⟨bB, 0, none⟩ = some (.slice Bi 0 c2))) (ds := []) #[false, false, false, false, false, false, false, false, false, false, false, false, false, false, false, false, false, false, false] (by kernel_rfl) rfl rfl ?_ ?_
      · (first | exact ⟨by assumption, by assumption⟩ | assumption)
      intro hHeld; refine take_ (i := 0) (N := some 12) (v := ?_) (a' := ?_) #[true, false, false, false, false, false, false, false, false, false, false, false, false, false, false, false, false, false, false] rfl rfl (by kernel_rfl) (fun _ _ _ h => h) (Or.inl ⟨by rfl, ?_⟩) hHeld ?_ ?_; rotate_left; (rintro w' ⟨s0, s1⟩; go_simp; (with_reducible rfl)); rotate_left; (simp only [Act.put, List.setIfInBounds_toArray, List.set_cons_zero, List.set_cons_succ, i64_w, i32_w]; rfl); refine pure_ (i := 1) (N := some 13) (v := ?_) (a' := ?_) #[true, true, false, false, false, false, false, false, false, false, false, false, false, false, false, false, false, false, false] rfl rfl (by kernel_rfl) (fun _ _ _ h => h) (Or.inl ⟨by rfl, ?_⟩) ?_ ?_; rotate_left; (intro w'; go_simp; (with_reducible rfl)); rotate_left; (simp only [Act.put, List.setIfInBounds_toArray, List.set_cons_zero, List.set_cons_succ, i64_w, i32_w]; rfl); refine pure_ (i := 2) (N := some 14) (v := ?_) (a' := ?_) #[true, true, true, false, false, false, false, false, false, false, false, false, false, false, false, false, false, false, false] rfl rfl (by kernel_rfl) (fun _ _ _ h => h) (Or.inl ⟨by rfl, ?_⟩) ?_ ?_; rotate_left; (intro w'; go_simp; (with_reducible rfl)); rotate_left; (simp only [Act.put, List.setIfInBounds_toArray, List.set_cons_zero, List.set_cons_succ, i64_w, i32_w]; rfl); refine pure_ (i := 3) (N := some 15) (v := ?_) (a' := ?_) #[true, true, true, true, false, false, false, false, false, false, false, false, false, false, false, false, false, false, false] rfl rfl (by kernel_rfl) (fun _ _ _ h => h) (Or.inl ⟨by rfl, ?_⟩) ?_ ?_; rotate_left; (intro w'; go_simp; (with_reducible rfl)); rotate_left; (simp only [Act.put, List.setIfInBounds_toArray, List.set_cons_zero, List.set_cons_succ, i64_w, i32_w]; rfl); refine pure_ (i := 4) (N := some 16) (v := undef) (a' := ?_) #[true, true, true, true, true, false, false, false, false, false, false, false, false, false, false, false, false, false, false] rfl rfl (by kernel_rfl) (fun _ _ _ h => h) (Or.inr ⟨by rfl, rfl⟩) ?_ ?_; rotate_left; (simp only [Act.put, List.setIfInBounds_toArray, List.set_cons_zero, List.set_cons_succ, i64_w, i32_w]; rfl); refine pure_ (i := 5) (N := some 17) (v := undef) (a' := ?_) #[true, true, true, true, true, true, false, false, false, false, false, false, false, false, false, false, false, false, false] rfl rfl (by kernel_rfl) (fun _ _ _ h => h) (Or.inr ⟨by rfl, rfl⟩) ?_ ?_; rotate_left; (simp only [Act.put, List.setIfInBounds_toArray, List.set_cons_zero, List.set_cons_succ, i64_w, i32_w]; rfl); refine pure_ (i := 6) (N := some 18) (v := undef) (a' := ?_) #[true, true, true, true, true, true, true, false, false, false, false, false, false, false, false, false, false, false, false] rfl rfl (by kernel_rfl) (fun _ _ _ h => h) (Or.inr ⟨by rfl, rfl⟩) ?_ ?_; rotate_left; (simp only [Act.put, List.setIfInBounds_toArray, List.set_cons_zero, List.set_cons_succ, i64_w, i32_w]; rfl); refine pure_ (i := 7) (N := some 19) (v := undef) (a' := ?_) #[true, true, true, true, true, true, true, true, false, false, false, false, false, false, false, false, false, false, false] rfl rfl (by kernel_rfl) (fun _ _ _ h => h) (Or.inr ⟨by rfl, rfl⟩) ?_ ?_; rotate_left; (simp only [Act.put, List.setIfInBounds_toArray, List.set_cons_zero, List.set_cons_succ, i64_w, i32_w]; rfl); refine pure_ (i := 8) (N := some 20) (v := undef) (a' := ?_) #[true, true, true, true, true, true, true, true, true, false, false, false, false, false, false, false, false, false, false] rfl rfl (by kernel_rfl) (fun _ _ _ h => h) (Or.inr ⟨by rfl, rfl⟩) ?_ ?_; rotate_left; (simp only [Act.put, List.setIfInBounds_toArray, List.set_cons_zero, List.set_cons_succ, i64_w, i32_w]; rfl); refine pure_ (i := 9) (N := some 21) (v := undef) (a' := ?_) #[true, true, true, true, true, true, true, true, true, true, false, false, false, false, false, false, false, false, false] rfl rfl (by kernel_rfl) (fun _ _ _ h => h) (Or.inr ⟨by rfl, rfl⟩) ?_ ?_; rotate_left; (simp only [Act.put, List.setIfInBounds_toArray, List.set_cons_zero, List.set_cons_succ, i64_w, i32_w]; rfl); refine pure_ (i := 10) (N := some 22) (v := undef) (a' := ?_) #[true, true, true, true, true, true, true, true, true, true, true, false, false, false, false, false, false, false, false] rfl rfl (by kernel_rfl) (fun _ _ _ h => h) (Or.inr ⟨by rfl, rfl⟩) ?_ ?_; rotate_left; (simp only [Act.put, List.setIfInBounds_toArray, List.set_cons_zero, List.set_cons_succ, i64_w, i32_w]; rfl); refine pure_ (i := 11) (N := some 23) (v := undef) (a' := ?_) #[true, true, true, true, true, true, true, true, true, true, true, true, false, false, false, false, false, false, false] rfl rfl (by kernel_rfl) (fun _ _ _ h => h) (Or.inr ⟨by rfl, rfl⟩) ?_ ?_; rotate_left; (simp only [Act.put, List.setIfInBounds_toArray, List.set_cons_zero, List.set_cons_succ, i64_w, i32_w]; rfl); refine pure_ (i := 12) (N := some 24) (v := undef) (a' := ?_) #[true, true, true, true, true, true, true, true, true, true, true, true, true, false, false, false, false, false, false] rfl rfl (by kernel_rfl) (fun _ _ _ h => h) (Or.inr ⟨by rfl, rfl⟩) ?_ ?_; rotate_left; (simp only [Act.put, List.setIfInBounds_toArray, List.set_cons_zero, List.set_cons_succ, i64_w, i32_w]; rfl); refine pure_ (i := 13) (N := some 25) (v := undef) (a' := ?_) #[true, true, true, true, true, true, true, true, true, true, true, true, true, true, false, false, false, false, false] rfl rfl (by kernel_rfl) (fun _ _ _ h => h) (Or.inr ⟨by rfl, rfl⟩) ?_ ?_; rotate_left; (simp only [Act.put, List.setIfInBounds_toArray, List.set_cons_zero, List.set_cons_succ, i64_w, i32_w]; rfl); refine pure_ (i := 14) (N := some 26) (v := undef) (a' := ?_) #[true, true, true, true, true, true, true, true, true, true, true, true, true, true, true, false, false, false, false] rfl rfl (by kernel_rfl) (fun _ _ _ h => h) (Or.inr ⟨by rfl, rfl⟩) ?_ ?_; rotate_left; (simp only [Act.put, List.setIfInBounds_toArray, List.set_cons_zero, List.set_cons_succ, i64_w, i32_w]; rfl); refine pure_ (i := 15) (N := some 27) (v := undef) (a' := ?_) #[true, true, true, true, true, true, true, true, true, true, true, true, true, true, true, true, false, false, false] rfl rfl (by kernel_rfl) (fun _ _ _ h => h) (Or.inr ⟨by rfl, rfl⟩) ?_ ?_; rotate_left; (simp only [Act.put, List.setIfInBounds_toArray, List.set_cons_zero, List.set_cons_succ, i64_w, i32_w]; rfl); refine pure_ (i := 16) (N := some 28) (v := undef) (a' := ?_) #[true, true, true, true, true, true, true, true, true, true, true, true, true, true, true, true, true, false, false] rfl rfl (by kernel_rfl) (fun _ _ _ h => h) (Or.inr ⟨by rfl, rfl⟩) ?_ ?_; rotate_left; (simp only [Act.put, List.setIfInBounds_toArray, List.set_cons_zero, List.set_cons_succ, i64_w, i32_w]; rfl); refine pure_ (i := 17) (N := some 29) (v := undef) (a' := ?_) #[true, true, true, true, true, true, true, true, true, true, true, true, true, true, true, true, true, true, false] rfl rfl (by kernel_rfl) (fun _ _ _ h => h) (Or.inr ⟨by rfl, rfl⟩) ?_ ?_; rotate_left; (simp only [Act.put, List.setIfInBounds_toArray, List.set_cons_zero, List.set_cons_succ, i64_w, i32_w]; rfl); refine pure_ (i := 18) (N := some 30) (v := ?_) (a' := ?_) #[true, true, true, true, true, true, true, true, true, true, true, true, true, true, true, true, true, true, true] rfl rfl (by kernel_rfl) (fun _ _ _ h => h) (Or.inl ⟨by rfl, ?_⟩) ?_ ?_; rotate_left; (intro w'; go_simp; (with_reducible rfl)); rotate_left; (simp only [Act.put, List.setIfInBounds_toArray, List.set_cons_zero, List.set_cons_succ, i64_w, i32_w]; rfl); refine done_ (by kernel_rfl) ?_
      go_upto_region 4 with fail
      refine start_ (n := 19) (S := (fun w' => w'.cell? ⟨bA, 0, none⟩ = some (.slice (some p1) n1 c1) ∧ w'.cell? ⟨bB, 0, none⟩ = some (.slice Bi 0 c2))) (ds := []) #[false, false, false, false, false, false, false, false, false, false, false, false, false, false, false, false, false, false, false] (by kernel_rfl) rfl rfl ?_ ?_
      · (first | exact ⟨by assumption, by assumption⟩ | assumption)
      intro hHeld; refine take_ (i := 0) (N := some 33) (v := ?_) (a' := ?_) #[true, false, false, false, false, false, false, false, false, false, false, false, false, false, false, false, false, false, false] rfl rfl (by kernel_rfl) (fun _ _ _ h => h) (Or.inl ⟨by rfl, ?_⟩) hHeld ?_ ?_; rotate_left; (rintro w' ⟨s0, s1⟩; go_simp; (with_reducible rfl)); rotate_left; (simp only [Act.put, List.setIfInBounds_toArray, List.set_cons_zero, List.set_cons_succ, i64_w, i32_w]; rfl); refine pure_ (i := 1) (N := some 34) (v := ?_) (a' := ?_) #[true, true, false, false, false, false, false, false, false, false, false, false, false, false, false, false, false, false, false] rfl rfl (by kernel_rfl) (fun _ _ _ h => h) (Or.inl ⟨by rfl, ?_⟩) ?_ ?_; rotate_left; (intro w'; go_simp; (with_reducible rfl)); rotate_left; (simp only [Act.put, List.setIfInBounds_toArray, List.set_cons_zero, List.set_cons_succ, i64_w, i32_w]; rfl); refine pure_ (i := 2) (N := some 35) (v := ?_) (a' := ?_) #[true, true, true, false, false, false, false, false, false, false, false, false, false, false, false, false, false, false, false] rfl rfl (by kernel_rfl) (fun _ _ _ h => h) (Or.inl ⟨by rfl, ?_⟩) ?_ ?_; rotate_left; (intro w'; go_simp; (with_reducible rfl)); rotate_left; (simp only [Act.put, List.setIfInBounds_toArray, List.set_cons_zero, List.set_cons_succ, i64_w, i32_w]; rfl); refine pure_ (i := 3) (N := some 36) (v := ?_) (a' := ?_) #[true, true, true, true, false, false, false, false, false, false, false, false, false, false, false, false, false, false, false] rfl rfl (by kernel_rfl) (fun _ _ _ h => h) (Or.inl ⟨by rfl, ?_⟩) ?_ ?_; rotate_left; (intro w'; go_simp; (with_reducible rfl)); rotate_left; (simp only [Act.put, List.setIfInBounds_toArray, List.set_cons_zero, List.set_cons_succ, i64_w, i32_w]; rfl); refine take_ (i := 4) (N := some 37) (v := ?_) (a' := ?_) #[true, true, true, true, true, false, false, false, false, false, false, false, false, false, false, false, false, false, false] rfl rfl (by kernel_rfl) (fun _ _ _ h => h) (Or.inl ⟨by rfl, ?_⟩) hHeld ?_ ?_; rotate_left; (rintro w' ⟨s0, s1⟩; go_simp; (with_reducible rfl)); rotate_left; (simp only [Act.put, List.setIfInBounds_toArray, List.set_cons_zero, List.set_cons_succ, i64_w, i32_w]; rfl); refine pure_ (i := 5) (N := some 38) (v := ?_) (a' := ?_) #[true, true, true, true, true, true, false, false, false, false, false, false, false, false, false, false, false, false, false] rfl rfl (by kernel_rfl) (fun _ _ _ h => h) (Or.inl ⟨by rfl, ?_⟩) ?_ ?_; rotate_left; (intro w'; go_simp; (with_reducible rfl)); rotate_left; (simp only [Act.put, List.setIfInBounds_toArray, List.set_cons_zero, List.set_cons_succ, i64_w, i32_w]; rfl); refine pure_ (i := 6) (N := some 39) (v := ?_) (a' := ?_) #[true, true, true, true, true, true, true, false, false, false, false, false, false, false, false, false, false, false, false] rfl rfl (by kernel_rfl) (fun _ _ _ h => h) (Or.inl ⟨by rfl, ?_⟩) ?_ ?_; rotate_left; (intro w'; go_simp; (with_reducible rfl)); rotate_left; (simp only [Act.put, List.setIfInBounds_toArray, List.set_cons_zero, List.set_cons_succ, i64_w, i32_w]; rfl); refine pure_ (i := 7) (N := some 40) (v := ?_) (a' := ?_) #[true, true, true, true, true, true, true, true, false, false, false, false, false, false, false, false, false, false, false] rfl rfl (by kernel_rfl) (fun _ _ _ h => h) (Or.inl ⟨by rfl, ?_⟩) ?_ ?_; rotate_left; (intro w'; go_simp; (with_reducible rfl)); rotate_left; (simp only [Act.put, List.setIfInBounds_toArray, List.set_cons_zero, List.set_cons_succ, i64_w, i32_w]; rfl); refine pure_ (i := 8) (N := some 41) (v := undef) (a' := ?_) #[true, true, true, true, true, true, true, true, true, false, false, false, false, false, false, false, false, false, false] rfl rfl (by kernel_rfl) (fun _ _ _ h => h) (Or.inr ⟨by rfl, rfl⟩) ?_ ?_; rotate_left; (simp only [Act.put, List.setIfInBounds_toArray, List.set_cons_zero, List.set_cons_succ, i64_w, i32_w]; rfl); refine pure_ (i := 9) (N := some 42) (v := undef) (a' := ?_) #[true, true, true, true, true, true, true, true, true, true, false, false, false, false, false, false, false, false, false] rfl rfl (by kernel_rfl) (fun _ _ _ h => h) (Or.inr ⟨by rfl, rfl⟩) ?_ ?_; rotate_left; (simp only [Act.put, List.setIfInBounds_toArray, List.set_cons_zero, List.set_cons_succ, i64_w, i32_w]; rfl); refine pure_ (i := 10) (N := some 43) (v := undef) (a' := ?_) #[true, true, true, true, true, true, true, true, true, true, true, false, false, false, false, false, false, false, false] rfl rfl (by kernel_rfl) (fun _ _ _ h => h) (Or.inr ⟨by rfl, rfl⟩) ?_ ?_; rotate_left; (simp only [Act.put, List.setIfInBounds_toArray, List.set_cons_zero, List.set_cons_succ, i64_w, i32_w]; rfl); refine pure_ (i := 11) (N := some 44) (v := undef) (a' := ?_) #[true, true, true, true, true, true, true, true, true, true, true, true, false, false, false, false, false, false, false] rfl rfl (by kernel_rfl) (fun _ _ _ h => h) (Or.inr ⟨by rfl, rfl⟩) ?_ ?_; rotate_left; (simp only [Act.put, List.setIfInBounds_toArray, List.set_cons_zero, List.set_cons_succ, i64_w, i32_w]; rfl); refine pure_ (i := 12) (N := some 45) (v := undef) (a' := ?_) #[true, true, true, true, true, true, true, true, true, true, true, true, true, false, false, false, false, false, false] rfl rfl (by kernel_rfl) (fun _ _ _ h => h) (Or.inr ⟨by rfl, rfl⟩) ?_ ?_; rotate_left; (simp only [Act.put, List.setIfInBounds_toArray, List.set_cons_zero, List.set_cons_succ, i64_w, i32_w]; rfl); refine pure_ (i := 13) (N := some 46) (v := undef) (a' := ?_) #[true, true, true, true, true, true, true, true, true, true, true, true, true, true, false, false, false, false, false] rfl rfl (by kernel_rfl) (fun _ _ _ h => h) (Or.inr ⟨by rfl, rfl⟩) ?_ ?_; rotate_left; (simp only [Act.put, List.setIfInBounds_toArray, List.set_cons_zero, List.set_cons_succ, i64_w, i32_w]; rfl); refine pure_ (i := 14) (N := some 47) (v := undef) (a' := ?_) #[true, true, true, true, true, true, true, true, true, true, true, true, true, true, true, false, false, false, false] rfl rfl (by kernel_rfl) (fun _ _ _ h => h) (Or.inr ⟨by rfl, rfl⟩) ?_ ?_; rotate_left; (simp only [Act.put, List.setIfInBounds_toArray, List.set_cons_zero, List.set_cons_succ, i64_w, i32_w]; rfl); refine pure_ (i := 15) (N := some 48) (v := undef) (a' := ?_) #[true, true, true, true, true, true, true, true, true, true, true, true, true, true, true, true, false, false, false] rfl rfl (by kernel_rfl) (fun _ _ _ h => h) (Or.inr ⟨by rfl, rfl⟩) ?_ ?_; rotate_left; (simp only [Act.put, List.setIfInBounds_toArray, List.set_cons_zero, List.set_cons_succ, i64_w, i32_w]; rfl); refine pure_ (i := 16) (N := some 49) (v := undef) (a' := ?_) #[true, true, true, true, true, true, true, true, true, true, true, true, true, true, true, true, true, false, false] rfl rfl (by kernel_rfl) (fun _ _ _ h => h) (Or.inr ⟨by rfl, rfl⟩) ?_ ?_; rotate_left; (simp only [Act.put, List.setIfInBounds_toArray, List.set_cons_zero, List.set_cons_succ, i64_w, i32_w]; rfl); refine pure_ (i := 17) (N := some 50) (v := ?_) (a' := ?_) #[true, true, true, true, true, true, true, true, true, true, true, true, true, true, true, true, true, true, false] rfl rfl (by kernel_rfl) (fun _ _ _ h => h) (Or.inl ⟨by rfl, ?_⟩) ?_ ?_; rotate_left; (intro w'; go_simp; (with_reducible rfl)); rotate_left; (simp only [Act.put, List.setIfInBounds_toArray, List.set_cons_zero, List.set_cons_succ, i64_w, i32_w]; rfl); refine pure_ (i := 18) (N := some 51) (v := ?_) (a' := ?_) #[true, true, true, true, true, true, true, true, true, true, true, true, true, true, true, true, true, true, true] rfl rfl (by kernel_rfl) (fun _ _ _ h => h) (Or.inl ⟨by rfl, ?_⟩) ?_ ?_; rotate_left; (intro w'; go_simp; (with_reducible rfl)); rotate_left; (simp only [Act.put, List.setIfInBounds_toArray, List.set_cons_zero, List.set_cons_succ, i64_w, i32_w]; rfl); refine done_ (by kernel_rfl) ?_
      by_cases e1 : c1 = 1
      · go_upto_region 10 with fail
        have HB0 := Aside0.mk (show BX w bA bB ok (J pre) (.slice (some p1) n1 c1) (.slice Bi 0 c2) wr from HB0_.out)
        obtain ⟨w2, hw2⟩ : ∃ w2, (wr.setCell ⟨bA, 0, none⟩ (.slice (some p1) (n1 - 1) 0)).drew.drew = w2 := ⟨_, rfl⟩
        rw [hw2]
        have B2 := Aside0.mk (show BX w bA bB ok (J pre) (.slice (some p1) (n1 - 1) 0) (.slice Bi 0 c2) w2 from hw2 ▸ (((HB0.out.setA (HJ.out pre) neA.out HN.out.2.2.1 _).drew (HJ.out pre)).drew (HJ.out pre)))
        clear hw2 HB HB0 HB0_ b1 b2 f1 f2
        cases gk with
        | zero => exact absurd HI.out.2.1 (by simp)
        | succ k1 =>
        have HE := Aside0.mk (show els (a.length + b.length) p q a b = pre ++ (some (p1, x), none) :: els k1 (p1.add 2) q1 r [] from HI.out.1.trans (by rw [els]))
        obtain ⟨fn, tmps, asg, bdy, hy, hR⟩ := HY.out pre (some (p1, x), none) w2 B2.out.j ⟨els k1 (p1.add 2) q1 r [], by rw [HE.out]; simp⟩
        simp only [encB, ptrO, Option.map_some, Option.map_none] at hy
        refine (wpIn_wide (n := m + 1)).1 ?_
        gi_wp2
        refine hR.mono ?_
        rintro e w3 ⟨rfl, hj3, hk3⟩
        have B3 := Aside0.mk (B2.out.round HN.out HOK.out hk3 hj3)
        clear hj3 hk3 hR hy
        gi_wp2
        go_wp2_with fail
        go_roundg k1
        case measure => omega
        case rel =>
          obtain ⟨h1, h2, h3, h4, h5, h6, h7⟩ := HI.out; have FA1 := HR.out.1; have FB1 := HR.out.2; have B4 := B3.out; simp only [List.length_cons, List.length_nil] at h2 h4 h5
          have en1 : n1 - 1 = r.length := by rw [← HN1.out]; rfl
          rw [en1] at B4; have FA2 := tailF FA1 (c := c1) (by simpa using h4); rw [if_pos e1] at FA2; refine ⟨pre ++ [(some (p1, x), none)], r, [], some p1, Bi, 0, c2, (p1.add 2), q1, ⟨by rw [HE.out]; simp, ?_, ?_, ?_, ?_, fun h => absurd (List.length_eq_zero_iff.1 (by omega)) h, fun h => absurd rfl h⟩, ⟨FA2, FB1⟩, ⟨B4⟩⟩
          all_goals ((try simp only [List.length_cons, List.length_nil]); omega)
      · go_upto_region 10 with fail
        have HB0 := Aside0.mk (show BX w bA bB ok (J pre) (.slice (some p1) n1 c1) (.slice Bi 0 c2) wr from HB0_.out)
        obtain ⟨w2, hw2⟩ : ∃ w2, (wr.setCell ⟨bA, 0, none⟩ (.slice (some ⟨p1.block, p1.off + 2, none⟩) (n1 - 1) (c1 - 1))).drew.drew = w2 := ⟨_, rfl⟩
        rw [hw2]
        have B2 := Aside0.mk (show BX w bA bB ok (J pre) (.slice (some ⟨p1.block, p1.off + 2, none⟩) (n1 - 1) (c1 - 1)) (.slice Bi 0 c2) w2 from hw2 ▸ (((HB0.out.setA (HJ.out pre) neA.out HN.out.2.2.1 _).drew (HJ.out pre)).drew (HJ.out pre)))
        clear hw2 HB HB0 HB0_ b1 b2 f1 f2
        cases gk with
        | zero => exact absurd HI.out.2.1 (by simp)
        | succ k1 =>
        have HE := Aside0.mk (show els (a.length + b.length) p q a b = pre ++ (some (p1, x), none) :: els k1 (p1.add 2) q1 r [] from HI.out.1.trans (by rw [els]))
        obtain ⟨fn, tmps, asg, bdy, hy, hR⟩ := HY.out pre (some (p1, x), none) w2 B2.out.j ⟨els k1 (p1.add 2) q1 r [], by rw [HE.out]; simp⟩
        simp only [encB, ptrO, Option.map_some, Option.map_none] at hy
        refine (wpIn_wide (n := m + 1)).1 ?_
        gi_wp2
        refine hR.mono ?_
        rintro e w3 ⟨rfl, hj3, hk3⟩
        have B3 := Aside0.mk (B2.out.round HN.out HOK.out hk3 hj3)
        clear hj3 hk3 hR hy
        gi_wp2
        go_wp2_with fail
        go_roundg k1
        case measure => omega
        case rel =>
          obtain ⟨h1, h2, h3, h4, h5, h6, h7⟩ := HI.out; have FA1 := HR.out.1; have FB1 := HR.out.2; have B4 := B3.out; simp only [List.length_cons, List.length_nil] at h2 h4 h5
          have en1 : n1 - 1 = r.length := by rw [← HN1.out]; rfl
          rw [en1] at B4; have FA2 := tailF FA1 (c := c1) (by simpa using h4); rw [if_neg e1] at FA2; refine ⟨pre ++ [(some (p1, x), none)], r, [], some (p1.add 2), Bi, c1 - 1, c2, (p1.add 2), q1, ⟨by rw [HE.out]; simp, ?_, ?_, ?_, ?_, fun _ => rfl, fun h => absurd rfl h⟩, ⟨FA2, FB1⟩, ⟨B4⟩⟩
          all_goals ((try simp only [List.length_cons, List.length_nil]); omega)
    | cons y s =>
      have hk1 : Aside0 (0 < n1) := ⟨by rw [← HN1.out]; simp⟩
      have u1 : ((n1 : Int) == 0) = false := by have := hk1.out; simp; omega
      have u1' : decide (0 < (n1 : Int)) = true := by have := hk1.out; simp; omega
      have hl1 : (1 : Int) ≤ (n1 : Int) := by have := hk1.out; omega
      have hAi := HI.out.2.2.2.2.2.1 (by simp); subst hAi; have hk2 : Aside0 (0 < n2) := ⟨by rw [← HN2.out]; simp⟩
      have u2 : ((n2 : Int) == 0) = false := by have := hk2.out; simp; omega
      have u2' : decide (0 < (n2 : Int)) = true := by have := hk2.out; simp; omega
      have hl2 : (1 : Int) ≤ (n2 : Int) := by have := hk2.out; omega
      have hBi := HI.out.2.2.2.2.2.2 (by simp); subst hBi
      have t1 : decide (0 < wrap64 ((n1 : Int) + (n2 : Int))) = true := by rw [hw12.out]; have := hk1.out; have := hk2.out; simp; omega
      have HB0_ := Aside0.mk (show BX w bA bB ok (J pre) (.slice (some p1) n1 c1) (.slice (some q1) n2 c2) wr from HN1.out ▸ HN2.out ▸ HB.out); have v1 : 0 < n1 := hk1.out; have v2 : 0 < n2 := hk2.out; have v3 : ¬ bA = bB := HN.out.2.2.1
      have v4 : ¬ bB = bA := fun e => HN.out.2.2.1 e.symm
      have g1 : wr.cell? p1 = some (.string x.f0) := by
        obtain ⟨ad, h1, h2, _⟩ := at_T43 (HR.out.1 wr (fun k hk _ => HB.out.o k hk)) 0 (by omega) (by simp); obtain rfl := Option.some.inj h1; exact h2
      have g2 : wr.cell? q1 = some (.string y.f0) := by
        obtain ⟨ad, h1, h2, _⟩ := at_T43 (HR.out.2 wr (fun k hk _ => HB.out.o k hk)) 0 (by omega) (by simp); obtain rfl := Option.some.inj h1; exact h2
      have HSW := Aside0.mk (show leS x.f0 y.f0 = false → leS y.f0 x.f0 = true from fun h => by have h2 := Go.Proofs.Ytmpdbblljofjfaa.Str.bytesLess_swap x.f0.toList y.f0.toList; unfold leS at h ⊢; rw [h] at h2; rw [← h2]; rfl)
      cases l1 : leS x.f0 y.f0 with
      | false =>
        have l2 := HSW.out l1
        go_upto_region 2 with fail
        refine start_ (n := 19) (S := (fun w' => w'.cell? ⟨bA, 0, none⟩ = some (.slice (some p1) n1 c1) ∧ w'.cell? ⟨bB, 0, none⟩ = some (.slice (some q1) n2 c2) ∧ w'.cell? p1 = some (.string x.f0) ∧ w'.cell? q1 = some (.string y.f0))) (ds := []) #[false, false, false, false, false, false, false, false, false, false, false, false, false, false, false, false, false, false, false] (by kernel_rfl) rfl rfl ?_ ?_
        · (first | exact ⟨by assumption, by assumption, by assumption, by assumption⟩ | assumption)
        intro hHeld; refine take_ (i := 0) (N := some 12) (v := ?_) (a' := ?_) #[true, false, false, false, false, false, false, false, false, false, false, false, false, false, false, false, false, false, false] rfl rfl (by kernel_rfl) (fun _ _ _ h => h) (Or.inl ⟨by rfl, ?_⟩) hHeld ?_ ?_; rotate_left; (rintro w' ⟨s0, s1, s2, s3⟩; go_simp; (with_reducible rfl)); rotate_left; (simp only [Act.put, List.setIfInBounds_toArray, List.set_cons_zero, List.set_cons_succ, i64_w, i32_w]; rfl); refine pure_ (i := 1) (N := some 13) (v := ?_) (a' := ?_) #[true, true, false, false, false, false, false, false, false, false, false, false, false, false, false, false, false, false, false] rfl rfl (by kernel_rfl) (fun _ _ _ h => h) (Or.inl ⟨by rfl, ?_⟩) ?_ ?_; rotate_left; (intro w'; go_simp; (with_reducible rfl)); rotate_left; (simp only [Act.put, List.setIfInBounds_toArray, List.set_cons_zero, List.set_cons_succ, i64_w, i32_w]; rfl); refine pure_ (i := 2) (N := some 14) (v := ?_) (a' := ?_) #[true, true, true, false, false, false, false, false, false, false, false, false, false, false, false, false, false, false, false] rfl rfl (by kernel_rfl) (fun _ _ _ h => h) (Or.inl ⟨by rfl, ?_⟩) ?_ ?_; rotate_left; (intro w'; go_simp; (with_reducible rfl)); rotate_left; (simp only [Act.put, List.setIfInBounds_toArray, List.set_cons_zero, List.set_cons_succ, i64_w, i32_w]; rfl); refine pure_ (i := 3) (N := some 15) (v := ?_) (a' := ?_) #[true, true, true, true, false, false, false, false, false, false, false, false, false, false, false, false, false, false, false] rfl rfl (by kernel_rfl) (fun _ _ _ h => h) (Or.inl ⟨by rfl, ?_⟩) ?_ ?_; rotate_left; (intro w'; go_simp; (with_reducible rfl)); rotate_left; (simp only [Act.put, List.setIfInBounds_toArray, List.set_cons_zero, List.set_cons_succ, i64_w, i32_w]; rfl); refine take_ (i := 4) (N := some 16) (v := ?_) (a' := ?_) #[true, true, true, true, true, false, false, false, false, false, false, false, false, false, false, false, false, false, false] rfl rfl (by kernel_rfl) (fun _ _ _ h => h) (Or.inl ⟨by rfl, ?_⟩) hHeld ?_ ?_; rotate_left; (rintro w' ⟨s0, s1, s2, s3⟩; go_simp; (with_reducible rfl)); rotate_left; (simp only [Act.put, List.setIfInBounds_toArray, List.set_cons_zero, List.set_cons_succ, i64_w, i32_w]; rfl); refine pure_ (i := 5) (N := some 17) (v := ?_) (a' := ?_) #[true, true, true, true, true, true, false, false, false, false, false, false, false, false, false, false, false, false, false] rfl rfl (by kernel_rfl) (fun _ _ _ h => h) (Or.inl ⟨by rfl, ?_⟩) ?_ ?_; rotate_left; (intro w'; go_simp; (with_reducible rfl)); rotate_left; (simp only [Act.put, List.setIfInBounds_toArray, List.set_cons_zero, List.set_cons_succ, i64_w, i32_w]; rfl); refine pure_ (i := 6) (N := some 18) (v := ?_) (a' := ?_) #[true, true, true, true, true, true, true, false, false, false, false, false, false, false, false, false, false, false, false] rfl rfl (by kernel_rfl) (fun _ _ _ h => h) (Or.inl ⟨by rfl, ?_⟩) ?_ ?_; rotate_left; (intro w'; go_simp; (with_reducible rfl)); rotate_left; (simp only [Act.put, List.setIfInBounds_toArray, List.set_cons_zero, List.set_cons_succ, i64_w, i32_w]; rfl); refine pure_ (i := 7) (N := some 19) (v := ?_) (a' := ?_) #[true, true, true, true, true, true, true, true, false, false, false, false, false, false, false, false, false, false, false] rfl rfl (by kernel_rfl) (fun _ _ _ h => h) (Or.inl ⟨by rfl, ?_⟩) ?_ ?_; rotate_left; (intro w'; go_simp; (with_reducible rfl)); rotate_left; (simp only [Act.put, List.setIfInBounds_toArray, List.set_cons_zero, List.set_cons_succ, i64_w, i32_w]; rfl); refine take_ (i := 8) (N := some 20) (v := ?_) (a' := ?_) #[true, true, true, true, true, true, true, true, true, false, false, false, false, false, false, false, false, false, false] rfl rfl (by kernel_rfl) (fun _ _ _ h => h) (Or.inl ⟨by rfl, ?_⟩) hHeld ?_ ?_; rotate_left; (rintro w' ⟨s0, s1, s2, s3⟩; go_simp; (with_reducible rfl)); rotate_left; (simp only [Act.put, List.setIfInBounds_toArray, List.set_cons_zero, List.set_cons_succ, i64_w, i32_w]; rfl); refine pure_ (i := 9) (N := some 21) (v := ?_) (a' := ?_) #[true, true, true, true, true, true, true, true, true, true, false, false, false, false, false, false, false, false, false] rfl rfl (by kernel_rfl) (fun _ _ _ h => h) (Or.inl ⟨by rfl, ?_⟩) ?_ ?_; rotate_left; (intro w'; go_simp; (with_reducible rfl)); rotate_left; (simp only [Act.put, List.setIfInBounds_toArray, List.set_cons_zero, List.set_cons_succ, i64_w, i32_w]; rfl); refine pure_ (i := 10) (N := some 22) (v := ?_) (a' := ?_) #[true, true, true, true, true, true, true, true, true, true, true, false, false, false, false, false, false, false, false] rfl rfl (by kernel_rfl) (fun _ _ _ h => h) (Or.inl ⟨by rfl, ?_⟩) ?_ ?_; rotate_left; (intro w'; go_simp; (with_reducible rfl)); rotate_left; (simp only [Act.put, List.setIfInBounds_toArray, List.set_cons_zero, List.set_cons_succ, i64_w, i32_w]; rfl); refine take_ (i := 11) (N := some 23) (v := ?_) (a' := ?_) #[true, true, true, true, true, true, true, true, true, true, true, true, false, false, false, false, false, false, false] rfl rfl (by kernel_rfl) (fun _ _ _ h => h) (Or.inl ⟨by rfl, ?_⟩) hHeld ?_ ?_; rotate_left; (rintro w' ⟨s0, s1, s2, s3⟩; go_simp; (with_reducible rfl)); rotate_left; (simp only [Act.put, List.setIfInBounds_toArray, List.set_cons_zero, List.set_cons_succ, i64_w, i32_w]; rfl); refine take_ (i := 12) (N := some 24) (v := ?_) (a' := ?_) #[true, true, true, true, true, true, true, true, true, true, true, true, true, false, false, false, false, false, false] rfl rfl (by kernel_rfl) (fun _ _ _ h => h) (Or.inl ⟨by rfl, ?_⟩) hHeld ?_ ?_; rotate_left; (rintro w' ⟨s0, s1, s2, s3⟩; go_simp; (with_reducible rfl)); rotate_left; (simp only [Act.put, List.setIfInBounds_toArray, List.set_cons_zero, List.set_cons_succ, i64_w, i32_w]; rfl); refine pure_ (i := 13) (N := some 25) (v := ?_) (a' := ?_) #[true, true, true, true, true, true, true, true, true, true, true, true, true, true, false, false, false, false, false] rfl rfl (by kernel_rfl) (fun _ _ _ h => h) (Or.inl ⟨by rfl, ?_⟩) ?_ ?_; rotate_left; (intro w'; go_simp; (with_reducible rfl)); rotate_left; (simp only [Act.put, List.setIfInBounds_toArray, List.set_cons_zero, List.set_cons_succ, i64_w, i32_w]; rfl); refine pure_ (i := 14) (N := some 26) (v := ?_) (a' := ?_) #[true, true, true, true, true, true, true, true, true, true, true, true, true, true, true, false, false, false, false] rfl rfl (by kernel_rfl) (fun _ _ _ h => h) (Or.inl ⟨by rfl, ?_⟩) ?_ ?_; rotate_left; (intro w'; go_simp; (with_reducible rfl)); rotate_left; (simp only [Act.put, List.setIfInBounds_toArray, List.set_cons_zero, List.set_cons_succ, i64_w, i32_w]; rfl); refine take_ (i := 15) (N := some 27) (v := ?_) (a' := ?_) #[true, true, true, true, true, true, true, true, true, true, true, true, true, true, true, true, false, false, false] rfl rfl (by kernel_rfl) (fun _ _ _ h => h) (Or.inl ⟨by rfl, ?_⟩) hHeld ?_ ?_; rotate_left; (rintro w' ⟨s0, s1, s2, s3⟩; go_simp; (with_reducible rfl)); rotate_left; (simp only [Act.put, List.setIfInBounds_toArray, List.set_cons_zero, List.set_cons_succ, i64_w, i32_w]; rfl); refine pure_ (i := 16) (N := some 28) (v := ?_) (a' := ?_) #[true, true, true, true, true, true, true, true, true, true, true, true, true, true, true, true, true, false, false] rfl rfl (by kernel_rfl) (fun _ _ _ h => h) (Or.inl ⟨by rfl, ?_⟩) ?_ ?_; rotate_left; (intro w'; go_simp; (with_reducible rfl)); rotate_left; (simp only [Act.put, List.setIfInBounds_toArray, List.set_cons_zero, List.set_cons_succ, i64_w, i32_w]; rfl); refine pure_ (i := 17) (N := some 29) (v := ?_) (a' := ?_) #[true, true, true, true, true, true, true, true, true, true, true, true, true, true, true, true, true, true, false] rfl rfl (by kernel_rfl) (fun _ _ _ h => h) (Or.inl ⟨by rfl, ?_⟩) ?_ ?_; rotate_left; (intro w'; go_simp; (with_reducible rfl)); rotate_left; (simp only [Act.put, List.setIfInBounds_toArray, List.set_cons_zero, List.set_cons_succ, i64_w, i32_w]; rfl); refine pure_ (i := 18) (N := some 30) (v := ?_) (a' := ?_) #[true, true, true, true, true, true, true, true, true, true, true, true, true, true, true, true, true, true, true] rfl rfl (by kernel_rfl) (fun _ _ _ h => h) (Or.inl ⟨by rfl, ?_⟩) ?_ ?_; rotate_left; (intro w'; go_simp; (with_reducible rfl)); rotate_left; (simp only [Act.put, List.setIfInBounds_toArray, List.set_cons_zero, List.set_cons_succ, i64_w, i32_w]; rfl); refine done_ (by kernel_rfl) ?_
        go_upto_region 4 with fail
        refine start_ (n := 19) (S := (fun w' => w'.cell? ⟨bA, 0, none⟩ = some (.slice (some p1) n1 c1) ∧ w'.cell? ⟨bB, 0, none⟩ = some (.slice (some q1) n2 c2) ∧ w'.cell? p1 = some (.string x.f0) ∧ w'.cell? q1 = some (.string y.f0))) (ds := []) #[false, false, false, false, false, false, false, false, false, false, false, false, false, false, false, false, false, false, false] (by kernel_rfl) rfl rfl ?_ ?_
        · (first | exact ⟨by assumption, by assumption, by assumption, by assumption⟩ | assumption)
        intro hHeld; refine take_ (i := 0) (N := some 33) (v := ?_) (a' := ?_) #[true, false, false, false, false, false, false, false, false, false, false, false, false, false, false, false, false, false, false] rfl rfl (by kernel_rfl) (fun _ _ _ h => h) (Or.inl ⟨by rfl, ?_⟩) hHeld ?_ ?_; rotate_left; (rintro w' ⟨s0, s1, s2, s3⟩; go_simp; (with_reducible rfl)); rotate_left; (simp only [Act.put, List.setIfInBounds_toArray, List.set_cons_zero, List.set_cons_succ, i64_w, i32_w]; rfl); refine pure_ (i := 1) (N := some 34) (v := ?_) (a' := ?_) #[true, true, false, false, false, false, false, false, false, false, false, false, false, false, false, false, false, false, false] rfl rfl (by kernel_rfl) (fun _ _ _ h => h) (Or.inl ⟨by rfl, ?_⟩) ?_ ?_; rotate_left; (intro w'; go_simp; (with_reducible rfl)); rotate_left; (simp only [Act.put, List.setIfInBounds_toArray, List.set_cons_zero, List.set_cons_succ, i64_w, i32_w]; rfl); refine pure_ (i := 2) (N := some 35) (v := ?_) (a' := ?_) #[true, true, true, false, false, false, false, false, false, false, false, false, false, false, false, false, false, false, false] rfl rfl (by kernel_rfl) (fun _ _ _ h => h) (Or.inl ⟨by rfl, ?_⟩) ?_ ?_; rotate_left; (intro w'; go_simp; (with_reducible rfl)); rotate_left; (simp only [Act.put, List.setIfInBounds_toArray, List.set_cons_zero, List.set_cons_succ, i64_w, i32_w]; rfl); refine pure_ (i := 3) (N := some 36) (v := ?_) (a' := ?_) #[true, true, true, true, false, false, false, false, false, false, false, false, false, false, false, false, false, false, false] rfl rfl (by kernel_rfl) (fun _ _ _ h => h) (Or.inl ⟨by rfl, ?_⟩) ?_ ?_; rotate_left; (intro w'; go_simp; (with_reducible rfl)); rotate_left; (simp only [Act.put, List.setIfInBounds_toArray, List.set_cons_zero, List.set_cons_succ, i64_w, i32_w]; rfl); refine take_ (i := 4) (N := some 37) (v := ?_) (a' := ?_) #[true, true, true, true, true, false, false, false, false, false, false, false, false, false, false, false, false, false, false] rfl rfl (by kernel_rfl) (fun _ _ _ h => h) (Or.inl ⟨by rfl, ?_⟩) hHeld ?_ ?_; rotate_left; (rintro w' ⟨s0, s1, s2, s3⟩; go_simp; (with_reducible rfl)); rotate_left; (simp only [Act.put, List.setIfInBounds_toArray, List.set_cons_zero, List.set_cons_succ, i64_w, i32_w]; rfl); refine pure_ (i := 5) (N := some 38) (v := ?_) (a' := ?_) #[true, true, true, true, true, true, false, false, false, false, false, false, false, false, false, false, false, false, false] rfl rfl (by kernel_rfl) (fun _ _ _ h => h) (Or.inl ⟨by rfl, ?_⟩) ?_ ?_; rotate_left; (intro w'; go_simp; (with_reducible rfl)); rotate_left; (simp only [Act.put, List.setIfInBounds_toArray, List.set_cons_zero, List.set_cons_succ, i64_w, i32_w]; rfl); refine pure_ (i := 6) (N := some 39) (v := ?_) (a' := ?_) #[true, true, true, true, true, true, true, false, false, false, false, false, false, false, false, false, false, false, false] rfl rfl (by kernel_rfl) (fun _ _ _ h => h) (Or.inl ⟨by rfl, ?_⟩) ?_ ?_; rotate_left; (intro w'; go_simp; (with_reducible rfl)); rotate_left; (simp only [Act.put, List.setIfInBounds_toArray, List.set_cons_zero, List.set_cons_succ, i64_w, i32_w]; rfl); refine pure_ (i := 7) (N := some 40) (v := ?_) (a' := ?_) #[true, true, true, true, true, true, true, true, false, false, false, false, false, false, false, false, false, false, false] rfl rfl (by kernel_rfl) (fun _ _ _ h => h) (Or.inl ⟨by rfl, ?_⟩) ?_ ?_; rotate_left; (intro w'; go_simp; (with_reducible rfl)); rotate_left; (simp only [Act.put, List.setIfInBounds_toArray, List.set_cons_zero, List.set_cons_succ, i64_w, i32_w]; rfl); refine take_ (i := 8) (N := some 41) (v := ?_) (a' := ?_) #[true, true, true, true, true, true, true, true, true, false, false, false, false, false, false, false, false, false, false] rfl rfl (by kernel_rfl) (fun _ _ _ h => h) (Or.inl ⟨by rfl, ?_⟩) hHeld ?_ ?_; rotate_left; (rintro w' ⟨s0, s1, s2, s3⟩; go_simp; (with_reducible rfl)); rotate_left; (simp only [Act.put, List.setIfInBounds_toArray, List.set_cons_zero, List.set_cons_succ, i64_w, i32_w]; rfl); refine pure_ (i := 9) (N := some 42) (v := ?_) (a' := ?_) #[true, true, true, true, true, true, true, true, true, true, false, false, false, false, false, false, false, false, false] rfl rfl (by kernel_rfl) (fun _ _ _ h => h) (Or.inl ⟨by rfl, ?_⟩) ?_ ?_; rotate_left; (intro w'; go_simp; (with_reducible rfl)); rotate_left; (simp only [Act.put, List.setIfInBounds_toArray, List.set_cons_zero, List.set_cons_succ, i64_w, i32_w]; rfl); refine pure_ (i := 10) (N := some 43) (v := ?_) (a' := ?_) #[true, true, true, true, true, true, true, true, true, true, true, false, false, false, false, false, false, false, false] rfl rfl (by kernel_rfl) (fun _ _ _ h => h) (Or.inl ⟨by rfl, ?_⟩) ?_ ?_; rotate_left; (intro w'; go_simp; (with_reducible rfl)); rotate_left; (simp only [Act.put, List.setIfInBounds_toArray, List.set_cons_zero, List.set_cons_succ, i64_w, i32_w]; rfl); refine take_ (i := 11) (N := some 44) (v := ?_) (a' := ?_) #[true, true, true, true, true, true, true, true, true, true, true, true, false, false, false, false, false, false, false] rfl rfl (by kernel_rfl) (fun _ _ _ h => h) (Or.inl ⟨by rfl, ?_⟩) hHeld ?_ ?_; rotate_left; (rintro w' ⟨s0, s1, s2, s3⟩; go_simp; (with_reducible rfl)); rotate_left; (simp only [Act.put, List.setIfInBounds_toArray, List.set_cons_zero, List.set_cons_succ, i64_w, i32_w]; rfl); refine take_ (i := 12) (N := some 45) (v := ?_) (a' := ?_) #[true, true, true, true, true, true, true, true, true, true, true, true, true, false, false, false, false, false, false] rfl rfl (by kernel_rfl) (fun _ _ _ h => h) (Or.inl ⟨by rfl, ?_⟩) hHeld ?_ ?_; rotate_left; (rintro w' ⟨s0, s1, s2, s3⟩; go_simp; (with_reducible rfl)); rotate_left; (simp only [Act.put, List.setIfInBounds_toArray, List.set_cons_zero, List.set_cons_succ, i64_w, i32_w]; rfl); refine pure_ (i := 13) (N := some 46) (v := ?_) (a' := ?_) #[true, true, true, true, true, true, true, true, true, true, true, true, true, true, false, false, false, false, false] rfl rfl (by kernel_rfl) (fun _ _ _ h => h) (Or.inl ⟨by rfl, ?_⟩) ?_ ?_; rotate_left; (intro w'; go_simp; (with_reducible rfl)); rotate_left; (simp only [Act.put, List.setIfInBounds_toArray, List.set_cons_zero, List.set_cons_succ, i64_w, i32_w]; rfl); refine pure_ (i := 14) (N := some 47) (v := ?_) (a' := ?_) #[true, true, true, true, true, true, true, true, true, true, true, true, true, true, true, false, false, false, false] rfl rfl (by kernel_rfl) (fun _ _ _ h => h) (Or.inl ⟨by rfl, ?_⟩) ?_ ?_; rotate_left; (intro w'; go_simp; (with_reducible rfl)); rotate_left; (simp only [Act.put, List.setIfInBounds_toArray, List.set_cons_zero, List.set_cons_succ, i64_w, i32_w]; rfl); refine take_ (i := 15) (N := some 48) (v := ?_) (a' := ?_) #[true, true, true, true, true, true, true, true, true, true, true, true, true, true, true, true, false, false, false] rfl rfl (by kernel_rfl) (fun _ _ _ h => h) (Or.inl ⟨by rfl, ?_⟩) hHeld ?_ ?_; rotate_left; (rintro w' ⟨s0, s1, s2, s3⟩; go_simp; (with_reducible rfl)); rotate_left; (simp only [Act.put, List.setIfInBounds_toArray, List.set_cons_zero, List.set_cons_succ, i64_w, i32_w]; rfl); refine pure_ (i := 16) (N := some 49) (v := ?_) (a' := ?_) #[true, true, true, true, true, true, true, true, true, true, true, true, true, true, true, true, true, false, false] rfl rfl (by kernel_rfl) (fun _ _ _ h => h) (Or.inl ⟨by rfl, ?_⟩) ?_ ?_; rotate_left; (intro w'; go_simp; (with_reducible rfl)); rotate_left; (simp only [Act.put, List.setIfInBounds_toArray, List.set_cons_zero, List.set_cons_succ, i64_w, i32_w]; rfl); refine pure_ (i := 17) (N := some 50) (v := ?_) (a' := ?_) #[true, true, true, true, true, true, true, true, true, true, true, true, true, true, true, true, true, true, false] rfl rfl (by kernel_rfl) (fun _ _ _ h => h) (Or.inl ⟨by rfl, ?_⟩) ?_ ?_; rotate_left; (intro w'; go_simp; (with_reducible rfl)); rotate_left; (simp only [Act.put, List.setIfInBounds_toArray, List.set_cons_zero, List.set_cons_succ, i64_w, i32_w]; rfl); refine pure_ (i := 18) (N := some 51) (v := ?_) (a' := ?_) #[true, true, true, true, true, true, true, true, true, true, true, true, true, true, true, true, true, true, true] rfl rfl (by kernel_rfl) (fun _ _ _ h => h) (Or.inl ⟨by rfl, ?_⟩) ?_ ?_; rotate_left; (intro w'; go_simp; (with_reducible rfl)); rotate_left; (simp only [Act.put, List.setIfInBounds_toArray, List.set_cons_zero, List.set_cons_succ, i64_w, i32_w]; rfl); refine done_ (by kernel_rfl) ?_
        by_cases e2 : c2 = 1
        · go_upto_region 10 with fail
          have HB0 := Aside0.mk (show BX w bA bB ok (J pre) (.slice (some p1) n1 c1) (.slice (some q1) n2 c2) wr from HB0_.out)
          obtain ⟨w2, hw2⟩ : ∃ w2, (wr.setCell ⟨bB, 0, none⟩ (.slice (some q1) (n2 - 1) 0)).drew.drew = w2 := ⟨_, rfl⟩
          rw [hw2]
          have B2 := Aside0.mk (show BX w bA bB ok (J pre) (.slice (some p1) n1 c1) (.slice (some q1) (n2 - 1) 0) w2 from hw2 ▸ (((HB0.out.setB (HJ.out pre) neB.out HN.out.2.2.1 _).drew (HJ.out pre)).drew (HJ.out pre)))
          clear hw2 HB HB0 HB0_ b1 b2 f1 f2
          cases gk with
          | zero => exact absurd HI.out.2.1 (by simp)
          | succ k1 =>
          have HE := Aside0.mk (show els (a.length + b.length) p q a b = pre ++ (none, some (q1, y)) :: els k1 p1 (q1.add 2) (x :: r) s from HI.out.1.trans (by rw [els, l1]; rfl))
          obtain ⟨fn, tmps, asg, bdy, hy, hR⟩ := HY.out pre (none, some (q1, y)) w2 B2.out.j ⟨els k1 p1 (q1.add 2) (x :: r) s, by rw [HE.out]; simp⟩
          simp only [encB, ptrO, Option.map_some, Option.map_none] at hy
          refine (wpIn_wide (n := m + 1)).1 ?_
          gi_wp2
          refine hR.mono ?_
          rintro e w3 ⟨rfl, hj3, hk3⟩
          have B3 := Aside0.mk (B2.out.round HN.out HOK.out hk3 hj3)
          clear hj3 hk3 hR hy
          gi_wp2
          go_wp2_with fail
          go_roundg k1
          case measure => omega
          case rel =>
            obtain ⟨h1, h2, h3, h4, h5, h6, h7⟩ := HI.out; have FA1 := HR.out.1; have FB1 := HR.out.2; have B4 := B3.out; simp only [List.length_cons, List.length_nil] at h2 h4 h5; rw [← HN1.out] at B4
            have en2 : n2 - 1 = s.length := by rw [← HN2.out]; rfl
            rw [en2] at B4; have FB2 := tailF FB1 (c := c2) (by simpa using h5); rw [if_pos e2] at FB2; refine ⟨pre ++ [(none, some (q1, y))], (x :: r), s, some p1, some q1, c1, 0, p1, (q1.add 2), ⟨by rw [HE.out]; simp, ?_, ?_, ?_, ?_, fun _ => rfl, fun h => absurd (List.length_eq_zero_iff.1 (by omega)) h⟩, ⟨FA1, FB2⟩, ⟨B4⟩⟩
            all_goals ((try simp only [List.length_cons, List.length_nil]); omega)
        · go_upto_region 10 with fail
          have HB0 := Aside0.mk (show BX w bA bB ok (J pre) (.slice (some p1) n1 c1) (.slice (some q1) n2 c2) wr from HB0_.out)
          obtain ⟨w2, hw2⟩ : ∃ w2, (wr.setCell ⟨bB, 0, none⟩ (.slice (some ⟨q1.block, q1.off + 2, none⟩) (n2 - 1) (c2 - 1))).drew.drew = w2 := ⟨_, rfl⟩
          rw [hw2]
          have B2 := Aside0.mk (show BX w bA bB ok (J pre) (.slice (some p1) n1 c1) (.slice (some ⟨q1.block, q1.off + 2, none⟩) (n2 - 1) (c2 - 1)) w2 from hw2 ▸ (((HB0.out.setB (HJ.out pre) neB.out HN.out.2.2.1 _).drew (HJ.out pre)).drew (HJ.out pre)))
          clear hw2 HB HB0 HB0_ b1 b2 f1 f2
          cases gk with
          | zero => exact absurd HI.out.2.1 (by simp)
          | succ k1 =>
          have HE := Aside0.mk (show els (a.length + b.length) p q a b = pre ++ (none, some (q1, y)) :: els k1 p1 (q1.add 2) (x :: r) s from HI.out.1.trans (by rw [els, l1]; rfl))
          obtain ⟨fn, tmps, asg, bdy, hy, hR⟩ := HY.out pre (none, some (q1, y)) w2 B2.out.j ⟨els k1 p1 (q1.add 2) (x :: r) s, by rw [HE.out]; simp⟩
          simp only [encB, ptrO, Option.map_some, Option.map_none] at hy
          refine (wpIn_wide (n := m + 1)).1 ?_
          gi_wp2
          refine hR.mono ?_
          rintro e w3 ⟨rfl, hj3, hk3⟩
          have B3 := Aside0.mk (B2.out.round HN.out HOK.out hk3 hj3)
          clear hj3 hk3 hR hy
          gi_wp2
          go_wp2_with fail
          go_roundg k1
          case measure => omega
          case rel =>
            obtain ⟨h1, h2, h3, h4, h5, h6, h7⟩ := HI.out; have FA1 := HR.out.1; have FB1 := HR.out.2; have B4 := B3.out; simp only [List.length_cons, List.length_nil] at h2 h4 h5; rw [← HN1.out] at B4
            have en2 : n2 - 1 = s.length := by rw [← HN2.out]; rfl
            rw [en2] at B4; have FB2 := tailF FB1 (c := c2) (by simpa using h5); rw [if_neg e2] at FB2; refine ⟨pre ++ [(none, some (q1, y))], (x :: r), s, some p1, some (q1.add 2), c1, c2 - 1, p1, (q1.add 2), ⟨by rw [HE.out]; simp, ?_, ?_, ?_, ?_, fun _ => rfl, fun _ => rfl⟩, ⟨FA1, FB2⟩, ⟨B4⟩⟩
            all_goals ((try simp only [List.length_cons, List.length_nil]); omega)
      | true =>
        cases l2 : leS y.f0 x.f0 with
        | false =>
          go_upto_region 2 with fail
          refine start_ (n := 19) (S := (fun w' => w'.cell? ⟨bA, 0, none⟩ = some (.slice (some p1) n1 c1) ∧ w'.cell? ⟨bB, 0, none⟩ = some (.slice (some q1) n2 c2) ∧ w'.cell? p1 = some (.string x.f0) ∧ w'.cell? q1 = some (.string y.f0))) (ds := []) #[false, false, false, false, false, false, false, false, false, false, false, false, false, false, false, false, false, false, false] (by kernel_rfl) rfl rfl ?_ ?_
          · (first | exact ⟨by assumption, by assumption, by assumption, by assumption⟩ | assumption)
          intro hHeld; refine take_ (i := 0) (N := some 12) (v := ?_) (a' := ?_) #[true, false, false, false, false, false, false, false, false, false, false, false, false, false, false, false, false, false, false] rfl rfl (by kernel_rfl) (fun _ _ _ h => h) (Or.inl ⟨by rfl, ?_⟩) hHeld ?_ ?_; rotate_left; (rintro w' ⟨s0, s1, s2, s3⟩; go_simp; (with_reducible rfl)); rotate_left; (simp only [Act.put, List.setIfInBounds_toArray, List.set_cons_zero, List.set_cons_succ, i64_w, i32_w]; rfl); refine pure_ (i := 1) (N := some 13) (v := ?_) (a' := ?_) #[true, true, false, false, false, false, false, false, false, false, false, false, false, false, false, false, false, false, false] rfl rfl (by kernel_rfl) (fun _ _ _ h => h) (Or.inl ⟨by rfl, ?_⟩) ?_ ?_; rotate_left; (intro w'; go_simp; (with_reducible rfl)); rotate_left; (simp only [Act.put, List.setIfInBounds_toArray, List.set_cons_zero, List.set_cons_succ, i64_w, i32_w]; rfl); refine pure_ (i := 2) (N := some 14) (v := ?_) (a' := ?_) #[true, true, true, false, false, false, false, false, false, false, false, false, false, false, false, false, false, false, false] rfl rfl (by kernel_rfl) (fun _ _ _ h => h) (Or.inl ⟨by rfl, ?_⟩) ?_ ?_; rotate_left; (intro w'; go_simp; (with_reducible rfl)); rotate_left; (simp only [Act.put, List.setIfInBounds_toArray, List.set_cons_zero, List.set_cons_succ, i64_w, i32_w]; rfl); refine pure_ (i := 3) (N := some 15) (v := ?_) (a' := ?_) #[true, true, true, true, false, false, false, false, false, false, false, false, false, false, false, false, false, false, false] rfl rfl (by kernel_rfl) (fun _ _ _ h => h) (Or.inl ⟨by rfl, ?_⟩) ?_ ?_; rotate_left; (intro w'; go_simp; (with_reducible rfl)); rotate_left; (simp only [Act.put, List.setIfInBounds_toArray, List.set_cons_zero, List.set_cons_succ, i64_w, i32_w]; rfl); refine take_ (i := 4) (N := some 16) (v := ?_) (a' := ?_) #[true, true, true, true, true, false, false, false, false, false, false, false, false, false, false, false, false, false, false] rfl rfl (by kernel_rfl) (fun _ _ _ h => h) (Or.inl ⟨by rfl, ?_⟩) hHeld ?_ ?_; rotate_left; (rintro w' ⟨s0, s1, s2, s3⟩; go_simp; (with_reducible rfl)); rotate_left; (simp only [Act.put, List.setIfInBounds_toArray, List.set_cons_zero, List.set_cons_succ, i64_w, i32_w]; rfl); refine pure_ (i := 5) (N := some 17) (v := ?_) (a' := ?_) #[true, true, true, true, true, true, false, false, false, false, false, false, false, false, false, false, false, false, false] rfl rfl (by kernel_rfl) (fun _ _ _ h => h) (Or.inl ⟨by rfl, ?_⟩) ?_ ?_; rotate_left; (intro w'; go_simp; (with_reducible rfl)); rotate_left; (simp only [Act.put, List.setIfInBounds_toArray, List.set_cons_zero, List.set_cons_succ, i64_w, i32_w]; rfl); refine pure_ (i := 6) (N := some 18) (v := ?_) (a' := ?_) #[true, true, true, true, true, true, true, false, false, false, false, false, false, false, false, false, false, false, false] rfl rfl (by kernel_rfl) (fun _ _ _ h => h) (Or.inl ⟨by rfl, ?_⟩) ?_ ?_; rotate_left; (intro w'; go_simp; (with_reducible rfl)); rotate_left; (simp only [Act.put, List.setIfInBounds_toArray, List.set_cons_zero, List.set_cons_succ, i64_w, i32_w]; rfl); refine pure_ (i := 7) (N := some 19) (v := ?_) (a' := ?_) #[true, true, true, true, true, true, true, true, false, false, false, false, false, false, false, false, false, false, false] rfl rfl (by kernel_rfl) (fun _ _ _ h => h) (Or.inl ⟨by rfl, ?_⟩) ?_ ?_; rotate_left; (intro w'; go_simp; (with_reducible rfl)); rotate_left; (simp only [Act.put, List.setIfInBounds_toArray, List.set_cons_zero, List.set_cons_succ, i64_w, i32_w]; rfl); refine take_ (i := 8) (N := some 20) (v := ?_) (a' := ?_) #[true, true, true, true, true, true, true, true, true, false, false, false, false, false, false, false, false, false, false] rfl rfl (by kernel_rfl) (fun _ _ _ h => h) (Or.inl ⟨by rfl, ?_⟩) hHeld ?_ ?_; rotate_left; (rintro w' ⟨s0, s1, s2, s3⟩; go_simp; (with_reducible rfl)); rotate_left; (simp only [Act.put, List.setIfInBounds_toArray, List.set_cons_zero, List.set_cons_succ, i64_w, i32_w]; rfl); refine pure_ (i := 9) (N := some 21) (v := ?_) (a' := ?_) #[true, true, true, true, true, true, true, true, true, true, false, false, false, false, false, false, false, false, false] rfl rfl (by kernel_rfl) (fun _ _ _ h => h) (Or.inl ⟨by rfl, ?_⟩) ?_ ?_; rotate_left; (intro w'; go_simp; (with_reducible rfl)); rotate_left; (simp only [Act.put, List.setIfInBounds_toArray, List.set_cons_zero, List.set_cons_succ, i64_w, i32_w]; rfl); refine pure_ (i := 10) (N := some 22) (v := ?_) (a' := ?_) #[true, true, true, true, true, true, true, true, true, true, true, false, false, false, false, false, false, false, false] rfl rfl (by kernel_rfl) (fun _ _ _ h => h) (Or.inl ⟨by rfl, ?_⟩) ?_ ?_; rotate_left; (intro w'; go_simp; (with_reducible rfl)); rotate_left; (simp only [Act.put, List.setIfInBounds_toArray, List.set_cons_zero, List.set_cons_succ, i64_w, i32_w]; rfl); refine take_ (i := 11) (N := some 23) (v := ?_) (a' := ?_) #[true, true, true, true, true, true, true, true, true, true, true, true, false, false, false, false, false, false, false] rfl rfl (by kernel_rfl) (fun _ _ _ h => h) (Or.inl ⟨by rfl, ?_⟩) hHeld ?_ ?_; rotate_left; (rintro w' ⟨s0, s1, s2, s3⟩; go_simp; (with_reducible rfl)); rotate_left; (simp only [Act.put, List.setIfInBounds_toArray, List.set_cons_zero, List.set_cons_succ, i64_w, i32_w]; rfl); refine take_ (i := 12) (N := some 24) (v := ?_) (a' := ?_) #[true, true, true, true, true, true, true, true, true, true, true, true, true, false, false, false, false, false, false] rfl rfl (by kernel_rfl) (fun _ _ _ h => h) (Or.inl ⟨by rfl, ?_⟩) hHeld ?_ ?_; rotate_left; (rintro w' ⟨s0, s1, s2, s3⟩; go_simp; (with_reducible rfl)); rotate_left; (simp only [Act.put, List.setIfInBounds_toArray, List.set_cons_zero, List.set_cons_succ, i64_w, i32_w]; rfl); refine pure_ (i := 13) (N := some 25) (v := ?_) (a' := ?_) #[true, true, true, true, true, true, true, true, true, true, true, true, true, true, false, false, false, false, false] rfl rfl (by kernel_rfl) (fun _ _ _ h => h) (Or.inl ⟨by rfl, ?_⟩) ?_ ?_; rotate_left; (intro w'; go_simp; (with_reducible rfl)); rotate_left; (simp only [Act.put, List.setIfInBounds_toArray, List.set_cons_zero, List.set_cons_succ, i64_w, i32_w]; rfl); refine pure_ (i := 14) (N := some 26) (v := ?_) (a' := ?_) #[true, true, true, true, true, true, true, true, true, true, true, true, true, true, true, false, false, false, false] rfl rfl (by kernel_rfl) (fun _ _ _ h => h) (Or.inl ⟨by rfl, ?_⟩) ?_ ?_; rotate_left; (intro w'; go_simp; (with_reducible rfl)); rotate_left; (simp only [Act.put, List.setIfInBounds_toArray, List.set_cons_zero, List.set_cons_succ, i64_w, i32_w]; rfl); refine take_ (i := 15) (N := some 27) (v := ?_) (a' := ?_) #[true, true, true, true, true, true, true, true, true, true, true, true, true, true, true, true, false, false, false] rfl rfl (by kernel_rfl) (fun _ _ _ h => h) (Or.inl ⟨by rfl, ?_⟩) hHeld ?_ ?_; rotate_left; (rintro w' ⟨s0, s1, s2, s3⟩; go_simp; (with_reducible rfl)); rotate_left; (simp only [Act.put, List.setIfInBounds_toArray, List.set_cons_zero, List.set_cons_succ, i64_w, i32_w]; rfl); refine pure_ (i := 16) (N := some 28) (v := ?_) (a' := ?_) #[true, true, true, true, true, true, true, true, true, true, true, true, true, true, true, true, true, false, false] rfl rfl (by kernel_rfl) (fun _ _ _ h => h) (Or.inl ⟨by rfl, ?_⟩) ?_ ?_; rotate_left; (intro w'; go_simp; (with_reducible rfl)); rotate_left; (simp only [Act.put, List.setIfInBounds_toArray, List.set_cons_zero, List.set_cons_succ, i64_w, i32_w]; rfl); refine pure_ (i := 17) (N := some 29) (v := ?_) (a' := ?_) #[true, true, true, true, true, true, true, true, true, true, true, true, true, true, true, true, true, true, false] rfl rfl (by kernel_rfl) (fun _ _ _ h => h) (Or.inl ⟨by rfl, ?_⟩) ?_ ?_; rotate_left; (intro w'; go_simp; (with_reducible rfl)); rotate_left; (simp only [Act.put, List.setIfInBounds_toArray, List.set_cons_zero, List.set_cons_succ, i64_w, i32_w]; rfl); refine pure_ (i := 18) (N := some 30) (v := ?_) (a' := ?_) #[true, true, true, true, true, true, true, true, true, true, true, true, true, true, true, true, true, true, true] rfl rfl (by kernel_rfl) (fun _ _ _ h => h) (Or.inl ⟨by rfl, ?_⟩) ?_ ?_; rotate_left; (intro w'; go_simp; (with_reducible rfl)); rotate_left; (simp only [Act.put, List.setIfInBounds_toArray, List.set_cons_zero, List.set_cons_succ, i64_w, i32_w]; rfl); refine done_ (by kernel_rfl) ?_
          go_upto_region 4 with fail
          refine start_ (n := 19) (S := (fun w' => w'.cell? ⟨bA, 0, none⟩ = some (.slice (some p1) n1 c1) ∧ w'.cell? ⟨bB, 0, none⟩ = some (.slice (some q1) n2 c2) ∧ w'.cell? p1 = some (.string x.f0) ∧ w'.cell? q1 = some (.string y.f0))) (ds := []) #[false, false, false, false, false, false, false, false, false, false, false, false, false, false, false, false, false, false, false] (by kernel_rfl) rfl rfl ?_ ?_
          · (first | exact ⟨by assumption, by assumption, by assumption, by assumption⟩ | assumption)
          intro hHeld; refine take_ (i := 0) (N := some 33) (v := ?_) (a' := ?_) #[true, false, false, false, false, false, false, false, false, false, false, false, false, false, false, false, false, false, false] rfl rfl (by kernel_rfl) (fun _ _ _ h => h) (Or.inl ⟨by rfl, ?_⟩) hHeld ?_ ?_; rotate_left; (rintro w' ⟨s0, s1, s2, s3⟩; go_simp; (with_reducible rfl)); rotate_left; (simp only [Act.put, List.setIfInBounds_toArray, List.set_cons_zero, List.set_cons_succ, i64_w, i32_w]; rfl); refine pure_ (i := 1) (N := some 34) (v := ?_) (a' := ?_) #[true, true, false, false, false, false, false, false, false, false, false, false, false, false, false, false, false, false, false] rfl rfl (by kernel_rfl) (fun _ _ _ h => h) (Or.inl ⟨by rfl, ?_⟩) ?_ ?_; rotate_left; (intro w'; go_simp; (with_reducible rfl)); rotate_left; (simp only [Act.put, List.setIfInBounds_toArray, List.set_cons_zero, List.set_cons_succ, i64_w, i32_w]; rfl); refine pure_ (i := 2) (N := some 35) (v := ?_) (a' := ?_) #[true, true, true, false, false, false, false, false, false, false, false, false, false, false, false, false, false, false, false] rfl rfl (by kernel_rfl) (fun _ _ _ h => h) (Or.inl ⟨by rfl, ?_⟩) ?_ ?_; rotate_left; (intro w'; go_simp; (with_reducible rfl)); rotate_left; (simp only [Act.put, List.setIfInBounds_toArray, List.set_cons_zero, List.set_cons_succ, i64_w, i32_w]; rfl); refine pure_ (i := 3) (N := some 36) (v := ?_) (a' := ?_) #[true, true, true, true, false, false, false, false, false, false, false, false, false, false, false, false, false, false, false] rfl rfl (by kernel_rfl) (fun _ _ _ h => h) (Or.inl ⟨by rfl, ?_⟩) ?_ ?_; rotate_left; (intro w'; go_simp; (with_reducible rfl)); rotate_left; (simp only [Act.put, List.setIfInBounds_toArray, List.set_cons_zero, List.set_cons_succ, i64_w, i32_w]; rfl); refine take_ (i := 4) (N := some 37) (v := ?_) (a' := ?_) #[true, true, true, true, true, false, false, false, false, false, false, false, false, false, false, false, false, false, false] rfl rfl (by kernel_rfl) (fun _ _ _ h => h) (Or.inl ⟨by rfl, ?_⟩) hHeld ?_ ?_; rotate_left; (rintro w' ⟨s0, s1, s2, s3⟩; go_simp; (with_reducible rfl)); rotate_left; (simp only [Act.put, List.setIfInBounds_toArray, List.set_cons_zero, List.set_cons_succ, i64_w, i32_w]; rfl); refine pure_ (i := 5) (N := some 38) (v := ?_) (a' := ?_) #[true, true, true, true, true, true, false, false, false, false, false, false, false, false, false, false, false, false, false] rfl rfl (by kernel_rfl) (fun _ _ _ h => h) (Or.inl ⟨by rfl, ?_⟩) ?_ ?_; rotate_left; (intro w'; go_simp; (with_reducible rfl)); rotate_left; (simp only [Act.put, List.setIfInBounds_toArray, List.set_cons_zero, List.set_cons_succ, i64_w, i32_w]; rfl); refine pure_ (i := 6) (N := some 39) (v := ?_) (a' := ?_) #[true, true, true, true, true, true, true, false, false, false, false, false, false, false, false, false, false, false, false] rfl rfl (by kernel_rfl) (fun _ _ _ h => h) (Or.inl ⟨by rfl, ?_⟩) ?_ ?_; rotate_left; (intro w'; go_simp; (with_reducible rfl)); rotate_left; (simp only [Act.put, List.setIfInBounds_toArray, List.set_cons_zero, List.set_cons_succ, i64_w, i32_w]; rfl); refine pure_ (i := 7) (N := some 40) (v := ?_) (a' := ?_) #[true, true, true, true, true, true, true, true, false, false, false, false, false, false, false, false, false, false, false] rfl rfl (by kernel_rfl) (fun _ _ _ h => h) (Or.inl ⟨by rfl, ?_⟩) ?_ ?_; rotate_left; (intro w'; go_simp; (with_reducible rfl)); rotate_left; (simp only [Act.put, List.setIfInBounds_toArray, List.set_cons_zero, List.set_cons_succ, i64_w, i32_w]; rfl); refine take_ (i := 8) (N := some 41) (v := ?_) (a' := ?_) #[true, true, true, true, true, true, true, true, true, false, false, false, false, false, false, false, false, false, false] rfl rfl (by kernel_rfl) (fun _ _ _ h => h) (Or.inl ⟨by rfl, ?_⟩) hHeld ?_ ?_; rotate_left; (rintro w' ⟨s0, s1, s2, s3⟩; go_simp; (with_reducible rfl)); rotate_left; (simp only [Act.put, List.setIfInBounds_toArray, List.set_cons_zero, List.set_cons_succ, i64_w, i32_w]; rfl); refine pure_ (i := 9) (N := some 42) (v := ?_) (a' := ?_) #[true, true, true, true, true, true, true, true, true, true, false, false, false, false, false, false, false, false, false] rfl rfl (by kernel_rfl) (fun _ _ _ h => h) (Or.inl ⟨by rfl, ?_⟩) ?_ ?_; rotate_left; (intro w'; go_simp; (with_reducible rfl)); rotate_left; (simp only [Act.put, List.setIfInBounds_toArray, List.set_cons_zero, List.set_cons_succ, i64_w, i32_w]; rfl); refine pure_ (i := 10) (N := some 43) (v := ?_) (a' := ?_) #[true, true, true, true, true, true, true, true, true, true, true, false, false, false, false, false, false, false, false] rfl rfl (by kernel_rfl) (fun _ _ _ h => h) (Or.inl ⟨by rfl, ?_⟩) ?_ ?_; rotate_left; (intro w'; go_simp; (with_reducible rfl)); rotate_left; (simp only [Act.put, List.setIfInBounds_toArray, List.set_cons_zero, List.set_cons_succ, i64_w, i32_w]; rfl); refine take_ (i := 11) (N := some 44) (v := ?_) (a' := ?_) #[true, true, true, true, true, true, true, true, true, true, true, true, false, false, false, false, false, false, false] rfl rfl (by kernel_rfl) (fun _ _ _ h => h) (Or.inl ⟨by rfl, ?_⟩) hHeld ?_ ?_; rotate_left; (rintro w' ⟨s0, s1, s2, s3⟩; go_simp; (with_reducible rfl)); rotate_left; (simp only [Act.put, List.setIfInBounds_toArray, List.set_cons_zero, List.set_cons_succ, i64_w, i32_w]; rfl); refine take_ (i := 12) (N := some 45) (v := ?_) (a' := ?_) #[true, true, true, true, true, true, true, true, true, true, true, true, true, false, false, false, false, false, false] rfl rfl (by kernel_rfl) (fun _ _ _ h => h) (Or.inl ⟨by rfl, ?_⟩) hHeld ?_ ?_; rotate_left; (rintro w' ⟨s0, s1, s2, s3⟩; go_simp; (with_reducible rfl)); rotate_left; (simp only [Act.put, List.setIfInBounds_toArray, List.set_cons_zero, List.set_cons_succ, i64_w, i32_w]; rfl); refine pure_ (i := 13) (N := some 46) (v := ?_) (a' := ?_) #[true, true, true, true, true, true, true, true, true, true, true, true, true, true, false, false, false, false, false] rfl rfl (by kernel_rfl) (fun _ _ _ h => h) (Or.inl ⟨by rfl, ?_⟩) ?_ ?_; rotate_left; (intro w'; go_simp; (with_reducible rfl)); rotate_left; (simp only [Act.put, List.setIfInBounds_toArray, List.set_cons_zero, List.set_cons_succ, i64_w, i32_w]; rfl); refine pure_ (i := 14) (N := some 47) (v := ?_) (a' := ?_) #[true, true, true, true, true, true, true, true, true, true, true, true, true, true, true, false, false, false, false] rfl rfl (by kernel_rfl) (fun _ _ _ h => h) (Or.inl ⟨by rfl, ?_⟩) ?_ ?_; rotate_left; (intro w'; go_simp; (with_reducible rfl)); rotate_left; (simp only [Act.put, List.setIfInBounds_toArray, List.set_cons_zero, List.set_cons_succ, i64_w, i32_w]; rfl); refine take_ (i := 15) (N := some 48) (v := ?_) (a' := ?_) #[true, true, true, true, true, true, true, true, true, true, true, true, true, true, true, true, false, false, false] rfl rfl (by kernel_rfl) (fun _ _ _ h => h) (Or.inl ⟨by rfl, ?_⟩) hHeld ?_ ?_; rotate_left; (rintro w' ⟨s0, s1, s2, s3⟩; go_simp; (with_reducible rfl)); rotate_left; (simp only [Act.put, List.setIfInBounds_toArray, List.set_cons_zero, List.set_cons_succ, i64_w, i32_w]; rfl); refine pure_ (i := 16) (N := some 49) (v := ?_) (a' := ?_) #[true, true, true, true, true, true, true, true, true, true, true, true, true, true, true, true, true, false, false] rfl rfl (by kernel_rfl) (fun _ _ _ h => h) (Or.inl ⟨by rfl, ?_⟩) ?_ ?_; rotate_left; (intro w'; go_simp; (with_reducible rfl)); rotate_left; (simp only [Act.put, List.setIfInBounds_toArray, List.set_cons_zero, List.set_cons_succ, i64_w, i32_w]; rfl); refine pure_ (i := 17) (N := some 50) (v := ?_) (a' := ?_) #[true, true, true, true, true, true, true, true, true, true, true, true, true, true, true, true, true, true, false] rfl rfl (by kernel_rfl) (fun _ _ _ h => h) (Or.inl ⟨by rfl, ?_⟩) ?_ ?_; rotate_left; (intro w'; go_simp; (with_reducible rfl)); rotate_left; (simp only [Act.put, List.setIfInBounds_toArray, List.set_cons_zero, List.set_cons_succ, i64_w, i32_w]; rfl); refine pure_ (i := 18) (N := some 51) (v := ?_) (a' := ?_) #[true, true, true, true, true, true, true, true, true, true, true, true, true, true, true, true, true, true, true] rfl rfl (by kernel_rfl) (fun _ _ _ h => h) (Or.inl ⟨by rfl, ?_⟩) ?_ ?_; rotate_left; (intro w'; go_simp; (with_reducible rfl)); rotate_left; (simp only [Act.put, List.setIfInBounds_toArray, List.set_cons_zero, List.set_cons_succ, i64_w, i32_w]; rfl); refine done_ (by kernel_rfl) ?_
          by_cases e1 : c1 = 1
          · go_upto_region 10 with fail
            have HB0 := Aside0.mk (show BX w bA bB ok (J pre) (.slice (some p1) n1 c1) (.slice (some q1) n2 c2) wr from HB0_.out)
            obtain ⟨w2, hw2⟩ : ∃ w2, (wr.setCell ⟨bA, 0, none⟩ (.slice (some p1) (n1 - 1) 0)).drew.drew = w2 := ⟨_, rfl⟩
            rw [hw2]
            have B2 := Aside0.mk (show BX w bA bB ok (J pre) (.slice (some p1) (n1 - 1) 0) (.slice (some q1) n2 c2) w2 from hw2 ▸ (((HB0.out.setA (HJ.out pre) neA.out HN.out.2.2.1 _).drew (HJ.out pre)).drew (HJ.out pre)))
            clear hw2 HB HB0 HB0_ b1 b2 f1 f2
            cases gk with
            | zero => exact absurd HI.out.2.1 (by simp)
            | succ k1 =>
            have HE := Aside0.mk (show els (a.length + b.length) p q a b = pre ++ (some (p1, x), none) :: els k1 (p1.add 2) q1 r (y :: s) from HI.out.1.trans (by rw [els, l1, l2]; rfl))
            obtain ⟨fn, tmps, asg, bdy, hy, hR⟩ := HY.out pre (some (p1, x), none) w2 B2.out.j ⟨els k1 (p1.add 2) q1 r (y :: s), by rw [HE.out]; simp⟩
            simp only [encB, ptrO, Option.map_some, Option.map_none] at hy
            refine (wpIn_wide (n := m + 1)).1 ?_
            gi_wp2
            refine hR.mono ?_
            rintro e w3 ⟨rfl, hj3, hk3⟩
            have B3 := Aside0.mk (B2.out.round HN.out HOK.out hk3 hj3)
            clear hj3 hk3 hR hy
            gi_wp2
            go_wp2_with fail
            go_roundg k1
            case measure => omega
            case rel =>
              obtain ⟨h1, h2, h3, h4, h5, h6, h7⟩ := HI.out; have FA1 := HR.out.1; have FB1 := HR.out.2; have B4 := B3.out; simp only [List.length_cons, List.length_nil] at h2 h4 h5
              have en1 : n1 - 1 = r.length := by rw [← HN1.out]; rfl
              rw [en1] at B4; have FA2 := tailF FA1 (c := c1) (by simpa using h4); rw [if_pos e1] at FA2; rw [← HN2.out] at B4; refine ⟨pre ++ [(some (p1, x), none)], r, (y :: s), some p1, some q1, 0, c2, (p1.add 2), q1, ⟨by rw [HE.out]; simp, ?_, ?_, ?_, ?_, fun h => absurd (List.length_eq_zero_iff.1 (by omega)) h, fun _ => rfl⟩, ⟨FA2, FB1⟩, ⟨B4⟩⟩
              all_goals ((try simp only [List.length_cons, List.length_nil]); omega)
          · go_upto_region 10 with fail
            have HB0 := Aside0.mk (show BX w bA bB ok (J pre) (.slice (some p1) n1 c1) (.slice (some q1) n2 c2) wr from HB0_.out)
            obtain ⟨w2, hw2⟩ : ∃ w2, (wr.setCell ⟨bA, 0, none⟩ (.slice (some ⟨p1.block, p1.off + 2, none⟩) (n1 - 1) (c1 - 1))).drew.drew = w2 := ⟨_, rfl⟩
            rw [hw2]
            have B2 := Aside0.mk (show BX w bA bB ok (J pre) (.slice (some ⟨p1.block, p1.off + 2, none⟩) (n1 - 1) (c1 - 1)) (.slice (some q1) n2 c2) w2 from hw2 ▸ (((HB0.out.setA (HJ.out pre) neA.out HN.out.2.2.1 _).drew (HJ.out pre)).drew (HJ.out pre)))
            clear hw2 HB HB0 HB0_ b1 b2 f1 f2
            cases gk with
            | zero => exact absurd HI.out.2.1 (by simp)
            | succ k1 =>
            have HE := Aside0.mk (show els (a.length + b.length) p q a b = pre ++ (some (p1, x), none) :: els k1 (p1.add 2) q1 r (y :: s) from HI.out.1.trans (by rw [els, l1, l2]; rfl))
            obtain ⟨fn, tmps, asg, bdy, hy, hR⟩ := HY.out pre (some (p1, x), none) w2 B2.out.j ⟨els k1 (p1.add 2) q1 r (y :: s), by rw [HE.out]; simp⟩
            simp only [encB, ptrO, Option.map_some, Option.map_none] at hy
            refine (wpIn_wide (n := m + 1)).1 ?_
            gi_wp2
            refine hR.mono ?_
            rintro e w3 ⟨rfl, hj3, hk3⟩
            have B3 := Aside0.mk (B2.out.round HN.out HOK.out hk3 hj3)
            clear hj3 hk3 hR hy
            gi_wp2
            go_wp2_with fail
            go_roundg k1
            case measure => omega
            case rel =>
              obtain ⟨h1, h2, h3, h4, h5, h6, h7⟩ := HI.out; have FA1 := HR.out.1; have FB1 := HR.out.2; have B4 := B3.out; simp only [List.length_cons, List.length_nil] at h2 h4 h5
              have en1 : n1 - 1 = r.length := by rw [← HN1.out]; rfl
              rw [en1] at B4; have FA2 := tailF FA1 (c := c1) (by simpa using h4); rw [if_neg e1] at FA2; rw [← HN2.out] at B4; refine ⟨pre ++ [(some (p1, x), none)], r, (y :: s), some (p1.add 2), some q1, c1 - 1, c2, (p1.add 2), q1, ⟨by rw [HE.out]; simp, ?_, ?_, ?_, ?_, fun _ => rfl, fun _ => rfl⟩, ⟨FA2, FB1⟩, ⟨B4⟩⟩
              all_goals ((try simp only [List.length_cons, List.length_nil]); omega)
        | true =>
          go_upto_region 2 with fail
          refine start_ (n := 19) (S := (fun w' => w'.cell? ⟨bA, 0, none⟩ = some (.slice (some p1) n1 c1) ∧ w'.cell? ⟨bB, 0, none⟩ = some (.slice (some q1) n2 c2) ∧ w'.cell? p1 = some (.string x.f0) ∧ w'.cell? q1 = some (.string y.f0))) (ds := []) #[false, false, false, false, false, false, false, false, false, false, false, false, false, false, false, false, false, false, false] (by kernel_rfl) rfl rfl ?_ ?_
          · (first | exact ⟨by assumption, by assumption, by assumption, by assumption⟩ | assumption)
          intro hHeld; refine take_ (i := 0) (N := some 12) (v := ?_) (a' := ?_) #[true, false, false, false, false, false, false, false, false, false, false, false, false, false, false, false, false, false, false] rfl rfl (by kernel_rfl) (fun _ _ _ h => h) (Or.inl ⟨by rfl, ?_⟩) hHeld ?_ ?_; rotate_left; (rintro w' ⟨s0, s1, s2, s3⟩; go_simp; (with_reducible rfl)); rotate_left; (simp only [Act.put, List.setIfInBounds_toArray, List.set_cons_zero, List.set_cons_succ, i64_w, i32_w]; rfl); refine pure_ (i := 1) (N := some 13) (v := ?_) (a' := ?_) #[true, true, false, false, false, false, false, false, false, false, false, false, false, false, false, false, false, false, false] rfl rfl (by kernel_rfl) (fun _ _ _ h => h) (Or.inl ⟨by rfl, ?_⟩) ?_ ?_; rotate_left; (intro w'; go_simp; (with_reducible rfl)); rotate_left; (simp only [Act.put, List.setIfInBounds_toArray, List.set_cons_zero, List.set_cons_succ, i64_w, i32_w]; rfl); refine pure_ (i := 2) (N := some 14) (v := ?_) (a' := ?_) #[true, true, true, false, false, false, false, false, false, false, false, false, false, false, false, false, false, false, false] rfl rfl (by kernel_rfl) (fun _ _ _ h => h) (Or.inl ⟨by rfl, ?_⟩) ?_ ?_; rotate_left; (intro w'; go_simp; (with_reducible rfl)); rotate_left; (simp only [Act.put, List.setIfInBounds_toArray, List.set_cons_zero, List.set_cons_succ, i64_w, i32_w]; rfl); refine pure_ (i := 3) (N := some 15) (v := ?_) (a' := ?_) #[true, true, true, true, false, false, false, false, false, false, false, false, false, false, false, false, false, false, false] rfl rfl (by kernel_rfl) (fun _ _ _ h => h) (Or.inl ⟨by rfl, ?_⟩) ?_ ?_; rotate_left; (intro w'; go_simp; (with_reducible rfl)); rotate_left; (simp only [Act.put, List.setIfInBounds_toArray, List.set_cons_zero, List.set_cons_succ, i64_w, i32_w]; rfl); refine take_ (i := 4) (N := some 16) (v := ?_) (a' := ?_) #[true, true, true, true, true, false, false, false, false, false, false, false, false, false, false, false, false, false, false] rfl rfl (by kernel_rfl) (fun _ _ _ h => h) (Or.inl ⟨by rfl, ?_⟩) hHeld ?_ ?_; rotate_left; (rintro w' ⟨s0, s1, s2, s3⟩; go_simp; (with_reducible rfl)); rotate_left; (simp only [Act.put, List.setIfInBounds_toArray, List.set_cons_zero, List.set_cons_succ, i64_w, i32_w]; rfl); refine pure_ (i := 5) (N := some 17) (v := ?_) (a' := ?_) #[true, true, true, true, true, true, false, false, false, false, false, false, false, false, false, false, false, false, false] rfl rfl (by kernel_rfl) (fun _ _ _ h => h) (Or.inl ⟨by rfl, ?_⟩) ?_ ?_; rotate_left; (intro w'; go_simp; (with_reducible rfl)); rotate_left; (simp only [Act.put, List.setIfInBounds_toArray, List.set_cons_zero, List.set_cons_succ, i64_w, i32_w]; rfl); refine pure_ (i := 6) (N := some 18) (v := ?_) (a' := ?_) #[true, true, true, true, true, true, true, false, false, false, false, false, false, false, false, false, false, false, false] rfl rfl (by kernel_rfl) (fun _ _ _ h => h) (Or.inl ⟨by rfl, ?_⟩) ?_ ?_; rotate_left; (intro w'; go_simp; (with_reducible rfl)); rotate_left; (simp only [Act.put, List.setIfInBounds_toArray, List.set_cons_zero, List.set_cons_succ, i64_w, i32_w]; rfl); refine pure_ (i := 7) (N := some 19) (v := ?_) (a' := ?_) #[true, true, true, true, true, true, true, true, false, false, false, false, false, false, false, false, false, false, false] rfl rfl (by kernel_rfl) (fun _ _ _ h => h) (Or.inl ⟨by rfl, ?_⟩) ?_ ?_; rotate_left; (intro w'; go_simp; (with_reducible rfl)); rotate_left; (simp only [Act.put, List.setIfInBounds_toArray, List.set_cons_zero, List.set_cons_succ, i64_w, i32_w]; rfl); refine take_ (i := 8) (N := some 20) (v := ?_) (a' := ?_) #[true, true, true, true, true, true, true, true, true, false, false, false, false, false, false, false, false, false, false] rfl rfl (by kernel_rfl) (fun _ _ _ h => h) (Or.inl ⟨by rfl, ?_⟩) hHeld ?_ ?_; rotate_left; (rintro w' ⟨s0, s1, s2, s3⟩; go_simp; (with_reducible rfl)); rotate_left; (simp only [Act.put, List.setIfInBounds_toArray, List.set_cons_zero, List.set_cons_succ, i64_w, i32_w]; rfl); refine pure_ (i := 9) (N := some 21) (v := ?_) (a' := ?_) #[true, true, true, true, true, true, true, true, true, true, false, false, false, false, false, false, false, false, false] rfl rfl (by kernel_rfl) (fun _ _ _ h => h) (Or.inl ⟨by rfl, ?_⟩) ?_ ?_; rotate_left; (intro w'; go_simp; (with_reducible rfl)); rotate_left; (simp only [Act.put, List.setIfInBounds_toArray, List.set_cons_zero, List.set_cons_succ, i64_w, i32_w]; rfl); refine pure_ (i := 10) (N := some 22) (v := ?_) (a' := ?_) #[true, true, true, true, true, true, true, true, true, true, true, false, false, false, false, false, false, false, false] rfl rfl (by kernel_rfl) (fun _ _ _ h => h) (Or.inl ⟨by rfl, ?_⟩) ?_ ?_; rotate_left; (intro w'; go_simp; (with_reducible rfl)); rotate_left; (simp only [Act.put, List.setIfInBounds_toArray, List.set_cons_zero, List.set_cons_succ, i64_w, i32_w]; rfl); refine take_ (i := 11) (N := some 23) (v := ?_) (a' := ?_) #[true, true, true, true, true, true, true, true, true, true, true, true, false, false, false, false, false, false, false] rfl rfl (by kernel_rfl) (fun _ _ _ h => h) (Or.inl ⟨by rfl, ?_⟩) hHeld ?_ ?_; rotate_left; (rintro w' ⟨s0, s1, s2, s3⟩; go_simp; (with_reducible rfl)); rotate_left; (simp only [Act.put, List.setIfInBounds_toArray, List.set_cons_zero, List.set_cons_succ, i64_w, i32_w]; rfl); refine take_ (i := 12) (N := some 24) (v := ?_) (a' := ?_) #[true, true, true, true, true, true, true, true, true, true, true, true, true, false, false, false, false, false, false] rfl rfl (by kernel_rfl) (fun _ _ _ h => h) (Or.inl ⟨by rfl, ?_⟩) hHeld ?_ ?_; rotate_left; (rintro w' ⟨s0, s1, s2, s3⟩; go_simp; (with_reducible rfl)); rotate_left; (simp only [Act.put, List.setIfInBounds_toArray, List.set_cons_zero, List.set_cons_succ, i64_w, i32_w]; rfl); refine pure_ (i := 13) (N := some 25) (v := ?_) (a' := ?_) #[true, true, true, true, true, true, true, true, true, true, true, true, true, true, false, false, false, false, false] rfl rfl (by kernel_rfl) (fun _ _ _ h => h) (Or.inl ⟨by rfl, ?_⟩) ?_ ?_; rotate_left; (intro w'; go_simp; (with_reducible rfl)); rotate_left; (simp only [Act.put, List.setIfInBounds_toArray, List.set_cons_zero, List.set_cons_succ, i64_w, i32_w]; rfl); refine pure_ (i := 14) (N := some 26) (v := ?_) (a' := ?_) #[true, true, true, true, true, true, true, true, true, true, true, true, true, true, true, false, false, false, false] rfl rfl (by kernel_rfl) (fun _ _ _ h => h) (Or.inl ⟨by rfl, ?_⟩) ?_ ?_; rotate_left; (intro w'; go_simp; (with_reducible rfl)); rotate_left; (simp only [Act.put, List.setIfInBounds_toArray, List.set_cons_zero, List.set_cons_succ, i64_w, i32_w]; rfl); refine take_ (i := 15) (N := some 27) (v := ?_) (a' := ?_) #[true, true, true, true, true, true, true, true, true, true, true, true, true, true, true, true, false, false, false] rfl rfl (by kernel_rfl) (fun _ _ _ h => h) (Or.inl ⟨by rfl, ?_⟩) hHeld ?_ ?_; rotate_left; (rintro w' ⟨s0, s1, s2, s3⟩; go_simp; (with_reducible rfl)); rotate_left; (simp only [Act.put, List.setIfInBounds_toArray, List.set_cons_zero, List.set_cons_succ, i64_w, i32_w]; rfl); refine pure_ (i := 16) (N := some 28) (v := ?_) (a' := ?_) #[true, true, true, true, true, true, true, true, true, true, true, true, true, true, true, true, true, false, false] rfl rfl (by kernel_rfl) (fun _ _ _ h => h) (Or.inl ⟨by rfl, ?_⟩) ?_ ?_; rotate_left; (intro w'; go_simp; (with_reducible rfl)); rotate_left; (simp only [Act.put, List.setIfInBounds_toArray, List.set_cons_zero, List.set_cons_succ, i64_w, i32_w]; rfl); refine pure_ (i := 17) (N := some 29) (v := ?_) (a' := ?_) #[true, true, true, true, true, true, true, true, true, true, true, true, true, true, true, true, true, true, false] rfl rfl (by kernel_rfl) (fun _ _ _ h => h) (Or.inl ⟨by rfl, ?_⟩) ?_ ?_; rotate_left; (intro w'; go_simp; (with_reducible rfl)); rotate_left; (simp only [Act.put, List.setIfInBounds_toArray, List.set_cons_zero, List.set_cons_succ, i64_w, i32_w]; rfl); refine pure_ (i := 18) (N := some 30) (v := ?_) (a' := ?_) #[true, true, true, true, true, true, true, true, true, true, true, true, true, true, true, true, true, true, true] rfl rfl (by kernel_rfl) (fun _ _ _ h => h) (Or.inl ⟨by rfl, ?_⟩) ?_ ?_; rotate_left; (intro w'; go_simp; (with_reducible rfl)); rotate_left; (simp only [Act.put, List.setIfInBounds_toArray, List.set_cons_zero, List.set_cons_succ, i64_w, i32_w]; rfl); refine done_ (by kernel_rfl) ?_
          go_upto_region 4 with fail
          refine start_ (n := 19) (S := (fun w' => w'.cell? ⟨bA, 0, none⟩ = some (.slice (some p1) n1 c1) ∧ w'.cell? ⟨bB, 0, none⟩ = some (.slice (some q1) n2 c2) ∧ w'.cell? p1 = some (.string x.f0) ∧ w'.cell? q1 = some (.string y.f0))) (ds := []) #[false, false, false, false, false, false, false, false, false, false, false, false, false, false, false, false, false, false, false] (by kernel_rfl) rfl rfl ?_ ?_
          · (first | exact ⟨by assumption, by assumption, by assumption, by assumption⟩ | assumption)
          intro hHeld; refine take_ (i := 0) (N := some 33) (v := ?_) (a' := ?_) #[true, false, false, false, false, false, false, false, false, false, false, false, false, false, false, false, false, false, false] rfl rfl (by kernel_rfl) (fun _ _ _ h => h) (Or.inl ⟨by rfl, ?_⟩) hHeld ?_ ?_; rotate_left; (rintro w' ⟨s0, s1, s2, s3⟩; go_simp; (with_reducible rfl)); rotate_left; (simp only [Act.put, List.setIfInBounds_toArray, List.set_cons_zero, List.set_cons_succ, i64_w, i32_w]; rfl); refine pure_ (i := 1) (N := some 34) (v := ?_) (a' := ?_) #[true, true, false, false, false, false, false, false, false, false, false, false, false, false, false, false, false, false, false] rfl rfl (by kernel_rfl) (fun _ _ _ h => h) (Or.inl ⟨by rfl, ?_⟩) ?_ ?_; rotate_left; (intro w'; go_simp; (with_reducible rfl)); rotate_left; (simp only [Act.put, List.setIfInBounds_toArray, List.set_cons_zero, List.set_cons_succ, i64_w, i32_w]; rfl); refine pure_ (i := 2) (N := some 35) (v := ?_) (a' := ?_) #[true, true, true, false, false, false, false, false, false, false, false, false, false, false, false, false, false, false, false] rfl rfl (by kernel_rfl) (fun _ _ _ h => h) (Or.inl ⟨by rfl, ?_⟩) ?_ ?_; rotate_left; (intro w'; go_simp; (with_reducible rfl)); rotate_left; (simp only [Act.put, List.setIfInBounds_toArray, List.set_cons_zero, List.set_cons_succ, i64_w, i32_w]; rfl); refine pure_ (i := 3) (N := some 36) (v := ?_) (a' := ?_) #[true, true, true, true, false, false, false, false, false, false, false, false, false, false, false, false, false, false, false] rfl rfl (by kernel_rfl) (fun _ _ _ h => h) (Or.inl ⟨by rfl, ?_⟩) ?_ ?_; rotate_left; (intro w'; go_simp; (with_reducible rfl)); rotate_left; (simp only [Act.put, List.setIfInBounds_toArray, List.set_cons_zero, List.set_cons_succ, i64_w, i32_w]; rfl); refine take_ (i := 4) (N := some 37) (v := ?_) (a' := ?_) #[true, true, true, true, true, false, false, false, false, false, false, false, false, false, false, false, false, false, false] rfl rfl (by kernel_rfl) (fun _ _ _ h => h) (Or.inl ⟨by rfl, ?_⟩) hHeld ?_ ?_; rotate_left; (rintro w' ⟨s0, s1, s2, s3⟩; go_simp; (with_reducible rfl)); rotate_left; (simp only [Act.put, List.setIfInBounds_toArray, List.set_cons_zero, List.set_cons_succ, i64_w, i32_w]; rfl); refine pure_ (i := 5) (N := some 38) (v := ?_) (a' := ?_) #[true, true, true, true, true, true, false, false, false, false, false, false, false, false, false, false, false, false, false] rfl rfl (by kernel_rfl) (fun _ _ _ h => h) (Or.inl ⟨by rfl, ?_⟩) ?_ ?_; rotate_left; (intro w'; go_simp; (with_reducible rfl)); rotate_left; (simp only [Act.put, List.setIfInBounds_toArray, List.set_cons_zero, List.set_cons_succ, i64_w, i32_w]; rfl); refine pure_ (i := 6) (N := some 39) (v := ?_) (a' := ?_) #[true, true, true, true, true, true, true, false, false, false, false, false, false, false, false, false, false, false, false] rfl rfl (by kernel_rfl) (fun _ _ _ h => h) (Or.inl ⟨by rfl, ?_⟩) ?_ ?_; rotate_left; (intro w'; go_simp; (with_reducible rfl)); rotate_left; (simp only [Act.put, List.setIfInBounds_toArray, List.set_cons_zero, List.set_cons_succ, i64_w, i32_w]; rfl); refine pure_ (i := 7) (N := some 40) (v := ?_) (a' := ?_) #[true, true, true, true, true, true, true, true, false, false, false, false, false, false, false, false, false, false, false] rfl rfl (by kernel_rfl) (fun _ _ _ h => h) (Or.inl ⟨by rfl, ?_⟩) ?_ ?_; rotate_left; (intro w'; go_simp; (with_reducible rfl)); rotate_left; (simp only [Act.put, List.setIfInBounds_toArray, List.set_cons_zero, List.set_cons_succ, i64_w, i32_w]; rfl); refine take_ (i := 8) (N := some 41) (v := ?_) (a' := ?_) #[true, true, true, true, true, true, true, true, true, false, false, false, false, false, false, false, false, false, false] rfl rfl (by kernel_rfl) (fun _ _ _ h => h) (Or.inl ⟨by rfl, ?_⟩) hHeld ?_ ?_; rotate_left; (rintro w' ⟨s0, s1, s2, s3⟩; go_simp; (with_reducible rfl)); rotate_left; (simp only [Act.put, List.setIfInBounds_toArray, List.set_cons_zero, List.set_cons_succ, i64_w, i32_w]; rfl); refine pure_ (i := 9) (N := some 42) (v := ?_) (a' := ?_) #[true, true, true, true, true, true, true, true, true, true, false, false, false, false, false, false, false, false, false] rfl rfl (by kernel_rfl) (fun _ _ _ h => h) (Or.inl ⟨by rfl, ?_⟩) ?_ ?_; rotate_left; (intro w'; go_simp; (with_reducible rfl)); rotate_left; (simp only [Act.put, List.setIfInBounds_toArray, List.set_cons_zero, List.set_cons_succ, i64_w, i32_w]; rfl); refine pure_ (i := 10) (N := some 43) (v := ?_) (a' := ?_) #[true, true, true, true, true, true, true, true, true, true, true, false, false, false, false, false, false, false, false] rfl rfl (by kernel_rfl) (fun _ _ _ h => h) (Or.inl ⟨by rfl, ?_⟩) ?_ ?_; rotate_left; (intro w'; go_simp; (with_reducible rfl)); rotate_left; (simp only [Act.put, List.setIfInBounds_toArray, List.set_cons_zero, List.set_cons_succ, i64_w, i32_w]; rfl); refine take_ (i := 11) (N := some 44) (v := ?_) (a' := ?_) #[true, true, true, true, true, true, true, true, true, true, true, true, false, false, false, false, false, false, false] rfl rfl (by kernel_rfl) (fun _ _ _ h => h) (Or.inl ⟨by rfl, ?_⟩) hHeld ?_ ?_; rotate_left; (rintro w' ⟨s0, s1, s2, s3⟩; go_simp; (with_reducible rfl)); rotate_left; (simp only [Act.put, List.setIfInBounds_toArray, List.set_cons_zero, List.set_cons_succ, i64_w, i32_w]; rfl); refine take_ (i := 12) (N := some 45) (v := ?_) (a' := ?_) #[true, true, true, true, true, true, true, true, true, true, true, true, true, false, false, false, false, false, false] rfl rfl (by kernel_rfl) (fun _ _ _ h => h) (Or.inl ⟨by rfl, ?_⟩) hHeld ?_ ?_; rotate_left; (rintro w' ⟨s0, s1, s2, s3⟩; go_simp; (with_reducible rfl)); rotate_left; (simp only [Act.put, List.setIfInBounds_toArray, List.set_cons_zero, List.set_cons_succ, i64_w, i32_w]; rfl); refine pure_ (i := 13) (N := some 46) (v := ?_) (a' := ?_) #[true, true, true, true, true, true, true, true, true, true, true, true, true, true, false, false, false, false, false] rfl rfl (by kernel_rfl) (fun _ _ _ h => h) (Or.inl ⟨by rfl, ?_⟩) ?_ ?_; rotate_left; (intro w'; go_simp; (with_reducible rfl)); rotate_left; (simp only [Act.put, List.setIfInBounds_toArray, List.set_cons_zero, List.set_cons_succ, i64_w, i32_w]; rfl); refine pure_ (i := 14) (N := some 47) (v := ?_) (a' := ?_) #[true, true, true, true, true, true, true, true, true, true, true, true, true, true, true, false, false, false, false] rfl rfl (by kernel_rfl) (fun _ _ _ h => h) (Or.inl ⟨by rfl, ?_⟩) ?_ ?_; rotate_left; (intro w'; go_simp; (with_reducible rfl)); rotate_left; (simp only [Act.put, List.setIfInBounds_toArray, List.set_cons_zero, List.set_cons_succ, i64_w, i32_w]; rfl); refine take_ (i := 15) (N := some 48) (v := ?_) (a' := ?_) #[true, true, true, true, true, true, true, true, true, true, true, true, true, true, true, true, false, false, false] rfl rfl (by kernel_rfl) (fun _ _ _ h => h) (Or.inl ⟨by rfl, ?_⟩) hHeld ?_ ?_; rotate_left; (rintro w' ⟨s0, s1, s2, s3⟩; go_simp; (with_reducible rfl)); rotate_left; (simp only [Act.put, List.setIfInBounds_toArray, List.set_cons_zero, List.set_cons_succ, i64_w, i32_w]; rfl); refine pure_ (i := 16) (N := some 49) (v := ?_) (a' := ?_) #[true, true, true, true, true, true, true, true, true, true, true, true, true, true, true, true, true, false, false] rfl rfl (by kernel_rfl) (fun _ _ _ h => h) (Or.inl ⟨by rfl, ?_⟩) ?_ ?_; rotate_left; (intro w'; go_simp; (with_reducible rfl)); rotate_left; (simp only [Act.put, List.setIfInBounds_toArray, List.set_cons_zero, List.set_cons_succ, i64_w, i32_w]; rfl); refine pure_ (i := 17) (N := some 50) (v := ?_) (a' := ?_) #[true, true, true, true, true, true, true, true, true, true, true, true, true, true, true, true, true, true, false] rfl rfl (by kernel_rfl) (fun _ _ _ h => h) (Or.inl ⟨by rfl, ?_⟩) ?_ ?_; rotate_left; (intro w'; go_simp; (with_reducible rfl)); rotate_left; (simp only [Act.put, List.setIfInBounds_toArray, List.set_cons_zero, List.set_cons_succ, i64_w, i32_w]; rfl); refine pure_ (i := 18) (N := some 51) (v := ?_) (a' := ?_) #[true, true, true, true, true, true, true, true, true, true, true, true, true, true, true, true, true, true, true] rfl rfl (by kernel_rfl) (fun _ _ _ h => h) (Or.inl ⟨by rfl, ?_⟩) ?_ ?_; rotate_left; (intro w'; go_simp; (with_reducible rfl)); rotate_left; (simp only [Act.put, List.setIfInBounds_toArray, List.set_cons_zero, List.set_cons_succ, i64_w, i32_w]; rfl); refine done_ (by kernel_rfl) ?_
          by_cases e1 : c1 = 1
          · by_cases e2 : c2 = 1
            · go_upto_region 10 with fail
              have HB0 := Aside0.mk (show BX w bA bB ok (J pre) (.slice (some p1) n1 c1) (.slice (some q1) n2 c2) wr from HB0_.out)
              obtain ⟨w2, hw2⟩ : ∃ w2, ((wr.setCell ⟨bA, 0, none⟩ (.slice (some p1) (n1 - 1) 0)).setCell ⟨bB, 0, none⟩ (.slice (some q1) (n2 - 1) 0)).drew.drew = w2 := ⟨_, rfl⟩
              rw [hw2]
              have B2 := Aside0.mk (show BX w bA bB ok (J pre) (.slice (some p1) (n1 - 1) 0) (.slice (some q1) (n2 - 1) 0) w2 from hw2 ▸ ((((HB0.out.setA (HJ.out pre) neA.out HN.out.2.2.1 _).setB (HJ.out pre) neB.out HN.out.2.2.1 _).drew (HJ.out pre)).drew (HJ.out pre)))
              clear hw2 HB HB0 HB0_ b1 b2 f1 f2
              cases gk with
              | zero => exact absurd HI.out.2.1 (by simp)
              | succ k1 =>
              have HE := Aside0.mk (show els (a.length + b.length) p q a b = pre ++ (some (p1, x), some (q1, y)) :: els k1 (p1.add 2) (q1.add 2) r s from HI.out.1.trans (by rw [els, l1, l2]; rfl))
              obtain ⟨fn, tmps, asg, bdy, hy, hR⟩ := HY.out pre (some (p1, x), some (q1, y)) w2 B2.out.j ⟨els k1 (p1.add 2) (q1.add 2) r s, by rw [HE.out]; simp⟩
              simp only [encB, ptrO, Option.map_some, Option.map_none] at hy
              refine (wpIn_wide (n := m + 1)).1 ?_
              gi_wp2
              refine hR.mono ?_
              rintro e w3 ⟨rfl, hj3, hk3⟩
              have B3 := Aside0.mk (B2.out.round HN.out HOK.out hk3 hj3)
              clear hj3 hk3 hR hy
              gi_wp2
              go_wp2_with fail
              go_roundg k1
              case measure => omega
              case rel =>
                obtain ⟨h1, h2, h3, h4, h5, h6, h7⟩ := HI.out; have FA1 := HR.out.1; have FB1 := HR.out.2; have B4 := B3.out; simp only [List.length_cons, List.length_nil] at h2 h4 h5
                have en1 : n1 - 1 = r.length := by rw [← HN1.out]; rfl
                rw [en1] at B4; have FA2 := tailF FA1 (c := c1) (by simpa using h4); rw [if_pos e1] at FA2
                have en2 : n2 - 1 = s.length := by rw [← HN2.out]; rfl
                rw [en2] at B4; have FB2 := tailF FB1 (c := c2) (by simpa using h5); rw [if_pos e2] at FB2; refine ⟨pre ++ [(some (p1, x), some (q1, y))], r, s, some p1, some q1, 0, 0, (p1.add 2), (q1.add 2), ⟨by rw [HE.out]; simp, ?_, ?_, ?_, ?_, fun h => absurd (List.length_eq_zero_iff.1 (by omega)) h, fun h => absurd (List.length_eq_zero_iff.1 (by omega)) h⟩, ⟨FA2, FB2⟩, ⟨B4⟩⟩
                all_goals ((try simp only [List.length_cons, List.length_nil]); omega)
            · go_upto_region 10 with fail
              have HB0 := Aside0.mk (show BX w bA bB ok (J pre) (.slice (some p1) n1 c1) (.slice (some q1) n2 c2) wr from HB0_.out)
              obtain ⟨w2, hw2⟩ : ∃ w2, ((wr.setCell ⟨bA, 0, none⟩ (.slice (some p1) (n1 - 1) 0)).setCell ⟨bB, 0, none⟩ (.slice (some ⟨q1.block, q1.off + 2, none⟩) (n2 - 1) (c2 - 1))).drew.drew = w2 := ⟨_, rfl⟩
              rw [hw2]
              have B2 := Aside0.mk (show BX w bA bB ok (J pre) (.slice (some p1) (n1 - 1) 0) (.slice (some ⟨q1.block, q1.off + 2, none⟩) (n2 - 1) (c2 - 1)) w2 from hw2 ▸ ((((HB0.out.setA (HJ.out pre) neA.out HN.out.2.2.1 _).setB (HJ.out pre) neB.out HN.out.2.2.1 _).drew (HJ.out pre)).drew (HJ.out pre)))
              clear hw2 HB HB0 HB0_ b1 b2 f1 f2
              cases gk with
              | zero => exact absurd HI.out.2.1 (by simp)
              | succ k1 =>
              have HE := Aside0.mk (show els (a.length + b.length) p q a b = pre ++ (some (p1, x), some (q1, y)) :: els k1 (p1.add 2) (q1.add 2) r s from HI.out.1.trans (by rw [els, l1, l2]; rfl))
              obtain ⟨fn, tmps, asg, bdy, hy, hR⟩ := HY.out pre (some (p1, x), some (q1, y)) w2 B2.out.j ⟨els k1 (p1.add 2) (q1.add 2) r s, by rw [HE.out]; simp⟩
              simp only [encB, ptrO, Option.map_some, Option.map_none] at hy
              refine (wpIn_wide (n := m + 1)).1 ?_
              gi_wp2
              refine hR.mono ?_
              rintro e w3 ⟨rfl, hj3, hk3⟩
              have B3 := Aside0.mk (B2.out.round HN.out HOK.out hk3 hj3)
              clear hj3 hk3 hR hy
              gi_wp2
              go_wp2_with fail
              go_roundg k1
              case measure => omega
              case rel =>
                obtain ⟨h1, h2, h3, h4, h5, h6, h7⟩ := HI.out; have FA1 := HR.out.1; have FB1 := HR.out.2; have B4 := B3.out; simp only [List.length_cons, List.length_nil] at h2 h4 h5
                have en1 : n1 - 1 = r.length := by rw [← HN1.out]; rfl
                rw [en1] at B4; have FA2 := tailF FA1 (c := c1) (by simpa using h4); rw [if_pos e1] at FA2
                have en2 : n2 - 1 = s.length := by rw [← HN2.out]; rfl
                rw [en2] at B4; have FB2 := tailF FB1 (c := c2) (by simpa using h5); rw [if_neg e2] at FB2; refine ⟨pre ++ [(some (p1, x), some (q1, y))], r, s, some p1, some (q1.add 2), 0, c2 - 1, (p1.add 2), (q1.add 2), ⟨by rw [HE.out]; simp, ?_, ?_, ?_, ?_, fun h => absurd (List.length_eq_zero_iff.1 (by omega)) h, fun _ => rfl⟩, ⟨FA2, FB2⟩, ⟨B4⟩⟩
                all_goals ((try simp only [List.length_cons, List.length_nil]); omega)
          · by_cases e2 : c2 = 1
            · go_upto_region 10 with fail
              have HB0 := Aside0.mk (show BX w bA bB ok (J pre) (.slice (some p1) n1 c1) (.slice (some q1) n2 c2) wr from HB0_.out)
              obtain ⟨w2, hw2⟩ : ∃ w2, ((wr.setCell ⟨bA, 0, none⟩ (.slice (some ⟨p1.block, p1.off + 2, none⟩) (n1 - 1) (c1 - 1))).setCell ⟨bB, 0, none⟩ (.slice (some q1) (n2 - 1) 0)).drew.drew = w2 := ⟨_, rfl⟩
              rw [hw2]
              have B2 := Aside0.mk (show BX w bA bB ok (J pre) (.slice (some ⟨p1.block, p1.off + 2, none⟩) (n1 - 1) (c1 - 1)) (.slice (some q1) (n2 - 1) 0) w2 from hw2 ▸ ((((HB0.out.setA (HJ.out pre) neA.out HN.out.2.2.1 _).setB (HJ.out pre) neB.out HN.out.2.2.1 _).drew (HJ.out pre)).drew (HJ.out pre)))
              clear hw2 HB HB0 HB0_ b1 b2 f1 f2
              cases gk with
              | zero => exact absurd HI.out.2.1 (by simp)
              | succ k1 =>
              have HE := Aside0.mk (show els (a.length + b.length) p q a b = pre ++ (some (p1, x), some (q1, y)) :: els k1 (p1.add 2) (q1.add 2) r s from HI.out.1.trans (by rw [els, l1, l2]; rfl))
              obtain ⟨fn, tmps, asg, bdy, hy, hR⟩ := HY.out pre (some (p1, x), some (q1, y)) w2 B2.out.j ⟨els k1 (p1.add 2) (q1.add 2) r s, by rw [HE.out]; simp⟩
              simp only [encB, ptrO, Option.map_some, Option.map_none] at hy
              refine (wpIn_wide (n := m + 1)).1 ?_
              gi_wp2
              refine hR.mono ?_
              rintro e w3 ⟨rfl, hj3, hk3⟩
              have B3 := Aside0.mk (B2.out.round HN.out HOK.out hk3 hj3)
              clear hj3 hk3 hR hy
              gi_wp2
              go_wp2_with fail
              go_roundg k1
              case measure => omega
              case rel =>
                obtain ⟨h1, h2, h3, h4, h5, h6, h7⟩ := HI.out; have FA1 := HR.out.1; have FB1 := HR.out.2; have B4 := B3.out; simp only [List.length_cons, List.length_nil] at h2 h4 h5
                have en1 : n1 - 1 = r.length := by rw [← HN1.out]; rfl
                rw [en1] at B4; have FA2 := tailF FA1 (c := c1) (by simpa using h4); rw [if_neg e1] at FA2
                have en2 : n2 - 1 = s.length := by rw [← HN2.out]; rfl
                rw [en2] at B4; have FB2 := tailF FB1 (c := c2) (by simpa using h5); rw [if_pos e2] at FB2; refine ⟨pre ++ [(some (p1, x), some (q1, y))], r, s, some (p1.add 2), some q1, c1 - 1, 0, (p1.add 2), (q1.add 2), ⟨by rw [HE.out]; simp, ?_, ?_, ?_, ?_, fun _ => rfl, fun h => absurd (List.length_eq_zero_iff.1 (by omega)) h⟩, ⟨FA2, FB2⟩, ⟨B4⟩⟩
                all_goals ((try simp only [List.length_cons, List.length_nil]); omega)
            · go_upto_region 10 with fail
              have HB0 := Aside0.mk (show BX w bA bB ok (J pre) (.slice (some p1) n1 c1) (.slice (some q1) n2 c2) wr from HB0_.out)
              obtain ⟨w2, hw2⟩ : ∃ w2, ((wr.setCell ⟨bA, 0, none⟩ (.slice (some ⟨p1.block, p1.off + 2, none⟩) (n1 - 1) (c1 - 1))).setCell ⟨bB, 0, none⟩ (.slice (some ⟨q1.block, q1.off + 2, none⟩) (n2 - 1) (c2 - 1))).drew.drew = w2 := ⟨_, rfl⟩
              rw [hw2]
              have B2 := Aside0.mk (show BX w bA bB ok (J pre) (.slice (some ⟨p1.block, p1.off + 2, none⟩) (n1 - 1) (c1 - 1)) (.slice (some ⟨q1.block, q1.off + 2, none⟩) (n2 - 1) (c2 - 1)) w2 from hw2 ▸ ((((HB0.out.setA (HJ.out pre) neA.out HN.out.2.2.1 _).setB (HJ.out pre) neB.out HN.out.2.2.1 _).drew (HJ.out pre)).drew (HJ.out pre)))
              clear hw2 HB HB0 HB0_ b1 b2 f1 f2
              cases gk with
              | zero => exact absurd HI.out.2.1 (by simp)
              | succ k1 =>
              have HE := Aside0.mk (show els (a.length + b.length) p q a b = pre ++ (some (p1, x), some (q1, y)) :: els k1 (p1.add 2) (q1.add 2) r s from HI.out.1.trans (by rw [els, l1, l2]; rfl))
              obtain ⟨fn, tmps, asg, bdy, hy, hR⟩ := HY.out pre (some (p1, x), some (q1, y)) w2 B2.out.j ⟨els k1 (p1.add 2) (q1.add 2) r s, by rw [HE.out]; simp⟩
              simp only [encB, ptrO, Option.map_some, Option.map_none] at hy
              refine (wpIn_wide (n := m + 1)).1 ?_
              gi_wp2
              refine hR.mono ?_
              rintro e w3 ⟨rfl, hj3, hk3⟩
              have B3 := Aside0.mk (B2.out.round HN.out HOK.out hk3 hj3)
              clear hj3 hk3 hR hy
              gi_wp2
              go_wp2_with fail
              go_roundg k1
              case measure => omega
              case rel =>
                obtain ⟨h1, h2, h3, h4, h5, h6, h7⟩ := HI.out; have FA1 := HR.out.1; have FB1 := HR.out.2; have B4 := B3.out; simp only [List.length_cons, List.length_nil] at h2 h4 h5
                have en1 : n1 - 1 = r.length := by rw [← HN1.out]; rfl
                rw [en1] at B4; have FA2 := tailF FA1 (c := c1) (by simpa using h4); rw [if_neg e1] at FA2
                have en2 : n2 - 1 = s.length := by rw [← HN2.out]; rfl
                rw [en2] at B4; have FB2 := tailF FB1 (c := c2) (by simpa using h5); rw [if_neg e2] at FB2; refine ⟨pre ++ [(some (p1, x), some (q1, y))], r, s, some (p1.add 2), some (q1.add 2), c1 - 1, c2 - 1, (p1.add 2), (q1.add 2), ⟨by rw [HE.out]; simp, ?_, ?_, ?_, ?_, fun _ => rfl, fun _ => rfl⟩, ⟨FA2, FB2⟩, ⟨B4⟩⟩
                all_goals ((try simp only [List.length_cons, List.length_nil]); omega)
end Go.Proofs.Ytmpdbblljofjfaa.G
namespace Go.Proofs.Ytmpdbblljofjfaa.Pure
open Go.RowKit Go.Proofs.Ytmpdbblljofjfaa.G Go.Proofs.YtmpdbblljofjfaaW.PrintWords Go.Proofs.YtmpdbblljofjfaaW.PrintLast
set_option linter.unusedVariables false
def Ev {α : Type} (f : Nat → Option α) (r : α) : Prop := ∃ k0, ∀ k, k0 ≤ k → f k = some r
theorem Ev.all {α : Type} {f : Nat → Option α} {r : α} (h : ∀ k, f k = some r) : Ev f r := ⟨0, fun k _ => h k⟩
theorem Ev.pure {α : Type} (r : α) : Ev (fun _ => some r) r := .all fun _ => rfl
theorem Ev.of {α : Type} {f : Nat → Option α} {r : α} (m : ∀ k, LeO (f k) (f (k + 1))) {k : Nat} (h : f k = some r) : Ev f r :=
  ⟨k, fun j hj => by
    obtain ⟨d, rfl⟩ : ∃ d, j = k + d := ⟨j - k, by omega⟩
    clear hj
    induction d with
    | zero => exact h
    | succ d ih => exact m _ _ ih⟩
theorem Ev.step {α : Type} {f g : Nat → Option α} {r : α} (hg : Ev g r) (h : ∀ k, f (k + 1) = g k) : Ev f r := by
  obtain ⟨k0, hk⟩ := hg; exact ⟨k0 + 1, fun k hk' => by obtain ⟨m, rfl⟩ : ∃ m, k = m + 1 := ⟨k - 1, by omega⟩; rw [h]; exact hk m (by omega)⟩
theorem Ev.eq {α : Type} {f g : Nat → Option α} {r : α} (hg : Ev g r) (h : ∀ k, f k = g k) : Ev f r := by
  obtain ⟨k0, hk⟩ := hg; exact ⟨k0, fun k hk' => by rw [h]; exact hk k hk'⟩
theorem Ev.bind {α β : Type} {f : Nat → Option α} {g : Nat → α → Option β} {a : α} {r : β} (hf : Ev f a) (hg : Ev (fun k => g k a) r) : Ev (fun k => (f k).bind (g k)) r := by
  obtain ⟨k0, h0⟩ := hf; obtain ⟨k1, h1⟩ := hg; exact ⟨max k0 k1, fun k hk => by show (f k).bind (g k) = some r; rw [h0 k (by omega)]; exact h1 k (by omega)⟩
theorem Ev.via {α β : Type} {f : Nat → Option α} {g F : Nat → Option β} {a : α} {r : β} (hf : Ev f a) (hg : Ev g r) (h : ∀ k, f k = some a → F (k + 1) = g k) : Ev F r := by
  obtain ⟨k0, h0⟩ := hf; obtain ⟨k1, h1⟩ := hg; exact ⟨max k0 k1 + 1, fun k hk => by obtain ⟨m, rfl⟩ : ∃ m, k = m + 1 := ⟨k - 1, by omega⟩; rw [h m (h0 m (by omega))]; exact h1 m (by omega)⟩
theorem Ev.via0 {α β : Type} {f : Nat → Option α} {g F : Nat → Option β} {a : α} {r : β} (hf : Ev f a) (hg : Ev g r) (h : ∀ k, f k = some a → F k = g k) : Ev F r := by
  obtain ⟨k0, h0⟩ := hf; obtain ⟨k1, h1⟩ := hg; exact ⟨max k0 k1, fun k hk => by rw [h k (h0 k (by omega))]; exact h1 k (by omega)⟩
theorem w1 {i : Int} (h0 : -1000000000000000000 ≤ i) (h : i ≤ 1000000000000000000) : wrap64 (i + 1) = i + 1 := by unfold wrap64; omega
theorem wm {i : Int} (h0 : -1000000000000000000 ≤ i) (h : i ≤ 1000000000000000000) : wrap64 (i - 1) = i - 1 := by unfold wrap64; omega
theorem ww {i : Int} (h0 : -9000000000000000000 ≤ i) (h : i ≤ 9000000000000000000) : wrap64 i = i := by unfold wrap64; omega
end Go.Proofs.Ytmpdbblljofjfaa.Pure
namespace Go.Proofs.Ytmpdbblljofjfaa.Srt
set_option linter.unusedVariables false
structure Swo {α : Type} (lt : α → α → Bool) : Prop where
  irr : ∀ x, lt x x = false
  nt : ∀ x y z, lt x y = false → lt y z = false → lt x z = false
  asy : ∀ x y, lt x y = true → lt y x = false
def eqv {α : Type} (lt : α → α → Bool) (z x : α) : Bool := !lt z x && !lt x z
def Srt {α : Type} (lt : α → α → Bool) (l : List α) : Prop := l.Pairwise (fun a b => lt b a = false)
structure Stb {α : Type} (lt : α → α → Bool) (l r : List α) : Prop where
  len : r.length = l.length
  fl : ∀ z, r.filter (eqv lt z) = l.filter (eqv lt z)
theorem eqv_self {α : Type} {lt : α → α → Bool} (h : Swo lt) (x : α) : eqv lt x x = true := by
  unfold eqv; rw [h.irr]; rfl
theorem Stb.refl {α : Type} (lt : α → α → Bool) (l : List α) : Stb lt l l := ⟨rfl, fun _ => rfl⟩
theorem Stb.trans {α : Type} {lt : α → α → Bool} {a b c : List α} (h : Stb lt a b) (g : Stb lt b c) : Stb lt a c := ⟨g.len.trans h.len, fun z => (g.fl z).trans (h.fl z)⟩
theorem Stb.app {α : Type} {lt : α → α → Bool} {a b c d : List α} (h : Stb lt a b) (g : Stb lt c d) : Stb lt (a ++ c) (b ++ d) :=
  ⟨by rw [List.length_append, List.length_append, h.len, g.len], fun z => by rw [List.filter_append, List.filter_append, h.fl, g.fl]⟩
theorem Stb.mem {α : Type} {lt : α → α → Bool} (w : Swo lt) {a b : List α} (h : Stb lt a b) (x : α) : x ∈ b ↔ x ∈ a := by
  have key : x ∈ b.filter (eqv lt x) ↔ x ∈ a.filter (eqv lt x) := by rw [h.fl]
  rw [List.mem_filter, List.mem_filter, eqv_self w] at key; simpa using key
theorem Stb.swap {α : Type} {lt : α → α → Bool} (w : Swo lt) (u v : List α) (h : ∀ a ∈ u, ∀ b ∈ v, lt b a = true) : Stb lt (u ++ v) (v ++ u) := by
  refine ⟨by rw [List.length_append, List.length_append, Nat.add_comm], fun z => ?_⟩; rw [List.filter_append, List.filter_append]
  by_cases hu : u.filter (eqv lt z) = []
  · rw [hu, List.append_nil, List.nil_append]
  · by_cases hv : v.filter (eqv lt z) = []
    · rw [hv, List.append_nil, List.nil_append]
    · obtain ⟨a, ha⟩ := List.exists_mem_of_ne_nil _ hu
      obtain ⟨b, hb⟩ := List.exists_mem_of_ne_nil _ hv
      rw [List.mem_filter] at ha hb
      have h1 := h a ha.1 b hb.1
      have h2 := ha.2
      have h3 := hb.2
      unfold eqv at h2 h3
      simp only [Bool.and_eq_true, Bool.not_eq_true'] at h2 h3
      rw [w.nt b z a h3.2 h2.1] at h1
      cases h1
/-- Two sorted runs, x ++ u and v ++ y: v and u change places, then each half is sorted by itself. -/
theorem merged {α : Type} {lt : α → α → Bool} (w : Swo lt) {x u v y M1 M2 : List α} (hX : Srt lt (x ++ u)) (hY : Srt lt (v ++ y))
    (hvu : ∀ a ∈ u, ∀ b ∈ v, lt b a = true) (hxy : ∀ a ∈ x, ∀ b ∈ y, lt b a = false)
    (h1 : Srt lt M1) (s1 : Stb lt (x ++ v) M1) (h2 : Srt lt M2) (s2 : Stb lt (u ++ y) M2) : Srt lt (M1 ++ M2) ∧ Stb lt ((x ++ u) ++ (v ++ y)) (M1 ++ M2) := by
  have hX' := List.pairwise_append.1 hX; have hY' := List.pairwise_append.1 hY; refine ⟨List.pairwise_append.2 ⟨h1, h2, fun a ha b hb => ?_⟩, ?_⟩
  · rw [s1.mem w, List.mem_append] at ha
    rw [s2.mem w, List.mem_append] at hb
    rcases ha with ha | ha <;> rcases hb with hb | hb
    · exact hX'.2.2 a ha b hb
    · exact hxy a ha b hb
    · exact w.asy _ _ (hvu b hb a ha)
    · exact hY'.2.2 a ha b hb
  · have e1 : (x ++ u) ++ (v ++ y) = x ++ (u ++ v) ++ y := by simp only [List.append_assoc]
    have e2 : (x ++ v) ++ (u ++ y) = x ++ (v ++ u) ++ y := by simp only [List.append_assoc]
    have e3 := (((Stb.refl lt x).app (Stb.swap w u v hvu)).app (Stb.refl lt y)).trans (e2 ▸ s1.app s2)
    rw [e1]
    exact e3
/-- All of v below all of u, by the two that meet. -/
theorem all_lt {α : Type} {lt : α → α → Bool} (w : Swo lt) {u v : List α} (hu : Srt lt u) (hv : Srt lt v) (h : u = [] ∨ v = [] ∨ ∃ u0 u' v' v0, u = u0 :: u' ∧ v = v' ++ [v0] ∧ lt v0 u0 = true) : ∀ a ∈ u, ∀ b ∈ v, lt b a = true := by
  rcases h with rfl | rfl | ⟨u0, u', v', v0, rfl, rfl, h⟩
  (intro a ha; cases ha); (intro a _ b hb; cases hb)
  · intro a ha b hb
    have hu' := List.pairwise_cons.1 hu
    have hv' := List.pairwise_append.1 hv
    have h1 : lt a u0 = false := by
      rcases List.mem_cons.1 ha with rfl | ha
      (exact w.irr _); (exact hu'.1 a ha)
    have h2 : lt v0 b = false := by
      rcases List.mem_append.1 hb with hb | hb
      (exact hv'.2.2 b hb v0 (by simp)); (rw [List.mem_singleton.1 hb]; exact w.irr _)
    cases h3 : lt b a with
    | true => rfl
    | false => rw [w.nt v0 a u0 (w.nt v0 b a h2 h3) h1] at h; cases h
/-- None of y below any of x, by the two that meet. -/
theorem all_ge {α : Type} {lt : α → α → Bool} (w : Swo lt) {x y : List α} (hx : Srt lt x) (hy : Srt lt y) (h : x = [] ∨ y = [] ∨ ∃ x' x0 y0 y', x = x' ++ [x0] ∧ y = y0 :: y' ∧ lt y0 x0 = false) : ∀ a ∈ x, ∀ b ∈ y, lt b a = false := by
  rcases h with rfl | rfl | ⟨x', x0, y0, y', rfl, rfl, h⟩
  (intro a ha; cases ha); (intro a _ b hb; cases hb)
  · intro a ha b hb
    have hx' := List.pairwise_append.1 hx
    have hy' := List.pairwise_cons.1 hy
    have h1 : lt b y0 = false := by
      rcases List.mem_cons.1 hb with rfl | hb
      (exact w.irr _); (exact hy'.1 b hb)
    have h2 : lt x0 a = false := by
      rcases List.mem_append.1 ha with ha | ha
      (exact hx'.2.2 a ha x0 (by simp)); (rw [List.mem_singleton.1 ha]; exact w.irr _)
    exact w.nt b x0 a (w.nt b y0 x0 h1 h) h2
/-- One more, put into its place in what is sorted. -/
theorem inserted {α : Type} {lt : α → α → Bool} (w : Swo lt) {A B : List α} {x : α} (h : Srt lt (A ++ B)) (hB : ∀ b ∈ B, lt x b = true) (hA : ∀ a ∈ A, lt x a = false) :
    Srt lt (A ++ x :: B) ∧ Stb lt ((A ++ B) ++ [x]) (A ++ x :: B) := by
  have h' := List.pairwise_append.1 h; refine ⟨List.pairwise_append.2 ⟨h'.1, List.pairwise_cons.2 ⟨fun b hb => w.asy _ _ (hB b hb), h'.2.1⟩, fun a ha b hb => ?_⟩, ?_⟩
  · rcases List.mem_cons.1 hb with rfl | hb
    · exact hA a ha
    · exact h'.2.2 a ha b hb
  · have := (Stb.refl lt A).app (Stb.swap w B [x] (fun a ha b hb => by rw [List.mem_singleton.1 hb]; exact hB a ha))
    rw [← List.append_assoc] at this; exact this
theorem srt_last {α : Type} {lt : α → α → Bool} (w : Swo lt) {A : List α} {c x : α} (h : Srt lt (A ++ [c])) (hc : lt x c = false) : ∀ a ∈ A ++ [c], lt x a = false := by
  intro a ha; have h' := List.pairwise_append.1 h
  rcases List.mem_append.1 ha with ha | ha
  (exact w.nt x c a hc (h'.2.2 a ha c (by simp))); (rw [List.mem_singleton.1 ha]; exact hc)
/-- Full blocks, each sorted. -/
def Full {α : Type} (lt : α → α → Bool) (bs : Nat) (cs : List (List α)) : Prop := ∀ c ∈ cs, c.length = bs ∧ Srt lt c
theorem full_snoc {α : Type} {lt : α → α → Bool} {bs : Nat} {cs : List (List α)} {c : List α} (h : Full lt bs cs) (hl : c.length = bs) (hc : Srt lt c) : Full lt bs (cs ++ [c]) := by
  intro d hd
  rcases List.mem_append.1 hd with hd | hd
  (exact h d hd); (rw [List.mem_singleton.1 hd]; exact ⟨hl, hc⟩)
/-- One list is at most one stable sorting of another. -/
theorem uniq {α : Type} {lt : α → α → Bool} (w : Swo lt) : ∀ {a b : List α}, Srt lt a → Srt lt b → (∀ z, a.filter (eqv lt z) = b.filter (eqv lt z)) → a = b
  | [], [], _, _, _ => rfl
  | [], y :: b, _, _, h => by
    have := h y
    rw [List.filter_cons, if_pos (eqv_self w y)] at this
    cases this
  | x :: a, [], _, _, h => by
    have := h x
    rw [List.filter_cons, if_pos (eqv_self w x)] at this
    cases this
  | x :: a, y :: b, ha, hb, h => by
    have ha' := List.pairwise_cons.1 ha
    have hb' := List.pairwise_cons.1 hb
    have hxy : lt y x = false := by
      have : y ∈ (x :: a).filter (eqv lt y) := by rw [h y, List.filter_cons, if_pos (eqv_self w y)]; simp
      have := (List.mem_filter.1 this).1
      rcases List.mem_cons.1 this with rfl | h1
      · exact w.irr _
      · exact ha'.1 y h1
    have hyx : lt x y = false := by
      have : x ∈ (y :: b).filter (eqv lt x) := by rw [← h x, List.filter_cons, if_pos (eqv_self w x)]; simp
      have := (List.mem_filter.1 this).1
      rcases List.mem_cons.1 this with rfl | h1
      (exact w.irr _); (exact hb'.1 x h1)
    have e : x = y := by
      have := h x; rw [List.filter_cons, if_pos (eqv_self w x), List.filter_cons, if_pos (by unfold eqv; rw [hxy, hyx]; rfl)] at this; exact (List.cons.inj this).1
    subst e
    rw [uniq w ha'.2 hb'.2 (fun z => by
      have := h z; rw [List.filter_cons, List.filter_cons] at this; split at this; (exact (List.cons.inj this).2)
      · exact this)]
end Go.Proofs.Ytmpdbblljofjfaa.Srt
namespace Go.Proofs.Ytmpdbblljofjfaa.G
open Go.RowKit Go.Proofs.YtmpdbblljofjfaaW.PrintWords Go.Proofs.YtmpdbblljofjfaaW.PrintLast Go.Proofs.YtmpdbblljofjfaaW.PrintMore Go.Proofs.Ytmpdbblljofjfaa.Srt
set_option linter.unusedVariables false
set_option linter.unusedSimpArgs false
/-- The row at A of n attributes (room c): L. -/
structure Rw (w0 : World) (A : Option Addr) (n c : Nat) (W : World) (L : List S43) : Prop where
  ln : L.length = n
  r : Kd.R k43 43 W w0.heap.size (fun _ => True) (.slice A n c) L
  b : Below w0.heap.size w0 W
theorem Rw.below {w0 : World} {A : Option Addr} {n c : Nat} {W W' : World} {L : List S43} (h : Rw w0 A n c W L) (hb : Below W.heap.size W W') : Rw w0 A n c W' L :=
  ⟨h.ln, Kd.R_below h.r hb, h.b.trans (hb.mono h.b.size)⟩
theorem Rw.drew {w0 : World} {A : Option Addr} {n c : Nat} {W : World} {L : List S43} (h : Rw w0 A n c W L) : Rw w0 A n c W.drew L := h.below (below_drew (Below.refl _ _))
theorem Rw.form {w0 : World} {A : Option Addr} {n c : Nat} {W : World} {L : List S43} (h : Rw w0 A n c W L) (hp : 0 < n) : ∃ g, A = some ⟨g, 0, none⟩ ∧ w0.heap.size ≤ g := by
  have hp' : 0 < L.length := by rw [h.ln]; exact hp
  obtain ⟨g, cap, e, hb, _⟩ := Kd.R_form h.r hp'; injection e with e1 e2 e3; exact ⟨g, e1, hb⟩
/-- An attribute in its two cells. -/
def At2 (W : World) (g i : Nat) (x : S43) : Prop :=
  W.cell? ⟨g, i * 2, none⟩ = some (.string x.f0) ∧ W.cell? ⟨g, i * 2 + 1, none⟩ = some (.string x.f1) ∧ W.frozen? ⟨g, i * 2, none⟩ = false ∧ W.frozen? ⟨g, i * 2 + 1, none⟩ = false
def put2 (W : World) (g i : Nat) (x : S43) : World := (W.setCell ⟨g, i * 2, none⟩ (.string x.f0)).setCell ⟨g, i * 2 + 1, none⟩ (.string x.f1)
theorem Rw.cell {w0 : World} {g n c : Nat} {W : World} {L : List S43} (h : Rw w0 (some ⟨g, 0, none⟩) n c W L) (i : Nat) (hi : i < n) (x : S43) (hx : L[i]? = some x) : At2 W g i x := by
  obtain ⟨ce, hcl, hM, hcc, hfr⟩ := Kd.R_elem h.r z43 (i : Int) (by omega) (by omega)
  have e : L.getD (i : Int).toNat z43 = x := by rw [List.getD_eq_getElem?_getD, Int.toNat_natCast, hx]; rfl
  rw [e] at hM; obtain rfl := k43_openM hM; have h0 := hcc 0 _ rfl; have h1 := hcc 1 _ rfl; have f0 := hfr 0; have f1 := hfr 1; simp only [show k43.sz = 2 from rfl, Int.toNat_natCast, Nat.add_zero] at h0 h1 f0 f1; exact ⟨h0, h1, f0, f1⟩
theorem Rw.set {w0 : World} {g n c : Nat} {W : World} {L : List S43} (h : Rw w0 (some ⟨g, 0, none⟩) n c W L) (i : Nat) (hi : i < n) (v : S43) : Rw w0 (some ⟨g, 0, none⟩) n c (put2 W g i v) (L.set i v) := by
  obtain ⟨g', e, hb⟩ := h.form (by omega); injection e with e; injection e with e; subst e; obtain ⟨ce, hcl, hM, hcc, hfr⟩ := Kd.R_elem h.r z43 (i : Int) (by omega) (by omega); have hl2 : ce.length = 2 := hcl; have hdr : ce.drop 2 = [] := List.drop_eq_nil_of_le (by omega)
  have hr := (Kd.R_seg h.r (i : Int) (by omega) (by omega) (seg := [.string v.f0, .string v.f1]) (j := 0) hcl hcc (show 0 + 2 ≤ 2 from by decide) (x' := v) (by
    rw [List.take_zero, List.nil_append]
    show k43.M W _ _ v ([.string v.f0, .string v.f1] ++ ce.drop 2)
    rw [hdr, List.append_nil]
    exact k43_mkM _ _ _ v) (fun _ hk => hk)).1
  refine ⟨by rw [List.length_set, h.ln], hr, zS (zS h.b hb) hb⟩
theorem set_mid {α : Type} (A B : List α) (u v : α) (i : Nat) (hi : i = A.length) : (A ++ u :: B).set i v = A ++ v :: B := by
  subst hi; simp
theorem get_mid {α : Type} (A B : List α) (u : α) (i : Nat) (hi : i = A.length) : (A ++ u :: B)[i]? = some u := by
  subst hi; simp
/-- Two that change places. -/
theorem Rw.swap {w0 : World} {g n c : Nat} {W : World} {A B C : List S43} {x z : S43} (h : Rw w0 (some ⟨g, 0, none⟩) n c W (A ++ x :: (B ++ z :: C))) (p q : Nat) (hp : p = A.length) (hq : q = A.length + 1 + B.length) :
    Rw w0 (some ⟨g, 0, none⟩) n c (put2 (put2 W g p z) g q x) (A ++ z :: (B ++ x :: C)) := by
  have hl := h.ln; simp at hl; have h1 := (h.set p (by omega) z).set q (by omega) x; rw [set_mid _ _ _ _ p hp] at h1
  have e : (A ++ z :: (B ++ z :: C)) = (A ++ z :: B) ++ z :: C := by simp
  rw [e, set_mid _ _ _ _ q (by simp; omega)] at h1
  have e2 : (A ++ z :: B) ++ x :: C = A ++ z :: (B ++ x :: C) := by simp
  rw [e2] at h1; exact h1
theorem Rw.swap' {w0 : World} {g n c : Nat} {W : World} {A B C : List S43} {x z : S43} (h : Rw w0 (some ⟨g, 0, none⟩) n c W (A ++ x :: (B ++ z :: C))) (p q : Nat) (hp : p = A.length) (hq : q = A.length + 1 + B.length) :
    Rw w0 (some ⟨g, 0, none⟩) n c (put2 (put2 W g q x) g p z) (A ++ z :: (B ++ x :: C)) := by
  have hl := h.ln; simp at hl; have h1 := (h.set q (by omega) x).set p (by omega) z; rw [List.set_comm _ _ (by omega), set_mid _ _ _ _ p hp] at h1
  have e : (A ++ z :: (B ++ z :: C)) = (A ++ z :: B) ++ z :: C := by simp
  rw [e, set_mid _ _ _ _ q (by simp; omega)] at h1
  have e2 : (A ++ z :: B) ++ x :: C = A ++ z :: (B ++ x :: C) := by simp
  rw [e2] at h1; exact h1
theorem Rw.two {w0 : World} {g n c : Nat} {W : World} {A B C : List S43} {x z : S43} (h : Rw w0 (some ⟨g, 0, none⟩) n c W (A ++ x :: (B ++ z :: C))) (p q : Nat) (hp : p = A.length) (hq : q = A.length + 1 + B.length) :
    q < n ∧ At2 W g p x ∧ At2 W g q z ∧ (∀ v, At2 (put2 W g p v) g q z) ∧ (∀ v, At2 (put2 W g q v) g p x) := by
  have hl := h.ln; simp at hl; have h1 := h.cell p (by omega) x (get_mid _ _ _ p hp)
  have e : (A ++ x :: (B ++ z :: C)) = (A ++ x :: B) ++ z :: C := by simp
  have h2 := h.cell q (by omega) z (by rw [e]; exact get_mid _ _ _ q (by simp; omega)); refine ⟨by omega, h1, h2, fun v => (h.set p (by omega) v).cell q (by omega) z ?_, fun v => (h.set q (by omega) v).cell p (by omega) x ?_⟩; (rw [List.getElem?_set_ne (by omega), e]; exact get_mid _ _ _ q (by simp; omega)); (rw [List.getElem?_set_ne (by omega)]; exact get_mid _ _ _ p hp)
/-- What swapRange has come to behind k of m. -/
def swk (P X Y Z Q : List S43) (k : Nat) : List S43 := P ++ (Z.take k ++ X.drop k) ++ Y ++ (X.take k ++ Z.drop k) ++ Q
theorem drop_get {α : Type} {X : List α} {k : Nat} {x : α} (h : X[k]? = some x) : X.drop k = x :: X.drop (k + 1) := by
  obtain ⟨hk, e⟩ := List.getElem?_eq_some_iff.1 h; rw [List.drop_eq_getElem_cons hk, e]
theorem take_get {α : Type} {X : List α} {k : Nat} {x : α} (h : X[k]? = some x) : X.take (k + 1) = X.take k ++ [x] := by
  rw [List.take_add_one, h]; rfl
theorem swk_open (P X Y Z Q : List S43) (k : Nat) (x z : S43) (hX : X[k]? = some x) (hZ : Z[k]? = some z) :
    swk P X Y Z Q k = (P ++ Z.take k) ++ x :: ((X.drop (k + 1) ++ Y ++ X.take k) ++ z :: (Z.drop (k + 1) ++ Q)) := by
  unfold swk; rw [drop_get hX, drop_get hZ]; simp only [List.append_assoc, List.cons_append]
theorem swk_shut (P X Y Z Q : List S43) (k : Nat) (x z : S43) (hX : X[k]? = some x) (hZ : Z[k]? = some z) :
    (P ++ Z.take k) ++ z :: ((X.drop (k + 1) ++ Y ++ X.take k) ++ x :: (Z.drop (k + 1) ++ Q)) = swk P X Y Z Q (k + 1) := by
  unfold swk; rw [take_get hX, take_get hZ]; simp only [List.append_assoc, List.cons_append, List.nil_append]
set_option maxHeartbeats 4000000 in
set_option maxRecDepth 100000 in
theorem swapRange (w0 : World) (A : Option Addr) (n c : Nat) (hn : n ≤ 140737488351232) (cv : Value) (P X Y Z Q : List S43) (m : Nat) (hX : X.length = m) (hZ : Z.length = m) (W : World) (h : Rw w0 A n c W (P ++ X ++ Y ++ Z ++ Q))
    (a b mi : Int) (ha : a = P.length) (hb : b = P.length + m + Y.length) (hmi : mi = m) :
    Calls Try.prog 46 #[.slice A n c, .int .i64 a, .int .i64 b, .int .i64 mi, cv] W fun e w' => e = .returned (.tuple #[]) ∧ Rw w0 A n c w' (P ++ Z ++ Y ++ X ++ Q) := by
  have H := Aside0.mk (show Rw w0 A n c W (swk P X Y Z Q 0) by unfold swk; simpa using h); have HN := Aside0.mk hn; have HA := Aside0.mk ha; have HBB := Aside0.mk hb; have HL := Aside0.mk (And.intro hX hZ); have HMI := Aside0.mk hmi
  have HLN := Aside0.mk (show P.length + m + Y.length + m ≤ n by
    have := h.ln; simp at this
    omega)
  clear h hn ha hb hX hZ hmi
  go_enter Try.func46, Try.ntmps46
  go_wp2_with fail
  go_loopg [10] m (fun kq v10 W' => ∃ (i : Int) (k : Nat), v10 = .int .i64 i ∧ Aside0 (i = k) ∧ Aside0 (k + kq = m) ∧ Aside0 (Rw w0 A n c W' (swk P X Y Z Q k)))
  case atStart => exact ⟨0, 0, rfl, ⟨rfl⟩, ⟨by omega⟩, H⟩
  case round =>
  clear H; obtain ⟨i, k, rfl, HI, HK, H⟩ := hrel
  cases gk with
  | zero =>
    have hib : decide (i < mi) = false := decide_eq_false (by have := HMI.out; have := HI.out; have := HK.out; omega)
    go_wp2_with fail
    refine bodyPost_end (results_none rfl _ _ _) rfl ?_; refine ⟨rfl, ?_⟩
    have hk : k = m := by have := HK.out; omega
    have h := H.out; unfold swk at h; rw [List.take_of_length_le (by have := HL.out; omega), List.take_of_length_le (by have := HL.out; omega), List.drop_eq_nil_of_le (by have := HL.out; omega), List.drop_eq_nil_of_le (by have := HL.out; omega)] at h; simpa using h
  | succ k1 =>
    have hib : decide (i < mi) = true := decide_eq_true (by have := HMI.out; have := HI.out; have := HK.out; omega)
    have hkX : k < X.length := by have := HK.out; have := HL.out; omega
    have hkZ : k < Z.length := by have := HK.out; have := HL.out; omega
    have HKK := Aside0.mk (And.intro hkX hkZ); obtain ⟨g, rfl, hg⟩ := H.out.form (by have := HLN.out; have := HL.out; omega); obtain ⟨p, hp⟩ : ∃ p : Nat, p = P.length + k := ⟨_, rfl⟩; obtain ⟨q, hq⟩ : ∃ q : Nat, q = P.length + m + Y.length + k := ⟨_, rfl⟩; obtain ⟨x, hx⟩ : ∃ x, X[k]? = some x := ⟨_, List.getElem?_eq_getElem hkX⟩; obtain ⟨z, hz⟩ : ∃ z, Z[k]? = some z := ⟨_, List.getElem?_eq_getElem hkZ⟩; have HX := Aside0.mk (And.intro hx hz); have H2 := Aside0.mk (swk_open P X Y Z Q k x z hx hz ▸ H.out)
    have hpA : p = (P ++ Z.take k).length := by rw [List.length_append, List.length_take]; omega
    have hqA : q = (P ++ Z.take k).length + 1 + (X.drop (k + 1) ++ Y ++ X.take k).length := by
      simp only [List.length_append, List.length_take, List.length_drop]; have := HL.out; omega
    have HPQ := Aside0.mk (And.intro hpA hqA); obtain ⟨hqn, ⟨cp0, cp1, fp0, fp1⟩, ⟨cq0, cq1, _, _⟩, c2, _⟩ := H2.out.two p q hpA hqA; obtain ⟨dq0, dq1, fq0, fq1⟩ := c2 z; unfold put2 at dq0 dq1 fq0 fq1
    have hpn : p < n := by omega
    have w1 : IntKind.i64.wrap (a + i) = (p : Int) := by rw [IntWalk.i64_in _ (by have := HA.out; have := HI.out; have := HN.out; omega)]; have := HA.out; have := HI.out; omega
    have w2 : IntKind.i64.wrap (b + i) = (q : Int) := by rw [IntWalk.i64_in _ (by have := HBB.out; have := HI.out; have := HN.out; omega)]; have := HBB.out; have := HI.out; omega
    have hi1 : IntKind.i64.wrap (i + 1) = i + 1 := IntWalk.i64_in _ (by have := HI.out; have := HN.out; omega); have p0 : decide ((0 : Int) ≤ (p : Int)) = true := decide_eq_true (by omega); have q0 : decide ((0 : Int) ≤ (q : Int)) = true := decide_eq_true (by omega); have p1 := eq_true hpn; have q1 := eq_true hqn; clear hx hz hpn hqn hp hq hpA hqA hg hkX hkZ c2
    go_upto_region 3 with fail
    refine start_ (n := 24) (S := (fun w' => w'.cell? ⟨g, p * 2, none⟩ = some (.string x.f0) ∧ w'.cell? ⟨g, p * 2 + 1, none⟩ = some (.string x.f1) ∧ w'.cell? ⟨g, q * 2, none⟩ = some (.string z.f0) ∧ w'.cell? ⟨g, q * 2 + 1, none⟩ = some (.string z.f1))) (ds := [21, 23]) #[false, false, false, false, false, false, false, false, false, false, false, false, false, false, false, false, false, false, false, false, false, false, false, false] (by kernel_rfl) rfl rfl ?_ ?_; (exact ⟨cp0, cp1, cq0, cq1⟩); intro hHeld; refine pure_ (i := 0) (N := some 16) (v := ?_) (a' := ?_) #[true, false, false, false, false, false, false, false, false, false, false, false, false, false, false, false, false, false, false, false, false, false, false, false] rfl rfl (by kernel_rfl) (fun _ _ _ h => h) (Or.inl ⟨by rfl, ?_⟩) ?_ ?_; rotate_left; (intro w'; go_simp; (with_reducible rfl)); rotate_left; (simp only [Act.put, List.setIfInBounds_toArray, List.set_cons_zero, List.set_cons_succ, i64_w, i32_w]; rfl); refine pure_ (i := 1) (N := some 17) (v := ?_) (a' := ?_) #[true, true, false, false, false, false, false, false, false, false, false, false, false, false, false, false, false, false, false, false, false, false, false, false] rfl rfl (by kernel_rfl) (fun _ _ _ h => h) (Or.inl ⟨by rfl, ?_⟩) ?_ ?_; rotate_left; (intro w'; go_simp; (with_reducible rfl)); rotate_left; (simp only [Act.put, List.setIfInBounds_toArray, List.set_cons_zero, List.set_cons_succ, i64_w, i32_w]; rfl); refine pure_ (i := 2) (N := some 18) (v := ?_) (a' := ?_) #[true, true, true, false, false, false, false, false, false, false, false, false, false, false, false, false, false, false, false, false, false, false, false, false] rfl rfl (by kernel_rfl) (fun _ _ _ h => h) (Or.inl ⟨by rfl, ?_⟩) ?_ ?_; rotate_left; (intro w'; go_simp; (with_reducible rfl)); rotate_left; (simp only [Act.put, List.setIfInBounds_toArray, List.set_cons_zero, List.set_cons_succ, i64_w, i32_w]; rfl); refine pure_ (i := 3) (N := some 19) (v := ?_) (a' := ?_) #[true, true, true, true, false, false, false, false, false, false, false, false, false, false, false, false, false, false, false, false, false, false, false, false] rfl rfl (by kernel_rfl) (fun _ _ _ h => h) (Or.inl ⟨by rfl, ?_⟩) ?_ ?_; rotate_left; (intro w'; go_simp; (with_reducible rfl)); rotate_left; (simp only [Act.put, List.setIfInBounds_toArray, List.set_cons_zero, List.set_cons_succ, i64_w, i32_w]; rfl); refine pure_ (i := 4) (N := some 20) (v := ?_) (a' := ?_) #[true, true, true, true, true, false, false, false, false, false, false, false, false, false, false, false, false, false, false, false, false, false, false, false] rfl rfl (by kernel_rfl) (fun _ _ _ h => h) (Or.inl ⟨by rfl, ?_⟩) ?_ ?_; rotate_left; (intro w'; go_simp; (with_reducible rfl)); rotate_left; (simp only [Act.put, List.setIfInBounds_toArray, List.set_cons_zero, List.set_cons_succ, i64_w, i32_w]; rfl); refine pure_ (i := 5) (N := some 21) (v := ?_) (a' := ?_) #[true, true, true, true, true, true, false, false, false, false, false, false, false, false, false, false, false, false, false, false, false, false, false, false] rfl rfl (by kernel_rfl) (fun _ _ _ h => h) (Or.inl ⟨by rfl, ?_⟩) ?_ ?_; rotate_left; (intro w'; go_simp; (with_reducible rfl)); rotate_left; (simp only [Act.put, List.setIfInBounds_toArray, List.set_cons_zero, List.set_cons_succ, i64_w, i32_w]; rfl); refine pure_ (i := 6) (N := some 22) (v := ?_) (a' := ?_) #[true, true, true, true, true, true, true, false, false, false, false, false, false, false, false, false, false, false, false, false, false, false, false, false] rfl rfl (by kernel_rfl) (fun _ _ _ h => h) (Or.inl ⟨by rfl, ?_⟩) ?_ ?_; rotate_left; (intro w'; go_simp; (with_reducible rfl)); rotate_left; (simp only [Act.put, List.setIfInBounds_toArray, List.set_cons_zero, List.set_cons_succ, i64_w, i32_w]; rfl); refine pure_ (i := 7) (N := some 23) (v := ?_) (a' := ?_) #[true, true, true, true, true, true, true, true, false, false, false, false, false, false, false, false, false, false, false, false, false, false, false, false] rfl rfl (by kernel_rfl) (fun _ _ _ h => h) (Or.inl ⟨by rfl, ?_⟩) ?_ ?_; rotate_left; (intro w'; go_simp; (with_reducible rfl)); rotate_left; (simp only [Act.put, List.setIfInBounds_toArray, List.set_cons_zero, List.set_cons_succ, i64_w, i32_w]; rfl); refine pure_ (i := 8) (N := some 24) (v := ?_) (a' := ?_) #[true, true, true, true, true, true, true, true, true, false, false, false, false, false, false, false, false, false, false, false, false, false, false, false] rfl rfl (by kernel_rfl) (fun _ _ _ h => h) (Or.inl ⟨by rfl, ?_⟩) ?_ ?_; rotate_left; (intro w'; go_simp; (with_reducible rfl)); rotate_left; (simp only [Act.put, List.setIfInBounds_toArray, List.set_cons_zero, List.set_cons_succ, i64_w, i32_w]; rfl); refine pure_ (i := 9) (N := some 25) (v := ?_) (a' := ?_) #[true, true, true, true, true, true, true, true, true, true, false, false, false, false, false, false, false, false, false, false, false, false, false, false] rfl rfl (by kernel_rfl) (fun _ _ _ h => h) (Or.inl ⟨by rfl, ?_⟩) ?_ ?_; rotate_left; (intro w'; go_simp; (with_reducible rfl)); rotate_left; (simp only [Act.put, List.setIfInBounds_toArray, List.set_cons_zero, List.set_cons_succ, i64_w, i32_w]; rfl); refine pure_ (i := 10) (N := some 26) (v := ?_) (a' := ?_) #[true, true, true, true, true, true, true, true, true, true, true, false, false, false, false, false, false, false, false, false, false, false, false, false] rfl rfl (by kernel_rfl) (fun _ _ _ h => h) (Or.inl ⟨by rfl, ?_⟩) ?_ ?_; rotate_left; (intro w'; go_simp; (with_reducible rfl)); rotate_left; (simp only [Act.put, List.setIfInBounds_toArray, List.set_cons_zero, List.set_cons_succ, i64_w, i32_w]; rfl); refine pure_ (i := 11) (N := some 27) (v := ?_) (a' := ?_) #[true, true, true, true, true, true, true, true, true, true, true, true, false, false, false, false, false, false, false, false, false, false, false, false] rfl rfl (by kernel_rfl) (fun _ _ _ h => h) (Or.inl ⟨by rfl, ?_⟩) ?_ ?_; rotate_left; (intro w'; go_simp; (with_reducible rfl)); rotate_left; (simp only [Act.put, List.setIfInBounds_toArray, List.set_cons_zero, List.set_cons_succ, i64_w, i32_w]; rfl); refine pure_ (i := 12) (N := some 28) (v := ?_) (a' := ?_) #[true, true, true, true, true, true, true, true, true, true, true, true, true, false, false, false, false, false, false, false, false, false, false, false] rfl rfl (by kernel_rfl) (fun _ _ _ h => h) (Or.inl ⟨by rfl, ?_⟩) ?_ ?_; rotate_left; (intro w'; go_simp; (with_reducible rfl)); rotate_left; (simp only [Act.put, List.setIfInBounds_toArray, List.set_cons_zero, List.set_cons_succ, i64_w, i32_w]; rfl); refine pure_ (i := 14) (N := some 30) (v := ?_) (a' := ?_) #[true, true, true, true, true, true, true, true, true, true, true, true, true, false, true, false, false, false, false, false, false, false, false, false] rfl rfl (by kernel_rfl) (fun _ _ _ h => h) (Or.inl ⟨by rfl, ?_⟩) ?_ ?_; rotate_left; (intro w'; go_simp; (with_reducible rfl)); rotate_left; (simp only [Act.put, List.setIfInBounds_toArray, List.set_cons_zero, List.set_cons_succ, i64_w, i32_w]; rfl); refine pure_ (i := 15) (N := some 31) (v := ?_) (a' := ?_) #[true, true, true, true, true, true, true, true, true, true, true, true, true, false, true, true, false, false, false, false, false, false, false, false] rfl rfl (by kernel_rfl) (fun _ _ _ h => h) (Or.inl ⟨by rfl, ?_⟩) ?_ ?_; rotate_left; (intro w'; go_simp; (with_reducible rfl)); rotate_left; (simp only [Act.put, List.setIfInBounds_toArray, List.set_cons_zero, List.set_cons_succ, i64_w, i32_w]; rfl); refine pure_ (i := 16) (N := some 32) (v := ?_) (a' := ?_) #[true, true, true, true, true, true, true, true, true, true, true, true, true, false, true, true, true, false, false, false, false, false, false, false] rfl rfl (by kernel_rfl) (fun _ _ _ h => h) (Or.inl ⟨by rfl, ?_⟩) ?_ ?_; rotate_left; (intro w'; go_simp; (with_reducible rfl)); rotate_left; (simp only [Act.put, List.setIfInBounds_toArray, List.set_cons_zero, List.set_cons_succ, i64_w, i32_w]; rfl); refine pure_ (i := 17) (N := some 33) (v := ?_) (a' := ?_) #[true, true, true, true, true, true, true, true, true, true, true, true, true, false, true, true, true, true, false, false, false, false, false, false] rfl rfl (by kernel_rfl) (fun _ _ _ h => h) (Or.inl ⟨by rfl, ?_⟩) ?_ ?_; rotate_left; (intro w'; go_simp; (with_reducible rfl)); rotate_left; (simp only [Act.put, List.setIfInBounds_toArray, List.set_cons_zero, List.set_cons_succ, i64_w, i32_w]; rfl); refine pure_ (i := 18) (N := some 34) (v := ?_) (a' := ?_) #[true, true, true, true, true, true, true, true, true, true, true, true, true, false, true, true, true, true, true, false, false, false, false, false] rfl rfl (by kernel_rfl) (fun _ _ _ h => h) (Or.inl ⟨by rfl, ?_⟩) ?_ ?_; rotate_left; (intro w'; go_simp; (with_reducible rfl)); rotate_left; (simp only [Act.put, List.setIfInBounds_toArray, List.set_cons_zero, List.set_cons_succ, i64_w, i32_w]; rfl); refine take_ (i := 13) (N := some 29) (v := ?_) (a' := ?_) #[true, true, true, true, true, true, true, true, true, true, true, true, true, true, true, true, true, true, true, false, false, false, false, false] rfl rfl (by kernel_rfl) (fun _ _ _ h => h) (Or.inl ⟨by rfl, ?_⟩) hHeld ?_ ?_; rotate_left; (rintro w' ⟨s0, s1, s2, s3⟩; go_simp; (with_reducible rfl)); rotate_left; (simp only [Act.put, List.setIfInBounds_toArray, List.set_cons_zero, List.set_cons_succ, i64_w, i32_w]; rfl); refine take_ (i := 19) (N := some 35) (v := ?_) (a' := ?_) #[true, true, true, true, true, true, true, true, true, true, true, true, true, true, true, true, true, true, true, true, false, false, false, false] rfl rfl (by kernel_rfl) (fun _ _ _ h => h) (Or.inl ⟨by rfl, ?_⟩) hHeld ?_ ?_; rotate_left; (rintro w' ⟨s0, s1, s2, s3⟩; go_simp; (with_reducible rfl)); rotate_left; (simp only [Act.put, List.setIfInBounds_toArray, List.set_cons_zero, List.set_cons_succ, i64_w, i32_w]; rfl); refine pure_ (i := 20) (N := some 36) (v := ?_) (a' := ?_) #[true, true, true, true, true, true, true, true, true, true, true, true, true, true, true, true, true, true, true, true, true, false, false, false] rfl rfl (by kernel_rfl) (fun _ _ _ h => h) (Or.inl ⟨by rfl, ?_⟩) ?_ ?_; rotate_left; (intro w'; go_simp; (with_reducible rfl)); rotate_left; (simp only [Act.put, List.setIfInBounds_toArray, List.set_cons_zero, List.set_cons_succ, i64_w, i32_w]; rfl); refine last_ (i := 21) (N := none) #[true, true, true, true, true, true, true, true, true, true, true, true, true, true, true, true, true, true, true, true, true, true, false, false] rfl rfl (by kernel_rfl) (by decide) (fun K hK => ?_); refine skip_ (w1 := put2 wr.drew g p z) (by rfl) rfl ?_ ?_
    · unfold put2; first | (go_simp; done) | (go_simp; rfl)
    refine hK.out _ _ ?_; clear hK K; refine pure_ (i := 22) (N := some 37) (v := ?_) (a' := ?_) #[true, true, true, true, true, true, true, true, true, true, true, true, true, true, true, true, true, true, true, true, true, true, true, false] rfl rfl (by kernel_rfl) (fun _ _ _ h => h) (Or.inl ⟨by rfl, ?_⟩) ?_ ?_; rotate_left; (intro w'; go_simp; (with_reducible rfl)); rotate_left; (simp only [Act.put, List.setIfInBounds_toArray, List.set_cons_zero, List.set_cons_succ, i64_w, i32_w]; rfl); refine last_ (i := 23) (N := none) #[true, true, true, true, true, true, true, true, true, true, true, true, true, true, true, true, true, true, true, true, true, true, true, true] rfl rfl (by kernel_rfl) (by decide) (fun K hK => ?_); refine skip_ (w1 := put2 (put2 wr.drew g p z) g q x) (by rfl) rfl ?_ ?_
    · unfold put2; first | (go_simp; done) | (go_simp; rfl)
    refine hK.out _ _ ?_; clear hK K; refine done_ (by kernel_rfl) ?_; clear cp0 cp1 cq0 cq1 fp0 fp1 fq0 fq1 dq0 dq1
    have H3 := Aside0.mk (show Rw w0 (some ⟨g, 0, none⟩) n c (put2 (put2 wr.drew g p z) g q x) (swk P X Y Z Q (k + 1)) by
      have := H2.out.drew.swap p q HPQ.out.1 HPQ.out.2; rw [swk_shut P X Y Z Q k x z HX.out.1 HX.out.2] at this
      exact this)
    obtain ⟨W3, hW3⟩ : ∃ W3, put2 (put2 wr.drew g p z) g q x = W3 := ⟨_, rfl⟩; rw [hW3] at H3 ⊢; clear hW3
    go_wp2_with fail
    go_roundg k1
    case measure => omega
    case rel => exact ⟨i + 1, k + 1, rfl, ⟨by have := HI.out; omega⟩, ⟨by have := HK.out; omega⟩, H3⟩
theorem split_at {α : Type} (l : List α) (k : Nat) (h : k ≤ l.length) : ∃ u v, l = u ++ v ∧ u.length = k :=
  ⟨l.take k, l.drop k, (List.take_append_drop k l).symm, by rw [List.length_take]; omega⟩
set_option maxHeartbeats 4000000 in
set_option maxRecDepth 100000 in
theorem rotate (w0 : World) (A : Option Addr) (n c : Nat) (hn : n ≤ 140737488351232) (cv : Value) (P X Y Q : List S43) (hX : X ≠ []) (hY : Y ≠ []) (W : World) (h : Rw w0 A n c W (P ++ X ++ Y ++ Q))
    (a m b : Int) (ha : a = P.length) (hm : m = P.length + X.length) (hb : b = P.length + X.length + Y.length) :
    Calls Try.prog 45 #[.slice A n c, .int .i64 a, .int .i64 m, .int .i64 b, cv] W fun e w' => e = .returned (.tuple #[]) ∧ Rw w0 A n c w' (P ++ Y ++ X ++ Q) := by
  have H := Aside0.mk h; have HN := Aside0.mk hn; have HM := Aside0.mk (show m ≤ n ∧ 0 ≤ m by have := h.ln; simp at this; omega); have HX := Aside0.mk (And.intro hX hY); have HMX := Aside0.mk hm
  have e1 : IntKind.i64.wrap (m - a) = (X.length : Int) := by rw [IntWalk.i64_in _ (by have := HM.out; omega)]; omega
  have e2 : IntKind.i64.wrap (b - m) = (Y.length : Int) := by rw [IntWalk.i64_in _ (by have := h.ln; simp at this; omega)]; omega
  clear h hn ha hm hb hX hY; obtain ⟨xi, hxi⟩ : ∃ xi : Int, (X.length : Int) = xi := ⟨_, rfl⟩; obtain ⟨yi, hyi⟩ : ∃ yi : Int, (Y.length : Int) = yi := ⟨_, rfl⟩; rw [hxi] at e1; rw [hyi] at e2; have HXI := Aside0.mk (And.intro hxi hyi); clear hxi hyi
  go_enter Try.func45, Try.ntmps45
  go_wp2_with fail
  go_loopg [10, 11] (X.length + Y.length) (fun kq v10 v11 W' => ∃ (i j : Int) (P1 X1 Y1 Q1 : List S43), v10 = .int .i64 i ∧ v11 = .int .i64 j ∧ Aside0 (i = X1.length ∧ j = Y1.length ∧ m = P1.length + X1.length ∧ X1 ≠ [] ∧ Y1 ≠ [] ∧ X1.length + Y1.length ≤ kq ∧ P1 ++ Y1 ++ X1 ++ Q1 = P ++ Y ++ X ++ Q) ∧ Aside0 (Rw w0 A n c W' (P1 ++ X1 ++ Y1 ++ Q1)))
  case atStart => exact ⟨xi, yi, P, X, Y, Q, rfl, rfl, ⟨HXI.out.1.symm, HXI.out.2.symm, HMX.out, HX.out.1, HX.out.2, Nat.le_refl _, rfl⟩, H⟩
  case round =>
  clear H HXI HX HMX e1 e2; obtain ⟨i, j, P1, X1, Y1, Q1, rfl, rfl, HI, H⟩ := hrel; have HLN := Aside0.mk (show P1.length + X1.length + Y1.length ≤ n by have := H.out.ln; simp at this; omega); have HPOS := Aside0.mk (show 0 < X1.length ∧ 0 < Y1.length from ⟨List.length_pos_iff.2 HI.out.2.2.2.1, List.length_pos_iff.2 HI.out.2.2.2.2.1⟩); have w1 : IntKind.i64.wrap (m - i) = m - i := IntWalk.i64_in _ (by have := HI.out; have := HN.out; have := HLN.out; omega)
  by_cases hij : i = j
  · have hb1 : (i == j) = true := by simp [hij]
    have hb2 : (i != j) = false := by simp [hij]
    have HIJ := Aside0.mk hij
    clear hij
    go_wp2_with (go_at_call 46; refine (swapRange w0 A n c HN.out cv P1 X1 [] Y1 Q1 X1.length rfl (by have := HI.out; have := HIJ.out; omega) wr (by rw [List.append_nil]; exact H.out) (m - i) m i (by have := HI.out; omega) (by have := HI.out; simp; omega) (by have := HI.out; omega)).mono ?_; rintro e w3 ⟨rfl, hR⟩; have H3 := Aside0.mk hR; clear hR)
    refine bodyPost_end (results_none rfl _ _ _) rfl ?_
    refine ⟨rfl, ?_⟩
    have := H3.out
    rw [List.append_nil, HI.out.2.2.2.2.2.2] at this
    exact this
  · have hb1 : (i == j) = false := by simp [hij]
    have hb2 : (i != j) = true := by simp [hij]
    have HIJ := Aside0.mk hij
    cases gk with
    | zero => exact absurd HI.out.2.2.2.2.2.1 (by have := HPOS.out; omega)
    | succ k1 =>
    by_cases hgt : i > j
    · have g1 : decide (i > j) = true := decide_eq_true hgt
      have g2 : decide (j < i) = true := decide_eq_true hgt
      obtain ⟨U, V, hUV, hU⟩ := split_at X1 Y1.length (by have := HI.out; omega)
      have hl := congrArg List.length hUV
      rw [List.length_append] at hl
      have HUV := Aside0.mk (And.intro hUV (And.intro hU hl))
      have H2 := Aside0.mk (show Rw w0 A n c wr (P1 ++ U ++ V ++ Y1 ++ Q1) by have := H.out; rw [hUV] at this; simpa using this)
      have HG := Aside0.mk hgt
      have w2 : IntKind.i64.wrap (i - j) = i - j := IntWalk.i64_in _ (by have := HI.out; have := HN.out; have := HLN.out; omega)
      clear hij hgt hUV hU hl H
      go_wp2_with (go_at_call 46; refine (swapRange w0 A n c HN.out cv P1 U V Y1 Q1 Y1.length HUV.out.2.1 rfl wr H2.out (m - i) m j (by have := HI.out; omega) (by have := HI.out; have := HUV.out; omega) (by have := HI.out; omega)).mono ?_; rintro e w3 ⟨rfl, hR⟩; have H3 := Aside0.mk hR; clear hR)
      go_roundg k1
      case measure => omega
      case rel =>
        refine ⟨i - j, j, P1 ++ Y1, V, U, Q1, rfl, rfl, ⟨?_, ?_, ?_, ?_, ?_, ?_, ?_⟩, H3⟩; (have := HI.out; have := HUV.out; omega); (have := HI.out; have := HUV.out; omega); (have := HI.out; have := HUV.out; rw [List.length_append]; omega); (intro e; have := HI.out; have h1 := HUV.out.2; rw [e] at h1; have := HG.out; simp at h1; omega); (intro e; have := HPOS.out; have h1 := HUV.out.2; rw [e] at h1; simp at h1; omega); (have := HI.out; have := HUV.out; have := HPOS.out; omega); (have h1 := HI.out.2.2.2.2.2.2; rw [HUV.out.1] at h1; rw [← h1]; simp)
    · have g1 : decide (i > j) = false := decide_eq_false hgt
      have g2 : decide (j < i) = false := decide_eq_false hgt
      obtain ⟨U, V, hUV, hU⟩ := split_at Y1 (Y1.length - X1.length) (by omega)
      have hl := congrArg List.length hUV
      rw [List.length_append] at hl
      have HUV := Aside0.mk (And.intro hUV (And.intro hU hl))
      have H2 := Aside0.mk (show Rw w0 A n c wr (P1 ++ X1 ++ U ++ V ++ Q1) by have := H.out; rw [hUV] at this; simpa using this)
      have HG := Aside0.mk hgt
      have w2 : IntKind.i64.wrap (m + j) = m + j := IntWalk.i64_in _ (by have := HI.out; have := HN.out; have := HLN.out; omega)
      have w3 : IntKind.i64.wrap (m + j - i) = m + j - i := IntWalk.i64_in _ (by have := HI.out; have := HN.out; have := HLN.out; omega)
      have w4 : IntKind.i64.wrap (j - i) = j - i := IntWalk.i64_in _ (by have := HI.out; have := HN.out; have := HLN.out; omega)
      clear hij hgt hUV hU hl H
      go_wp2_with (go_at_call 46; refine (swapRange w0 A n c HN.out cv P1 X1 U V Q1 X1.length rfl (by have := HI.out; have := HUV.out; have := HG.out; omega) wr H2.out (m - i) (m + j - i) i (by have := HI.out; omega) (by have := HI.out; have := HUV.out; have := HG.out; omega) (by have := HI.out; omega)).mono ?_; rintro e w3 ⟨rfl, hR⟩; have H3 := Aside0.mk hR; clear hR)
      go_roundg k1
      case measure => omega
      case rel =>
        refine ⟨i, j - i, P1, V, U, X1 ++ Q1, rfl, rfl, ⟨?_, ?_, ?_, ?_, ?_, ?_, ?_⟩, ⟨by have := H3.out; simpa using this⟩⟩; (have := HI.out; have := HUV.out; have := HG.out; omega); (have := HI.out; have := HUV.out; have := HG.out; omega); (have := HI.out; have := HUV.out; have := HG.out; omega); (intro e; have := HPOS.out; have := HI.out; have h1 := HUV.out.2; rw [e] at h1; have := HG.out; simp at h1; omega); (intro e; have := HPOS.out; have := HI.out; have h1 := HUV.out.2; rw [e] at h1; have := HG.out; have := HIJ.out; simp at h1; omega); (have := HI.out; have := HUV.out; have := HPOS.out; have := HG.out; omega); (have h1 := HI.out.2.2.2.2.2.2; rw [HUV.out.1] at h1; rw [← h1]; simp)
/-- A call of a function value, in a region that draws. -/
theorem goesV_ {P : Program} {ops : Array Oper} {Q : Exit → Act → World → Prop} {oi : Oper} {N : Option Tmp} {a : Act} {w : World} {K : Act → World → Prop} {f : FuncId} {fn : Func} {ags : Array Operand} {ts : Array TypeId} {t : Operand} (bound : Array Value) (hf : P.funcs[f]? = some fn) (hname : (fn.name == "runtime.NumGoroutine") = false) (hb : fn.body.isSome = true) (args : Array Value)
    (hw : Region.wanted oi (yielded ops a.tmps) = true) (hN : oi.dst = N) (hop : oi.op = .call { callee := .value t, args := ags, argTypes := ts }) (hcv : a.eval t = .func (.func f) #[] bound) (hargs : ags.map a.eval ++ bound = args)
    (h : Calls P f args w fun e w' => ∃ v, e = .returned v ∧ K (a.put N v) w') : if Region.wanted oi (yielded ops a.tmps) = true then Oper.wp P oi a w K Q else K (a.put N undef) w := by
  refine call_ f args hw hN ?_ h; have he := enters_ hf hname hb args w; unfold execOp; simp [hop, resolve, Deferred.ofValue, invoke, hcv, hargs, he]
def lt (cm : S43 → S43 → Int) (x y : S43) : Bool := decide (cm x y < 0)
/-- What the sort's function value says. -/
structure Cm (w0 : World) (gn : Nat) (ok : S43 → Prop) (cm : S43 → S43 → Int) : Prop where
  swo : Swo (lt cm)
  call : ∀ (W : World) (x y : S43), Below w0.heap.size w0 W → ok x → ok y → Calls Try.prog 33 #[.agg #[.string x.f0, .string x.f1], .agg #[.string y.f0, .string y.f1]] W fun e w' => e = .returned (.int .i64 (cm x y)) ∧ Below W.heap.size W w'
set_option maxHeartbeats 4000000 in
set_option maxRecDepth 100000 in
theorem insertion (w0 : World) (A : Option Addr) (n c : Nat) (hn : n ≤ 140737488351232) (gn : Nat) (ok : S43 → Prop) (cm : S43 → S43 → Int) (hc : Cm w0 gn ok cm) (P X Q : List S43) (hok : ∀ x ∈ X, ok x) (W : World) (h : Rw w0 A n c W (P ++ X ++ Q))
    (a b : Int) (ha : a = P.length) (hb : b = P.length + X.length) :
    Calls Try.prog 42 #[.slice A n c, .int .i64 a, .int .i64 b, .func (.func 33) #[] #[]] W fun e w' => e = .returned (.tuple #[]) ∧ ∃ M, Srt (lt cm) M ∧ Stb (lt cm) X M ∧ Rw w0 A n c w' (P ++ M ++ Q) := by
  have HN := Aside0.mk hn; have HC := Aside0.mk hc; have HOK := Aside0.mk hok; have HA := Aside0.mk (And.intro ha hb); have HLN := Aside0.mk (show P.length + X.length ≤ n by have := h.ln; (try simp at this); omega); have hwa : IntKind.i64.wrap (a + 1) = a + 1 := IntWalk.i64_in _ (by have := HLN.out; omega)
  cases X with
  | nil =>
    have H := Aside0.mk h; have hab : decide (a + 1 < b) = false := decide_eq_false (by simp at hb; omega); clear h hn hc hok ha hb
    go_enter Try.func42, Try.ntmps42
    go_wp2_with fail
    go_loopg [8] 1 (fun kq v8 W' => v8 = .int .i64 (a + 1) ∧ W' = W)
    case atStart => exact ⟨rfl, rfl⟩
    case round =>
    obtain ⟨rfl, rfl⟩ := hrel
    go_wp2_with fail
    refine bodyPost_end (results_none rfl _ _ _) rfl ?_; exact ⟨rfl, [], List.Pairwise.nil, Stb.refl _ _, H.out⟩
  | cons x0 X0 =>
  have H := Aside0.mk (show Rw w0 A n c W (P ++ [x0] ++ (X0 ++ Q)) by simpa using h); clear h hn hc hok ha hb; obtain ⟨X, hXX⟩ : ∃ X, x0 :: X0 = X := ⟨_, rfl⟩; rw [hXX] at HOK HA HLN; simp only [hXX]; have HX := Aside0.mk hXX; clear hXX
  go_enter Try.func42, Try.ntmps42
  go_wp2_with fail
  go_loopg [8] X0.length (fun kq v8 W' => ∃ (i : Int) (M X1 X2 : List S43), v8 = .int .i64 i ∧ Aside0 (X = X1 ++ X2 ∧ Srt (lt cm) M ∧ Stb (lt cm) X1 M ∧ i = P.length + X1.length ∧ kq = X2.length) ∧ Aside0 (Rw w0 A n c W' (P ++ M ++ (X2 ++ Q))))
  case atStart => exact ⟨a + 1, [x0], [x0], X0, rfl, ⟨HX.out.symm, List.pairwise_singleton _ _, Stb.refl _ _, by have := HA.out; simp; omega, rfl⟩, H⟩
  case round =>
  clear H hwa HX; obtain ⟨i, M, X1, X2, rfl, HI, H⟩ := hrel; have HXL := Aside0.mk (show X.length = X1.length + X2.length by rw [HI.out.1, List.length_append])
  cases X2 with
  | nil =>
    have hib : decide (i < b) = false := decide_eq_false (by have hi := HI.out.2.2.2.1; have := HA.out; have hx := HXL.out; simp at hx; omega)
    go_wp2_with fail
    refine bodyPost_end (results_none rfl _ _ _) rfl ?_; have h1 := HI.out; rw [List.append_nil] at h1; refine ⟨rfl, M, h1.2.1, ?_, by simpa using H.out⟩; rw [h1.1]; exact h1.2.2.1
  | cons x X3 =>
  have HX3 := Aside0.mk (show X.length = X1.length + X3.length + 1 by have := HXL.out; simp at this; omega)
  cases gk with
  | zero => exact absurd HI.out.2.2.2.2 (by simp)
  | succ k1 =>
  have hib : decide (i < b) = true := decide_eq_true (by have := HI.out; have := HA.out; have := HX3.out; omega); have HML := Aside0.mk HI.out.2.2.1.len; have HIL := Aside0.mk (show 0 ≤ i ∧ i < n by have := HI.out; have := HA.out; have := HX3.out; have := HLN.out; omega); have hi1 : IntKind.i64.wrap (i + 1) = i + 1 := IntWalk.i64_in _ (by have := HIL.out; have := HN.out; omega); have hokx : ok x := HOK.out x (by rw [HI.out.1]; simp); have HOX := Aside0.mk hokx; have HOM := Aside0.mk (show ∀ y ∈ M, ok y from fun y hy => HOK.out y (by rw [HI.out.1, List.mem_append]; exact .inl ((HI.out.2.2.1.mem HC.out.swo y).1 hy))); clear hokx
  go_wp2_with fail
  go_loopg [9] M.length (fun kq v9 W' => ∃ (j : Int) (Am B : List S43), v9 = .int .i64 j ∧ Aside0 (M = Am ++ B ∧ (∀ b ∈ B, lt cm x b = true) ∧ j = P.length + Am.length ∧ kq = Am.length) ∧ Aside0 (Rw w0 A n c W' (P ++ Am ++ x :: (B ++ (X3 ++ Q)))))
  case atStart => exact ⟨i, M, [], rfl, ⟨by simp, (fun (b : S43) (hb : b ∈ ([] : List S43)) => by cases hb), by have := HI.out; have := HML.out; omega, rfl⟩, ⟨by have := H.out; simpa using this⟩⟩
  case round =>
  clear H; obtain ⟨j, Am, B, rfl, HJ, H⟩ := hrel; have HMB := Aside0.mk (show M.length = Am.length + B.length by rw [HJ.out.1, List.length_append])
  rcases List.eq_nil_or_concat Am with e | ⟨A', y, e⟩
  · subst e
    have hja : decide (j > a) = false := decide_eq_false (by have hj := HJ.out.2.2.1; have := HA.out; simp at hj; omega)
    have hja2 : decide (a < j) = false := hja
    go_upto_region 4 with fail
    refine start_ (n := 17) (S := (fun w' => True)) (ds := []) #[false, false, false, false, false, false, false, false, false, false, false, false, false, false, false, false, false] (by kernel_rfl) rfl rfl ?_ ?_
    · trivial
    intro hHeld
    refine pure_ (i := 0) (N := some 18) (v := ?_) (a' := ?_) #[true, false, false, false, false, false, false, false, false, false, false, false, false, false, false, false, false] rfl rfl (by kernel_rfl) (fun _ _ _ h => h) (Or.inl ⟨by rfl, ?_⟩) ?_ ?_
    rotate_left
    · intro w'
      go_simp
      with_reducible rfl
    rotate_left
    · simp only [Act.put, List.setIfInBounds_toArray, List.set_cons_zero, List.set_cons_succ, i64_w, i32_w]
      rfl
    refine pure_ (i := 1) (N := some 19) (v := ?_) (a' := ?_) #[true, true, false, false, false, false, false, false, false, false, false, false, false, false, false, false, false] rfl rfl (by kernel_rfl) (fun _ _ _ h => h) (Or.inl ⟨by rfl, ?_⟩) ?_ ?_
    rotate_left
    · intro w'
      go_simp
      with_reducible rfl
    rotate_left
    · simp only [Act.put, List.setIfInBounds_toArray, List.set_cons_zero, List.set_cons_succ, i64_w, i32_w]
      rfl
    refine pure_ (i := 2) (N := some 20) (v := ?_) (a' := ?_) #[true, true, true, false, false, false, false, false, false, false, false, false, false, false, false, false, false] rfl rfl (by kernel_rfl) (fun _ _ _ h => h) (Or.inl ⟨by rfl, ?_⟩) ?_ ?_
    rotate_left
    · intro w'
      go_simp
      with_reducible rfl
    rotate_left
    · simp only [Act.put, List.setIfInBounds_toArray, List.set_cons_zero, List.set_cons_succ, i64_w, i32_w]
      rfl
    refine pure_ (i := 3) (N := some 21) (v := ?_) (a' := ?_) #[true, true, true, true, false, false, false, false, false, false, false, false, false, false, false, false, false] rfl rfl (by kernel_rfl) (fun _ _ _ h => h) (Or.inl ⟨by rfl, ?_⟩) ?_ ?_
    rotate_left
    · intro w'
      go_simp
      with_reducible rfl
    rotate_left
    · simp only [Act.put, List.setIfInBounds_toArray, List.set_cons_zero, List.set_cons_succ, i64_w, i32_w]
      rfl
    refine pure_ (i := 4) (N := some 22) (v := undef) (a' := ?_) #[true, true, true, true, true, false, false, false, false, false, false, false, false, false, false, false, false] rfl rfl (by kernel_rfl) (fun _ _ _ h => h) (Or.inr ⟨by rfl, rfl⟩) ?_ ?_
    rotate_left
    · simp only [Act.put, List.setIfInBounds_toArray, List.set_cons_zero, List.set_cons_succ, i64_w, i32_w]
      rfl
    refine pure_ (i := 5) (N := some 23) (v := undef) (a' := ?_) #[true, true, true, true, true, true, false, false, false, false, false, false, false, false, false, false, false] rfl rfl (by kernel_rfl) (fun _ _ _ h => h) (Or.inr ⟨by rfl, rfl⟩) ?_ ?_
    rotate_left
    · simp only [Act.put, List.setIfInBounds_toArray, List.set_cons_zero, List.set_cons_succ, i64_w, i32_w]
      rfl
    refine pure_ (i := 6) (N := some 24) (v := undef) (a' := ?_) #[true, true, true, true, true, true, true, false, false, false, false, false, false, false, false, false, false] rfl rfl (by kernel_rfl) (fun _ _ _ h => h) (Or.inr ⟨by rfl, rfl⟩) ?_ ?_
    rotate_left
    · simp only [Act.put, List.setIfInBounds_toArray, List.set_cons_zero, List.set_cons_succ, i64_w, i32_w]
      rfl
    refine pure_ (i := 7) (N := some 25) (v := undef) (a' := ?_) #[true, true, true, true, true, true, true, true, false, false, false, false, false, false, false, false, false] rfl rfl (by kernel_rfl) (fun _ _ _ h => h) (Or.inr ⟨by rfl, rfl⟩) ?_ ?_
    rotate_left
    · simp only [Act.put, List.setIfInBounds_toArray, List.set_cons_zero, List.set_cons_succ, i64_w, i32_w]
      rfl
    refine pure_ (i := 9) (N := some 27) (v := undef) (a' := ?_) #[true, true, true, true, true, true, true, true, false, true, false, false, false, false, false, false, false] rfl rfl (by kernel_rfl) (fun _ _ _ h => h) (Or.inr ⟨by rfl, rfl⟩) ?_ ?_
    rotate_left
    · simp only [Act.put, List.setIfInBounds_toArray, List.set_cons_zero, List.set_cons_succ, i64_w, i32_w]
      rfl
    refine pure_ (i := 10) (N := some 28) (v := undef) (a' := ?_) #[true, true, true, true, true, true, true, true, false, true, true, false, false, false, false, false, false] rfl rfl (by kernel_rfl) (fun _ _ _ h => h) (Or.inr ⟨by rfl, rfl⟩) ?_ ?_
    rotate_left
    · simp only [Act.put, List.setIfInBounds_toArray, List.set_cons_zero, List.set_cons_succ, i64_w, i32_w]
      rfl
    refine pure_ (i := 11) (N := some 29) (v := undef) (a' := ?_) #[true, true, true, true, true, true, true, true, false, true, true, true, false, false, false, false, false] rfl rfl (by kernel_rfl) (fun _ _ _ h => h) (Or.inr ⟨by rfl, rfl⟩) ?_ ?_
    rotate_left
    · simp only [Act.put, List.setIfInBounds_toArray, List.set_cons_zero, List.set_cons_succ, i64_w, i32_w]
      rfl
    refine pure_ (i := 12) (N := some 30) (v := undef) (a' := ?_) #[true, true, true, true, true, true, true, true, false, true, true, true, true, false, false, false, false] rfl rfl (by kernel_rfl) (fun _ _ _ h => h) (Or.inr ⟨by rfl, rfl⟩) ?_ ?_
    rotate_left
    · simp only [Act.put, List.setIfInBounds_toArray, List.set_cons_zero, List.set_cons_succ, i64_w, i32_w]
      rfl
    refine pure_ (i := 8) (N := some 26) (v := undef) (a' := ?_) #[true, true, true, true, true, true, true, true, true, true, true, true, true, false, false, false, false] rfl rfl (by kernel_rfl) (fun _ _ _ h => h) (Or.inr ⟨by rfl, rfl⟩) ?_ ?_
    rotate_left
    · simp only [Act.put, List.setIfInBounds_toArray, List.set_cons_zero, List.set_cons_succ, i64_w, i32_w]
      rfl
    refine pure_ (i := 13) (N := some 31) (v := undef) (a' := ?_) #[true, true, true, true, true, true, true, true, true, true, true, true, true, true, false, false, false] rfl rfl (by kernel_rfl) (fun _ _ _ h => h) (Or.inr ⟨by rfl, rfl⟩) ?_ ?_
    rotate_left
    · simp only [Act.put, List.setIfInBounds_toArray, List.set_cons_zero, List.set_cons_succ, i64_w, i32_w]
      rfl
    refine pure_ (i := 14) (N := some 32) (v := undef) (a' := ?_) #[true, true, true, true, true, true, true, true, true, true, true, true, true, true, true, false, false] rfl rfl (by kernel_rfl) (fun _ _ _ h => h) (Or.inr ⟨by rfl, rfl⟩) ?_ ?_
    rotate_left
    · simp only [Act.put, List.setIfInBounds_toArray, List.set_cons_zero, List.set_cons_succ, i64_w, i32_w]
      rfl
    refine pure_ (i := 15) (N := some 33) (v := undef) (a' := ?_) #[true, true, true, true, true, true, true, true, true, true, true, true, true, true, true, true, false] rfl rfl (by kernel_rfl) (fun _ _ _ h => h) (Or.inr ⟨by rfl, rfl⟩) ?_ ?_
    rotate_left
    · simp only [Act.put, List.setIfInBounds_toArray, List.set_cons_zero, List.set_cons_succ, i64_w, i32_w]
      rfl
    refine pure_ (i := 16) (N := some 34) (v := ?_) (a' := ?_) #[true, true, true, true, true, true, true, true, true, true, true, true, true, true, true, true, true] rfl rfl (by kernel_rfl) (fun _ _ _ h => h) (Or.inl ⟨by rfl, ?_⟩) ?_ ?_
    rotate_left
    · intro w'
      go_simp
      with_reducible rfl
    rotate_left
    · simp only [Act.put, List.setIfInBounds_toArray, List.set_cons_zero, List.set_cons_succ, i64_w, i32_w]
      rfl
    refine done_ (by kernel_rfl) ?_
    obtain ⟨W3, hW3⟩ : ∃ W3, wr.drew = W3 := ⟨_, rfl⟩
    have H3 := Aside0.mk (hW3 ▸ H.out.drew)
    rw [hW3]
    clear hW3
    go_wp2_with fail
    have HF := Aside0.mk (inserted (w := HC.out.swo) (A := []) (B := B) (x := x) (by have := HI.out.2.1; rw [HJ.out.1] at this; exact this) HJ.out.2.1 (fun a ha => by cases ha))
    go_roundg k1
    case measure => omega
    case rel =>
      refine ⟨i + 1, [] ++ x :: B, X1 ++ [x], X3, rfl, ⟨?_, HF.out.1, ?_, ?_, ?_⟩, ⟨by have := H3.out; simpa using this⟩⟩; (rw [HI.out.1]; simp); (have h1 := HI.out.2.2.1; rw [HJ.out.1] at h1; exact (h1.app (Stb.refl (lt cm) [x])).trans HF.out.2); (have := HI.out; simp; omega); (have := HI.out; simp at this; omega)
  · subst e
    have hja : decide (j > a) = true := decide_eq_true (by have hj := HJ.out.2.2.1; have := HA.out; simp at hj; omega)
    have hja2 : decide (a < j) = true := hja
    obtain ⟨q, hq⟩ : ∃ q : Nat, q = P.length + A'.length := ⟨_, rfl⟩
    have HQ := Aside0.mk hq
    have hj : j = (q : Int) + 1 := by have := HJ.out; simp at this; omega
    have HJQ := Aside0.mk hj
    have H2 := Aside0.mk (show Rw w0 A n c wr ((P ++ A') ++ y :: ([] ++ x :: (B ++ (X3 ++ Q)))) by have := H.out; simpa using this)
    obtain ⟨g, rfl, hg⟩ := H2.out.form (by have := HIL.out; omega)
    obtain ⟨hpn, ⟨cq0, cq1, _, _⟩, ⟨cp0, cp1, _, _⟩, c2, c3⟩ := H2.out.two q (q + 1) (by simp; omega) (by simp; omega)
    have w1 : wrap64 (q : Int) = (q : Int) := by unfold wrap64; have := HN.out; omega
    have HPN := Aside0.mk hpn
    have hpn1 := eq_true hpn
    have hqn1 := eq_true (show q < n by omega)
    have e1 : ((q : Int) + 1).toNat = q + 1 := by omega
    have e0 : (0 ≤ (q : Int) + 1) = True := eq_true (by omega)
    have e2 : ((q : Int) + 1 < (n : Int)) = True := eq_true (by omega)
    subst hj
    have HOY := Aside0.mk (show ok y from HOM.out y (by rw [HJ.out.1]; simp))
    obtain ⟨r, hr⟩ : ∃ r, cm x y = r := ⟨_, rfl⟩
    have HR := Aside0.mk hr
    clear hq hg hpn hr c2 c3
    by_cases hr0 : r < 0
    · have hrb : decide (r < 0) = true := decide_eq_true hr0
      have HLT := Aside0.mk (show lt cm x y = true by unfold lt; rw [HR.out]; exact decide_eq_true hr0)
      clear hr0
      go_upto_region 4 with fail
      refine start_ (n := 17) (S := (fun w' => w'.cell? ⟨g, q * 2, none⟩ = some (.string y.f0) ∧ w'.cell? ⟨g, q * 2 + 1, none⟩ = some (.string y.f1) ∧ w'.cell? ⟨g, (q + 1) * 2, none⟩ = some (.string x.f0) ∧ w'.cell? ⟨g, (q + 1) * 2 + 1, none⟩ = some (.string x.f1))) (ds := []) #[false, false, false, false, false, false, false, false, false, false, false, false, false, false, false, false, false] (by kernel_rfl) rfl rfl ?_ ?_
      · exact ⟨cq0, cq1, cp0, cp1⟩
      intro hHeld
      clear cq0 cq1 cp0 cp1; have H2 := Aside0.mk H2.out.drew; generalize wr.drew = w3 at H2 hHeld ⊢; have hH := hHeld; obtain ⟨cq0, cq1, cp0, cp1⟩ := hH
      refine pure_ (i := 0) (N := some 18) (v := ?_) (a' := ?_) #[true, false, false, false, false, false, false, false, false, false, false, false, false, false, false, false, false] rfl rfl (by kernel_rfl) (fun _ _ _ h => h) (Or.inl ⟨by rfl, ?_⟩) ?_ ?_
      rotate_left
      · intro w'
        go_simp
        with_reducible rfl
      rotate_left
      · simp only [Act.put, List.setIfInBounds_toArray, List.set_cons_zero, List.set_cons_succ, i64_w, i32_w]
        rfl
      refine pure_ (i := 1) (N := some 19) (v := ?_) (a' := ?_) #[true, true, false, false, false, false, false, false, false, false, false, false, false, false, false, false, false] rfl rfl (by kernel_rfl) (fun _ _ _ h => h) (Or.inl ⟨by rfl, ?_⟩) ?_ ?_
      rotate_left
      · intro w'
        go_simp
        with_reducible rfl
      rotate_left
      · simp only [Act.put, List.setIfInBounds_toArray, List.set_cons_zero, List.set_cons_succ, i64_w, i32_w]
        rfl
      refine pure_ (i := 2) (N := some 20) (v := ?_) (a' := ?_) #[true, true, true, false, false, false, false, false, false, false, false, false, false, false, false, false, false] rfl rfl (by kernel_rfl) (fun _ _ _ h => h) (Or.inl ⟨by rfl, ?_⟩) ?_ ?_
      rotate_left
      · intro w'
        go_simp
        with_reducible rfl
      rotate_left
      · simp only [Act.put, List.setIfInBounds_toArray, List.set_cons_zero, List.set_cons_succ, i64_w, i32_w]
        rfl
      refine pure_ (i := 3) (N := some 21) (v := ?_) (a' := ?_) #[true, true, true, true, false, false, false, false, false, false, false, false, false, false, false, false, false] rfl rfl (by kernel_rfl) (fun _ _ _ h => h) (Or.inl ⟨by rfl, ?_⟩) ?_ ?_
      rotate_left
      · intro w'
        go_simp
        with_reducible rfl
      rotate_left
      · simp only [Act.put, List.setIfInBounds_toArray, List.set_cons_zero, List.set_cons_succ, i64_w, i32_w]
        rfl
      refine pure_ (i := 4) (N := some 22) (v := ?_) (a' := ?_) #[true, true, true, true, true, false, false, false, false, false, false, false, false, false, false, false, false] rfl rfl (by kernel_rfl) (fun _ _ _ h => h) (Or.inl ⟨by rfl, ?_⟩) ?_ ?_
      rotate_left
      · intro w'
        go_simp
        with_reducible rfl
      rotate_left
      · simp only [Act.put, List.setIfInBounds_toArray, List.set_cons_zero, List.set_cons_succ, i64_w, i32_w]
        rfl
      refine pure_ (i := 5) (N := some 23) (v := ?_) (a' := ?_) #[true, true, true, true, true, true, false, false, false, false, false, false, false, false, false, false, false] rfl rfl (by kernel_rfl) (fun _ _ _ h => h) (Or.inl ⟨by rfl, ?_⟩) ?_ ?_
      rotate_left
      · intro w'
        go_simp
        with_reducible rfl
      rotate_left
      · simp only [Act.put, List.setIfInBounds_toArray, List.set_cons_zero, List.set_cons_succ, i64_w, i32_w]
        rfl
      refine pure_ (i := 6) (N := some 24) (v := ?_) (a' := ?_) #[true, true, true, true, true, true, true, false, false, false, false, false, false, false, false, false, false] rfl rfl (by kernel_rfl) (fun _ _ _ h => h) (Or.inl ⟨by rfl, ?_⟩) ?_ ?_
      rotate_left
      · intro w'
        go_simp
        with_reducible rfl
      rotate_left
      · simp only [Act.put, List.setIfInBounds_toArray, List.set_cons_zero, List.set_cons_succ, i64_w, i32_w]
        rfl
      refine pure_ (i := 7) (N := some 25) (v := ?_) (a' := ?_) #[true, true, true, true, true, true, true, true, false, false, false, false, false, false, false, false, false] rfl rfl (by kernel_rfl) (fun _ _ _ h => h) (Or.inl ⟨by rfl, ?_⟩) ?_ ?_
      rotate_left
      · intro w'
        go_simp
        with_reducible rfl
      rotate_left
      · simp only [Act.put, List.setIfInBounds_toArray, List.set_cons_zero, List.set_cons_succ, i64_w, i32_w]
        rfl
      refine pure_ (i := 9) (N := some 27) (v := ?_) (a' := ?_) #[true, true, true, true, true, true, true, true, false, true, false, false, false, false, false, false, false] rfl rfl (by kernel_rfl) (fun _ _ _ h => h) (Or.inl ⟨by rfl, ?_⟩) ?_ ?_
      rotate_left
      · intro w'
        go_simp
        with_reducible rfl
      rotate_left
      · simp only [Act.put, List.setIfInBounds_toArray, List.set_cons_zero, List.set_cons_succ, i64_w, i32_w]
        rfl
      refine pure_ (i := 10) (N := some 28) (v := ?_) (a' := ?_) #[true, true, true, true, true, true, true, true, false, true, true, false, false, false, false, false, false] rfl rfl (by kernel_rfl) (fun _ _ _ h => h) (Or.inl ⟨by rfl, ?_⟩) ?_ ?_
      rotate_left
      · intro w'
        go_simp
        with_reducible rfl
      rotate_left
      · simp only [Act.put, List.setIfInBounds_toArray, List.set_cons_zero, List.set_cons_succ, i64_w, i32_w]
        rfl
      refine pure_ (i := 11) (N := some 29) (v := ?_) (a' := ?_) #[true, true, true, true, true, true, true, true, false, true, true, true, false, false, false, false, false] rfl rfl (by kernel_rfl) (fun _ _ _ h => h) (Or.inl ⟨by rfl, ?_⟩) ?_ ?_
      rotate_left
      · intro w'
        go_simp
        with_reducible rfl
      rotate_left
      · simp only [Act.put, List.setIfInBounds_toArray, List.set_cons_zero, List.set_cons_succ, i64_w, i32_w]
        rfl
      refine pure_ (i := 12) (N := some 30) (v := ?_) (a' := ?_) #[true, true, true, true, true, true, true, true, false, true, true, true, true, false, false, false, false] rfl rfl (by kernel_rfl) (fun _ _ _ h => h) (Or.inl ⟨by rfl, ?_⟩) ?_ ?_
      rotate_left
      · intro w'
        go_simp
        with_reducible rfl
      rotate_left
      · simp only [Act.put, List.setIfInBounds_toArray, List.set_cons_zero, List.set_cons_succ, i64_w, i32_w]
        rfl
      refine take_ (i := 8) (N := some 26) (v := ?_) (a' := ?_) #[true, true, true, true, true, true, true, true, true, true, true, true, true, false, false, false, false] rfl rfl (by kernel_rfl) (fun _ _ _ h => h) (Or.inl ⟨by rfl, ?_⟩) hHeld ?_ ?_
      rotate_left
      · rintro w' ⟨s0, s1, s2, s3⟩
        go_simp
        with_reducible rfl
      rotate_left
      · simp only [Act.put, List.setIfInBounds_toArray, List.set_cons_zero, List.set_cons_succ, i64_w, i32_w]
        rfl
      refine take_ (i := 13) (N := some 31) (v := ?_) (a' := ?_) #[true, true, true, true, true, true, true, true, true, true, true, true, true, true, false, false, false] rfl rfl (by kernel_rfl) (fun _ _ _ h => h) (Or.inl ⟨by rfl, ?_⟩) hHeld ?_ ?_
      rotate_left
      · rintro w' ⟨s0, s1, s2, s3⟩
        go_simp
        with_reducible rfl
      rotate_left
      · simp only [Act.put, List.setIfInBounds_toArray, List.set_cons_zero, List.set_cons_succ, i64_w, i32_w]
        rfl
      refine one_ (i := 14) (N := some 32) #[true, true, true, true, true, true, true, true, true, true, true, true, true, true, true, false, false] rfl rfl (by kernel_rfl) (by decide) (fun K hK => ?_)
      refine goesV_ #[] Try.func33 (by kernel_rfl) rfl #[.agg #[.string x.f0, .string x.f1], .agg #[.string y.f0, .string y.f1]] (by rfl) rfl rfl (by rfl) (by (try simp only [List.map_toArray, List.map_cons, List.map_nil, List.append_toArray, List.cons_append, List.nil_append]); first | done | rfl) ?_
      refine (HC.out.call w3 x y H2.out.b HOX.out HOY.out).mono ?_
      rintro e w4 ⟨rfl, hb⟩
      rw [HR.out]
      refine ⟨_, rfl, ?_⟩
      have H4 := Aside0.mk (H2.out.below hb)
      obtain ⟨_, ⟨dq0, dq1, _, _⟩, ⟨dp0, dp1, _, _⟩, _, _⟩ := H4.out.two q (q + 1) (by have := HQ.out; simp; omega) (by have := HQ.out; simp; omega)
      clear hb cq0 cq1 cp0 cp1
      refine hK.out _ _ ⟨dq0, dq1, dp0, dp1⟩ (fun hHeld => ?_)
      clear hK K
      refine norm_ (a' := ?_) ?_ ?_
      rotate_left
      · show Act.put _ (some 32) _ = _
        simp only [Act.put, List.setIfInBounds_toArray, List.set_cons_zero, List.set_cons_succ, i64_w, i32_w]
        rfl
      refine pure_ (i := 15) (N := some 33) (v := ?_) (a' := ?_) #[true, true, true, true, true, true, true, true, true, true, true, true, true, true, true, true, false] rfl rfl (by kernel_rfl) (fun _ _ _ h => h) (Or.inl ⟨by rfl, ?_⟩) ?_ ?_
      rotate_left
      · intro w'
        go_simp
        with_reducible rfl
      rotate_left
      · simp only [Act.put, List.setIfInBounds_toArray, List.set_cons_zero, List.set_cons_succ, i64_w, i32_w]
        rfl
      refine pure_ (i := 16) (N := some 34) (v := ?_) (a' := ?_) #[true, true, true, true, true, true, true, true, true, true, true, true, true, true, true, true, true] rfl rfl (by kernel_rfl) (fun _ _ _ h => h) (Or.inl ⟨by rfl, ?_⟩) ?_ ?_
      rotate_left
      · intro w'
        go_simp
        with_reducible rfl
      rotate_left
      · simp only [Act.put, List.setIfInBounds_toArray, List.set_cons_zero, List.set_cons_succ, i64_w, i32_w]
        rfl
      refine done_ (by kernel_rfl) ?_
      obtain ⟨_, ⟨cq0, cq1, fq0, fq1⟩, ⟨cp0, cp1, fp0, fp1⟩, c2, c3⟩ := H4.out.two q (q + 1) (by have := HQ.out; simp; omega) (by have := HQ.out; simp; omega)
      obtain ⟨eq0, eq1, gq0, gq1⟩ := c3 y
      unfold put2 at eq0 eq1 gq0 gq1
      clear c2 c3 dq0 dq1 dp0 dp1
      go_upto_region 6 with fail
      refine start_ (n := 18) (S := (fun w' => w'.cell? ⟨g, q * 2, none⟩ = some (.string y.f0) ∧ w'.cell? ⟨g, q * 2 + 1, none⟩ = some (.string y.f1) ∧ w'.cell? ⟨g, (q + 1) * 2, none⟩ = some (.string x.f0) ∧ w'.cell? ⟨g, (q + 1) * 2 + 1, none⟩ = some (.string x.f1))) (ds := [15, 17]) #[false, false, false, false, false, false, false, false, false, false, false, false, false, false, false, false, false, false] (by kernel_rfl) rfl rfl ?_ ?_
      · exact ⟨cq0, cq1, cp0, cp1⟩
      intro hHeld
      refine pure_ (i := 0) (N := some 37) (v := ?_) (a' := ?_) #[true, false, false, false, false, false, false, false, false, false, false, false, false, false, false, false, false, false] rfl rfl (by kernel_rfl) (fun _ _ _ h => h) (Or.inl ⟨by rfl, ?_⟩) ?_ ?_
      rotate_left
      · intro w'
        go_simp
        with_reducible rfl
      rotate_left
      · simp only [Act.put, List.setIfInBounds_toArray, List.set_cons_zero, List.set_cons_succ, i64_w, i32_w]
        rfl
      refine pure_ (i := 1) (N := some 38) (v := ?_) (a' := ?_) #[true, true, false, false, false, false, false, false, false, false, false, false, false, false, false, false, false, false] rfl rfl (by kernel_rfl) (fun _ _ _ h => h) (Or.inl ⟨by rfl, ?_⟩) ?_ ?_
      rotate_left
      · intro w'
        go_simp
        with_reducible rfl
      rotate_left
      · simp only [Act.put, List.setIfInBounds_toArray, List.set_cons_zero, List.set_cons_succ, i64_w, i32_w]
        rfl
      refine pure_ (i := 2) (N := some 39) (v := ?_) (a' := ?_) #[true, true, true, false, false, false, false, false, false, false, false, false, false, false, false, false, false, false] rfl rfl (by kernel_rfl) (fun _ _ _ h => h) (Or.inl ⟨by rfl, ?_⟩) ?_ ?_
      rotate_left
      · intro w'
        go_simp
        with_reducible rfl
      rotate_left
      · simp only [Act.put, List.setIfInBounds_toArray, List.set_cons_zero, List.set_cons_succ, i64_w, i32_w]
        rfl
      refine pure_ (i := 3) (N := some 40) (v := ?_) (a' := ?_) #[true, true, true, true, false, false, false, false, false, false, false, false, false, false, false, false, false, false] rfl rfl (by kernel_rfl) (fun _ _ _ h => h) (Or.inl ⟨by rfl, ?_⟩) ?_ ?_
      rotate_left
      · intro w'
        go_simp
        with_reducible rfl
      rotate_left
      · simp only [Act.put, List.setIfInBounds_toArray, List.set_cons_zero, List.set_cons_succ, i64_w, i32_w]
        rfl
      refine pure_ (i := 4) (N := some 41) (v := ?_) (a' := ?_) #[true, true, true, true, true, false, false, false, false, false, false, false, false, false, false, false, false, false] rfl rfl (by kernel_rfl) (fun _ _ _ h => h) (Or.inl ⟨by rfl, ?_⟩) ?_ ?_
      rotate_left
      · intro w'
        go_simp
        with_reducible rfl
      rotate_left
      · simp only [Act.put, List.setIfInBounds_toArray, List.set_cons_zero, List.set_cons_succ, i64_w, i32_w]
        rfl
      refine pure_ (i := 5) (N := some 42) (v := ?_) (a' := ?_) #[true, true, true, true, true, true, false, false, false, false, false, false, false, false, false, false, false, false] rfl rfl (by kernel_rfl) (fun _ _ _ h => h) (Or.inl ⟨by rfl, ?_⟩) ?_ ?_
      rotate_left
      · intro w'
        go_simp
        with_reducible rfl
      rotate_left
      · simp only [Act.put, List.setIfInBounds_toArray, List.set_cons_zero, List.set_cons_succ, i64_w, i32_w]
        rfl
      refine pure_ (i := 6) (N := some 43) (v := ?_) (a' := ?_) #[true, true, true, true, true, true, true, false, false, false, false, false, false, false, false, false, false, false] rfl rfl (by kernel_rfl) (fun _ _ _ h => h) (Or.inl ⟨by rfl, ?_⟩) ?_ ?_
      rotate_left
      · intro w'
        go_simp
        with_reducible rfl
      rotate_left
      · simp only [Act.put, List.setIfInBounds_toArray, List.set_cons_zero, List.set_cons_succ, i64_w, i32_w]
        rfl
      refine pure_ (i := 7) (N := some 44) (v := ?_) (a' := ?_) #[true, true, true, true, true, true, true, true, false, false, false, false, false, false, false, false, false, false] rfl rfl (by kernel_rfl) (fun _ _ _ h => h) (Or.inl ⟨by rfl, ?_⟩) ?_ ?_
      rotate_left
      · intro w'
        go_simp
        with_reducible rfl
      rotate_left
      · simp only [Act.put, List.setIfInBounds_toArray, List.set_cons_zero, List.set_cons_succ, i64_w, i32_w]
        rfl
      refine pure_ (i := 8) (N := some 45) (v := ?_) (a' := ?_) #[true, true, true, true, true, true, true, true, true, false, false, false, false, false, false, false, false, false] rfl rfl (by kernel_rfl) (fun _ _ _ h => h) (Or.inl ⟨by rfl, ?_⟩) ?_ ?_
      rotate_left
      · intro w'
        go_simp
        with_reducible rfl
      rotate_left
      · simp only [Act.put, List.setIfInBounds_toArray, List.set_cons_zero, List.set_cons_succ, i64_w, i32_w]
        rfl
      refine pure_ (i := 10) (N := some 47) (v := ?_) (a' := ?_) #[true, true, true, true, true, true, true, true, true, false, true, false, false, false, false, false, false, false] rfl rfl (by kernel_rfl) (fun _ _ _ h => h) (Or.inl ⟨by rfl, ?_⟩) ?_ ?_
      rotate_left
      · intro w'
        go_simp
        with_reducible rfl
      rotate_left
      · simp only [Act.put, List.setIfInBounds_toArray, List.set_cons_zero, List.set_cons_succ, i64_w, i32_w]
        rfl
      refine pure_ (i := 11) (N := some 48) (v := ?_) (a' := ?_) #[true, true, true, true, true, true, true, true, true, false, true, true, false, false, false, false, false, false] rfl rfl (by kernel_rfl) (fun _ _ _ h => h) (Or.inl ⟨by rfl, ?_⟩) ?_ ?_
      rotate_left
      · intro w'
        go_simp
        with_reducible rfl
      rotate_left
      · simp only [Act.put, List.setIfInBounds_toArray, List.set_cons_zero, List.set_cons_succ, i64_w, i32_w]
        rfl
      refine pure_ (i := 12) (N := some 49) (v := ?_) (a' := ?_) #[true, true, true, true, true, true, true, true, true, false, true, true, true, false, false, false, false, false] rfl rfl (by kernel_rfl) (fun _ _ _ h => h) (Or.inl ⟨by rfl, ?_⟩) ?_ ?_
      rotate_left
      · intro w'
        go_simp
        with_reducible rfl
      rotate_left
      · simp only [Act.put, List.setIfInBounds_toArray, List.set_cons_zero, List.set_cons_succ, i64_w, i32_w]
        rfl
      refine take_ (i := 9) (N := some 46) (v := ?_) (a' := ?_) #[true, true, true, true, true, true, true, true, true, true, true, true, true, false, false, false, false, false] rfl rfl (by kernel_rfl) (fun _ _ _ h => h) (Or.inl ⟨by rfl, ?_⟩) hHeld ?_ ?_
      rotate_left
      · rintro w' ⟨s0, s1, s2, s3⟩
        go_simp
        with_reducible rfl
      rotate_left
      · simp only [Act.put, List.setIfInBounds_toArray, List.set_cons_zero, List.set_cons_succ, i64_w, i32_w]
        rfl
      refine take_ (i := 13) (N := some 50) (v := ?_) (a' := ?_) #[true, true, true, true, true, true, true, true, true, true, true, true, true, true, false, false, false, false] rfl rfl (by kernel_rfl) (fun _ _ _ h => h) (Or.inl ⟨by rfl, ?_⟩) hHeld ?_ ?_
      rotate_left
      · rintro w' ⟨s0, s1, s2, s3⟩
        go_simp
        with_reducible rfl
      rotate_left
      · simp only [Act.put, List.setIfInBounds_toArray, List.set_cons_zero, List.set_cons_succ, i64_w, i32_w]
        rfl
      refine pure_ (i := 14) (N := some 51) (v := ?_) (a' := ?_) #[true, true, true, true, true, true, true, true, true, true, true, true, true, true, true, false, false, false] rfl rfl (by kernel_rfl) (fun _ _ _ h => h) (Or.inl ⟨by rfl, ?_⟩) ?_ ?_
      rotate_left
      · intro w'
        go_simp
        with_reducible rfl
      rotate_left
      · simp only [Act.put, List.setIfInBounds_toArray, List.set_cons_zero, List.set_cons_succ, i64_w, i32_w]
        rfl
      refine last_ (i := 15) (N := none) #[true, true, true, true, true, true, true, true, true, true, true, true, true, true, true, true, false, false] rfl rfl (by kernel_rfl) (by decide) (fun K hK => ?_)
      refine skip_ (w1 := put2 w4.drew g (q + 1) y) (by rfl) rfl ?_ ?_
      · unfold put2; first | (go_simp; done) | (go_simp; rfl)
      refine hK.out _ _ ?_
      clear hK K
      refine pure_ (i := 16) (N := some 52) (v := ?_) (a' := ?_) #[true, true, true, true, true, true, true, true, true, true, true, true, true, true, true, true, true, false] rfl rfl (by kernel_rfl) (fun _ _ _ h => h) (Or.inl ⟨by rfl, ?_⟩) ?_ ?_
      rotate_left
      · intro w'
        go_simp
        with_reducible rfl
      rotate_left
      · simp only [Act.put, List.setIfInBounds_toArray, List.set_cons_zero, List.set_cons_succ, i64_w, i32_w]
        rfl
      refine last_ (i := 17) (N := none) #[true, true, true, true, true, true, true, true, true, true, true, true, true, true, true, true, true, true] rfl rfl (by kernel_rfl) (by decide) (fun K hK => ?_)
      refine skip_ (w1 := put2 (put2 w4.drew g (q + 1) y) g q x) (by rfl) rfl ?_ ?_
      · unfold put2; first | (go_simp; done) | (go_simp; rfl)
      refine hK.out _ _ ?_
      clear hK K
      refine done_ (by kernel_rfl) ?_
      clear cq0 cq1 cp0 cp1 fq0 fq1 fp0 fp1 eq0 eq1 gq0 gq1
      have H5 := Aside0.mk (H4.out.drew.swap' q (q + 1) (by have := HQ.out; simp; omega) (by have := HQ.out; simp; omega))
      obtain ⟨W5, hW5⟩ : ∃ W5, put2 (put2 w4.drew g (q + 1) y) g q x = W5 := ⟨_, rfl⟩
      rw [hW5] at H5 ⊢
      clear hW5
      go_wp2_with fail
      cases gk with
      | zero => exact absurd HJ.out.2.2.2 (by simp)
      | succ k2 =>
      go_roundg k2
      case measure => omega
      case rel =>
        refine ⟨(q : Int), A', y :: B, rfl, ⟨?_, ?_, ?_, ?_⟩, ⟨by have := H5.out; simpa using this⟩⟩; (rw [HJ.out.1]; simp)
        · intro b hb
          rcases List.mem_cons.1 hb with rfl | hb
          · exact HLT.out
          · exact HJ.out.2.1 b hb
        (have := HQ.out; omega); (have := HJ.out; simp at this; omega)
    · have hrb : decide (r < 0) = false := decide_eq_false hr0
      have HLT := Aside0.mk (show lt cm x y = false by unfold lt; rw [HR.out]; exact decide_eq_false hr0)
      clear hr0
      go_upto_region 4 with fail
      refine start_ (n := 17) (S := (fun w' => w'.cell? ⟨g, q * 2, none⟩ = some (.string y.f0) ∧ w'.cell? ⟨g, q * 2 + 1, none⟩ = some (.string y.f1) ∧ w'.cell? ⟨g, (q + 1) * 2, none⟩ = some (.string x.f0) ∧ w'.cell? ⟨g, (q + 1) * 2 + 1, none⟩ = some (.string x.f1))) (ds := []) #[false, false, false, false, false, false, false, false, false, false, false, false, false, false, false, false, false] (by kernel_rfl) rfl rfl ?_ ?_
      · exact ⟨cq0, cq1, cp0, cp1⟩
      intro hHeld
      clear cq0 cq1 cp0 cp1; have H2 := Aside0.mk H2.out.drew; generalize wr.drew = w3 at H2 hHeld ⊢; have hH := hHeld; obtain ⟨cq0, cq1, cp0, cp1⟩ := hH
      refine pure_ (i := 0) (N := some 18) (v := ?_) (a' := ?_) #[true, false, false, false, false, false, false, false, false, false, false, false, false, false, false, false, false] rfl rfl (by kernel_rfl) (fun _ _ _ h => h) (Or.inl ⟨by rfl, ?_⟩) ?_ ?_
      rotate_left
      · intro w'
        go_simp
        with_reducible rfl
      rotate_left
      · simp only [Act.put, List.setIfInBounds_toArray, List.set_cons_zero, List.set_cons_succ, i64_w, i32_w]
        rfl
      refine pure_ (i := 1) (N := some 19) (v := ?_) (a' := ?_) #[true, true, false, false, false, false, false, false, false, false, false, false, false, false, false, false, false] rfl rfl (by kernel_rfl) (fun _ _ _ h => h) (Or.inl ⟨by rfl, ?_⟩) ?_ ?_
      rotate_left
      · intro w'
        go_simp
        with_reducible rfl
      rotate_left
      · simp only [Act.put, List.setIfInBounds_toArray, List.set_cons_zero, List.set_cons_succ, i64_w, i32_w]
        rfl
      refine pure_ (i := 2) (N := some 20) (v := ?_) (a' := ?_) #[true, true, true, false, false, false, false, false, false, false, false, false, false, false, false, false, false] rfl rfl (by kernel_rfl) (fun _ _ _ h => h) (Or.inl ⟨by rfl, ?_⟩) ?_ ?_
      rotate_left
      · intro w'
        go_simp
        with_reducible rfl
      rotate_left
      · simp only [Act.put, List.setIfInBounds_toArray, List.set_cons_zero, List.set_cons_succ, i64_w, i32_w]
        rfl
      refine pure_ (i := 3) (N := some 21) (v := ?_) (a' := ?_) #[true, true, true, true, false, false, false, false, false, false, false, false, false, false, false, false, false] rfl rfl (by kernel_rfl) (fun _ _ _ h => h) (Or.inl ⟨by rfl, ?_⟩) ?_ ?_
      rotate_left
      · intro w'
        go_simp
        with_reducible rfl
      rotate_left
      · simp only [Act.put, List.setIfInBounds_toArray, List.set_cons_zero, List.set_cons_succ, i64_w, i32_w]
        rfl
      refine pure_ (i := 4) (N := some 22) (v := ?_) (a' := ?_) #[true, true, true, true, true, false, false, false, false, false, false, false, false, false, false, false, false] rfl rfl (by kernel_rfl) (fun _ _ _ h => h) (Or.inl ⟨by rfl, ?_⟩) ?_ ?_
      rotate_left
      · intro w'
        go_simp
        with_reducible rfl
      rotate_left
      · simp only [Act.put, List.setIfInBounds_toArray, List.set_cons_zero, List.set_cons_succ, i64_w, i32_w]
        rfl
      refine pure_ (i := 5) (N := some 23) (v := ?_) (a' := ?_) #[true, true, true, true, true, true, false, false, false, false, false, false, false, false, false, false, false] rfl rfl (by kernel_rfl) (fun _ _ _ h => h) (Or.inl ⟨by rfl, ?_⟩) ?_ ?_
      rotate_left
      · intro w'
        go_simp
        with_reducible rfl
      rotate_left
      · simp only [Act.put, List.setIfInBounds_toArray, List.set_cons_zero, List.set_cons_succ, i64_w, i32_w]
        rfl
      refine pure_ (i := 6) (N := some 24) (v := ?_) (a' := ?_) #[true, true, true, true, true, true, true, false, false, false, false, false, false, false, false, false, false] rfl rfl (by kernel_rfl) (fun _ _ _ h => h) (Or.inl ⟨by rfl, ?_⟩) ?_ ?_
      rotate_left
      · intro w'
        go_simp
        with_reducible rfl
      rotate_left
      · simp only [Act.put, List.setIfInBounds_toArray, List.set_cons_zero, List.set_cons_succ, i64_w, i32_w]
        rfl
      refine pure_ (i := 7) (N := some 25) (v := ?_) (a' := ?_) #[true, true, true, true, true, true, true, true, false, false, false, false, false, false, false, false, false] rfl rfl (by kernel_rfl) (fun _ _ _ h => h) (Or.inl ⟨by rfl, ?_⟩) ?_ ?_
      rotate_left
      · intro w'
        go_simp
        with_reducible rfl
      rotate_left
      · simp only [Act.put, List.setIfInBounds_toArray, List.set_cons_zero, List.set_cons_succ, i64_w, i32_w]
        rfl
      refine pure_ (i := 9) (N := some 27) (v := ?_) (a' := ?_) #[true, true, true, true, true, true, true, true, false, true, false, false, false, false, false, false, false] rfl rfl (by kernel_rfl) (fun _ _ _ h => h) (Or.inl ⟨by rfl, ?_⟩) ?_ ?_
      rotate_left
      · intro w'
        go_simp
        with_reducible rfl
      rotate_left
      · simp only [Act.put, List.setIfInBounds_toArray, List.set_cons_zero, List.set_cons_succ, i64_w, i32_w]
        rfl
      refine pure_ (i := 10) (N := some 28) (v := ?_) (a' := ?_) #[true, true, true, true, true, true, true, true, false, true, true, false, false, false, false, false, false] rfl rfl (by kernel_rfl) (fun _ _ _ h => h) (Or.inl ⟨by rfl, ?_⟩) ?_ ?_
      rotate_left
      · intro w'
        go_simp
        with_reducible rfl
      rotate_left
      · simp only [Act.put, List.setIfInBounds_toArray, List.set_cons_zero, List.set_cons_succ, i64_w, i32_w]
        rfl
      refine pure_ (i := 11) (N := some 29) (v := ?_) (a' := ?_) #[true, true, true, true, true, true, true, true, false, true, true, true, false, false, false, false, false] rfl rfl (by kernel_rfl) (fun _ _ _ h => h) (Or.inl ⟨by rfl, ?_⟩) ?_ ?_
      rotate_left
      · intro w'
        go_simp
        with_reducible rfl
      rotate_left
      · simp only [Act.put, List.setIfInBounds_toArray, List.set_cons_zero, List.set_cons_succ, i64_w, i32_w]
        rfl
      refine pure_ (i := 12) (N := some 30) (v := ?_) (a' := ?_) #[true, true, true, true, true, true, true, true, false, true, true, true, true, false, false, false, false] rfl rfl (by kernel_rfl) (fun _ _ _ h => h) (Or.inl ⟨by rfl, ?_⟩) ?_ ?_
      rotate_left
      · intro w'
        go_simp
        with_reducible rfl
      rotate_left
      · simp only [Act.put, List.setIfInBounds_toArray, List.set_cons_zero, List.set_cons_succ, i64_w, i32_w]
        rfl
      refine take_ (i := 8) (N := some 26) (v := ?_) (a' := ?_) #[true, true, true, true, true, true, true, true, true, true, true, true, true, false, false, false, false] rfl rfl (by kernel_rfl) (fun _ _ _ h => h) (Or.inl ⟨by rfl, ?_⟩) hHeld ?_ ?_
      rotate_left
      · rintro w' ⟨s0, s1, s2, s3⟩
        go_simp
        with_reducible rfl
      rotate_left
      · simp only [Act.put, List.setIfInBounds_toArray, List.set_cons_zero, List.set_cons_succ, i64_w, i32_w]
        rfl
      refine take_ (i := 13) (N := some 31) (v := ?_) (a' := ?_) #[true, true, true, true, true, true, true, true, true, true, true, true, true, true, false, false, false] rfl rfl (by kernel_rfl) (fun _ _ _ h => h) (Or.inl ⟨by rfl, ?_⟩) hHeld ?_ ?_
      rotate_left
      · rintro w' ⟨s0, s1, s2, s3⟩
        go_simp
        with_reducible rfl
      rotate_left
      · simp only [Act.put, List.setIfInBounds_toArray, List.set_cons_zero, List.set_cons_succ, i64_w, i32_w]
        rfl
      refine one_ (i := 14) (N := some 32) #[true, true, true, true, true, true, true, true, true, true, true, true, true, true, true, false, false] rfl rfl (by kernel_rfl) (by decide) (fun K hK => ?_)
      refine goesV_ #[] Try.func33 (by kernel_rfl) rfl #[.agg #[.string x.f0, .string x.f1], .agg #[.string y.f0, .string y.f1]] (by rfl) rfl rfl (by rfl) (by (try simp only [List.map_toArray, List.map_cons, List.map_nil, List.append_toArray, List.cons_append, List.nil_append]); first | done | rfl) ?_
      refine (HC.out.call w3 x y H2.out.b HOX.out HOY.out).mono ?_
      rintro e w4 ⟨rfl, hb⟩
      rw [HR.out]
      refine ⟨_, rfl, ?_⟩
      have H4 := Aside0.mk (H2.out.below hb)
      obtain ⟨_, ⟨dq0, dq1, _, _⟩, ⟨dp0, dp1, _, _⟩, _, _⟩ := H4.out.two q (q + 1) (by have := HQ.out; simp; omega) (by have := HQ.out; simp; omega)
      clear hb cq0 cq1 cp0 cp1
      refine hK.out _ _ ⟨dq0, dq1, dp0, dp1⟩ (fun hHeld => ?_)
      clear hK K
      refine norm_ (a' := ?_) ?_ ?_
      rotate_left
      · show Act.put _ (some 32) _ = _
        simp only [Act.put, List.setIfInBounds_toArray, List.set_cons_zero, List.set_cons_succ, i64_w, i32_w]
        rfl
      refine pure_ (i := 15) (N := some 33) (v := ?_) (a' := ?_) #[true, true, true, true, true, true, true, true, true, true, true, true, true, true, true, true, false] rfl rfl (by kernel_rfl) (fun _ _ _ h => h) (Or.inl ⟨by rfl, ?_⟩) ?_ ?_
      rotate_left
      · intro w'
        go_simp
        with_reducible rfl
      rotate_left
      · simp only [Act.put, List.setIfInBounds_toArray, List.set_cons_zero, List.set_cons_succ, i64_w, i32_w]
        rfl
      refine pure_ (i := 16) (N := some 34) (v := ?_) (a' := ?_) #[true, true, true, true, true, true, true, true, true, true, true, true, true, true, true, true, true] rfl rfl (by kernel_rfl) (fun _ _ _ h => h) (Or.inl ⟨by rfl, ?_⟩) ?_ ?_
      rotate_left
      · intro w'
        go_simp
        with_reducible rfl
      rotate_left
      · simp only [Act.put, List.setIfInBounds_toArray, List.set_cons_zero, List.set_cons_succ, i64_w, i32_w]
        rfl
      refine done_ (by kernel_rfl) ?_
      clear dq0 dq1 dp0 dp1
      go_wp2_with fail
      have HF := Aside0.mk (inserted (w := HC.out.swo) (A := A' ++ [y]) (B := B) (x := x) (by have := HI.out.2.1; rw [HJ.out.1] at this; simpa using this) HJ.out.2.1 (srt_last HC.out.swo (by have := HI.out.2.1; rw [HJ.out.1] at this; exact (List.pairwise_append.1 (by simpa [Srt] using this)).1) HLT.out))
      go_roundg k1
      case measure => omega
      case rel =>
        refine ⟨i + 1, (A' ++ [y]) ++ x :: B, X1 ++ [x], X3, rfl, ⟨?_, HF.out.1, ?_, ?_, ?_⟩, ⟨by have := H4.out; simpa using this⟩⟩; (rw [HI.out.1]; simp); (have h1 := HI.out.2.2.1; rw [HJ.out.1] at h1; exact (h1.app (Stb.refl (lt cm) [x])).trans (by have := HF.out.2; simpa using this)); (have := HI.out; simp; omega); (have := HI.out; simp at this; omega)
theorem srt_take {α : Type} {lt : α → α → Bool} (w : Swo lt) {Y : List α} (hY : Srt lt Y) {h : Nat} {y : α} (e : Y[h]? = some y) : ∀ b ∈ Y.take (h + 1), lt y b = false := by
  intro b hb; rw [take_get e] at hb; have h1 := List.pairwise_append.1 (show (Y.take h ++ Y.drop h).Pairwise (fun a b => lt b a = false) by rw [List.take_append_drop]; exact hY)
  rcases List.mem_append.1 hb with hb | hb
  (exact h1.2.2 b hb y (by rw [drop_get e]; simp)); (rw [List.mem_singleton.1 hb]; exact w.irr _)
theorem srt_drop {α : Type} {lt : α → α → Bool} (w : Swo lt) {Y : List α} (hY : Srt lt Y) {h : Nat} {y : α} (e : Y[h]? = some y) : ∀ b ∈ Y.drop h, lt b y = false := by
  intro b hb; have h1 := List.pairwise_append.1 (show (Y.take h ++ Y.drop h).Pairwise (fun a b => lt b a = false) by rw [List.take_append_drop]; exact hY); rw [drop_get e] at hb h1
  rcases List.mem_cons.1 hb with rfl | hb
  (exact w.irr _); (exact (List.pairwise_cons.1 h1.2.1).1 b hb)
theorem bs_lt {α : Type} {lt : α → α → Bool} (w : Swo lt) {Y : List α} (hY : Srt lt Y) {h : Nat} {x y : α} (e : Y[h]? = some y) (hl : lt y x = true) : ∀ b ∈ Y.take (h + 1), lt b x = true := by
  intro b hb
  cases hx : lt b x with
  | true => rfl
  | false => rw [w.nt y b x (srt_take w hY e b hb) hx] at hl; cases hl
theorem bs_ge {α : Type} {lt : α → α → Bool} (w : Swo lt) {Y : List α} (hY : Srt lt Y) {h : Nat} {x y : α} (e : Y[h]? = some y) (hl : lt y x = false) : ∀ b ∈ Y.drop h, lt b x = false :=
  fun b hb => w.nt b y x (srt_drop w hY e b hb) hl
theorem bs2_ge {α : Type} {lt : α → α → Bool} (w : Swo lt) {Y : List α} (hY : Srt lt Y) {h : Nat} {x y : α} (e : Y[h]? = some y) (hl : lt x y = false) : ∀ b ∈ Y.take (h + 1), lt x b = false :=
  fun b hb => w.nt x y b hl (srt_take w hY e b hb)
theorem bs2_lt {α : Type} {lt : α → α → Bool} (w : Swo lt) {Y : List α} (hY : Srt lt Y) {h : Nat} {x y : α} (e : Y[h]? = some y) (hl : lt x y = true) : ∀ b ∈ Y.drop h, lt x b = true := by
  intro b hb
  cases hx : lt x b with
  | true => rfl
  | false => rw [w.nt x b y hx (srt_drop w hY e b hb)] at hl; cases hl
theorem half_i (i j : Int) (h0 : 0 ≤ i + j) (h : i + j ≤ 281474976710656) : wrap64 (IntKind.u64.wrap (wrap64 (i + j)) / 2) = (i + j) / 2 := by
  have e1 : wrap64 (i + j) = i + j := by unfold wrap64; omega
  have e2 : IntKind.u64.wrap (i + j) = i + j := by rw [IntKind.wrap_u64]; omega
  rw [e1, e2]; unfold wrap64; omega
theorem get_fst {α : Type} {P X Y Q : List α} (p k : Nat) (x : α) (hp : p = P.length + k) (hx : X[k]? = some x) : (P ++ X ++ Y ++ Q)[p]? = some x := by
  have hk := (List.getElem?_eq_some_iff.1 hx).1; subst hp; rw [List.append_assoc, List.append_assoc, List.getElem?_append_right (by omega), Nat.add_sub_cancel_left, List.getElem?_append_left hk, hx]
theorem get_snd {α : Type} {P X Y Q : List α} (p k : Nat) (x : α) (hp : p = P.length + X.length + k) (hx : Y[k]? = some x) : (P ++ X ++ Y ++ Q)[p]? = some x := by
  have hk := (List.getElem?_eq_some_iff.1 hx).1; subst hp; rw [← List.length_append, List.append_assoc, List.getElem?_append_right (by omega), Nat.add_sub_cancel_left, List.getElem?_append_left hk, hx]
set_option maxHeartbeats 4000000 in
set_option maxRecDepth 100000 in
theorem sym1 (w0 : World) (A : Option Addr) (n c : Nat) (hn : n ≤ 140737488351232) (gn : Nat) (ok : S43 → Prop) (cm : S43 → S43 → Int) (hc : Cm w0 gn ok cm) (P : List S43) (x : S43) (Y Q : List S43) (hok : ok x ∧ ∀ y ∈ Y, ok y) (hY : Srt (lt cm) Y) (W : World) (h : Rw w0 A n c W (P ++ [x] ++ Y ++ Q))
    (a m b : Int) (ha : a = P.length) (hm : m = P.length + 1) (hb : b = P.length + 1 + Y.length) :
    Calls Try.prog 43 #[.slice A n c, .int .i64 a, .int .i64 m, .int .i64 b, .func (.func 33) #[] #[]] W fun e w' => e = .returned (.tuple #[]) ∧ ∃ M, Srt (lt cm) M ∧ Stb (lt cm) ([x] ++ Y) M ∧ Rw w0 A n c w' (P ++ M ++ Q) := by
  have HN := Aside0.mk hn; have HC := Aside0.mk hc; have HOK := Aside0.mk hok; obtain ⟨pa, hpa⟩ : ∃ pa : Nat, pa = P.length := ⟨_, rfl⟩
  obtain rfl : a = (pa : Int) := by omega
  have HPA := Aside0.mk hpa; have HA := Aside0.mk (And.intro hm hb); have HY := Aside0.mk hY; have H := Aside0.mk h; have HLN := Aside0.mk (show P.length + 1 + Y.length ≤ n by have := h.ln; simp at this; omega)
  have e1 : IntKind.i64.wrap (m - (pa : Int)) = 1 := by rw [IntWalk.i64_in _ (by omega)]; omega
  obtain ⟨g, rfl, hg⟩ := h.form (by have := HLN.out; omega); have p0 := eq_true (show pa < n by have := HLN.out; omega); clear h hn hc hok ha hm hb hY hpa hg
  go_enter Try.func43, Try.ntmps43
  go_wp2_with fail
  go_loopg [10, 11] Y.length (fun kq v10 v11 W' => ∃ (i j : Int) (s t : Nat), v10 = .int .i64 i ∧ v11 = .int .i64 j ∧ Aside0 (i = P.length + 1 + s ∧ j = P.length + 1 + t ∧ s ≤ t ∧ t ≤ Y.length ∧ t ≤ s + kq) ∧ Aside0 ((∀ b ∈ Y.take s, lt cm b x = true) ∧ (∀ b ∈ Y.drop t, lt cm b x = false)) ∧ Aside0 (Rw w0 (some ⟨g, 0, none⟩) n c W' (P ++ [x] ++ Y ++ Q)))
  case atStart => exact ⟨m, b, 0, Y.length, rfl, rfl, ⟨by have := HA.out; omega, by have := HA.out; omega, by omega, by omega, by omega⟩, ⟨by simp, by simp⟩, H⟩
  case round =>
  clear H e1; obtain ⟨i, j, s, t, rfl, rfl, HI, HS, H⟩ := hrel
  by_cases hij : i < j
  · have hijb : decide (i < j) = true := decide_eq_true hij
    cases gk with
    | zero => exact absurd hij (by have := HI.out; omega)
    | succ k1 =>
    obtain ⟨h, hh⟩ : ∃ h : Nat, h = (i + j).toNat / 2 - (P.length + 1) := ⟨_, rfl⟩
    have HH := Aside0.mk (show s ≤ h ∧ h < t ∧ (i + j) / 2 = P.length + 1 + h by have := HI.out; omega)
    obtain ⟨p, hp⟩ : ∃ p : Nat, p = P.length + 1 + h := ⟨_, rfl⟩
    have w1 : wrap64 (IntKind.u64.wrap (wrap64 (i + j)) / 2) = (p : Int) := by rw [half_i i j (by have := HI.out; omega) (by have := HI.out; have := HLN.out; have := HN.out; omega)]; have := HH.out; omega
    have w2 : IntKind.i64.wrap ((p : Int) + 1) = (p : Int) + 1 := IntWalk.i64_in _ (by have := HH.out; have := HI.out; have := HLN.out; have := HN.out; omega)
    obtain ⟨y, hy⟩ : ∃ y, Y[h]? = some y := ⟨_, List.getElem?_eq_getElem (by have := HH.out; have := HI.out; omega)⟩
    have HP := Aside0.mk hp
    have hpn : p < n := by have := HH.out; have := HI.out; have := HLN.out; omega
    have HPN := Aside0.mk hpn
    have hpn1 := eq_true hpn
    obtain ⟨cp0, cp1, _, _⟩ := H.out.cell p hpn y (get_snd p h y hp hy)
    obtain ⟨ca0, ca1, _, _⟩ := H.out.cell pa (by have := HLN.out; have := HPA.out; omega) x (get_fst pa 0 x (by have := HPA.out; omega) rfl)
    have HOY := Aside0.mk (HOK.out.2 y (List.mem_of_getElem? hy))
    have HYY := Aside0.mk hy
    obtain ⟨r, hr⟩ : ∃ r, cm y x = r := ⟨_, rfl⟩
    have HR := Aside0.mk hr
    clear hij hh hp hy hpn hr
    go_upto_region 5 with fail
    rw [w1]
    refine start_ (n := 11) (S := (fun w' => w'.cell? ⟨g, p * 2, none⟩ = some (.string y.f0) ∧ w'.cell? ⟨g, p * 2 + 1, none⟩ = some (.string y.f1) ∧ w'.cell? ⟨g, pa * 2, none⟩ = some (.string x.f0) ∧ w'.cell? ⟨g, pa * 2 + 1, none⟩ = some (.string x.f1))) (ds := []) #[false, false, false, false, false, false, false, false, false, false, false] (by kernel_rfl) rfl rfl ?_ ?_
    · exact ⟨cp0, cp1, ca0, ca1⟩
    intro hHeld
    clear cp0 cp1 ca0 ca1; have H2 := Aside0.mk H.out.drew; generalize wr.drew = w3 at H2 hHeld ⊢; have hH := hHeld; obtain ⟨cp0, cp1, ca0, ca1⟩ := hH
    refine pure_ (i := 0) (N := some 40) (v := ?_) (a' := ?_) #[true, false, false, false, false, false, false, false, false, false, false] rfl rfl (by kernel_rfl) (fun _ _ _ h => h) (Or.inl ⟨by rfl, ?_⟩) ?_ ?_
    rotate_left
    · intro w'
      go_simp
      with_reducible rfl
    rotate_left
    · simp only [Act.put, List.setIfInBounds_toArray, List.set_cons_zero, List.set_cons_succ, i64_w, i32_w]
      rfl
    refine pure_ (i := 1) (N := some 41) (v := ?_) (a' := ?_) #[true, true, false, false, false, false, false, false, false, false, false] rfl rfl (by kernel_rfl) (fun _ _ _ h => h) (Or.inl ⟨by rfl, ?_⟩) ?_ ?_
    rotate_left
    · intro w'
      go_simp
      with_reducible rfl
    rotate_left
    · simp only [Act.put, List.setIfInBounds_toArray, List.set_cons_zero, List.set_cons_succ, i64_w, i32_w]
      rfl
    refine pure_ (i := 2) (N := some 42) (v := ?_) (a' := ?_) #[true, true, true, false, false, false, false, false, false, false, false] rfl rfl (by kernel_rfl) (fun _ _ _ h => h) (Or.inl ⟨by rfl, ?_⟩) ?_ ?_
    rotate_left
    · intro w'
      go_simp
      with_reducible rfl
    rotate_left
    · simp only [Act.put, List.setIfInBounds_toArray, List.set_cons_zero, List.set_cons_succ, i64_w, i32_w]
      rfl
    refine pure_ (i := 3) (N := some 43) (v := ?_) (a' := ?_) #[true, true, true, true, false, false, false, false, false, false, false] rfl rfl (by kernel_rfl) (fun _ _ _ h => h) (Or.inl ⟨by rfl, ?_⟩) ?_ ?_
    rotate_left
    · intro w'
      go_simp
      with_reducible rfl
    rotate_left
    · simp only [Act.put, List.setIfInBounds_toArray, List.set_cons_zero, List.set_cons_succ, i64_w, i32_w]
      rfl
    refine pure_ (i := 5) (N := some 45) (v := ?_) (a' := ?_) #[true, true, true, true, false, true, false, false, false, false, false] rfl rfl (by kernel_rfl) (fun _ _ _ h => h) (Or.inl ⟨by rfl, ?_⟩) ?_ ?_
    rotate_left
    · intro w'
      go_simp
      with_reducible rfl
    rotate_left
    · simp only [Act.put, List.setIfInBounds_toArray, List.set_cons_zero, List.set_cons_succ, i64_w, i32_w]
      rfl
    refine pure_ (i := 6) (N := some 46) (v := ?_) (a' := ?_) #[true, true, true, true, false, true, true, false, false, false, false] rfl rfl (by kernel_rfl) (fun _ _ _ h => h) (Or.inl ⟨by rfl, ?_⟩) ?_ ?_
    rotate_left
    · intro w'
      go_simp
      with_reducible rfl
    rotate_left
    · simp only [Act.put, List.setIfInBounds_toArray, List.set_cons_zero, List.set_cons_succ, i64_w, i32_w]
      rfl
    refine pure_ (i := 7) (N := some 47) (v := ?_) (a' := ?_) #[true, true, true, true, false, true, true, true, false, false, false] rfl rfl (by kernel_rfl) (fun _ _ _ h => h) (Or.inl ⟨by rfl, ?_⟩) ?_ ?_
    rotate_left
    · intro w'
      go_simp
      with_reducible rfl
    rotate_left
    · simp only [Act.put, List.setIfInBounds_toArray, List.set_cons_zero, List.set_cons_succ, i64_w, i32_w]
      rfl
    refine take_ (i := 4) (N := some 44) (v := ?_) (a' := ?_) #[true, true, true, true, true, true, true, true, false, false, false] rfl rfl (by kernel_rfl) (fun _ _ _ h => h) (Or.inl ⟨by rfl, ?_⟩) hHeld ?_ ?_
    rotate_left
    · rintro w' ⟨s0, s1, s2, s3⟩
      go_simp
      with_reducible rfl
    rotate_left
    · simp only [Act.put, List.setIfInBounds_toArray, List.set_cons_zero, List.set_cons_succ, i64_w, i32_w]
      rfl
    refine take_ (i := 8) (N := some 48) (v := ?_) (a' := ?_) #[true, true, true, true, true, true, true, true, true, false, false] rfl rfl (by kernel_rfl) (fun _ _ _ h => h) (Or.inl ⟨by rfl, ?_⟩) hHeld ?_ ?_
    rotate_left
    · rintro w' ⟨s0, s1, s2, s3⟩
      go_simp
      with_reducible rfl
    rotate_left
    · simp only [Act.put, List.setIfInBounds_toArray, List.set_cons_zero, List.set_cons_succ, i64_w, i32_w]
      rfl
    refine one_ (i := 9) (N := some 49) #[true, true, true, true, true, true, true, true, true, true, false] rfl rfl (by kernel_rfl) (by decide) (fun K hK => ?_)
    refine goesV_ #[] Try.func33 (by kernel_rfl) rfl #[.agg #[.string y.f0, .string y.f1], .agg #[.string x.f0, .string x.f1]] (by rfl) rfl rfl (by rfl) (by (try simp only [List.map_toArray, List.map_cons, List.map_nil, List.append_toArray, List.cons_append, List.nil_append]); first | done | rfl) ?_
    refine (HC.out.call w3 y x H2.out.b HOY.out HOK.out.1).mono ?_
    rintro e w4 ⟨rfl, hb⟩
    rw [HR.out]
    refine ⟨_, rfl, ?_⟩
    have H4 := Aside0.mk (H2.out.below hb)
    obtain ⟨cp4, cp5, _, _⟩ := H4.out.cell p HPN.out y (get_snd p h y HP.out HYY.out)
    obtain ⟨ca4, ca5, _, _⟩ := H4.out.cell pa (by have := HLN.out; have := HPA.out; omega) x (get_fst pa 0 x (by have := HPA.out; omega) rfl)
    clear hb cp0 cp1 ca0 ca1
    refine hK.out _ _ ⟨cp4, cp5, ca4, ca5⟩ (fun hHeld => ?_)
    clear hK K
    refine norm_ (a' := ?_) ?_ ?_
    rotate_left
    · show Act.put _ (some 49) _ = _
      simp only [Act.put, List.setIfInBounds_toArray, List.set_cons_zero, List.set_cons_succ, i64_w, i32_w]
      rfl
    refine pure_ (i := 10) (N := some 50) (v := ?_) (a' := ?_) #[true, true, true, true, true, true, true, true, true, true, true] rfl rfl (by kernel_rfl) (fun _ _ _ h => h) (Or.inl ⟨by rfl, ?_⟩) ?_ ?_
    rotate_left
    · intro w'
      go_simp
      with_reducible rfl
    rotate_left
    · simp only [Act.put, List.setIfInBounds_toArray, List.set_cons_zero, List.set_cons_succ, i64_w, i32_w]
      rfl
    refine done_ (by kernel_rfl) ?_
    clear cp4 cp5 ca4 ca5
    by_cases hr0 : r < 0
    · have hrb : decide (r < 0) = true := decide_eq_true hr0
      have HLT := Aside0.mk (show lt cm y x = true by unfold lt; rw [HR.out]; exact decide_eq_true hr0)
      clear hr0
      simp only [hrb]
      go_wp2_with fail
      go_roundg k1
      case measure => omega
      case rel => exact ⟨(p : Int) + 1, j, h + 1, t, rfl, rfl, ⟨by have := HP.out; omega, by have := HI.out; omega, by have := HH.out; omega, by have := HI.out; omega, by have := HI.out; have := HH.out; omega⟩, ⟨bs_lt HC.out.swo HY.out HYY.out HLT.out, HS.out.2⟩, H4⟩
    · have hrb : decide (r < 0) = false := decide_eq_false hr0
      have HLT := Aside0.mk (show lt cm y x = false by unfold lt; rw [HR.out]; exact decide_eq_false hr0)
      clear hr0
      simp only [hrb]
      go_wp2_with fail
      go_roundg k1
      case measure => omega
      case rel => exact ⟨i, (p : Int), s, h, rfl, rfl, ⟨by have := HI.out; omega, by have := HP.out; omega, by have := HH.out; omega, by have := HI.out; have := HH.out; omega, by have := HI.out; have := HH.out; omega⟩, ⟨HS.out.1, bs_ge HC.out.swo HY.out HYY.out HLT.out⟩, H4⟩
  · have hijb : decide (i < j) = false := decide_eq_false hij
    have hst : t = s := by have := HI.out; omega
    subst hst
    have w1 : IntKind.i64.wrap (i - 1) = i - 1 := IntWalk.i64_in _ (by have := HI.out; have := HLN.out; have := HN.out; omega)
    clear hij
    go_wp2_with fail
    go_loopg [13] t (fun kq v13 W' => ∃ (k : Int) (u : Nat), v13 = .int .i64 k ∧ Aside0 (k = P.length + u ∧ u + kq = t) ∧ Aside0 (Rw w0 (some ⟨g, 0, none⟩) n c W' (P ++ Y.take u ++ x :: (Y.drop u ++ Q))))
    case atStart => exact ⟨(pa : Int), 0, rfl, ⟨by have := HPA.out; omega, by omega⟩, ⟨by have := H.out; simpa using this⟩⟩
    case round =>
    clear H
    obtain ⟨k, u, rfl, HK, H⟩ := hrel
    cases gk with
    | zero =>
      have hkb : decide (k < i - 1) = false := decide_eq_false (by have := HK.out; have := HI.out; omega)
      go_wp2_with fail
      (try simp only [Exit.inBlock, Exit.then])
      refine bodyPost_ret (results_none rfl _ _ _) rfl ?_
      have hu : u = t := by have := HK.out; omega
      subst hu; have hF := inserted (w := HC.out.swo) (A := Y.take u) (B := Y.drop u) (x := x); refine ⟨rfl, Y.take u ++ x :: Y.drop u, ?_, ?_, by have := H.out; simpa using this⟩; (have hY := HY.out; rw [← List.take_append_drop u Y] at hY; have h1 := merged HC.out.swo (x := []) (u := [x]) (v := Y.take u) (y := Y.drop u) (M1 := Y.take u) (M2 := [x] ++ Y.drop u) (List.pairwise_singleton _ _) hY (fun a ha b hb => by rw [List.mem_singleton.1 ha]; exact HS.out.1 b hb) (fun a ha => by cases ha) (List.pairwise_append.1 hY).1 (by simpa using Stb.refl (lt cm) (Y.take u)) (List.pairwise_cons.2 ⟨fun b hb => HS.out.2 b hb, (List.pairwise_append.1 hY).2.1⟩) (Stb.refl _ _); simpa using h1.1); (have hY := HY.out; rw [← List.take_append_drop u Y] at hY; have h1 := merged HC.out.swo (x := []) (u := [x]) (v := Y.take u) (y := Y.drop u) (M1 := Y.take u) (M2 := [x] ++ Y.drop u) (List.pairwise_singleton _ _) hY (fun a ha b hb => by rw [List.mem_singleton.1 ha]; exact HS.out.1 b hb) (fun a ha => by cases ha) (List.pairwise_append.1 hY).1 (by simpa using Stb.refl (lt cm) (Y.take u)) (List.pairwise_cons.2 ⟨fun b hb => HS.out.2 b hb, (List.pairwise_append.1 hY).2.1⟩) (Stb.refl _ _); have h2 := h1.2; rw [List.take_append_drop] at h2; simpa using h2)
    | succ k1 =>
      have hkb : decide (k < i - 1) = true := decide_eq_true (by have := HK.out; have := HI.out; omega); obtain ⟨y, hy⟩ : ∃ y, Y[u]? = some y := ⟨_, List.getElem?_eq_getElem (by have := HK.out; have := HI.out; omega)⟩; obtain ⟨q, hq⟩ : ∃ q : Nat, q = P.length + u := ⟨_, rfl⟩
      have hkq : k = (q : Int) := by have := HK.out; omega
      subst hkq; have HQ := Aside0.mk hq; have HYY := Aside0.mk hy; have H2 := Aside0.mk (show Rw w0 (some ⟨g, 0, none⟩) n c wr ((P ++ Y.take u) ++ x :: ([] ++ y :: (Y.drop (u + 1) ++ Q))) by have := H.out; rw [drop_get hy] at this; simpa using this); have HQL := Aside0.mk (show q = (P ++ Y.take u).length by rw [List.length_append, List.length_take]; have := HI.out; have := HK.out; omega); obtain ⟨hpn, ⟨cq0, cq1, fq0, fq1⟩, ⟨cp0, cp1, _, _⟩, c2, c3⟩ := H2.out.two q (q + 1) HQL.out (by have := HQL.out; simp only [List.length_nil]; omega); obtain ⟨dp0, dp1, fp0, fp1⟩ := c2 y; unfold put2 at dp0 dp1 fp0 fp1; have w2 : IntKind.i64.wrap ((q : Int) + 1) = (q : Int) + 1 := IntWalk.i64_in _ (by have := HN.out; omega); have hpn1 := eq_true hpn; have hqn1 := eq_true (show q < n by omega)
      have e1 : ((q : Int) + 1).toNat = q + 1 := by omega
      have e0 : (0 ≤ (q : Int) + 1) = True := eq_true (by omega); have e2 : ((q : Int) + 1 < (n : Int)) = True := eq_true (by omega); clear hq hy hpn c2 c3 H
      go_upto_region 11 with fail
      refine start_ (n := 18) (S := (fun w' => w'.cell? ⟨g, q * 2, none⟩ = some (.string x.f0) ∧ w'.cell? ⟨g, q * 2 + 1, none⟩ = some (.string x.f1) ∧ w'.cell? ⟨g, (q + 1) * 2, none⟩ = some (.string y.f0) ∧ w'.cell? ⟨g, (q + 1) * 2 + 1, none⟩ = some (.string y.f1))) (ds := [15, 17]) #[false, false, false, false, false, false, false, false, false, false, false, false, false, false, false, false, false, false] (by kernel_rfl) rfl rfl ?_ ?_; (exact ⟨cq0, cq1, cp0, cp1⟩); intro hHeld; refine pure_ (i := 0) (N := some 61) (v := ?_) (a' := ?_) #[true, false, false, false, false, false, false, false, false, false, false, false, false, false, false, false, false, false] rfl rfl (by kernel_rfl) (fun _ _ _ h => h) (Or.inl ⟨by rfl, ?_⟩) ?_ ?_; rotate_left; (intro w'; go_simp; (with_reducible rfl)); rotate_left; (simp only [Act.put, List.setIfInBounds_toArray, List.set_cons_zero, List.set_cons_succ, i64_w, i32_w]; rfl); refine pure_ (i := 1) (N := some 62) (v := ?_) (a' := ?_) #[true, true, false, false, false, false, false, false, false, false, false, false, false, false, false, false, false, false] rfl rfl (by kernel_rfl) (fun _ _ _ h => h) (Or.inl ⟨by rfl, ?_⟩) ?_ ?_; rotate_left; (intro w'; go_simp; (with_reducible rfl)); rotate_left; (simp only [Act.put, List.setIfInBounds_toArray, List.set_cons_zero, List.set_cons_succ, i64_w, i32_w]; rfl); refine pure_ (i := 2) (N := some 63) (v := ?_) (a' := ?_) #[true, true, true, false, false, false, false, false, false, false, false, false, false, false, false, false, false, false] rfl rfl (by kernel_rfl) (fun _ _ _ h => h) (Or.inl ⟨by rfl, ?_⟩) ?_ ?_; rotate_left; (intro w'; go_simp; (with_reducible rfl)); rotate_left; (simp only [Act.put, List.setIfInBounds_toArray, List.set_cons_zero, List.set_cons_succ, i64_w, i32_w]; rfl); refine pure_ (i := 3) (N := some 64) (v := ?_) (a' := ?_) #[true, true, true, true, false, false, false, false, false, false, false, false, false, false, false, false, false, false] rfl rfl (by kernel_rfl) (fun _ _ _ h => h) (Or.inl ⟨by rfl, ?_⟩) ?_ ?_; rotate_left; (intro w'; go_simp; (with_reducible rfl)); rotate_left; (simp only [Act.put, List.setIfInBounds_toArray, List.set_cons_zero, List.set_cons_succ, i64_w, i32_w]; rfl); refine pure_ (i := 4) (N := some 65) (v := ?_) (a' := ?_) #[true, true, true, true, true, false, false, false, false, false, false, false, false, false, false, false, false, false] rfl rfl (by kernel_rfl) (fun _ _ _ h => h) (Or.inl ⟨by rfl, ?_⟩) ?_ ?_; rotate_left; (intro w'; go_simp; (with_reducible rfl)); rotate_left; (simp only [Act.put, List.setIfInBounds_toArray, List.set_cons_zero, List.set_cons_succ, i64_w, i32_w]; rfl); refine pure_ (i := 5) (N := some 66) (v := ?_) (a' := ?_) #[true, true, true, true, true, true, false, false, false, false, false, false, false, false, false, false, false, false] rfl rfl (by kernel_rfl) (fun _ _ _ h => h) (Or.inl ⟨by rfl, ?_⟩) ?_ ?_; rotate_left; (intro w'; go_simp; (with_reducible rfl)); rotate_left; (simp only [Act.put, List.setIfInBounds_toArray, List.set_cons_zero, List.set_cons_succ, i64_w, i32_w]; rfl); refine pure_ (i := 6) (N := some 67) (v := ?_) (a' := ?_) #[true, true, true, true, true, true, true, false, false, false, false, false, false, false, false, false, false, false] rfl rfl (by kernel_rfl) (fun _ _ _ h => h) (Or.inl ⟨by rfl, ?_⟩) ?_ ?_; rotate_left; (intro w'; go_simp; (with_reducible rfl)); rotate_left; (simp only [Act.put, List.setIfInBounds_toArray, List.set_cons_zero, List.set_cons_succ, i64_w, i32_w]; rfl); refine pure_ (i := 7) (N := some 68) (v := ?_) (a' := ?_) #[true, true, true, true, true, true, true, true, false, false, false, false, false, false, false, false, false, false] rfl rfl (by kernel_rfl) (fun _ _ _ h => h) (Or.inl ⟨by rfl, ?_⟩) ?_ ?_; rotate_left; (intro w'; go_simp; (with_reducible rfl)); rotate_left; (simp only [Act.put, List.setIfInBounds_toArray, List.set_cons_zero, List.set_cons_succ, i64_w, i32_w]; rfl); refine pure_ (i := 8) (N := some 69) (v := ?_) (a' := ?_) #[true, true, true, true, true, true, true, true, true, false, false, false, false, false, false, false, false, false] rfl rfl (by kernel_rfl) (fun _ _ _ h => h) (Or.inl ⟨by rfl, ?_⟩) ?_ ?_; rotate_left; (intro w'; go_simp; (with_reducible rfl)); rotate_left; (simp only [Act.put, List.setIfInBounds_toArray, List.set_cons_zero, List.set_cons_succ, i64_w, i32_w]; rfl); refine pure_ (i := 10) (N := some 71) (v := ?_) (a' := ?_) #[true, true, true, true, true, true, true, true, true, false, true, false, false, false, false, false, false, false] rfl rfl (by kernel_rfl) (fun _ _ _ h => h) (Or.inl ⟨by rfl, ?_⟩) ?_ ?_; rotate_left; (intro w'; go_simp; (with_reducible rfl)); rotate_left; (simp only [Act.put, List.setIfInBounds_toArray, List.set_cons_zero, List.set_cons_succ, i64_w, i32_w]; rfl); refine pure_ (i := 11) (N := some 72) (v := ?_) (a' := ?_) #[true, true, true, true, true, true, true, true, true, false, true, true, false, false, false, false, false, false] rfl rfl (by kernel_rfl) (fun _ _ _ h => h) (Or.inl ⟨by rfl, ?_⟩) ?_ ?_; rotate_left; (intro w'; go_simp; (with_reducible rfl)); rotate_left; (simp only [Act.put, List.setIfInBounds_toArray, List.set_cons_zero, List.set_cons_succ, i64_w, i32_w]; rfl); refine pure_ (i := 12) (N := some 73) (v := ?_) (a' := ?_) #[true, true, true, true, true, true, true, true, true, false, true, true, true, false, false, false, false, false] rfl rfl (by kernel_rfl) (fun _ _ _ h => h) (Or.inl ⟨by rfl, ?_⟩) ?_ ?_; rotate_left; (intro w'; go_simp; (with_reducible rfl)); rotate_left; (simp only [Act.put, List.setIfInBounds_toArray, List.set_cons_zero, List.set_cons_succ, i64_w, i32_w]; rfl); refine take_ (i := 9) (N := some 70) (v := ?_) (a' := ?_) #[true, true, true, true, true, true, true, true, true, true, true, true, true, false, false, false, false, false] rfl rfl (by kernel_rfl) (fun _ _ _ h => h) (Or.inl ⟨by rfl, ?_⟩) hHeld ?_ ?_; rotate_left; (rintro w' ⟨s0, s1, s2, s3⟩; go_simp; (with_reducible rfl)); rotate_left; (simp only [Act.put, List.setIfInBounds_toArray, List.set_cons_zero, List.set_cons_succ, i64_w, i32_w]; rfl); refine take_ (i := 13) (N := some 74) (v := ?_) (a' := ?_) #[true, true, true, true, true, true, true, true, true, true, true, true, true, true, false, false, false, false] rfl rfl (by kernel_rfl) (fun _ _ _ h => h) (Or.inl ⟨by rfl, ?_⟩) hHeld ?_ ?_; rotate_left; (rintro w' ⟨s0, s1, s2, s3⟩; go_simp; (with_reducible rfl)); rotate_left; (simp only [Act.put, List.setIfInBounds_toArray, List.set_cons_zero, List.set_cons_succ, i64_w, i32_w]; rfl); refine pure_ (i := 14) (N := some 75) (v := ?_) (a' := ?_) #[true, true, true, true, true, true, true, true, true, true, true, true, true, true, true, false, false, false] rfl rfl (by kernel_rfl) (fun _ _ _ h => h) (Or.inl ⟨by rfl, ?_⟩) ?_ ?_; rotate_left; (intro w'; go_simp; (with_reducible rfl)); rotate_left; (simp only [Act.put, List.setIfInBounds_toArray, List.set_cons_zero, List.set_cons_succ, i64_w, i32_w]; rfl); refine last_ (i := 15) (N := none) #[true, true, true, true, true, true, true, true, true, true, true, true, true, true, true, true, false, false] rfl rfl (by kernel_rfl) (by decide) (fun K hK => ?_); refine skip_ (w1 := put2 wr.drew g q y) (by rfl) rfl ?_ ?_
      · unfold put2; first | (go_simp; done) | (go_simp; rfl)
      refine hK.out _ _ ?_; clear hK K; refine pure_ (i := 16) (N := some 76) (v := ?_) (a' := ?_) #[true, true, true, true, true, true, true, true, true, true, true, true, true, true, true, true, true, false] rfl rfl (by kernel_rfl) (fun _ _ _ h => h) (Or.inl ⟨by rfl, ?_⟩) ?_ ?_; rotate_left; (intro w'; go_simp; (with_reducible rfl)); rotate_left; (simp only [Act.put, List.setIfInBounds_toArray, List.set_cons_zero, List.set_cons_succ, i64_w, i32_w]; rfl); refine last_ (i := 17) (N := none) #[true, true, true, true, true, true, true, true, true, true, true, true, true, true, true, true, true, true] rfl rfl (by kernel_rfl) (by decide) (fun K hK => ?_); refine skip_ (w1 := put2 (put2 wr.drew g q y) g (q + 1) x) (by rfl) rfl ?_ ?_
      · unfold put2; first | (go_simp; done) | (go_simp; rfl)
      refine hK.out _ _ ?_; clear hK K; refine done_ (by kernel_rfl) ?_; clear cq0 cq1 cp0 cp1 fq0 fq1 dp0 dp1 fp0 fp1; have H5 := Aside0.mk (H2.out.drew.swap q (q + 1) HQL.out (by have := HQL.out; simp only [List.length_nil]; omega)); obtain ⟨W5, hW5⟩ : ∃ W5, put2 (put2 wr.drew g q y) g (q + 1) x = W5 := ⟨_, rfl⟩; rw [hW5] at H5 ⊢; clear hW5
      go_wp2_with fail
      go_roundg k1
      case measure => omega
      case rel => exact ⟨(q : Int) + 1, u + 1, rfl, ⟨by have := HQ.out; omega, by have := HK.out; omega⟩, ⟨by have := H5.out; rw [take_get HYY.out]; simpa using this⟩⟩
theorem sym2_end {cm : S43 → S43 → Int} (w : Swo (lt cm)) {X : List S43} {y : S43} (u : Nat) (hX : Srt (lt cm) X) (h1 : ∀ b ∈ X.take u, lt cm y b = false) (h2 : ∀ b ∈ X.drop u, lt cm y b = true) :
    Srt (lt cm) (X.take u ++ y :: X.drop u) ∧ Stb (lt cm) (X ++ [y]) (X.take u ++ y :: X.drop u) := by
  have h3 := inserted w (A := X.take u) (B := X.drop u) (x := y) (by rw [List.take_append_drop]; exact hX) h2 h1; rw [List.take_append_drop] at h3; exact h3
set_option maxHeartbeats 4000000 in
set_option maxRecDepth 100000 in
theorem sym2 (w0 : World) (A : Option Addr) (n c : Nat) (hn : n ≤ 140737488351232) (gn : Nat) (ok : S43 → Prop) (cm : S43 → S43 → Int) (hc : Cm w0 gn ok cm) (P : List S43) (y : S43) (X Q : List S43) (hok : ok y ∧ ∀ x ∈ X, ok x) (hX : Srt (lt cm) X) (hX2 : 2 ≤ X.length) (W : World) (h : Rw w0 A n c W (P ++ X ++ [y] ++ Q))
    (a m b : Int) (ha : a = P.length) (hm : m = P.length + X.length) (hb : b = P.length + X.length + 1) :
    Calls Try.prog 43 #[.slice A n c, .int .i64 a, .int .i64 m, .int .i64 b, .func (.func 33) #[] #[]] W fun e w' => e = .returned (.tuple #[]) ∧ ∃ M, Srt (lt cm) M ∧ Stb (lt cm) (X ++ [y]) M ∧ Rw w0 A n c w' (P ++ M ++ Q) := by
  have HN := Aside0.mk hn; have HC := Aside0.mk hc; have HOK := Aside0.mk hok; obtain ⟨pm, hpm⟩ : ∃ pm : Nat, pm = P.length + X.length := ⟨_, rfl⟩
  obtain rfl : m = (pm : Int) := by omega
  have HPM := Aside0.mk hpm; have HA := Aside0.mk (And.intro ha hb); have HX := Aside0.mk hX; have H := Aside0.mk h; have HLN := Aside0.mk (show P.length + X.length + 1 ≤ n by have := h.ln; simp at this; omega); obtain ⟨d, hd⟩ : ∃ d, (pm : Int) - a = d := ⟨_, rfl⟩
  have e1 : IntKind.i64.wrap ((pm : Int) - a) = d := by rw [IntWalk.i64_in _ (by have := HLN.out; omega)]; exact hd
  have e1b : (d == 1) = false := by simp; omega
  have e2 : IntKind.i64.wrap (b - (pm : Int)) = 1 := by rw [IntWalk.i64_in _ (by omega)]; omega
  obtain ⟨g, rfl, hg⟩ := h.form (by have := HLN.out; omega); have p0 := eq_true (show pm < n by have := HLN.out; omega); clear h hn hc hok ha hm hb hX hpm hg hX2 hd
  go_enter Try.func43, Try.ntmps43
  go_wp2_with fail
  go_loopg [14, 15] X.length (fun kq v10 v11 W' => ∃ (i j : Int) (s t : Nat), v10 = .int .i64 i ∧ v11 = .int .i64 j ∧ Aside0 (i = P.length + s ∧ j = P.length + t ∧ s ≤ t ∧ t ≤ X.length ∧ t ≤ s + kq) ∧ Aside0 ((∀ b ∈ X.take s, lt cm y b = false) ∧ (∀ b ∈ X.drop t, lt cm y b = true)) ∧ Aside0 (Rw w0 (some ⟨g, 0, none⟩) n c W' (P ++ X ++ [y] ++ Q)))
  case atStart => exact ⟨a, (pm : Int), 0, X.length, rfl, rfl, ⟨by have := HA.out; omega, by have := HPM.out; omega, by omega, by omega, by omega⟩, ⟨by simp, by simp⟩, H⟩
  case round =>
  clear H e1 e1b e2; obtain ⟨i, j, s, t, rfl, rfl, HI, HS, H⟩ := hrel
  by_cases hij : i < j
  · have hijb : decide (i < j) = true := decide_eq_true hij
    cases gk with
    | zero => exact absurd hij (by have := HI.out; omega)
    | succ k1 =>
    obtain ⟨h, hh⟩ : ∃ h : Nat, h = (i + j).toNat / 2 - P.length := ⟨_, rfl⟩
    have HH := Aside0.mk (show s ≤ h ∧ h < t ∧ (i + j) / 2 = P.length + h by have := HI.out; omega)
    obtain ⟨p, hp⟩ : ∃ p : Nat, p = P.length + h := ⟨_, rfl⟩
    have w1 : wrap64 (IntKind.u64.wrap (wrap64 (i + j)) / 2) = (p : Int) := by rw [half_i i j (by have := HI.out; omega) (by have := HI.out; have := HLN.out; have := HN.out; omega)]; have := HH.out; omega
    have w2 : IntKind.i64.wrap ((p : Int) + 1) = (p : Int) + 1 := IntWalk.i64_in _ (by have := HH.out; have := HI.out; have := HLN.out; have := HN.out; omega)
    obtain ⟨x, hy⟩ : ∃ x, X[h]? = some x := ⟨_, List.getElem?_eq_getElem (by have := HH.out; have := HI.out; omega)⟩
    have HP := Aside0.mk hp
    have hpn : p < n := by have := HH.out; have := HI.out; have := HLN.out; omega
    have HPN := Aside0.mk hpn
    have hpn1 := eq_true hpn
    obtain ⟨cp0, cp1, _, _⟩ := H.out.cell p hpn x (get_fst p h x hp hy)
    obtain ⟨ca0, ca1, _, _⟩ := H.out.cell pm (by have := HLN.out; have := HPM.out; omega) y (get_snd pm 0 y (by have := HPM.out; omega) rfl)
    have HOY := Aside0.mk (HOK.out.2 x (List.mem_of_getElem? hy))
    have HYY := Aside0.mk hy
    obtain ⟨r, hr⟩ : ∃ r, cm y x = r := ⟨_, rfl⟩
    have HR := Aside0.mk hr
    clear hij hh hp hy hpn hr
    go_upto_region 17 with fail
    rw [w1]
    refine start_ (n := 12) (S := (fun w' => w'.cell? ⟨g, p * 2, none⟩ = some (.string x.f0) ∧ w'.cell? ⟨g, p * 2 + 1, none⟩ = some (.string x.f1) ∧ w'.cell? ⟨g, pm * 2, none⟩ = some (.string y.f0) ∧ w'.cell? ⟨g, pm * 2 + 1, none⟩ = some (.string y.f1))) (ds := []) #[false, false, false, false, false, false, false, false, false, false, false, false] (by kernel_rfl) rfl rfl ?_ ?_
    · exact ⟨cp0, cp1, ca0, ca1⟩
    intro hHeld
    clear cp0 cp1 ca0 ca1; have H2 := Aside0.mk H.out.drew; generalize wr.drew = w3 at H2 hHeld ⊢; have hH := hHeld; obtain ⟨cp0, cp1, ca0, ca1⟩ := hH
    refine pure_ (i := 0) (N := some 92) (v := ?_) (a' := ?_) #[true, false, false, false, false, false, false, false, false, false, false, false] rfl rfl (by kernel_rfl) (fun _ _ _ h => h) (Or.inl ⟨by rfl, ?_⟩) ?_ ?_
    rotate_left
    · intro w'
      go_simp
      with_reducible rfl
    rotate_left
    · simp only [Act.put, List.setIfInBounds_toArray, List.set_cons_zero, List.set_cons_succ, i64_w, i32_w]
      rfl
    refine pure_ (i := 1) (N := some 93) (v := ?_) (a' := ?_) #[true, true, false, false, false, false, false, false, false, false, false, false] rfl rfl (by kernel_rfl) (fun _ _ _ h => h) (Or.inl ⟨by rfl, ?_⟩) ?_ ?_
    rotate_left
    · intro w'
      go_simp
      with_reducible rfl
    rotate_left
    · simp only [Act.put, List.setIfInBounds_toArray, List.set_cons_zero, List.set_cons_succ, i64_w, i32_w]
      rfl
    refine pure_ (i := 2) (N := some 94) (v := ?_) (a' := ?_) #[true, true, true, false, false, false, false, false, false, false, false, false] rfl rfl (by kernel_rfl) (fun _ _ _ h => h) (Or.inl ⟨by rfl, ?_⟩) ?_ ?_
    rotate_left
    · intro w'
      go_simp
      with_reducible rfl
    rotate_left
    · simp only [Act.put, List.setIfInBounds_toArray, List.set_cons_zero, List.set_cons_succ, i64_w, i32_w]
      rfl
    refine pure_ (i := 3) (N := some 95) (v := ?_) (a' := ?_) #[true, true, true, true, false, false, false, false, false, false, false, false] rfl rfl (by kernel_rfl) (fun _ _ _ h => h) (Or.inl ⟨by rfl, ?_⟩) ?_ ?_
    rotate_left
    · intro w'
      go_simp
      with_reducible rfl
    rotate_left
    · simp only [Act.put, List.setIfInBounds_toArray, List.set_cons_zero, List.set_cons_succ, i64_w, i32_w]
      rfl
    refine pure_ (i := 5) (N := some 97) (v := ?_) (a' := ?_) #[true, true, true, true, false, true, false, false, false, false, false, false] rfl rfl (by kernel_rfl) (fun _ _ _ h => h) (Or.inl ⟨by rfl, ?_⟩) ?_ ?_
    rotate_left
    · intro w'
      go_simp
      with_reducible rfl
    rotate_left
    · simp only [Act.put, List.setIfInBounds_toArray, List.set_cons_zero, List.set_cons_succ, i64_w, i32_w]
      rfl
    refine pure_ (i := 6) (N := some 98) (v := ?_) (a' := ?_) #[true, true, true, true, false, true, true, false, false, false, false, false] rfl rfl (by kernel_rfl) (fun _ _ _ h => h) (Or.inl ⟨by rfl, ?_⟩) ?_ ?_
    rotate_left
    · intro w'
      go_simp
      with_reducible rfl
    rotate_left
    · simp only [Act.put, List.setIfInBounds_toArray, List.set_cons_zero, List.set_cons_succ, i64_w, i32_w]
      rfl
    refine pure_ (i := 7) (N := some 99) (v := ?_) (a' := ?_) #[true, true, true, true, false, true, true, true, false, false, false, false] rfl rfl (by kernel_rfl) (fun _ _ _ h => h) (Or.inl ⟨by rfl, ?_⟩) ?_ ?_
    rotate_left
    · intro w'
      go_simp
      with_reducible rfl
    rotate_left
    · simp only [Act.put, List.setIfInBounds_toArray, List.set_cons_zero, List.set_cons_succ, i64_w, i32_w]
      rfl
    refine take_ (i := 4) (N := some 96) (v := ?_) (a' := ?_) #[true, true, true, true, true, true, true, true, false, false, false, false] rfl rfl (by kernel_rfl) (fun _ _ _ h => h) (Or.inl ⟨by rfl, ?_⟩) hHeld ?_ ?_
    rotate_left
    · rintro w' ⟨s0, s1, s2, s3⟩
      go_simp
      with_reducible rfl
    rotate_left
    · simp only [Act.put, List.setIfInBounds_toArray, List.set_cons_zero, List.set_cons_succ, i64_w, i32_w]
      rfl
    refine take_ (i := 8) (N := some 100) (v := ?_) (a' := ?_) #[true, true, true, true, true, true, true, true, true, false, false, false] rfl rfl (by kernel_rfl) (fun _ _ _ h => h) (Or.inl ⟨by rfl, ?_⟩) hHeld ?_ ?_
    rotate_left
    · rintro w' ⟨s0, s1, s2, s3⟩
      go_simp
      with_reducible rfl
    rotate_left
    · simp only [Act.put, List.setIfInBounds_toArray, List.set_cons_zero, List.set_cons_succ, i64_w, i32_w]
      rfl
    refine one_ (i := 9) (N := some 101) #[true, true, true, true, true, true, true, true, true, true, false, false] rfl rfl (by kernel_rfl) (by decide) (fun K hK => ?_)
    refine goesV_ #[] Try.func33 (by kernel_rfl) rfl #[.agg #[.string y.f0, .string y.f1], .agg #[.string x.f0, .string x.f1]] (by rfl) rfl rfl (by rfl) (by (try simp only [List.map_toArray, List.map_cons, List.map_nil, List.append_toArray, List.cons_append, List.nil_append]); first | done | rfl) ?_
    refine (HC.out.call w3 y x H2.out.b HOK.out.1 HOY.out).mono ?_
    rintro e w4 ⟨rfl, hb⟩
    rw [HR.out]
    refine ⟨_, rfl, ?_⟩
    have H4 := Aside0.mk (H2.out.below hb)
    obtain ⟨cp4, cp5, _, _⟩ := H4.out.cell p HPN.out x (get_fst p h x HP.out HYY.out)
    obtain ⟨ca4, ca5, _, _⟩ := H4.out.cell pm (by have := HLN.out; have := HPM.out; omega) y (get_snd pm 0 y (by have := HPM.out; omega) rfl)
    clear hb cp0 cp1 ca0 ca1
    refine hK.out _ _ ⟨cp4, cp5, ca4, ca5⟩ (fun hHeld => ?_)
    clear hK K
    refine norm_ (a' := ?_) ?_ ?_
    rotate_left
    · show Act.put _ (some 101) _ = _
      simp only [Act.put, List.setIfInBounds_toArray, List.set_cons_zero, List.set_cons_succ, i64_w, i32_w]
      rfl
    refine pure_ (i := 10) (N := some 102) (v := ?_) (a' := ?_) #[true, true, true, true, true, true, true, true, true, true, true, false] rfl rfl (by kernel_rfl) (fun _ _ _ h => h) (Or.inl ⟨by rfl, ?_⟩) ?_ ?_
    rotate_left
    · intro w'
      go_simp
      with_reducible rfl
    rotate_left
    · simp only [Act.put, List.setIfInBounds_toArray, List.set_cons_zero, List.set_cons_succ, i64_w, i32_w]
      rfl
    refine pure_ (i := 11) (N := some 103) (v := ?_) (a' := ?_) #[true, true, true, true, true, true, true, true, true, true, true, true] rfl rfl (by kernel_rfl) (fun _ _ _ h => h) (Or.inl ⟨by rfl, ?_⟩) ?_ ?_
    rotate_left
    · intro w'
      go_simp
      with_reducible rfl
    rotate_left
    · simp only [Act.put, List.setIfInBounds_toArray, List.set_cons_zero, List.set_cons_succ, i64_w, i32_w]
      rfl
    refine done_ (by kernel_rfl) ?_
    clear cp4 cp5 ca4 ca5
    by_cases hr0 : r < 0
    · have hrb : decide (r < 0) = true := decide_eq_true hr0
      have HLT := Aside0.mk (show lt cm y x = true by unfold lt; rw [HR.out]; exact decide_eq_true hr0)
      clear hr0
      simp only [hrb, Bool.not_true]
      go_wp2_with fail
      go_roundg k1
      case measure => omega
      case rel => exact ⟨i, (p : Int), s, h, rfl, rfl, ⟨by have := HI.out; omega, by have := HP.out; omega, by have := HH.out; omega, by have := HI.out; have := HH.out; omega, by have := HI.out; have := HH.out; omega⟩, ⟨HS.out.1, bs2_lt HC.out.swo HX.out HYY.out HLT.out⟩, H4⟩
    · have hrb : decide (r < 0) = false := decide_eq_false hr0
      have HLT := Aside0.mk (show lt cm y x = false by unfold lt; rw [HR.out]; exact decide_eq_false hr0)
      clear hr0
      simp only [hrb, Bool.not_false]
      go_wp2_with fail
      go_roundg k1
      case measure => omega
      case rel => exact ⟨(p : Int) + 1, j, h + 1, t, rfl, rfl, ⟨by have := HP.out; omega, by have := HI.out; omega, by have := HH.out; omega, by have := HI.out; omega, by have := HI.out; have := HH.out; omega⟩, ⟨bs2_ge HC.out.swo HX.out HYY.out HLT.out, HS.out.2⟩, H4⟩
  · have hijb : decide (i < j) = false := decide_eq_false hij
    have hst : t = s := by have := HI.out; omega
    subst hst
    clear hij
    go_wp2_with fail
    go_loopg [17] (X.length - t) (fun kq v13 W' => ∃ (k : Int) (u : Nat), v13 = .int .i64 k ∧ Aside0 (k = P.length + u ∧ u = t + kq ∧ u ≤ X.length) ∧ Aside0 (Rw w0 (some ⟨g, 0, none⟩) n c W' (P ++ X.take u ++ y :: (X.drop u ++ Q))))
    case atStart => exact ⟨(pm : Int), X.length, rfl, ⟨by have := HPM.out; omega, by have := HI.out; omega, by omega⟩, ⟨by have := H.out; simpa using this⟩⟩
    case round =>
    clear H
    obtain ⟨k, u, rfl, HK, H⟩ := hrel
    cases gk with
    | zero =>
      have hkb : decide (k > i) = false := decide_eq_false (by have := HK.out; have := HI.out; omega); have hkb2 : decide (i < k) = false := hkb
      go_wp2_with fail
      (try simp only [Exit.inBlock, Exit.then])
      refine bodyPost_ret (results_none rfl _ _ _) rfl ?_
      have hu : u = t := by have := HK.out; omega
      subst hu; have hE := sym2_end HC.out.swo u HX.out HS.out.1 HS.out.2; exact ⟨rfl, X.take u ++ y :: X.drop u, hE.1, hE.2, by have := H.out; simpa using this⟩
    | succ k1 =>
      have hkb : decide (k > i) = true := decide_eq_true (by have := HK.out; have := HI.out; omega); have hkb2 : decide (i < k) = true := hkb; obtain ⟨u1, hu1⟩ : ∃ u1, u = u1 + 1 := ⟨u - 1, by have := HK.out; omega⟩; subst hu1; obtain ⟨x, hy⟩ : ∃ x, X[u1]? = some x := ⟨_, List.getElem?_eq_getElem (by have := HK.out; have := HI.out; omega)⟩; obtain ⟨q, hq⟩ : ∃ q : Nat, q = P.length + u1 := ⟨_, rfl⟩
      have hkq : k = (q : Int) + 1 := by have := HK.out; omega
      subst hkq; have HQ := Aside0.mk hq; have HYY := Aside0.mk hy; have H2 := Aside0.mk (show Rw w0 (some ⟨g, 0, none⟩) n c wr ((P ++ X.take u1) ++ x :: ([] ++ y :: (X.drop (u1 + 1) ++ Q))) by have := H.out; rw [take_get hy] at this; simpa using this); have HQL := Aside0.mk (show q = (P ++ X.take u1).length by rw [List.length_append, List.length_take]; have := HI.out; have := HK.out; omega); obtain ⟨hpn, ⟨cq0, cq1, _, _⟩, ⟨cp0, cp1, fp0, fp1⟩, c2, c3⟩ := H2.out.two q (q + 1) HQL.out (by have := HQL.out; simp only [List.length_nil]; omega); obtain ⟨dq0, dq1, fq0, fq1⟩ := c3 x; unfold put2 at dq0 dq1 fq0 fq1
      have w2 : wrap64 (q : Int) = (q : Int) := by unfold wrap64; have := HN.out; omega
      have hpn1 := eq_true hpn; have hqn1 := eq_true (show q < n by omega)
      have e1 : ((q : Int) + 1).toNat = q + 1 := by omega
      have e0 : (0 ≤ (q : Int) + 1) = True := eq_true (by omega); have e2 : ((q : Int) + 1 < (n : Int)) = True := eq_true (by omega); clear hq hy hpn c2 c3 H
      go_upto_region 23 with fail
      refine start_ (n := 18) (S := (fun w' => w'.cell? ⟨g, q * 2, none⟩ = some (.string x.f0) ∧ w'.cell? ⟨g, q * 2 + 1, none⟩ = some (.string x.f1) ∧ w'.cell? ⟨g, (q + 1) * 2, none⟩ = some (.string y.f0) ∧ w'.cell? ⟨g, (q + 1) * 2 + 1, none⟩ = some (.string y.f1))) (ds := [15, 17]) #[false, false, false, false, false, false, false, false, false, false, false, false, false, false, false, false, false, false] (by kernel_rfl) rfl rfl ?_ ?_; (exact ⟨cq0, cq1, cp0, cp1⟩); intro hHeld; refine pure_ (i := 0) (N := some 113) (v := ?_) (a' := ?_) #[true, false, false, false, false, false, false, false, false, false, false, false, false, false, false, false, false, false] rfl rfl (by kernel_rfl) (fun _ _ _ h => h) (Or.inl ⟨by rfl, ?_⟩) ?_ ?_; rotate_left; (intro w'; go_simp; (with_reducible rfl)); rotate_left; (simp only [Act.put, List.setIfInBounds_toArray, List.set_cons_zero, List.set_cons_succ, i64_w, i32_w]; rfl); refine pure_ (i := 1) (N := some 114) (v := ?_) (a' := ?_) #[true, true, false, false, false, false, false, false, false, false, false, false, false, false, false, false, false, false] rfl rfl (by kernel_rfl) (fun _ _ _ h => h) (Or.inl ⟨by rfl, ?_⟩) ?_ ?_; rotate_left; (intro w'; go_simp; (with_reducible rfl)); rotate_left; (simp only [Act.put, List.setIfInBounds_toArray, List.set_cons_zero, List.set_cons_succ, i64_w, i32_w]; rfl); refine pure_ (i := 2) (N := some 115) (v := ?_) (a' := ?_) #[true, true, true, false, false, false, false, false, false, false, false, false, false, false, false, false, false, false] rfl rfl (by kernel_rfl) (fun _ _ _ h => h) (Or.inl ⟨by rfl, ?_⟩) ?_ ?_; rotate_left; (intro w'; go_simp; (with_reducible rfl)); rotate_left; (simp only [Act.put, List.setIfInBounds_toArray, List.set_cons_zero, List.set_cons_succ, i64_w, i32_w]; rfl); refine pure_ (i := 3) (N := some 116) (v := ?_) (a' := ?_) #[true, true, true, true, false, false, false, false, false, false, false, false, false, false, false, false, false, false] rfl rfl (by kernel_rfl) (fun _ _ _ h => h) (Or.inl ⟨by rfl, ?_⟩) ?_ ?_; rotate_left; (intro w'; go_simp; (with_reducible rfl)); rotate_left; (simp only [Act.put, List.setIfInBounds_toArray, List.set_cons_zero, List.set_cons_succ, i64_w, i32_w]; rfl); refine pure_ (i := 4) (N := some 117) (v := ?_) (a' := ?_) #[true, true, true, true, true, false, false, false, false, false, false, false, false, false, false, false, false, false] rfl rfl (by kernel_rfl) (fun _ _ _ h => h) (Or.inl ⟨by rfl, ?_⟩) ?_ ?_; rotate_left; (intro w'; go_simp; (with_reducible rfl)); rotate_left; (simp only [Act.put, List.setIfInBounds_toArray, List.set_cons_zero, List.set_cons_succ, i64_w, i32_w]; rfl); refine pure_ (i := 5) (N := some 118) (v := ?_) (a' := ?_) #[true, true, true, true, true, true, false, false, false, false, false, false, false, false, false, false, false, false] rfl rfl (by kernel_rfl) (fun _ _ _ h => h) (Or.inl ⟨by rfl, ?_⟩) ?_ ?_; rotate_left; (intro w'; go_simp; (with_reducible rfl)); rotate_left; (simp only [Act.put, List.setIfInBounds_toArray, List.set_cons_zero, List.set_cons_succ, i64_w, i32_w]; rfl); refine pure_ (i := 6) (N := some 119) (v := ?_) (a' := ?_) #[true, true, true, true, true, true, true, false, false, false, false, false, false, false, false, false, false, false] rfl rfl (by kernel_rfl) (fun _ _ _ h => h) (Or.inl ⟨by rfl, ?_⟩) ?_ ?_; rotate_left; (intro w'; go_simp; (with_reducible rfl)); rotate_left; (simp only [Act.put, List.setIfInBounds_toArray, List.set_cons_zero, List.set_cons_succ, i64_w, i32_w]; rfl); refine pure_ (i := 7) (N := some 120) (v := ?_) (a' := ?_) #[true, true, true, true, true, true, true, true, false, false, false, false, false, false, false, false, false, false] rfl rfl (by kernel_rfl) (fun _ _ _ h => h) (Or.inl ⟨by rfl, ?_⟩) ?_ ?_; rotate_left; (intro w'; go_simp; (with_reducible rfl)); rotate_left; (simp only [Act.put, List.setIfInBounds_toArray, List.set_cons_zero, List.set_cons_succ, i64_w, i32_w]; rfl); refine pure_ (i := 8) (N := some 121) (v := ?_) (a' := ?_) #[true, true, true, true, true, true, true, true, true, false, false, false, false, false, false, false, false, false] rfl rfl (by kernel_rfl) (fun _ _ _ h => h) (Or.inl ⟨by rfl, ?_⟩) ?_ ?_; rotate_left; (intro w'; go_simp; (with_reducible rfl)); rotate_left; (simp only [Act.put, List.setIfInBounds_toArray, List.set_cons_zero, List.set_cons_succ, i64_w, i32_w]; rfl); refine pure_ (i := 10) (N := some 123) (v := ?_) (a' := ?_) #[true, true, true, true, true, true, true, true, true, false, true, false, false, false, false, false, false, false] rfl rfl (by kernel_rfl) (fun _ _ _ h => h) (Or.inl ⟨by rfl, ?_⟩) ?_ ?_; rotate_left; (intro w'; go_simp; (with_reducible rfl)); rotate_left; (simp only [Act.put, List.setIfInBounds_toArray, List.set_cons_zero, List.set_cons_succ, i64_w, i32_w]; rfl); refine pure_ (i := 11) (N := some 124) (v := ?_) (a' := ?_) #[true, true, true, true, true, true, true, true, true, false, true, true, false, false, false, false, false, false] rfl rfl (by kernel_rfl) (fun _ _ _ h => h) (Or.inl ⟨by rfl, ?_⟩) ?_ ?_; rotate_left; (intro w'; go_simp; (with_reducible rfl)); rotate_left; (simp only [Act.put, List.setIfInBounds_toArray, List.set_cons_zero, List.set_cons_succ, i64_w, i32_w]; rfl); refine pure_ (i := 12) (N := some 125) (v := ?_) (a' := ?_) #[true, true, true, true, true, true, true, true, true, false, true, true, true, false, false, false, false, false] rfl rfl (by kernel_rfl) (fun _ _ _ h => h) (Or.inl ⟨by rfl, ?_⟩) ?_ ?_; rotate_left; (intro w'; go_simp; (with_reducible rfl)); rotate_left; (simp only [Act.put, List.setIfInBounds_toArray, List.set_cons_zero, List.set_cons_succ, i64_w, i32_w]; rfl); refine take_ (i := 9) (N := some 122) (v := ?_) (a' := ?_) #[true, true, true, true, true, true, true, true, true, true, true, true, true, false, false, false, false, false] rfl rfl (by kernel_rfl) (fun _ _ _ h => h) (Or.inl ⟨by rfl, ?_⟩) hHeld ?_ ?_; rotate_left; (rintro w' ⟨s0, s1, s2, s3⟩; go_simp; (with_reducible rfl)); rotate_left; (simp only [Act.put, List.setIfInBounds_toArray, List.set_cons_zero, List.set_cons_succ, i64_w, i32_w]; rfl); refine take_ (i := 13) (N := some 126) (v := ?_) (a' := ?_) #[true, true, true, true, true, true, true, true, true, true, true, true, true, true, false, false, false, false] rfl rfl (by kernel_rfl) (fun _ _ _ h => h) (Or.inl ⟨by rfl, ?_⟩) hHeld ?_ ?_; rotate_left; (rintro w' ⟨s0, s1, s2, s3⟩; go_simp; (with_reducible rfl)); rotate_left; (simp only [Act.put, List.setIfInBounds_toArray, List.set_cons_zero, List.set_cons_succ, i64_w, i32_w]; rfl); refine pure_ (i := 14) (N := some 127) (v := ?_) (a' := ?_) #[true, true, true, true, true, true, true, true, true, true, true, true, true, true, true, false, false, false] rfl rfl (by kernel_rfl) (fun _ _ _ h => h) (Or.inl ⟨by rfl, ?_⟩) ?_ ?_; rotate_left; (intro w'; go_simp; (with_reducible rfl)); rotate_left; (simp only [Act.put, List.setIfInBounds_toArray, List.set_cons_zero, List.set_cons_succ, i64_w, i32_w]; rfl); refine last_ (i := 15) (N := none) #[true, true, true, true, true, true, true, true, true, true, true, true, true, true, true, true, false, false] rfl rfl (by kernel_rfl) (by decide) (fun K hK => ?_); refine skip_ (w1 := put2 wr.drew g (q + 1) x) (by rfl) rfl ?_ ?_
      · unfold put2; first | (go_simp; done) | (go_simp; rfl)
      refine hK.out _ _ ?_; clear hK K; refine pure_ (i := 16) (N := some 128) (v := ?_) (a' := ?_) #[true, true, true, true, true, true, true, true, true, true, true, true, true, true, true, true, true, false] rfl rfl (by kernel_rfl) (fun _ _ _ h => h) (Or.inl ⟨by rfl, ?_⟩) ?_ ?_; rotate_left; (intro w'; go_simp; (with_reducible rfl)); rotate_left; (simp only [Act.put, List.setIfInBounds_toArray, List.set_cons_zero, List.set_cons_succ, i64_w, i32_w]; rfl); refine last_ (i := 17) (N := none) #[true, true, true, true, true, true, true, true, true, true, true, true, true, true, true, true, true, true] rfl rfl (by kernel_rfl) (by decide) (fun K hK => ?_); refine skip_ (w1 := put2 (put2 wr.drew g (q + 1) x) g q y) (by rfl) rfl ?_ ?_
      · unfold put2; first | (go_simp; done) | (go_simp; rfl)
      refine hK.out _ _ ?_; clear hK K; refine done_ (by kernel_rfl) ?_; clear cq0 cq1 cp0 cp1 fp0 fp1 dq0 dq1 fq0 fq1; have H5 := Aside0.mk (H2.out.drew.swap' q (q + 1) HQL.out (by have := HQL.out; simp only [List.length_nil]; omega)); obtain ⟨W5, hW5⟩ : ∃ W5, put2 (put2 wr.drew g (q + 1) x) g q y = W5 := ⟨_, rfl⟩; rw [hW5] at H5 ⊢; clear hW5
      go_wp2_with fail
      go_roundg k1
      case measure => omega
      case rel => exact ⟨wrap64 (q : Int), u1, rfl, ⟨by rw [w2]; have := HQ.out; omega, by have := HK.out; omega, by have := HK.out; omega⟩, ⟨by have := H5.out; rw [drop_get HYY.out]; simpa using this⟩⟩
end Go.Proofs.Ytmpdbblljofjfaa.G
