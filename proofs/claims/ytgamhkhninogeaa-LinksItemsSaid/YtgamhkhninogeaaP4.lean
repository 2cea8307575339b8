/- The document's answers on items (tendrilref19), against the plain law of links. -/
import Derived.Test.YtgamhkhninogeaaP3
import Derived.Test.YtgamhkhninogeaaGx1
import Derived.Test.YtgamhkhninogeaaGx2
namespace Go.Proofs.Ytgamhkhninogeaa.Pure
open Go.RowKit Go.Proofs.Ytgamhkhninogeaa.G Go.Proofs.YtgamhkhninogeaaW.PrintLast
open Go.Proofs.YtgamhkhninogeaaW.PrintWords (LeO rd)
set_option linter.unusedVariables false
set_option linter.unusedSimpArgs false

def Ev {α : Type} (f : Nat → Option α) (r : α) : Prop := ∃ k0, ∀ k, k0 ≤ k → f k = some r
theorem Ev.all {α : Type} {f : Nat → Option α} {r : α} (h : ∀ k, f k = some r) : Ev f r := ⟨0, fun k _ => h k⟩
theorem Ev.pure {α : Type} (r : α) : Ev (fun _ => some r) r := .all fun _ => rfl
theorem Ev.of {α : Type} {f : Nat → Option α} {r : α} (m : ∀ k, LeO (f k) (f (k + 1))) {k : Nat} (h : f k = some r) : Ev f r :=
  ⟨k, fun j hj => by
    obtain ⟨d, rfl⟩ : ∃ d, j = k + d := ⟨j - k, by omega⟩
    clear hj
    induction d with
    | zero => exact h
    | succ d ih => exact m _ _ ih⟩
theorem Ev.step {α : Type} {f g : Nat → Option α} {r : α} (hg : Ev g r) (h : ∀ k, f (k + 1) = g k) : Ev f r := by
  obtain ⟨k0, hk⟩ := hg
  exact ⟨k0 + 1, fun k hk' => by obtain ⟨m, rfl⟩ : ∃ m, k = m + 1 := ⟨k - 1, by omega⟩; rw [h]; exact hk m (by omega)⟩
theorem Ev.eq {α : Type} {f g : Nat → Option α} {r : α} (hg : Ev g r) (h : ∀ k, f k = g k) : Ev f r := by
  obtain ⟨k0, hk⟩ := hg
  exact ⟨k0, fun k hk' => by rw [h]; exact hk k hk'⟩
theorem Ev.bind {α β : Type} {f : Nat → Option α} {g : Nat → α → Option β} {a : α} {r : β} (hf : Ev f a) (hg : Ev (fun k => g k a) r) : Ev (fun k => (f k).bind (g k)) r := by
  obtain ⟨k0, h0⟩ := hf
  obtain ⟨k1, h1⟩ := hg
  exact ⟨max k0 k1, fun k hk => by show (f k).bind (g k) = some r; rw [h0 k (by omega)]; exact h1 k (by omega)⟩
theorem Ev.via {α β : Type} {f : Nat → Option α} {g F : Nat → Option β} {a : α} {r : β} (hf : Ev f a) (hg : Ev g r) (h : ∀ k, f k = some a → F (k + 1) = g k) : Ev F r := by
  obtain ⟨k0, h0⟩ := hf
  obtain ⟨k1, h1⟩ := hg
  exact ⟨max k0 k1 + 1, fun k hk => by obtain ⟨m, rfl⟩ : ∃ m, k = m + 1 := ⟨k - 1, by omega⟩; rw [h m (h0 m (by omega))]; exact h1 m (by omega)⟩
theorem Ev.via0 {α β : Type} {f : Nat → Option α} {g F : Nat → Option β} {a : α} {r : β} (hf : Ev f a) (hg : Ev g r) (h : ∀ k, f k = some a → F k = g k) : Ev F r := by
  obtain ⟨k0, h0⟩ := hf
  obtain ⟨k1, h1⟩ := hg
  exact ⟨max k0 k1, fun k hk => by rw [h k (h0 k (by omega))]; exact h1 k (by omega)⟩
theorem Ev.ex {α : Type} {f : Nat → Option α} {r : α} (h : Ev f r) : ∃ k, f k = some r := by
  obtain ⟨k0, hk⟩ := h
  exact ⟨k0, hk k0 (Nat.le_refl _)⟩
theorem Ev.uniq {α : Type} {f : Nat → Option α} {r s : α} (h : Ev f r) (h' : Ev f s) : r = s := by
  obtain ⟨k0, h0⟩ := h
  obtain ⟨k1, h1⟩ := h'
  have := (h0 (max k0 k1) (by omega)).symm.trans (h1 (max k0 k1) (by omega))
  injection this

theorem w1 {i : Int} (h0 : -1000000000000000000 ≤ i) (h : i ≤ 1000000000000000000) : wrap64 (i + 1) = i + 1 := by unfold wrap64; omega
/-- Who is above an item, and its kids. -/
abbrev Ur (r : List S65) (i : Int) : Int := (rd_T65 r i).f0
abbrev Kr (r : List S65) (i : Int) : List Int := (rd_T65 r i).f1
def LR (r : List S65) (F : FF) : Prop := Lk r.length (Ur r) (Kr r) F
theorem Way.congr {U U' : Int → Int} : ∀ {l : List Int} {x : Int}, (∀ a ∈ l, U' a = U a) → Way U x l → Way U' x l
  | [], _, _, h => h
  | a :: l, x, hc, ⟨h1, h2, h3⟩ => ⟨h1, h2, by rw [hc a (List.mem_cons_self ..)]; exact Way.congr (fun b hb => hc b (List.mem_cons_of_mem _ hb)) h3⟩
theorem Lk.congr {n : Nat} {U U' : Int → Int} {K K' : Int → List Int} {F : FF} (h : Lk n U K F) (hc : ∀ i : Int, 0 ≤ i → i < n → U' i = U i ∧ K' i = K i) : Lk n U' K' F := by
  obtain ⟨⟨h1, h2, h3, ρ, h4⟩, h5, h6⟩ := h
  refine ⟨⟨fun i i0 i1 => ?_, fun i c i0 i1 => ?_, fun i i0 i1 => ?_, ρ, fun i i0 i1 hu => ?_⟩, fun i i0 i1 => ?_, fun i i0 i1 hu => ?_⟩
  · rw [(hc i i0 i1).1]; exact h1 i i0 i1
  · rw [(hc i i0 i1).2, h2 i c i0 i1]
    constructor
    · rintro ⟨a, b, e⟩; exact ⟨a, b, (hc c a b).1.trans e⟩
    · rintro ⟨a, b, e⟩; exact ⟨a, b, (hc c a b).1.symm.trans e⟩
  · rw [(hc i i0 i1).2]; exact h3 i i0 i1
  · rw [(hc i i0 i1).1] at hu ⊢; exact h4 i i0 i1 hu
  · rw [(hc i i0 i1).1, (hc i i0 i1).2]; exact h5 i i0 i1
  · rw [(hc i i0 i1).1] at hu; exact h6 i i0 i1 hu
theorem rd_set (r : List S65) (j : Int) (x : S65) (i : Int) (hj0 : 0 ≤ j) (hj : j < r.length) (h0 : 0 ≤ i) : rd_T65 (r.set j.toNat x) i = if i = j then x else rd_T65 r i := by
  unfold rd_T65
  by_cases c : i = j
  · subst c
    rw [if_pos rfl]
    have : i.toNat < r.length := by omega
    simp [this]
  · rw [if_neg c]
    have : j.toNat ≠ i.toNat := by omega
    simp [List.getElem?_set_ne this]

/-! New. -/
def freeR (n : Nat) : List S65 := List.replicate n ⟨-1, []⟩
theorem new_l0 (n : Nat) (hn : n ≤ 1000000) (d : Nat) : ∀ i : Nat, i + d = n → Ev (fun k => tendrilref19_New.l0 k (freeR i) (n : Int) (i : Int)) (freeR n) := by
  induction d with
  | zero =>
    intro i hi
    obtain rfl : i = n := by omega
    exact (Ev.pure _).step (fun k => by rw [tendrilref19_New.l0, if_neg (by omega)])
  | succ d ih =>
    intro i hi
    have hl : (freeR i).length = i := by simp [freeR]
    have e : freeR i ++ [(⟨-1, ([] : List Int)⟩ : S65)] = freeR (i + 1) := by unfold freeR; rw [List.replicate_succ']
    refine (ih (i + 1) (by omega)).step (fun k => ?_)
    rw [tendrilref19_New.l0, if_pos (by omega), if_pos (by omega), e, w1 (by omega) (by omega)]
    rfl
theorem new_ref (n : Nat) (hn : n ≤ 1000000) : Ev (fun k => tendrilref19_New.f k (n : Int)) (freeR n) := (new_l0 n hn n 0 (by omega)).eq (fun k => rfl)
theorem free_rd (n : Nat) (i : Int) (h0 : 0 ≤ i) (h1 : i < n) : rd_T65 (freeR n) i = ⟨-1, []⟩ := by
  unfold rd_T65 freeR
  have : i.toNat < n := by omega
  simp [this]
theorem LR.free (n : Nat) : LR (freeR n) F0 := by
  have hl : (freeR n).length = n := by simp [freeR]
  unfold LR
  rw [hl]
  refine ⟨⟨fun i i0 i1 => ?_, fun i c i0 i1 => ?_, fun i i0 i1 => ?_, ⟨fun _ => 0, fun i i0 i1 hu => ?_⟩⟩, fun i i0 i1 => ?_, fun i i0 i1 hu => ⟨rfl, rfl⟩⟩
  · show -1 ≤ (rd_T65 (freeR n) i).f0 ∧ (rd_T65 (freeR n) i).f0 < n
    rw [free_rd n i i0 i1]
    exact ⟨by decide, by show (-1 : Int) < n; omega⟩
  · show c ∈ (rd_T65 (freeR n) i).f1 ↔ _
    rw [free_rd n i i0 i1]
    constructor
    · intro h; simp at h
    · rintro ⟨c0, c1, h⟩
      have h : (rd_T65 (freeR n) c).f0 = i := h
      rw [free_rd n c c0 c1] at h
      have h : (-1 : Int) = i := h
      omega
  · show ((rd_T65 (freeR n) i).f1).Nodup
    rw [free_rd n i i0 i1]
    exact List.nodup_nil
  · have hu : 0 ≤ (rd_T65 (freeR n) i).f0 := hu
    rw [free_rd n i i0 i1] at hu
    have hu : (0 : Int) ≤ -1 := hu
    omega
  · show F0 i 1 = (rd_T65 (freeR n) i).f0 ∧ ChT F0 5 (F0 i 2) (rd_T65 (freeR n) i).f1 (-1) ∧ SibT F0 i (-1) (rd_T65 (freeR n) i).f1 (F0 i 3)
    rw [free_rd n i i0 i1]
    exact ⟨rfl, rfl, rfl⟩

/-! Under, by the way up. -/
theorem under_ev (r : List S65) (y : Int) : ∀ (l : List Int) (x : Int), Way (Ur r) x l → (∀ a ∈ l, 0 ≤ a ∧ a < r.length) → Ev (fun k => tendrilref19_Under.l0 k r x y) (decide (y ∈ l))
  | [], x, h, _ => (Ev.pure false).step (fun k => by have h : x < 0 := h; rw [tendrilref19_Under.l0, if_neg (by omega)])
  | a :: l, x, ⟨h1, h2, h3⟩, hb => by
    subst h1
    have hx := hb x (List.mem_cons_self ..)
    by_cases c : x = y
    · subst c
      have e : decide (x ∈ x :: l) = true := by simp
      rw [e]
      exact (Ev.pure true).step (fun k => by rw [tendrilref19_Under.l0, if_pos (by omega), if_pos rfl])
    · have e : decide (y ∈ x :: l) = decide (y ∈ l) := by
        have : ¬ y = x := fun q => c q.symm
        simp [this]
      rw [e]
      exact (under_ev r y l _ h3 (fun b hb2 => hb b (List.mem_cons_of_mem _ hb2))).step (fun k => by rw [tendrilref19_Under.l0, if_pos (by omega), if_neg c, if_pos (by omega), if_pos hx.2])
theorem und_way (F : FF) (U : Int → Int) (y : Int) : ∀ (l : List Int) (x : Int), Way U x l → (∀ a ∈ l, F a 1 = U a) → fin F l.length x ∧ und F l.length x y = decide (y ∈ l)
  | [], x, h, _ => ⟨h, by rfl⟩
  | a :: l, x, ⟨h1, h2, h3⟩, hb => by
    subst h1
    have e := hb x (List.mem_cons_self ..)
    obtain ⟨q1, q2⟩ := und_way F U y l _ h3 (fun b hb2 => hb b (List.mem_cons_of_mem _ hb2))
    refine ⟨.inr (by rw [e]; exact q1), ?_⟩
    show (if x < 0 then false else if x = y then true else und F l.length (F x 1) y) = _
    rw [if_neg (by omega)]
    by_cases c : x = y
    · subst c; simp
    · rw [if_neg c, e, q2]
      have : ¬ y = x := fun q => c q.symm
      simp [this]
end Go.Proofs.Ytgamhkhninogeaa.Pure
