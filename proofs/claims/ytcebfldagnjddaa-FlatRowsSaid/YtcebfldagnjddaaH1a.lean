import Derived.Test.YtcebfldagnjddaaGx3
import Derived.Maps.OwnSet
namespace Go.Proofs.Ytcebfldagnjddaa.G
open Go.RowKit Go.Proofs.YtcebfldagnjddaaW.PrintWords Go.Proofs.YtcebfldagnjddaaW.PrintLast Go.Proofs.YtcebfldagnjddaaW.PrintMore
set_option linter.unusedVariables false
set_option linter.unusedSimpArgs false
/-- What stands behind the switch: the error that is found at the node alone. -/
def visE (k : Nat) (x : S25) (depth num : Int) : Option Int :=
  if num = 4096 then some 12 else if depth > 64 then some 11 else vtree_wrong.f k x.f0 x.f1 x.f2 x.f3 x.f4
/-- .. and with the keys that were met. -/
def visX (e0 : Int) (key : List UInt8) (met : List (List UInt8)) : Int := if e0 = 0 ∧ key ∈ met then 10 else e0
theorem visX_ne {e0 : Int} (h : e0 ≠ 0) (key : List UInt8) (met : List (List UInt8)) : visX e0 key met = e0 := if_neg (fun h' => h h'.1)
/-- The visits of siblings: have all been right?, how many nodes, how deep, and the last error. -/
def vis : Nat → List S25 → Int → Int → Int → List (List UInt8) → Option (Bool × Int × Int × Int)
  | 0, _, _, _, _, _ => none
  | _ + 1, [], _, num, deep, _ => some (true, num, deep, 0)
  | k + 1, x :: xs, depth, num, deep, met => if x.f1.size ≤ 140737488351232 then ((visE k x depth num).bind fun e0 =>
    if visX e0 x.f1.data.toList met ≠ 0 then some (false, num, max deep depth, visX e0 x.f1.data.toList met)
    else (vis k x.f4 (depth + 1) (num + 1) (max deep depth) []).bind fun r =>
      if r.1 = true then vis k xs depth r.2.1 r.2.2.1 (if x.f1.data.toList = [] then met else x.f1.data.toList :: met) else some r) else none
/-- One visit. -/
def vis1 (k : Nat) (x : S25) (depth num deep : Int) (met : List (List UInt8)) : Option (Bool × Int × Int × Int) :=
  if x.f1.size ≤ 140737488351232 then ((visE k x depth num).bind fun e0 =>
    if visX e0 x.f1.data.toList met ≠ 0 then some (false, num, max deep depth, visX e0 x.f1.data.toList met)
    else vis k x.f4 (depth + 1) (num + 1) (max deep depth) []) else none
def vtree_check.f (k : Nat) (a0_0 : ByteArray) (a0_1 : ByteArray) (a0_2 : ByteArray) (l0_3 : List (S69)) (l0_4 : List (S25)) : Option (Int × Int × Int) :=
  (vis1 k ⟨a0_0, a0_1, a0_2, l0_3, l0_4⟩ 1 0 0 []).bind fun r => some r.2
theorem visE_mono (k : Nat) (x : S25) (depth num : Int) : LeO (visE k x depth num) (visE (k + 1) x depth num) := by
  unfold visE
  exact LeO.ite (LeO.refl _) (LeO.ite (LeO.refl _) (vtree_wrong.mono _ _ _ _ _ _))
theorem vis_mono (k : Nat) : ∀ xs depth num deep met, LeO (vis k xs depth num deep met) (vis (k + 1) xs depth num deep met) := by
  induction k with
  | zero => exact fun _ _ _ _ _ => LeO.none _
  | succ k ih =>
    intro xs depth num deep met; cases xs with
    | nil => exact LeO.refl _
    | cons x xs =>
      show LeO (vis (k + 1) _ _ _ _ _) (vis (k + 2) _ _ _ _ _)
      rw [vis, vis]; refine LeO.ite (LeO.bind (visE_mono _ _ _ _) (fun _ => LeO.ite (LeO.refl _) (LeO.bind (ih _ _ _ _ _) (fun _ => LeO.ite (ih _ _ _ _ _) (LeO.refl _))))) (LeO.none _)
theorem vis1_mono (k : Nat) (x : S25) (depth num deep : Int) (met : List (List UInt8)) : LeO (vis1 k x depth num deep met) (vis1 (k + 1) x depth num deep met) :=
  LeO.ite (LeO.bind (visE_mono _ _ _ _) (fun _ => LeO.ite (LeO.refl _) (vis_mono _ _ _ _ _ _))) (LeO.none _)
theorem vtree_check.mono : ∀ a0 a1 a2 a3 a4 k, LeO (vtree_check.f k a0 a1 a2 a3 a4) (vtree_check.f (k + 1) a0 a1 a2 a3 a4) := by
  intro a0 a1 a2 a3 a4 k
  exact LeO.bind (vis1_mono _ _ _ _ _ _) (fun _ => LeO.refl _)
theorem vis_cons (k : Nat) (x : S25) (xs : List S25) (depth num deep : Int) (met : List (List UInt8)) :
    vis (k + 1) (x :: xs) depth num deep met = (vis1 k x depth num deep met).bind fun r => if r.1 = true then vis k xs depth r.2.1 r.2.2.1 (if x.f1.data.toList = [] then met else x.f1.data.toList :: met) else some r := by
  rw [vis, vis1]
  split
  · rw [Option.bind_assoc]
    congr 1
    funext e0
    split
    · rfl
    · rfl
  · rfl
theorem vis_num (k : Nat) : ∀ xs depth num deep met r, vis k xs depth num deep met = some r → num ≤ 4096 → num ≤ r.2.1 ∧ r.2.1 ≤ 4096 ∧ (r.1 = true → r.2.2.2 = 0) := by
  induction k with
  | zero => intro xs depth num deep met r h; cases h
  | succ k ih =>
    intro xs depth num deep met r h hn; cases xs with
    | nil => cases h; exact ⟨Int.le_refl _, hn, fun _ => rfl⟩
    | cons x xs =>
      rw [vis] at h
      split at h
      case isFalse => cases h
      obtain ⟨e0, h0, h⟩ := Option.bind_eq_some_iff.1 h
      split at h
      · cases h; exact ⟨Int.le_refl _, hn, fun h => by cases h⟩
      · next hne =>
        have hn1 : num + 1 ≤ 4096 := by
          by_cases he : num = 4096
          · unfold visE at h0
            rw [if_pos he] at h0
            cases h0; exact absurd (by rw [visX_ne (by decide)]; decide) hne
          · omega
        obtain ⟨r1, h1, h⟩ := Option.bind_eq_some_iff.1 h; have i1 := ih _ _ _ _ _ _ h1 hn1
        split at h
        · have i2 := ih _ _ _ _ _ _ h i1.2.1
          exact ⟨by omega, i2.2⟩
        · cases h
          exact ⟨by omega, i1.2⟩
theorem vis1_num {k : Nat} {x : S25} {depth num deep : Int} {met : List (List UInt8)} {r : Bool × Int × Int × Int} (h : vis1 k x depth num deep met = some r) (hn : num ≤ 4096) (hr : r.1 = true) : num + 1 ≤ r.2.1 ∧ r.2.1 ≤ 4096 ∧ r.2.2.2 = 0 := by
  unfold vis1 at h
  split at h
  case isFalse => cases h
  obtain ⟨e0, h0, h⟩ := Option.bind_eq_some_iff.1 h
  split at h
  · cases h; cases hr
  · next hne =>
    have hn1 : num + 1 ≤ 4096 := by
      by_cases he : num = 4096
      · unfold visE at h0
        rw [if_pos he] at h0
        cases h0; exact absurd (by rw [visX_ne (by decide)]; decide) hne
      · omega
    have i1 := vis_num _ _ _ _ _ _ _ h hn1; exact ⟨i1.1, i1.2.1, i1.2.2 hr⟩
theorem drop_T25 (xs : List S25) (i : Int) (h0 : 0 ≤ i) (hi : i < xs.length) : xs.drop i.toNat = rd_T25 xs i :: xs.drop (i + 1).toNat := by
  rw [List.drop_eq_getElem_cons (by omega), show (i + 1).toNat = i.toNat + 1 by omega]
  congr 1
  unfold rd_T25
  rw [List.getD_eq_getElem?_getD, List.getElem?_eq_getElem (by omega)]
  rfl
/-- The set of keys in block m. -/
def MapIs (w : World) (m : Nat) (met : List (List UInt8)) : Prop :=
  ∃ (D : DataW Unit), w.ownsMap Try.prog 9 unitElem m met.length D ∧ ∀ s : List UInt8, Maps.has D (.string s) = decide (s ∈ met)
theorem law9 : Maps.Keyed Try.prog 9 := Maps.string_keyed Try.underlying9
theorem zero85 (w : World) : (zeroValue 85).run Try.prog w = .ok (.agg #[]) w := by kernel_rfl
theorem MapIs.made (w : World) : MapIs (w.alloc (.map #[] 0)) w.heap.size [] := ⟨.map [], World.ownsMap_made _ _ _ _, fun s => by simp; rfl⟩
theorem MapIs.put {w' : World} {m : Nat} {met : List (List UInt8)} {s : List UInt8} {D : DataW Unit} (h : ∀ s : List UInt8, Maps.has D (.string s) = decide (s ∈ met)) (hm : Maps.IsMap D) (ho : w'.ownsMap Try.prog 9 unitElem m (met.length + 1) (D.put (.string s) (.agg []))) : MapIs w' m (s :: met) := by
  refine ⟨_, ho, fun t => ?_⟩
  by_cases he : t = s
  · subst he
    rw [Maps.has_put_same hm (by simp [WideAt.IsKeyLit])]
    simp
  · rw [Maps.has_put_other (by intro h; injection h with h; exact he h), h t]
    simp [he]
end Go.Proofs.Ytcebfldagnjddaa.G
