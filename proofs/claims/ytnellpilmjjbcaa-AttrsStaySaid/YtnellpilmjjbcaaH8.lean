/- slices.IndexFunc and DeleteFunc by a name, and attrs.Without: their walks. -/
import Derived.Test.YtnellpilmjjbcaaH3
import Derived.Test.YtnellpilmjjbcaaH6a
import Derived.Laws.EntriesVeiled
namespace Go.Proofs.Ytnellpilmjjbcaa.G
open Go.RowKit Go.Proofs.YtnellpilmjjbcaaW.PrintWords Go.Proofs.YtnellpilmjjbcaaW.PrintLast Go.Proofs.YtnellpilmjjbcaaW.PrintMore
set_option linter.unusedVariables false
set_option linter.unusedSimpArgs false

def isN (n : ByteArray) (x : S45) : Bool := x.f0.toList == n.toList

set_option maxHeartbeats 4000000 in
set_option maxRecDepth 100000 in
theorem del (gn : Nat) (n : ByteArray) (x : S45) (W : World) (hn : W.heap[gn]? = some (.cells #[.string n] 9 (0, 0))) : Calls Try.prog 31 #[.agg #[.string x.f0, .string x.f1], .pointer (some ⟨gn, 0, none⟩)] W fun e w' => e = .returned (.bool (isN n x)) ∧ Below W.heap.size W w' := by
  have HN := Aside0.mk hn
  clear hn
  go_enter Try.func31, Try.ntmps31
  go_wp2_with ((with_reducible refine gate_dst (N := 2) rfl ?_); refine box_event ?hg (N := 2) ?hd (cs := #[.string x.f0, .string x.f1]) (t := 45) ?hr ?_; (case hd => rfl); (case hg => rfl); (case hr => first | (go_simp; done) | (go_simp; rfl)); intro g hg w1 hbox hb; have HB := Aside0.mk hb; have c0 : w1.cell? ⟨g, 0, none⟩ = some (.string x.f0) := (blk_cell hbox 0).trans rfl; have n0 : w1.cell? ⟨gn, 0, none⟩ = some (.string n) := (blk_cell (blk_below HN.out hb) 0).trans rfl; clear hbox hb hg)
  go_ret
  exact ⟨rfl, HB.out⟩

def idxFrom (n : ByteArray) : List S45 → Int → Int
  | [], _ => -1
  | x :: xs, i => if isN n x = true then i else idxFrom n xs (i + 1)
theorem drop_T45 (xs : List S45) (i : Int) (h0 : 0 ≤ i) (hi : i < xs.length) : xs.drop i.toNat = rd_T45 xs i :: xs.drop (i + 1).toNat := by
  have e : (i + 1).toNat = i.toNat + 1 := by omega
  rw [e, List.drop_eq_getElem_cons (by omega)]
  unfold rd_T45
  rw [List.getD_eq_getElem?_getD, List.getElem?_eq_getElem (by omega)]
  rfl

set_option maxHeartbeats 4000000 in
set_option maxRecDepth 100000 in
theorem indexF (A : Option Addr) (c : Nat) (l : List S45) (gn : Nat) (n : ByteArray) (W : World) (hC : Kd.C k45 W A l.length l) (hn : W.heap[gn]? = some (.cells #[.string n] 9 (0, 0))) (hl : l.length ≤ 140737488351232) :
    Calls Try.prog 41 #[.slice A l.length c, .func (.func 31) #[] #[.pointer (some ⟨gn, 0, none⟩)]] W fun e w' => e = .returned (.int .i64 (idxFrom n l 0)) ∧ Below W.heap.size W w' := by
  have HC := Aside0.mk hC
  have HN := Aside0.mk hn
  have HL := Aside0.mk hl
  clear hC hn hl
  go_enter Try.func41, Try.ntmps41
  go_wp2_with fail
  go_loopg [5, 8] l.length (fun kq v5 v8 W' => ∃ (i : Int), v8 = .int .i64 i ∧ Aside0 (0 ≤ i ∧ i + kq = l.length ∧ idxFrom n (l.drop i.toNat) i = idxFrom n l 0) ∧ Aside0 (Below W.heap.size W W'))
  case atStart => exact ⟨0, rfl, ⟨by omega, by omega, by simp⟩, ⟨Below.refl _ _⟩⟩
  case round =>
  obtain ⟨i, rfl, HI, HB⟩ := hrel
  by_cases hi : i < l.length
  case neg =>
    have hib : decide (i < (l.length : Int)) = false := decide_eq_false hi
    have HE := Aside0.mk (show idxFrom n l 0 = -1 by
      have h1 := HI.out
      rw [← h1.2.2, List.drop_eq_nil_of_le (by omega), idxFrom])
    clear HI hi
    go_wp2_with fail
    go_ret
    exact ⟨by rw [HE.out]; rfl, HB.out⟩
  obtain ⟨h0, hk, hh⟩ := HI.out
  have hib : decide (i < (l.length : Int)) = true := decide_eq_true hi
  have hi0 : decide (0 ≤ i) = true := decide_eq_true h0
  have hwi : IntKind.i64.wrap (i + 1) = i + 1 := IntWalk.i64_in _ (by have := HL.out; omega)
  rw [drop_T45 l i h0 hi, idxFrom] at hh
  obtain ⟨ad, eA, t0, t1⟩ := at_T45 HC.out i h0 hi
  subst eA
  obtain ⟨y, hy⟩ : ∃ y, rd_T45 l i = y := ⟨_, rfl⟩
  rw [hy] at t0 t1 hh
  replace t0 := (HB.out.cell (World.block_lt_of_cell? W _ t0)).trans t0
  replace t1 := (HB.out.cell (World.block_lt_of_cell? W _ t1)).trans t1
  have HH := Aside0.mk hh
  have HK := Aside0.mk hk
  clear hh hk HI
  by_cases hy2 : isN n y = true
  · have HE := Aside0.mk (show idxFrom n l 0 = i by rw [← HH.out, if_pos hy2])
    go_wp2_with (go_at_call 31; refine (del gn n y _ (blk_below HN.out HB.out)).mono ?_; rintro e w3 ⟨rfl, hb⟩; have HB3 := Aside0.mk (HB.out.trans (hb.mono HB.out.size)); clear hb)
    go_ret
    exact ⟨by rw [HE.out]; rfl, HB3.out⟩
  · have hy3 : isN n y = false := by simpa using hy2
    replace HH := Aside0.mk (show idxFrom n (l.drop (i + 1).toNat) (i + 1) = idxFrom n l 0 by rw [← HH.out, if_neg hy2])
    go_wp2_with (go_at_call 31; refine (del gn n y _ (blk_below HN.out HB.out)).mono ?_; rintro e w3 ⟨rfl, hb⟩; have HB3 := Aside0.mk (HB.out.trans (hb.mono HB.out.size)); clear hb)
    cases gk with
    | zero => exact absurd HK.out (by omega)
    | succ k1 =>
      go_roundg k1
      case measure => omega
      case rel => exact ⟨i + 1, rfl, ⟨by omega, by have := HK.out; omega, HH.out⟩, HB3⟩

/-- The others. -/
def keep (n : ByteArray) (l : List S45) : List S45 := l.filter (fun x => !isN n x)
theorem keep_snoc (n : ByteArray) (l : List S45) (y : S45) : keep n (l ++ [y]) = if isN n y = true then keep n l else keep n l ++ [y] := by
  unfold keep
  rw [List.filter_append]
  by_cases h : isN n y = true
  · rw [if_pos h]; simp [h]
  · rw [if_neg h]; simp [h]
theorem idx_none (n : ByteArray) (l : List S45) : ∀ i : Int, 0 ≤ i → idxFrom n l i = -1 → keep n l = l := by
  induction l with
  | nil => intro i h0 h; rfl
  | cons x l ih =>
    intro i h0 h
    rw [idxFrom] at h
    split at h
    · omega
    · next hx =>
      have := ih (i + 1) (by omega) h
      unfold keep at this ⊢
      rw [List.filter_cons, if_pos (by simpa using hx), this]
theorem idx_some (n : ByteArray) (l : List S45) : ∀ (i j : Int), 0 ≤ i → idxFrom n l i = j → j ≠ -1 → i ≤ j ∧ j < i + l.length ∧ keep n (l.take (j - i).toNat) = l.take (j - i).toNat ∧ isN n (rd_T45 l (j - i)) = true := by
  induction l with
  | nil => intro i j h0 h hj; exact absurd h.symm hj
  | cons x l ih =>
    intro i j h0 h hj
    rw [idxFrom] at h
    split at h
    · next hx =>
      subst h
      rw [Int.sub_self]
      exact ⟨by omega, by simp; omega, rfl, hx⟩
    · next hx =>
      obtain ⟨a, b, c, d⟩ := ih (i + 1) j (by omega) h hj
      have e : (j - i).toNat = (j - (i + 1)).toNat + 1 := by omega
      refine ⟨by omega, by simp; omega, ?_, ?_⟩
      · rw [e, List.take_succ_cons]
        unfold keep at c ⊢
        rw [List.filter_cons, if_pos (by simpa using hx), c]
      · unfold rd_T45 at d ⊢
        rw [e]
        simpa using d
theorem keep_le (n : ByteArray) (l : List S45) : (keep n l).length ≤ l.length := List.length_filter_le _ _

theorem run_clear2 (W : World) (g o n c : Nat) (cur : Array Value) (ty : TypeId) (hg : W.heap[g]? = some (.cells cur 45 (0, 0))) (hfit : o + n * 2 ≤ cur.size) (hn : 0 < n) :
    ∃ zs : List Value, zs.length = n * 2 ∧ (Builtin.clear_ #[22] ty #[.slice (some ⟨g, o, none⟩) n c]).run Try.prog W = .ok (.tuple #[]) (W.setRow g (cur.toList.take o ++ zs ++ cur.toList.drop (o + n * 2)).toArray) := by
  obtain ⟨zs, hz⟩ : ∃ zs, (Builtin.zeroCells (Value.agg #[.string ⟨#[]⟩, .string ⟨#[]⟩]).cells n).toList = zs := ⟨_, rfl⟩
  have hl : zs.length = n * 2 := by rw [← hz, Array.length_toList, size_zeroCells]; rfl
  have h1 : ∀ v ∈ zs, v.oneCell' = true := by
    have := fl_one (List.replicate n z45)
    have hr := Kd.reps_zeros (R := fun (x : S45) (c : List Value) => c = [.string x.f0, .string x.f1]) (z := .agg #[.string ⟨#[]⟩, .string ⟨#[]⟩]) (size := 2) (z0 := z45) rfl (by omega) rfl n
    rw [reps_fl (fun _ _ h => h) _ _ hr] at hz
    rw [← hz]
    exact this
  have hst := run_storeCells_at Try.prog g o 45 zs 0 cur W hg (by omega) h1
  have hzv : (zeroValue 45).run Try.prog W = .ok (.agg #[.string ⟨#[]⟩, .string ⟨#[]⟩]) W := by kernel_rfl
  refine ⟨zs, hl, ?_⟩
  have hn' : n ≠ 0 := by omega
  simp only [Nat.add_zero, hl] at hst
  cases n with
  | zero => exact absurd rfl hn'
  | succ n =>
    unfold Builtin.clear_
    simp [run_underlying Try.underlying22, hzv, hz, hst]
end Go.Proofs.Ytnellpilmjjbcaa.G
