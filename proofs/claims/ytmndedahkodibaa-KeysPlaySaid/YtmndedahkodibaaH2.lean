/- The table of labels in plain words; keys.place walked. -/
import Derived.Test.YtmndedahkodibaaH1
import Derived.Laws.Bits64b
import Derived.BigQuiet
namespace Go.Proofs.Ytmndedahkodibaa.G
open Go.RowKit Go.Proofs.YtmndedahkodibaaW.PrintWords Go.Proofs.YtmndedahkodibaaW.PrintLast Go.Proofs.YtmndedahkodibaaW.PrintMore
set_option linter.unusedVariables false
set_option linter.unusedSimpArgs false

theorem u64_range (x : Int) : 0 ≤ IntKind.u64.wrap x ∧ IntKind.u64.wrap x < 18446744073709551616 := by
  rw [IntKind.wrap_u64]
  omega
theorem hash8_range (k : Nat) : ∀ m h, 0 ≤ hash8 (k + 1) m h ∧ hash8 (k + 1) m h < 18446744073709551616 := by
  induction k with
  | zero => intro m h; exact u64_range _
  | succ k ih => intro m h; exact ih _ _
theorem hashF_nat (a b : ByteArray) (n : Int) : ∃ h : Nat, hashF a b n = (h : Int) ∧ h < 18446744073709551616 := by
  unfold hashF
  obtain ⟨q0, q1⟩ := hash8_range 7 (IntKind.u64.wrap n) (hashL b b.size 0 (eat1 (hashL a a.size 0 14695981039346656037) 255))
  obtain ⟨x, hx⟩ : ∃ x : Nat, hash8 8 (IntKind.u64.wrap n) (hashL b b.size 0 (eat1 (hashL a a.size 0 14695981039346656037) 255)) = (x : Int) := ⟨_, (Int.toNat_of_nonneg q0).symm⟩
  rw [hx] at q1 ⊢
  have e : (x : Int) / 536870912 = ((x / 536870912 : Nat) : Int) := by omega
  rw [e, bits_xor_u64_nat _ _ (by omega) (by omega)]
  refine ⟨_, rfl, ?_⟩
  have := Nat.xor_lt_two_pow (x := x) (y := x / 536870912) (n := 64) (by omega) (by omega)
  omega
/-- A label's number, as a natural number. -/
def hashN (k : S28) : Nat := (hashF k.f0 k.f1 k.f2).toNat
theorem hashN_eq (k : S28) : hashF k.f0 k.f1 k.f2 = (hashN k : Int) ∧ hashN k < 18446744073709551616 := by
  obtain ⟨h, e, hl⟩ := hashF_nat k.f0 k.f1 k.f2
  unfold hashN
  rw [e]
  exact ⟨rfl, hl⟩

/-- The cells of a table's places. -/
def fs : List S60 → List Value
  | [] => []
  | x :: l => .int .i64 x.f0 :: .string x.f1.f0 :: .string x.f1.f1 :: .int .i64 x.f1.f2 :: .int .i64 x.f2 :: fs l
theorem fs_len (l : List S60) : (fs l).length = l.length * 5 := by
  induction l with
  | nil => rfl
  | cons x l ih => simp [fs, ih]; omega
theorem fs_drop (l : List S60) : ∀ i : Nat, (fs l).drop (i * 5) = fs (l.drop i) := by
  induction l with
  | nil => intro i; simp [fs]
  | cons x l ih =>
    intro i
    cases i with
    | zero => simp
    | succ i =>
      rw [show (i + 1) * 5 = i * 5 + 1 + 1 + 1 + 1 + 1 by omega, fs, List.drop_succ_cons, List.drop_succ_cons, List.drop_succ_cons, List.drop_succ_cons, List.drop_succ_cons, ih, List.drop_succ_cons]
theorem fs_at (l : List S60) (i : Nat) (h : i < l.length) (j : Nat) (hj : j < 5) : (fs l)[i * 5 + j]? = [Value.int .i64 l[i].f0, .string l[i].f1.f0, .string l[i].f1.f1, .int .i64 l[i].f1.f2, .int .i64 l[i].f2][j]? := by
  rw [← List.getElem?_drop, fs_drop, List.drop_eq_getElem_cons h, fs]
  match j, hj with
  | 0, _ => rfl
  | 1, _ => rfl
  | 2, _ => rfl
  | 3, _ => rfl
  | 4, _ => rfl
def at60 (S : List S60) (i : Nat) : S60 := S.getD i z60
theorem at60_eq (S : List S60) (i : Nat) (h : i < S.length) : at60 S i = S[i] := by
  unfold at60
  rw [List.getD_eq_getElem?_getD, List.getElem?_eq_getElem h]
  rfl

/-- A table in memory: p its variable, g its places. -/
structure TW (W : World) (base p g : Nat) (S : List S60) (live used : Int) : Prop where
  bp : W.heap[p]? = some (.cells #[.slice (some ⟨g, 0, none⟩) S.length S.length, .int .i64 live, .int .i64 used] 56 (0, 0))
  bg : W.heap[g]? = some (.cells (fs S).toArray 60 (0, 0))
  hp : base ≤ p
  hg : base ≤ g
theorem TW.below {W W' : World} {base p g : Nat} {S : List S60} {live used : Int} (h : TW W base p g S live used) (hb : Below W.heap.size W W') : TW W' base p g S live used := ⟨blk_below h.bp hb, blk_below h.bg hb, h.hp, h.hg⟩
theorem TW.cell {W : World} {base p g : Nat} {S : List S60} {live used : Int} (h : TW W base p g S live used) (i : Nat) (hi : i < S.length) (j : Nat) (hj : j < 5) : W.cell? ⟨g, i * 5 + j, none⟩ = [Value.int .i64 (at60 S i).f0, .string (at60 S i).f1.f0, .string (at60 S i).f1.f1, .int .i64 (at60 S i).f1.f2, .int .i64 (at60 S i).f2][j]? := by
  rw [blk_cell h.bg, at60_eq S i hi, ← fs_at S i hi j hj]
  simp

/-- The place that has a label, or the one that it would get. -/
def plc (S : List S60) (k : S28) : Nat → Nat → Int → Option (Int × Bool)
  | 0, _, _ => none
  | f + 1, i, sp => if (at60 S i).f0 = 0 then some (if 0 ≤ sp then sp else i, false) else if (at60 S i).f0 = 1 ∧ ((at60 S i).f1.f0.toList = k.f0.toList ∧ (at60 S i).f1.f1.toList = k.f1.toList ∧ (at60 S i).f1.f2 = k.f2) then some ((i : Int), true) else plc S k f ((i + 1) % S.length) (if (at60 S i).f0 = 2 ∧ sp < 0 then i else sp)

theorem eqA28 (d : Nat) (w : World) (x0 y0 x1 y1 : ByteArray) (x2 y2 : Int) :
    (Op.equalIn (d + 2) 28 (.agg #[.string x0, .string x1, .int .i64 x2]) (.agg #[.string y0, .string y1, .int .i64 y2])).run Try.prog w = .ok (x0.toList == y0.toList && (x1.toList == y1.toList && (x2 == y2))) w := by
  refine eqA_of Try.underlying28 (by kernel_rfl) ?_
  refine eqf_cons (by rfl) (by go_simp; rfl) (by go_simp; rfl) (by go_simp) ?_
  refine eqf_cons (by rfl) (by go_simp; rfl) (by go_simp; rfl) (by go_simp) ?_
  exact eqf_last (by rfl) (by go_simp; rfl) (by go_simp; rfl) (by go_simp)
attribute [local go_sem high] eqA28
set_option maxHeartbeats 4000000 in
set_option maxRecDepth 100000 in
theorem place (f : Nat) (W : World) (base p g : Nat) (S : List S60) (live used : Int) (k : S28) (e : Nat) (r : Int × Bool) (hT : TW W base p g S live used) (hS : S.length = 2 ^ e) (he : e ≤ 40) (hr : plc S k f (hashN k % S.length) (-1) = some r) (h0 : k.f0.size ≤ 140737488351232) (h1 : k.f1.size ≤ 140737488351232) :
    Calls Try.prog 30 #[.pointer (some ⟨p, 0, none⟩), .agg #[.string k.f0, .string k.f1, .int .i64 k.f2]] W fun e w' => e = .returned (.tuple #[.int .i64 r.1, .bool r.2]) ∧ Below W.heap.size W w' := by
  have HT := Aside0.mk hT
  have HS := Aside0.mk hS
  have HE := Aside0.mk he
  have HR := Aside0.mk hr
  have H0 := Aside0.mk h0
  have H1 := Aside0.mk h1
  obtain ⟨hh1, hh2⟩ := hashN_eq k
  have HH := Aside0.mk hh1
  have HH2 := Aside0.mk hh2
  have hM : Aside0 (1 ≤ S.length ∧ S.length ≤ 1099511627776) := ⟨by rw [hS]; exact ⟨Nat.one_le_two_pow, Nat.pow_le_pow_right (by omega) he⟩⟩
  have hp0 : W.cell? ⟨p, 0, none⟩ = some (.slice (some ⟨g, 0, none⟩) S.length S.length) := (blk_cell hT.bp 0).trans rfl
  obtain ⟨mk, hmk⟩ : ∃ mk : Nat, S.length = mk + 1 := ⟨S.length - 1, by have := hM.out; omega⟩
  have HMK := Aside0.mk hmk
  have hw : wrap64 ((S.length : Int) - 1) = (mk : Int) := by have := hM.out; unfold wrap64; omega
  have hw2 : IntKind.u64.wrap (mk : Int) = (mk : Int) := by
    have := hM.out
    rw [IntKind.wrap_u64]
    omega
  have hand : ∀ x : Nat, x < 18446744073709551616 → bits BinOp.and IntKind.u64 (x : Int) (mk : Int) = ((x % S.length : Nat) : Int) := by
    intro x hx
    have e2 : mk = 2 ^ e - 1 := by omega
    rw [bits_and_u64_nat _ _ hx (by have := hM.out; omega), hS, e2, Nat.and_two_pow_sub_one_eq_mod]
  have HA := Aside0.mk hand
  have ha0 := hand (hashN k) hh2
  clear hT hS he hr h0 h1 hh1 hh2 hand hmk
  go_enter Try.func30, Try.ntmps30
  go_wp2_with (first | ((with_reducible refine gate_dst (N := 3) rfl ?_); refine box_event ?hg (N := 3) ?hd (cs := #[.string k.f0, .string k.f1, .int .i64 k.f2]) (t := 28) ?hr ?_; (case hd => rfl); (case hg => rfl); (case hr => first | (go_simp; done) | (go_simp; rfl)); intro gb hg w1 hbox hb; have G1 := Aside0.mk hg; have X1 := Aside0.mk hbox; have B1 := Aside0.mk hb; have hp0 : w1.cell? ⟨p, 0, none⟩ = some (.slice (some ⟨g, 0, none⟩) S.length S.length) := (blk_cell (HT.out.below hb).bp 0).trans rfl; have c0 : w1.cell? ⟨gb, 0, none⟩ = some (.string k.f0) := (blk_cell hbox 0).trans rfl; have c1 : w1.cell? ⟨gb, 1, none⟩ = some (.string k.f1) := (blk_cell hbox 1).trans rfl; have c2 : w1.cell? ⟨gb, 2, none⟩ = some (.int .i64 k.f2) := (blk_cell hbox 2).trans rfl; clear hbox hb hg) | (go_at_call 36; refine (hash k.f0 k.f1 k.f2 _ H0.out H1.out).mono ?_; rw [HH.out]; rintro e w2 ⟨rfl, hb⟩; have B2 := Aside0.mk hb; clear hb))
  have HB := Aside0.mk (B1.out.trans (B2.out.mono B1.out.size))
  have HX := Aside0.mk (blk_below X1.out B2.out)
  clear hp0 c0 c1 c2 B1 B2 X1
  go_loopg [7, 8, 9] f (fun kq v7 v8 v9 W' => ∃ (i : Nat) (sp : Int), v7 = .int .i64 sp ∧ v8 = .int .u64 i ∧ Aside0 (i < S.length ∧ plc S k kq i sp = some r) ∧ Aside0 (Below W.heap.size W W') ∧ Aside0 (W'.heap[gb]? = some (.cells #[.string k.f0, .string k.f1, .int .i64 k.f2] 28 (0, 0))))
  case atStart => exact ⟨hashN k % S.length, -1, rfl, rfl, ⟨Nat.mod_lt _ (by have := hM.out; omega), HR.out⟩, HB, HX⟩
  case round =>
  clear HB HX HR
  obtain ⟨i, sp, rfl, rfl, HI, HB, HX⟩ := hrel
  cases gk with
  | zero => exact absurd HI.out.2 (by simp [plc])
  | succ k1 =>
  have hil := HI.out.1
  have hplc := HI.out.2
  rw [plc] at hplc
  have TT := Aside0.mk (HT.out.below HB.out)
  have hp0 : wr.cell? ⟨p, 0, none⟩ = some (.slice (some ⟨g, 0, none⟩) S.length S.length) := (blk_cell TT.out.bp 0).trans rfl
  obtain ⟨y, hy⟩ : ∃ y, at60 S i = y := ⟨_, rfl⟩
  have t0 : wr.cell? ⟨g, i * 5, none⟩ = some (.int .i64 y.f0) := hy ▸ TT.out.cell i hil 0 (by omega)
  have t1 : wr.cell? ⟨g, i * 5 + 1, none⟩ = some (.string y.f1.f0) := hy ▸ TT.out.cell i hil 1 (by omega)
  have t2 : wr.cell? ⟨g, i * 5 + 2, none⟩ = some (.string y.f1.f1) := hy ▸ TT.out.cell i hil 2 (by omega)
  have t3 : wr.cell? ⟨g, i * 5 + 3, none⟩ = some (.int .i64 y.f1.f2) := hy ▸ TT.out.cell i hil 3 (by omega)
  have c0 : wr.cell? ⟨gb, 0, none⟩ = some (.string k.f0) := (blk_cell HX.out 0).trans rfl
  have c1 : wr.cell? ⟨gb, 1, none⟩ = some (.string k.f1) := (blk_cell HX.out 1).trans rfl
  have c2 : wr.cell? ⟨gb, 2, none⟩ = some (.int .i64 k.f2) := (blk_cell HX.out 2).trans rfl
  rw [hy] at hplc
  have HPL := Aside0.mk hplc
  have HIL := Aside0.mk hil
  have hi0 : decide ((0 : Int) ≤ (i : Int)) = true := decide_eq_true (by omega)
  have hib : decide ((i : Int) < (S.length : Int)) = true := decide_eq_true (by omega)
  have hwi : wrap64 (i : Int) = (i : Int) := by have := hM.out; unfold wrap64; omega
  have HY := Aside0.mk hy
  clear hplc hy HI
  by_cases s0 : y.f0 = 0
  · have s0b : (y.f0 == 0) = true := by simp [s0]
    by_cases hsp : 0 ≤ sp
    · have hspb : decide (0 ≤ sp) = true := decide_eq_true hsp
      have HR := Aside0.mk (show r = (sp, false) by have h := HPL.out; rw [if_pos s0, if_pos hsp] at h; exact (Option.some.inj h).symm)
      clear hsp s0
      go_wp2_with fail
      go_ret2
      exact ⟨by rw [HR.out]; rfl, HB.out⟩
    · have hspb : decide (0 ≤ sp) = false := decide_eq_false hsp
      have HR := Aside0.mk (show r = ((i : Int), false) by have h := HPL.out; rw [if_pos s0, if_neg hsp] at h; exact (Option.some.inj h).symm)
      clear hsp s0
      go_wp2_with fail
      go_ret2
      refine ⟨?_, HB.out⟩
      rw [HR.out]
      show Ending.returned (.tuple #[.int .i64 (wrap64 (i : Int)), .bool false]) = _
      rw [hwi]
  · have s0b : (y.f0 == 0) = false := by simp [s0]
    have hw1 : IntKind.u64.wrap ((i : Int) + 1) = (i : Int) + 1 := by have := hM.out; rw [IntKind.wrap_u64]; omega
    have ha1 : bits BinOp.and IntKind.u64 ((i : Int) + 1) (mk : Int) = (((i + 1) % S.length : Nat) : Int) := HA.out (i + 1) (by have := hM.out; omega)
    have HN := Aside0.mk (show (i + 1) % S.length < S.length from Nat.mod_lt _ (by have := hM.out; omega))
    obtain ⟨i1, hi1⟩ : ∃ i1, (i + 1) % S.length = i1 := ⟨_, rfl⟩
    have HPL2 := Aside0.mk (show _ from by have h := HPL.out; rw [if_neg s0, hi1] at h; exact h)
    rw [hi1] at ha1 HN
    clear hi1 HPL
    by_cases s1 : y.f0 = 1
    · have s1b : (y.f0 == 1) = true := by simp [s1]
      have s2b : (y.f0 == 2) = false := by rw [s1]; rfl
      obtain ⟨b, hb⟩ : ∃ b, (y.f1.f0.toList == k.f0.toList && (y.f1.f1.toList == k.f1.toList && (y.f1.f2 == k.f2))) = b := ⟨_, rfl⟩
      have HBB := Aside0.mk hb
      have HS1 := Aside0.mk s1
      clear s0 s1
      go_upto_region 10 with (fail)
      refine start_ (n := 14) (S := (fun w' => w'.cell? ⟨g, i * 5, none⟩ = some (.int .i64 y.f0) ∧ w'.cell? ⟨g, i * 5 + 1, none⟩ = some (.string y.f1.f0) ∧ w'.cell? ⟨g, i * 5 + 2, none⟩ = some (.string y.f1.f1) ∧ w'.cell? ⟨g, i * 5 + 3, none⟩ = some (.int .i64 y.f1.f2) ∧ w'.cell? ⟨gb, 0, none⟩ = some (.string k.f0) ∧ w'.cell? ⟨gb, 1, none⟩ = some (.string k.f1) ∧ w'.cell? ⟨gb, 2, none⟩ = some (.int .i64 k.f2))) (ds := []) #[false, false, false, false, false, false, false, false, false, false, false, false, false, false] (by kernel_rfl) rfl rfl ?_ ?_
      · exact ⟨t0, t1, t2, t3, c0, c1, c2⟩
      intro hHeld
      refine pure_ (i := 0) (N := some 43) (v := ?_) (a' := ?_) #[true, false, false, false, false, false, false, false, false, false, false, false, false, false] rfl rfl (by kernel_rfl) (fun _ _ _ h => h) (Or.inl ⟨by rfl, ?_⟩) ?_ ?_
      rotate_left
      · intro w'
        go_simp
        with_reducible rfl
      rotate_left
      · simp only [Act.put, List.setIfInBounds_toArray, List.set_cons_zero, List.set_cons_succ, i64_w, i32_w]
        rfl
      refine pure_ (i := 1) (N := some 44) (v := ?_) (a' := ?_) #[true, true, false, false, false, false, false, false, false, false, false, false, false, false] rfl rfl (by kernel_rfl) (fun _ _ _ h => h) (Or.inl ⟨by rfl, ?_⟩) ?_ ?_
      rotate_left
      · intro w'
        go_simp
        with_reducible rfl
      rotate_left
      · simp only [Act.put, List.setIfInBounds_toArray, List.set_cons_zero, List.set_cons_succ, i64_w, i32_w]
        rfl
      refine pure_ (i := 2) (N := some 45) (v := ?_) (a' := ?_) #[true, true, true, false, false, false, false, false, false, false, false, false, false, false] rfl rfl (by kernel_rfl) (fun _ _ _ h => h) (Or.inl ⟨by rfl, ?_⟩) ?_ ?_
      rotate_left
      · intro w'
        go_simp
        with_reducible rfl
      rotate_left
      · simp only [Act.put, List.setIfInBounds_toArray, List.set_cons_zero, List.set_cons_succ, i64_w, i32_w]
        rfl
      refine take_ (i := 3) (N := some 46) (v := ?_) (a' := ?_) #[true, true, true, true, false, false, false, false, false, false, false, false, false, false] rfl rfl (by kernel_rfl) (fun _ _ _ h => h) (Or.inl ⟨by rfl, ?_⟩) hHeld ?_ ?_
      rotate_left
      · rintro w' ⟨s0, s1, s2, s3, s4, s5, s6⟩
        go_simp
        with_reducible rfl
      rotate_left
      · simp only [Act.put, List.setIfInBounds_toArray, List.set_cons_zero, List.set_cons_succ, i64_w, i32_w]
        rfl
      refine pure_ (i := 4) (N := some 47) (v := ?_) (a' := ?_) #[true, true, true, true, true, false, false, false, false, false, false, false, false, false] rfl rfl (by kernel_rfl) (fun _ _ _ h => h) (Or.inl ⟨by rfl, ?_⟩) ?_ ?_
      rotate_left
      · intro w'
        go_simp
        with_reducible rfl
      rotate_left
      · simp only [Act.put, List.setIfInBounds_toArray, List.set_cons_zero, List.set_cons_succ, i64_w, i32_w]
        rfl
      refine pure_ (i := 5) (N := some 48) (v := ?_) (a' := ?_) #[true, true, true, true, true, true, false, false, false, false, false, false, false, false] rfl rfl (by kernel_rfl) (fun _ _ _ h => h) (Or.inl ⟨by rfl, ?_⟩) ?_ ?_
      rotate_left
      · intro w'
        go_simp
        with_reducible rfl
      rotate_left
      · simp only [Act.put, List.setIfInBounds_toArray, List.set_cons_zero, List.set_cons_succ, i64_w, i32_w]
        rfl
      refine pure_ (i := 6) (N := some 49) (v := ?_) (a' := ?_) #[true, true, true, true, true, true, true, false, false, false, false, false, false, false] rfl rfl (by kernel_rfl) (fun _ _ _ h => h) (Or.inl ⟨by rfl, ?_⟩) ?_ ?_
      rotate_left
      · intro w'
        go_simp
        with_reducible rfl
      rotate_left
      · simp only [Act.put, List.setIfInBounds_toArray, List.set_cons_zero, List.set_cons_succ, i64_w, i32_w]
        rfl
      refine pure_ (i := 7) (N := some 50) (v := ?_) (a' := ?_) #[true, true, true, true, true, true, true, true, false, false, false, false, false, false] rfl rfl (by kernel_rfl) (fun _ _ _ h => h) (Or.inl ⟨by rfl, ?_⟩) ?_ ?_
      rotate_left
      · intro w'
        go_simp
        with_reducible rfl
      rotate_left
      · simp only [Act.put, List.setIfInBounds_toArray, List.set_cons_zero, List.set_cons_succ, i64_w, i32_w]
        rfl
      refine pure_ (i := 8) (N := some 51) (v := ?_) (a' := ?_) #[true, true, true, true, true, true, true, true, true, false, false, false, false, false] rfl rfl (by kernel_rfl) (fun _ _ _ h => h) (Or.inl ⟨by rfl, ?_⟩) ?_ ?_
      rotate_left
      · intro w'
        go_simp
        with_reducible rfl
      rotate_left
      · simp only [Act.put, List.setIfInBounds_toArray, List.set_cons_zero, List.set_cons_succ, i64_w, i32_w]
        rfl
      refine take_ (i := 9) (N := some 52) (v := ?_) (a' := ?_) #[true, true, true, true, true, true, true, true, true, true, false, false, false, false] rfl rfl (by kernel_rfl) (fun _ _ _ h => h) (Or.inl ⟨by rfl, ?_⟩) hHeld ?_ ?_
      rotate_left
      · rintro w' ⟨s0, s1, s2, s3, s4, s5, s6⟩
        go_simp
        with_reducible rfl
      rotate_left
      · simp only [Act.put, List.setIfInBounds_toArray, List.set_cons_zero, List.set_cons_succ, i64_w, i32_w]
        rfl
      refine take_ (i := 10) (N := some 53) (v := ?_) (a' := ?_) #[true, true, true, true, true, true, true, true, true, true, true, false, false, false] rfl rfl (by kernel_rfl) (fun _ _ _ h => h) (Or.inl ⟨by rfl, ?_⟩) hHeld ?_ ?_
      rotate_left
      · rintro w' ⟨s0, s1, s2, s3, s4, s5, s6⟩
        go_simp
        with_reducible rfl
      rotate_left
      · simp only [Act.put, List.setIfInBounds_toArray, List.set_cons_zero, List.set_cons_succ, i64_w, i32_w]
        rfl
      refine pure_ (i := 11) (N := some 54) (v := ?_) (a' := ?_) #[true, true, true, true, true, true, true, true, true, true, true, true, false, false] rfl rfl (by kernel_rfl) (fun _ _ _ h => h) (Or.inl ⟨by rfl, ?_⟩) ?_ ?_
      rotate_left
      · intro w'
        go_simp
        with_reducible rfl
      rotate_left
      · simp only [Act.put, List.setIfInBounds_toArray, List.set_cons_zero, List.set_cons_succ, i64_w, i32_w]
        rfl
      refine pure_ (i := 12) (N := some 55) (v := ?_) (a' := ?_) #[true, true, true, true, true, true, true, true, true, true, true, true, true, false] rfl rfl (by kernel_rfl) (fun _ _ _ h => h) (Or.inl ⟨by rfl, ?_⟩) ?_ ?_
      rotate_left
      · intro w'
        go_simp
        with_reducible rfl
      rotate_left
      · simp only [Act.put, List.setIfInBounds_toArray, List.set_cons_zero, List.set_cons_succ, i64_w, i32_w]
        rfl
      refine pure_ (i := 13) (N := some 42) (v := ?_) (a' := ?_) #[true, true, true, true, true, true, true, true, true, true, true, true, true, true] rfl rfl (by kernel_rfl) (fun _ _ _ h => h) (Or.inl ⟨by rfl, ?_⟩) ?_ ?_
      rotate_left
      · intro w'
        go_simp
        with_reducible rfl
      rotate_left
      · simp only [Act.put, List.setIfInBounds_toArray, List.set_cons_zero, List.set_cons_succ, i64_w, i32_w]
        rfl
      refine done_ (by kernel_rfl) ?_
      have t0 : wr.drew.cell? ⟨g, i * 5, none⟩ = some (.int .i64 y.f0) := t0
      have HB' := Aside0.mk (show Below W.heap.size W wr.drew from HB.out.drew)
      have HX' := Aside0.mk (show wr.drew.heap[gb]? = some (.cells #[.string k.f0, .string k.f1, .int .i64 k.f2] 28 (0, 0)) from HX.out)
      obtain ⟨W5, hW5⟩ : ∃ W5, wr.drew = W5 := ⟨_, rfl⟩
      rw [hW5] at t0 HB' HX' ⊢
      clear t1 t2 t3 c0 c1 c2 HB HX hW5
      cases b with
      | true =>
        have HR := Aside0.mk (show r = ((i : Int), true) by
          have h := HPL2.out
          have h2 := HBB.out
          simp only [Bool.and_eq_true, beq_iff_eq] at h2
          rw [if_pos ⟨HS1.out, h2⟩] at h
          exact (Option.some.inj h).symm)
        clear HPL2 HBB
        go_wp2_with fail
        go_ret2
        refine ⟨?_, HB'.out⟩
        rw [HR.out]
        show Ending.returned (.tuple #[.int .i64 (wrap64 (i : Int)), .bool true]) = _
        rw [hwi]
      | false =>
        have HP3 := Aside0.mk (show plc S k k1 i1 sp = some r by
          have h := HPL2.out
          have h2 := HBB.out
          rw [if_neg (fun q => by rw [q.2.1, q.2.2.1, q.2.2.2] at h2; simp at h2), if_neg (fun q => by rw [HS1.out] at q; exact absurd q.1 (by decide))] at h
          exact h)
        clear HPL2 HBB
        go_wp2_with fail
        go_roundg k1
        case rel => exact ⟨i1, sp, rfl, rfl, ⟨HN.out, HP3.out⟩, HB', HX'⟩
        case measure => omega
    · have s1b : (y.f0 == 1) = false := by simp [s1]
      have HP3 := Aside0.mk (show plc S k k1 i1 (if y.f0 = 2 ∧ sp < 0 then i else sp) = some r by
          have h := HPL2.out
          rw [if_neg (fun q => s1 q.1)] at h
          exact h)
      clear HPL2 s0 s1
      go_upto_region 10 with (fail)
      refine start_ (n := 14) (S := (fun w' => w'.cell? ⟨g, i * 5, none⟩ = some (.int .i64 y.f0) ∧ w'.cell? ⟨g, i * 5 + 1, none⟩ = some (.string y.f1.f0) ∧ w'.cell? ⟨g, i * 5 + 2, none⟩ = some (.string y.f1.f1) ∧ w'.cell? ⟨g, i * 5 + 3, none⟩ = some (.int .i64 y.f1.f2) ∧ w'.cell? ⟨gb, 0, none⟩ = some (.string k.f0) ∧ w'.cell? ⟨gb, 1, none⟩ = some (.string k.f1) ∧ w'.cell? ⟨gb, 2, none⟩ = some (.int .i64 k.f2))) (ds := []) #[false, false, false, false, false, false, false, false, false, false, false, false, false, false] (by kernel_rfl) rfl rfl ?_ ?_
      · exact ⟨t0, t1, t2, t3, c0, c1, c2⟩
      intro hHeld
      refine pure_ (i := 0) (N := some 43) (v := ?_) (a' := ?_) #[true, false, false, false, false, false, false, false, false, false, false, false, false, false] rfl rfl (by kernel_rfl) (fun _ _ _ h => h) (Or.inl ⟨by rfl, ?_⟩) ?_ ?_
      rotate_left
      · intro w'
        go_simp
        with_reducible rfl
      rotate_left
      · simp only [Act.put, List.setIfInBounds_toArray, List.set_cons_zero, List.set_cons_succ, i64_w, i32_w]
        rfl
      refine pure_ (i := 1) (N := some 44) (v := ?_) (a' := ?_) #[true, true, false, false, false, false, false, false, false, false, false, false, false, false] rfl rfl (by kernel_rfl) (fun _ _ _ h => h) (Or.inl ⟨by rfl, ?_⟩) ?_ ?_
      rotate_left
      · intro w'
        go_simp
        with_reducible rfl
      rotate_left
      · simp only [Act.put, List.setIfInBounds_toArray, List.set_cons_zero, List.set_cons_succ, i64_w, i32_w]
        rfl
      refine pure_ (i := 2) (N := some 45) (v := ?_) (a' := ?_) #[true, true, true, false, false, false, false, false, false, false, false, false, false, false] rfl rfl (by kernel_rfl) (fun _ _ _ h => h) (Or.inl ⟨by rfl, ?_⟩) ?_ ?_
      rotate_left
      · intro w'
        go_simp
        with_reducible rfl
      rotate_left
      · simp only [Act.put, List.setIfInBounds_toArray, List.set_cons_zero, List.set_cons_succ, i64_w, i32_w]
        rfl
      refine take_ (i := 3) (N := some 46) (v := ?_) (a' := ?_) #[true, true, true, true, false, false, false, false, false, false, false, false, false, false] rfl rfl (by kernel_rfl) (fun _ _ _ h => h) (Or.inl ⟨by rfl, ?_⟩) hHeld ?_ ?_
      rotate_left
      · rintro w' ⟨s0, s1, s2, s3, s4, s5, s6⟩
        go_simp
        with_reducible rfl
      rotate_left
      · simp only [Act.put, List.setIfInBounds_toArray, List.set_cons_zero, List.set_cons_succ, i64_w, i32_w]
        rfl
      refine pure_ (i := 4) (N := some 47) (v := ?_) (a' := ?_) #[true, true, true, true, true, false, false, false, false, false, false, false, false, false] rfl rfl (by kernel_rfl) (fun _ _ _ h => h) (Or.inl ⟨by rfl, ?_⟩) ?_ ?_
      rotate_left
      · intro w'
        go_simp
        with_reducible rfl
      rotate_left
      · simp only [Act.put, List.setIfInBounds_toArray, List.set_cons_zero, List.set_cons_succ, i64_w, i32_w]
        rfl
      refine pure_ (i := 5) (N := some 48) (v := ?_) (a' := ?_) #[true, true, true, true, true, true, false, false, false, false, false, false, false, false] rfl rfl (by kernel_rfl) (fun _ _ _ h => h) (Or.inl ⟨by rfl, ?_⟩) ?_ ?_
      rotate_left
      · intro w'
        go_simp
        with_reducible rfl
      rotate_left
      · simp only [Act.put, List.setIfInBounds_toArray, List.set_cons_zero, List.set_cons_succ, i64_w, i32_w]
        rfl
      refine pure_ (i := 6) (N := some 49) (v := undef) (a' := ?_) #[true, true, true, true, true, true, true, false, false, false, false, false, false, false] rfl rfl (by kernel_rfl) (fun _ _ _ h => h) (Or.inr ⟨by rfl, rfl⟩) ?_ ?_
      rotate_left
      · simp only [Act.put, List.setIfInBounds_toArray, List.set_cons_zero, List.set_cons_succ, i64_w, i32_w]
        rfl
      refine pure_ (i := 7) (N := some 50) (v := undef) (a' := ?_) #[true, true, true, true, true, true, true, true, false, false, false, false, false, false] rfl rfl (by kernel_rfl) (fun _ _ _ h => h) (Or.inr ⟨by rfl, rfl⟩) ?_ ?_
      rotate_left
      · simp only [Act.put, List.setIfInBounds_toArray, List.set_cons_zero, List.set_cons_succ, i64_w, i32_w]
        rfl
      refine pure_ (i := 8) (N := some 51) (v := undef) (a' := ?_) #[true, true, true, true, true, true, true, true, true, false, false, false, false, false] rfl rfl (by kernel_rfl) (fun _ _ _ h => h) (Or.inr ⟨by rfl, rfl⟩) ?_ ?_
      rotate_left
      · simp only [Act.put, List.setIfInBounds_toArray, List.set_cons_zero, List.set_cons_succ, i64_w, i32_w]
        rfl
      refine pure_ (i := 9) (N := some 52) (v := undef) (a' := ?_) #[true, true, true, true, true, true, true, true, true, true, false, false, false, false] rfl rfl (by kernel_rfl) (fun _ _ _ h => h) (Or.inr ⟨by rfl, rfl⟩) ?_ ?_
      rotate_left
      · simp only [Act.put, List.setIfInBounds_toArray, List.set_cons_zero, List.set_cons_succ, i64_w, i32_w]
        rfl
      refine pure_ (i := 10) (N := some 53) (v := undef) (a' := ?_) #[true, true, true, true, true, true, true, true, true, true, true, false, false, false] rfl rfl (by kernel_rfl) (fun _ _ _ h => h) (Or.inr ⟨by rfl, rfl⟩) ?_ ?_
      rotate_left
      · simp only [Act.put, List.setIfInBounds_toArray, List.set_cons_zero, List.set_cons_succ, i64_w, i32_w]
        rfl
      refine pure_ (i := 11) (N := some 54) (v := undef) (a' := ?_) #[true, true, true, true, true, true, true, true, true, true, true, true, false, false] rfl rfl (by kernel_rfl) (fun _ _ _ h => h) (Or.inr ⟨by rfl, rfl⟩) ?_ ?_
      rotate_left
      · simp only [Act.put, List.setIfInBounds_toArray, List.set_cons_zero, List.set_cons_succ, i64_w, i32_w]
        rfl
      refine pure_ (i := 12) (N := some 55) (v := ?_) (a' := ?_) #[true, true, true, true, true, true, true, true, true, true, true, true, true, false] rfl rfl (by kernel_rfl) (fun _ _ _ h => h) (Or.inl ⟨by rfl, ?_⟩) ?_ ?_
      rotate_left
      · intro w'
        go_simp
        with_reducible rfl
      rotate_left
      · simp only [Act.put, List.setIfInBounds_toArray, List.set_cons_zero, List.set_cons_succ, i64_w, i32_w]
        rfl
      refine pure_ (i := 13) (N := some 42) (v := ?_) (a' := ?_) #[true, true, true, true, true, true, true, true, true, true, true, true, true, true] rfl rfl (by kernel_rfl) (fun _ _ _ h => h) (Or.inl ⟨by rfl, ?_⟩) ?_ ?_
      rotate_left
      · intro w'
        go_simp
        with_reducible rfl
      rotate_left
      · simp only [Act.put, List.setIfInBounds_toArray, List.set_cons_zero, List.set_cons_succ, i64_w, i32_w]
        rfl
      refine done_ (by kernel_rfl) ?_
      have t0 : wr.drew.cell? ⟨g, i * 5, none⟩ = some (.int .i64 y.f0) := t0
      have HB' := Aside0.mk (show Below W.heap.size W wr.drew from HB.out.drew)
      have HX' := Aside0.mk (show wr.drew.heap[gb]? = some (.cells #[.string k.f0, .string k.f1, .int .i64 k.f2] 28 (0, 0)) from HX.out)
      obtain ⟨W5, hW5⟩ : ∃ W5, wr.drew = W5 := ⟨_, rfl⟩
      rw [hW5] at t0 HB' HX' ⊢
      clear t1 t2 t3 c0 c1 c2 HB HX hW5
      by_cases s2 : y.f0 = 2
      · have s2b : (y.f0 == 2) = true := by simp [s2]
        by_cases hsp : sp < 0
        · have hspb : decide (sp < 0) = true := decide_eq_true hsp
          have HP4 := Aside0.mk (show plc S k k1 i1 (i : Int) = some r by have h := HP3.out; rw [if_pos ⟨s2, hsp⟩] at h; exact h)
          clear HP3 s2 hsp
          go_wp2_with fail
          go_roundg k1
          case rel => exact ⟨i1, (i : Int), by rw [hwi], rfl, ⟨HN.out, HP4.out⟩, HB', HX'⟩
          case measure => omega
        · have hspb : decide (sp < 0) = false := decide_eq_false hsp
          have HP4 := Aside0.mk (show plc S k k1 i1 sp = some r by have h := HP3.out; rw [if_neg (fun q => hsp q.2)] at h; exact h)
          clear HP3 s2 hsp
          go_wp2_with fail
          go_roundg k1
          case rel => exact ⟨i1, sp, rfl, rfl, ⟨HN.out, HP4.out⟩, HB', HX'⟩
          case measure => omega
      · have s2b : (y.f0 == 2) = false := by simp [s2]
        have HP4 := Aside0.mk (show plc S k k1 i1 sp = some r by have h := HP3.out; rw [if_neg (fun q => s2 q.1)] at h; exact h)
        clear HP3 s2
        go_wp2_with fail
        go_roundg k1
        case rel => exact ⟨i1, sp, rfl, rfl, ⟨HN.out, HP4.out⟩, HB', HX'⟩
        case measure => omega
end Go.Proofs.Ytmndedahkodibaa.G
