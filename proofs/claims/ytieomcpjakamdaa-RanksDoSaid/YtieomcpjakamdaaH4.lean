/- ranks.Do, at texts: its walk. -/
import Derived.Test.YtieomcpjakamdaaGx1
import Derived.Laws.MakeOwn
namespace Go.Proofs.Ytieomcpjakamdaa.G
open Go.RowKit Go.Proofs.YtieomcpjakamdaaW.PrintWords Go.Proofs.YtieomcpjakamdaaW.PrintLast Go.Proofs.YtieomcpjakamdaaW.PrintMore
set_option linter.unusedVariables false
set_option linter.unusedSimpArgs false

theorem info9 : (Try.prog.info? 9).map (fun i => (i.zero, i.size, i.bytes)) = some (some (.string ⟨#[]⟩), 1, 16) := by kernel_rfl
def rdS (l : List ByteArray) (i : Int) : ByteArray := rdOf ByteArray.empty l i
def putIn (p : List Int) (l : List ByteArray) : List ByteArray := p.map (rdS l)
def ranks_Do_string.f (k : Nat) (p : List Int) (l : List ByteArray) : Option (List ByteArray) :=
  if p.length = l.length then (ranks_Is.f k p).bind fun b => if b = true then (if p.length ≤ 1048576 ∧ ∀ x ∈ p, 0 ≤ x ∧ x < l.length then some (putIn p l) else none) else some [] else some []
theorem ranks_Do_string.mono : ∀ a0 a1 k, LeO (ranks_Do_string.f k a0 a1) (ranks_Do_string.f (k + 1) a0 a1) := by
  intro p l k
  unfold ranks_Do_string.f
  split
  · exact LeO.bind (ranks_Is.mono p k) (fun _ => LeO.refl _)
  · exact LeO.refl _
theorem takeR (p : List Int) (k : Nat) (x : Int) (h : p[k]? = some x) (l : List ByteArray) : putIn (p.take (k + 1)) l = putIn (p.take k) l ++ [rdS l x] := by
  unfold putIn
  rw [List.take_add_one, h]
  simp

set_option maxHeartbeats 4000000 in
set_option maxRecDepth 100000 in
theorem ranks_Do_string.calls (k : Nat) (A0 : Option Addr) (c0 : Nat) (l0 : List Int) (A1 : Option Addr) (c1 : Nat) (l1 : List ByteArray) (r : List ByteArray) (w : World) (hr0 : Kd.C (Kd.int .i64) w A0 l0.length l0) (hc0 : l0.length ≤ c0) (hr1 : Kd.C Kd.string w A1 l1.length l1) (hc1 : l1.length ≤ c1) (h : ranks_Do_string.f k l0 l1 = some r) :
    Calls Try.prog 18 #[.slice A0 l0.length c0, .slice A1 l1.length c1] w fun e w' => ∃ v0_ : Value, e = .returned (v0_) ∧ Kd.R Kd.string 9 w' w.heap.size (fun _ => True) v0_ r ∧ Below w.heap.size w w' := by
  unfold ranks_Do_string.f at h
  have HR0 := Aside0.mk hr0
  have HR1 := Aside0.mk hr1
  have HC0 := Aside0.mk hc0
  clear hr0 hr1 hc0 hc1
  by_cases hl : l0.length = l1.length
  case neg =>
    rw [if_neg hl] at h
    obtain rfl := Option.some.inj h
    have hb : ((l0.length : Int) != (l1.length : Int)) = true := by simp; omega
    have hb2 : (l0.length != l1.length) = true := by simp; omega
    have hb3 : ((l0.length : Int) == (l1.length : Int)) = false := by simp; omega
    clear h hl
    obtain ⟨n0, hn0⟩ : ∃ n, l0.length = n := ⟨_, rfl⟩
    obtain ⟨n1, hn1⟩ : ∃ n, l1.length = n := ⟨_, rfl⟩
    rw [hn0, hn1] at hb hb2 hb3 ⊢
    clear hn0 hn1
    go_enter Try.func18, Try.ntmps18
    go_wp2_with fail
    go_ret
    exact ⟨_, rfl, Kd.R_nil _ _ _ _ _, Below.refl _ _⟩
  rw [if_pos hl] at h
  obtain ⟨b, hb, h⟩ := Option.bind_eq_some_iff.1 h
  obtain ⟨n, hn⟩ : ∃ n, l0.length = n := ⟨_, rfl⟩
  have hn1 : l1.length = n := by omega
  have HN := Aside0.mk (And.intro hn hn1)
  have HIS := Aside0.mk (show ∀ W, Kd.C (Kd.int .i64) W A0 l0.length l0 → Calls Try.prog 8 #[.slice A0 n c0] W fun e w' => e = .returned (.bool b) ∧ Below W.heap.size W w' from fun W hW => by
    have := ranks_Is.calls k A0 c0 l0 b W hW HC0.out hb
    rw [hn] at this
    exact this)
  have hnb : ((n : Int) != (n : Int)) = false := by simp
  rw [hn, hn1]
  clear hl hb hn hn1
  cases b with
  | false =>
    rw [if_neg (by decide)] at h
    obtain rfl := Option.some.inj h
    clear h
    go_enter Try.func18, Try.ntmps18
    go_wp2_with (go_at_call 8; refine (HIS.out w HR0.out).mono ?_; rintro e w3 ⟨rfl, hb⟩; have B3 := Aside0.mk hb; clear hb)
    go_ret
    exact ⟨_, rfl, Kd.R_nil _ _ _ _ _, B3.out⟩
  | true =>
    rw [if_pos rfl] at h
    split at h
    case isFalse => cases h
    rename_i hok
    obtain rfl := Option.some.inj h
    have HOK := Aside0.mk hok
    have HNB := Aside0.mk (show n ≤ 1048576 by rw [← HN.out.1]; exact hok.1)
    clear h hok
    obtain ⟨i9, hi9, hzz⟩ := Option.map_eq_some_iff.1 info9
    simp only [Prod.mk.injEq] at hzz
    have HI := Aside0.mk (And.intro hi9 hzz)
    clear hi9 hzz
    go_enter Try.func18, Try.ntmps18
    go_upto_region 3 with (go_at_call 8; refine (HIS.out w HR0.out).mono ?_; rintro e w3 ⟨rfl, hb⟩; have B3 := Aside0.mk hb; clear hb)
    have hmk := run_make (P := Try.prog) w3 28 9 i9 (.string ⟨#[]⟩) Try.underlying28 HI.out.1 HI.out.2.1 .i64 .i64 0 (n : Int) (by omega) (by omega) (by rw [HI.out.2.2.2]; have := HNB.out; omega) (by have := HNB.out; omega)
    go_wp2_with fail
    obtain ⟨W4, hW4⟩ : ∃ W4, w3.alloc (.cells (madeCells #[.string ⟨#[]⟩] (n * i9.size)) 9) = W4 := ⟨_, rfl⟩
    rw [hW4]
    have B4 := Aside0.mk (show Below w.heap.size w W4 from hW4 ▸ below_alloc B3.out _)
    have R4 := Aside0.mk (show Kd.R Kd.string 9 W4 w.heap.size (fun _ => True) (.slice (some ⟨w3.heap.size, 0, none⟩) 0 n) (putIn (l0.take 0) l1) from
      ⟨fun _ _ => trivial, [], ⟨by simp [putIn], .inr ⟨w3.heap.size, n, _, rfl, B3.out.size, by rw [← hW4]; exact blk_new w3 _, by simp [putIn], by have := HNB.out; unfold maxLen; omega, by rw [size_madeCells, HI.out.2.2.1]; rfl, by simp [putIn]⟩⟩, by simp [Reps, putIn]⟩)
    clear hW4 B3 hmk HIS hnb
    obtain ⟨v0, hv0⟩ : ∃ v, Value.slice (some ⟨w3.heap.size, 0, none⟩) 0 n = v := ⟨_, rfl⟩
    rw [hv0] at R4 ⊢
    clear hv0
    go_loopg [5, 23] n (fun kq v5 v23 W' => ∃ (j : Int) (k : Nat), v23 = .int .i64 j ∧ Aside0 (j = k ∧ k + kq = n) ∧ Aside0 (Kd.R Kd.string 9 W' w.heap.size (fun _ => True) v5 (putIn (l0.take k) l1)) ∧ Aside0 (Below w.heap.size w W'))
    case atStart => exact ⟨0, 0, rfl, ⟨rfl, by omega⟩, R4, B4⟩
    case round =>
    clear R4 B4
    obtain ⟨j, k, rfl, HK, HR, HB⟩ := hrel
    cases gk with
    | zero =>
      have hjb : decide (j < (n : Int)) = false := decide_eq_false (by have := HK.out; omega)
      go_wp2_with fail
      go_ret
      have h1 := HR.out
      rw [List.take_of_length_le (by have := HK.out; have := HN.out; omega)] at h1
      exact ⟨_, rfl, h1, HB.out⟩
    | succ k1 =>
      have hjb : decide (j < (n : Int)) = true := decide_eq_true (by have := HK.out; omega)
      have hj0 : decide (0 ≤ j) = true := decide_eq_true (by have := HK.out; omega)
      have p0 := eq_true (show 0 ≤ j by have := HK.out; omega)
      have p1 := eq_true (show j < (n : Int) by have := HK.out; omega)
      have hw1 : IntKind.i64.wrap (j + 1) = j + 1 := IntWalk.i64_in _ (by have := HK.out; have := HNB.out; omega)
      obtain ⟨x, hx⟩ : ∃ x, l0[k]? = some x := ⟨_, List.getElem?_eq_getElem (by have := HK.out; have := HN.out; omega)⟩
      have HX := Aside0.mk hx
      obtain ⟨ad, rfl, ca⟩ := Kd.at_int HR0.out j (by have := HK.out; omega) (by have := HK.out; have := HN.out; omega)
      have hrd : rd l0 j = x := by
        unfold rd
        rw [show j.toNat = k by have := HK.out; omega, List.getD_eq_getElem?_getD, hx]
        rfl
      rw [hrd] at ca
      have hxr := HOK.out.2 x (List.mem_of_getElem? hx)
      rw [HN.out.2] at hxr
      have q0 := eq_true hxr.1
      have q1 := eq_true hxr.2
      obtain ⟨ad2, rfl, cb⟩ := Kd.at_string HR1.out x hxr.1 (by rw [HN.out.2]; exact hxr.2)
      obtain ⟨s, hs⟩ : ∃ s, rdOf ByteArray.empty l1 x = s := ⟨_, rfl⟩
      rw [hs] at cb
      have HS := Aside0.mk hs
      replace ca := (HB.out.cell (World.block_lt_of_cell? w _ ca)).trans ca
      replace cb := (HB.out.cell (World.block_lt_of_cell? w _ cb)).trans cb
      have HLK := Aside0.mk (show (putIn (l0.take k) l1).length ≤ n by unfold putIn; rw [List.length_map, List.length_take]; have := HN.out; omega)
      clear hx hrd hxr hs
      go_wp2_with (refine Kd.R_append Kd.string (w0 := w) w.heap.size rfl (.tmp 27) (.tmp 32) 28 9 (.string ⟨#[]⟩) 16 rfl Try.underlying28 info9 rfl (by decide) (by omega) u5 (putIn (l0.take k) l1) s [.string s] (fun _ => True) (fun _ => False) rfl rfl rfl (fun _ hk => hk.elim) (fun _ _ => trivial) HR.out HB.out HB.out.size (by have := HLK.out; have := HNB.out; omega) ?_; intro v9 w9 ho hb hg hat; have R9 := Aside0.mk ho; have B9 := Aside0.mk hb; clear ho hb hg hat)
      go_roundg k1
      case measure => omega
      case rel => exact ⟨j + 1, k + 1, rfl, ⟨by have := HK.out; omega, by have := HK.out; omega⟩, ⟨by rw [takeR l0 k x HX.out l1]; unfold rdS; rw [HS.out]; exact R9.out⟩, B9⟩
end Go.Proofs.Ytieomcpjakamdaa.G
