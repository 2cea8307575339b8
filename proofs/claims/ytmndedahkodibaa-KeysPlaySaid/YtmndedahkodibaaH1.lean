/- A label's number (keys.hash): what is computed, and its walk. -/
import Derived.Test.YtmndedahkodibaaGx0
import Derived.WalkMore
import Derived.Laws.EntriesVeiled
namespace Go.Proofs.Ytmndedahkodibaa.G
open Go.RowKit Go.Proofs.YtmndedahkodibaaW.PrintWords Go.Proofs.YtmndedahkodibaaW.PrintLast Go.Proofs.YtmndedahkodibaaW.PrintMore
set_option linter.unusedVariables false
set_option linter.unusedSimpArgs false

def eat1 (h c : Int) : Int := IntKind.u64.wrap (bits BinOp.xor IntKind.u64 h (IntKind.u64.wrap c) * 1099511628211)
def hashL (s : ByteArray) : Nat → Int → Int → Int
  | 0, _, h => h
  | k + 1, i, h => hashL s k (i + 1) (eat1 h (bt s i))
def hash8 : Nat → Int → Int → Int
  | 0, _, h => h
  | k + 1, m, h => hash8 k (m / 256) (eat1 h (m % 256))

/-- A label's number. -/
def hashF (a b : ByteArray) (n : Int) : Int := bits BinOp.xor IntKind.u64 (hash8 8 (IntKind.u64.wrap n) (hashL b b.size 0 (eat1 (hashL a a.size 0 14695981039346656037) 255))) (hash8 8 (IntKind.u64.wrap n) (hashL b b.size 0 (eat1 (hashL a a.size 0 14695981039346656037) 255)) / 536870912)
theorem eat (g : Nat) (h c : Int) (w : World) (hb : w.heap[g]? = some (.cells #[.int .u64 h] 69 (0, 0))) : Calls Try.prog 49 #[.int .u8 c, .pointer (some ⟨g, 0, none⟩)] w fun e w' => e = .returned (.tuple #[]) ∧ w' = w.setCell ⟨g, 0, none⟩ (.int .u64 (eat1 h c)) := by
  have hc : w.cell? ⟨g, 0, none⟩ = some (.int .u64 h) := (blk_cell hb 0).trans rfl
  have hf := blk_frozen hb 0
  clear hb
  go_enter Try.func49, Try.ntmps49
  go_wp2_with fail
  refine bodyPost_end (results_none rfl _ _ _) rfl ?_
  exact ⟨rfl, rfl⟩

/-- The parameter in memory, and the number under way. -/
structure HS (w : World) (gk g : Nat) (a b : ByteArray) (n h : Int) (W : World) : Prop where
  bk : W.heap[gk]? = some (.cells #[.string a, .string b, .int .i64 n] 28 (0, 0))
  bh : W.heap[g]? = some (.cells #[.int .u64 h] 69 (0, 0))
  B : Below w.heap.size w W
  l1 : w.heap.size ≤ gk
  l2 : gk < g
theorem HS.put {w W : World} {gk g : Nat} {a b : ByteArray} {n h : Int} (s : HS w gk g a b n h W) (h' : Int) : HS w gk g a b n h' (W.setCell ⟨g, 0, none⟩ (.int .u64 h')) :=
  ⟨blk_far s.bk (p := ⟨g, 0, none⟩) (Nat.ne_of_lt s.l2) _, blk_put s.bh 0 _ rfl, below_set s.B (Nat.le_trans s.l1 (Nat.le_of_lt s.l2)), s.l1, s.l2⟩

set_option maxHeartbeats 4000000 in
set_option maxRecDepth 100000 in
theorem hash (a b : ByteArray) (n : Int) (w : World) (ha : a.size ≤ 140737488351232) (hb : b.size ≤ 140737488351232) : Calls Try.prog 36 #[.agg #[.string a, .string b, .int .i64 n]] w fun e w' => e = .returned (.int .u64 (hashF a b n)) ∧ Below w.heap.size w w' := by
  have HA := Aside0.mk ha
  have HB := Aside0.mk hb
  clear ha hb
  have hmf : ∀ (fn : Fn) (first cap : Array Value) (w : World), (Instr.makeFunc fn first cap).run Try.prog w = .ok (.func fn first cap) w := fun _ _ _ _ => rfl
  go_enter Try.func36, Try.ntmps36
  go_wp2_with (first | ((with_reducible refine gate_dst (N := 1) rfl ?_); refine box_event ?hg (N := 1) ?hd (cs := #[.string a, .string b, .int .i64 n]) (t := 28) ?hr ?_; (case hd => rfl); (case hg => rfl); (case hr => first | (go_simp; done) | (go_simp; rfl)); intro gl hg w1 hbox hb; have G1 := Aside0.mk hg; have X1 := Aside0.mk hbox; have B1 := Aside0.mk hb; clear hbox hb hg) | ((with_reducible refine gate_dst (N := 3) rfl ?_); refine box_event ?hg (N := 3) ?hd (cs := #[.int .u64 0]) (t := 69) ?hr ?_; (case hd => rfl); (case hg => rfl); (case hr => first | (go_simp; done) | (go_simp; rfl)); intro g hg w2 hbox hb; have G2 := Aside0.mk hg; have X2 := Aside0.mk hbox; have B2 := Aside0.mk hb; have c0 : w2.cell? ⟨g, 0, none⟩ = some (.int .u64 0) := (blk_cell hbox 0).trans rfl; have f0 := blk_frozen hbox 0; have c10 : w2.cell? ⟨gl, 0, none⟩ = some (.string a) := (blk_cell (blk_below X1.out hb) 0).trans rfl; have nlg : ¬ gl = g := (by have := blk_lt X1.out; omega); clear hbox hb hg))
  have T := Aside0.mk (show HS w gl g a b n 14695981039346656037 (w2.setCell ⟨g, 0, none⟩ (.int .u64 14695981039346656037)) from by
    have h1 := G1.out
    have h2 := G2.out
    have h3 := blk_lt X1.out
    have h4 := B1.out.size
    refine HS.put (h := 0) ⟨blk_below X1.out B2.out, X2.out, B1.out.trans (B2.out.mono h4), by omega, by omega⟩ _)
  clear c0 f0 c10 nlg X1 X2 B1 B2 G1 G2
  go_loopg [5, 13] a.size (fun kq v5 v13 W => ∃ (i h : Int), v13 = .int .i64 i ∧ Aside0 (0 ≤ i ∧ i + kq = a.size ∧ hashL a kq i h = hashL a a.size 0 14695981039346656037) ∧ Aside0 (HS w gl g a b n h W))
  case atStart => exact ⟨0, _, rfl, ⟨by omega, by omega, rfl⟩, T⟩
  case round =>
  clear T
  obtain ⟨i, h, rfl, HI, T⟩ := hrel
  have c10 : wr.cell? ⟨gl, 0, none⟩ = some (.string a) := (blk_cell T.out.bk 0).trans rfl
  by_cases hi : i < a.size
  case neg =>
    have hib : decide (i < (a.size : Int)) = false := decide_eq_false hi
    have HE := Aside0.mk (show h = hashL a a.size 0 14695981039346656037 by
      have h1 := HI.out
      obtain rfl : gk = 0 := by omega
      exact h1.2.2)
    clear HI hi
    have c11 : ∀ v, (wr.setCell ⟨g, 0, none⟩ v).cell? ⟨gl, 1, none⟩ = some (.string b) := fun v => (blk_cell (blk_far T.out.bk (p := ⟨g, 0, none⟩) (Nat.ne_of_lt T.out.l2) v) 1).trans rfl
    go_wp2_with (go_at_call 49; refine (eat g h _ wr T.out.bh).mono ?_; rintro e w3 ⟨rfl, rfl⟩)
    obtain ⟨W, hW⟩ : ∃ W, wr.setCell ⟨g, 0, none⟩ (.int .u64 (eat1 h 255)) = W := ⟨_, rfl⟩
    rw [hW]
    replace T := Aside0.mk (show HS w gl g a b n (eat1 h 255) W from hW ▸ T.out.put _)
    obtain ⟨h2, hh2⟩ : ∃ h2, eat1 h 255 = h2 := ⟨_, rfl⟩
    rw [hh2] at T
    replace HE := Aside0.mk (show h2 = eat1 (hashL a a.size 0 14695981039346656037) 255 by rw [← hh2, HE.out])
    clear hW hh2 c10 c11
    go_loopg [6, 28] b.size (fun kq v6 v28 W => ∃ (i h : Int), v28 = .int .i64 i ∧ Aside0 (0 ≤ i ∧ i + kq = b.size ∧ hashL b kq i h = hashL b b.size 0 h2) ∧ Aside0 (HS w gl g a b n h W))
    case atStart => exact ⟨0, _, rfl, ⟨by omega, by omega, rfl⟩, T⟩
    case round =>
    clear T
    obtain ⟨j, h, rfl, HI, T⟩ := hrel
    have c11 : wr.cell? ⟨gl, 1, none⟩ = some (.string b) := (blk_cell T.out.bk 1).trans rfl
    by_cases hj : j < b.size
    case neg =>
      have hib : decide (j < (b.size : Int)) = false := decide_eq_false hj
      have HE2 := Aside0.mk (show h = hashL b b.size 0 h2 by
        have h1 := HI.out
        obtain rfl : gk = 0 := by omega
        exact h1.2.2)
      clear HI hj
      have c12 : wr.cell? ⟨gl, 2, none⟩ = some (.int .i64 n) := (blk_cell T.out.bk 2).trans rfl
      go_wp2_with fail
      go_loopg [7, 8] 8 (fun kq v7 v8 W => ∃ (m i h3 : Int), v7 = .int .u64 m ∧ v8 = .int .i64 i ∧ Aside0 (0 ≤ i ∧ i + kq = 8 ∧ hash8 kq m h3 = hash8 8 (IntKind.u64.wrap n) h) ∧ Aside0 (HS w gl g a b n h3 W))
      case atStart => exact ⟨_, 0, _, rfl, rfl, ⟨by omega, by omega, rfl⟩, T⟩
      case round =>
      clear T
      obtain ⟨m, i3, h3, rfl, rfl, HI, T⟩ := hrel
      by_cases h8 : i3 < 8
      case neg =>
        have hib : decide (i3 < 8) = false := decide_eq_false h8
        have HE3 := Aside0.mk (show h3 = hash8 8 (IntKind.u64.wrap n) h by
          have h1 := HI.out
          obtain rfl : gk = 0 := by omega
          exact h1.2.2)
        have BF := Aside0.mk T.out.B
        have c0 : wr.cell? ⟨g, 0, none⟩ = some (.int .u64 h3) := (blk_cell T.out.bh 0).trans rfl
        clear HI h8 T
        go_wp2_with fail
        go_ret
        refine ⟨?_, BF.out⟩
        show Ending.returned (.int .u64 (bits BinOp.xor IntKind.u64 h3 (h3 / 536870912))) = _
        rw [HE3.out, HE2.out, HE.out]
        rfl
      obtain ⟨h0, hk, hh⟩ := HI.out
      have hib : decide (i3 < 8) = true := decide_eq_true h8
      have hwi : IntKind.i64.wrap (i3 + 1) = i3 + 1 := IntWalk.i64_in _ (by omega)
      have HH := Aside0.mk hh
      have HK := Aside0.mk hk
      clear hh hk
      go_wp2_with (go_at_call 49; refine (eat g h3 _ _ T.out.bh).mono ?_; rintro e w3 ⟨rfl, rfl⟩)
      cases gk with
      | zero => exact absurd HK.out (by omega)
      | succ k1 =>
        go_roundg k1
        case measure => omega
        case rel => exact ⟨_, i3 + 1, _, rfl, rfl, ⟨by omega, by have := HK.out; omega, by rw [← HH.out, hash8]⟩, ⟨T.out.put _⟩⟩
    obtain ⟨h0, hk, hh⟩ := HI.out
    have hib : decide (j < (b.size : Int)) = true := decide_eq_true hj
    have hi0 : decide (0 ≤ j) = true := decide_eq_true h0
    have hwi : IntKind.i64.wrap (j + 1) = j + 1 := IntWalk.i64_in _ (by have := HB.out; omega)
    have HH := Aside0.mk hh
    have HK := Aside0.mk hk
    clear hh hk
    go_wp2_with (go_at_call 49; refine (eat g h _ _ T.out.bh).mono ?_; rintro e w3 ⟨rfl, rfl⟩)
    cases gk with
    | zero => exact absurd HK.out (by omega)
    | succ k1 =>
      go_roundg k1
      case measure => omega
      case rel => exact ⟨j + 1, _, rfl, ⟨by omega, by have := HK.out; omega, by rw [← HH.out, hashL, bt_at]⟩, ⟨T.out.put _⟩⟩
  obtain ⟨h0, hk, hh⟩ := HI.out
  have hib : decide (i < (a.size : Int)) = true := decide_eq_true hi
  have hi0 : decide (0 ≤ i) = true := decide_eq_true h0
  have hwi : IntKind.i64.wrap (i + 1) = i + 1 := IntWalk.i64_in _ (by have := HA.out; omega)
  have HH := Aside0.mk hh
  have HK := Aside0.mk hk
  clear hh hk
  go_wp2_with (go_at_call 49; refine (eat g h _ wr T.out.bh).mono ?_; rintro e w3 ⟨rfl, rfl⟩)
  cases gk with
  | zero => exact absurd HK.out (by omega)
  | succ k1 =>
    go_roundg k1
    case measure => omega
    case rel => exact ⟨i + 1, _, rfl, ⟨by omega, by have := HK.out; omega, by rw [← HH.out, hashL, bt_at]⟩, ⟨T.out.put _⟩⟩
end Go.Proofs.Ytmndedahkodibaa.G
