/- ranks.Sorted: its walk, and what it answers. -/
import Derived.Test.YtieomcpjakamdaaH1
namespace Go.Proofs.Ytieomcpjakamdaa.G
open Go.RowKit Go.Proofs.YtieomcpjakamdaaW.PrintWords Go.Proofs.YtieomcpjakamdaaW.PrintLast Go.Proofs.YtieomcpjakamdaaW.PrintMore Go.Proofs.Ytieomcpjakamdaa.Srt
set_option linter.unusedVariables false
set_option linter.unusedSimpArgs false

def insR {α : Type} (lt : α → α → Bool) (x : α) (acc : List α) : List α := acc.takeWhile (fun a => !lt x a) ++ x :: acc.dropWhile (fun a => !lt x a)
def isort {α : Type} (lt : α → α → Bool) (l : List α) : List α := l.foldl (fun acc x => insR lt x acc) []
theorem takeWhile_all {α : Type} (p : α → Bool) : ∀ (l : List α), ∀ a ∈ l.takeWhile p, p a = true
  | [], a, h => by cases h
  | b :: l, a, h => by
    rw [List.takeWhile_cons] at h
    split at h
    · next hb =>
      rcases List.mem_cons.1 h with rfl | h
      · exact hb
      · exact takeWhile_all p l a h
    · cases h
theorem dropWhile_head {α : Type} (p : α → Bool) : ∀ (l : List α), l.dropWhile p = [] ∨ ∃ b r, l.dropWhile p = b :: r ∧ p b = false
  | [] => .inl rfl
  | b :: l => by
    rw [List.dropWhile_cons]
    split
    · exact dropWhile_head p l
    · next hb => exact .inr ⟨b, l, rfl, by simpa using hb⟩
theorem insR_ok {α : Type} {lt : α → α → Bool} (w : Swo lt) (x : α) {acc : List α} (h : Srt lt acc) : Srt lt (insR lt x acc) ∧ Stb lt (acc ++ [x]) (insR lt x acc) := by
  have e : acc.takeWhile (fun a => !lt x a) ++ acc.dropWhile (fun a => !lt x a) = acc := List.takeWhile_append_dropWhile
  have r := inserted w (A := acc.takeWhile (fun a => !lt x a)) (B := acc.dropWhile (fun a => !lt x a)) (x := x) (by rw [e]; exact h) (fun b hb => ?_) (fun a ha => by simpa using takeWhile_all _ _ a ha)
  · rw [e] at r
    exact r
  · rcases dropWhile_head (fun a => !lt x a) acc with e1 | ⟨b0, t, e1, e2⟩
    · rw [e1] at hb; cases hb
    · have h0 : lt x b0 = true := by simpa using e2
      have hs := (List.pairwise_append.1 (show (acc.takeWhile (fun a => !lt x a) ++ acc.dropWhile (fun a => !lt x a)).Pairwise (fun a b => lt b a = false) by rw [e]; exact h)).2.1
      rw [e1] at hs hb
      rcases List.mem_cons.1 hb with rfl | hb
      · exact h0
      · cases hx : lt x b with
        | true => rfl
        | false => rw [w.nt x b b0 hx ((List.pairwise_cons.1 hs).1 b hb)] at h0; cases h0
theorem isort_snoc {α : Type} (lt : α → α → Bool) (l : List α) (x : α) : isort lt (l ++ [x]) = insR lt x (isort lt l) := by
  unfold isort
  rw [List.foldl_append]
  rfl
theorem isort_ok {α : Type} {lt : α → α → Bool} (w : Swo lt) (l : List α) : ∀ n, l.length = n → Srt lt (isort lt l) ∧ Stb lt l (isort lt l) := by
  intro n
  induction n generalizing l with
  | zero => intro h; obtain rfl := List.length_eq_zero_iff.1 h; exact ⟨List.Pairwise.nil, Stb.refl _ _⟩
  | succ n ih =>
    intro h
    rcases List.eq_nil_or_concat l with rfl | ⟨l', x, rfl⟩
    · simp at h
    · obtain ⟨h1, h2⟩ := ih l' (by simpa using h)
      rw [List.concat_eq_append, isort_snoc]
      have h3 := insR_ok w x h1
      exact ⟨h3.1, (h2.app (Stb.refl lt [x])).trans h3.2⟩
theorem isort_uniq {α : Type} {lt : α → α → Bool} (w : Swo lt) {l M : List α} (h1 : Srt lt M) (h2 : Stb lt l M) : M = isort lt l := by
  obtain ⟨h3, h4⟩ := isort_ok w l _ rfl
  exact uniq w h1 h3 (fun z => (h2.fl z).trans (h4.fl z).symm)

theorem cmpI_lt (x y : Int) : decide (cmpI x y < 0) = decide (x < y) := by
  unfold cmpI
  split
  · next h => simp [h]
  · next h => split <;> simp [h]
theorem swo_by (l : List Int) : Swo (lt (fun a b => cmpI (rd l a) (rd l b))) := by
  have e : ∀ a b, lt (fun a b => cmpI (rd l a) (rd l b)) a b = decide (rd l a < rd l b) := fun a b => cmpI_lt _ _
  refine ⟨fun x => ?_, fun x y z h1 h2 => ?_, fun x y h1 => ?_⟩
  · rw [e]; simp
  · rw [e] at *; simp at *; omega
  · rw [e] at *; simp at *; omega

def iota (n : Nat) : List Int := (List.range n).map (fun (i : Nat) => (i : Int))
def byL (l : List Int) : Int → Int → Bool := lt (fun a b => cmpI (rd l a) (rd l b))
def sortedIx (l : List Int) : List Int := isort (byL l) (iota l.length)
def ranks_Sorted.f (l : List Int) : Option (List Int) := if l.length ≤ 17592186044416 then some (sortedIx l) else none

theorem iota_len (n : Nat) : (iota n).length = n := by simp [iota]
theorem iota_succ (n : Nat) : iota (n + 1) = iota n ++ [(n : Int)] := by simp [iota, List.range_succ]
theorem iota_mem (n : Nat) (x : Int) : x ∈ iota n ↔ 0 ≤ x ∧ x < n := by
  unfold iota
  rw [List.mem_map]
  constructor
  · rintro ⟨i, hi, rfl⟩
    rw [List.mem_range] at hi
    omega
  · rintro ⟨h0, h1⟩
    exact ⟨x.toNat, List.mem_range.2 (by omega), by omega⟩

set_option maxHeartbeats 4000000 in
set_option maxRecDepth 100000 in
theorem ranks_Sorted.calls (A0 : Option Addr) (c0 : Nat) (l0 : List Int) (r : List Int) (w : World) (hr0 : Kd.C (Kd.int .i64) w A0 l0.length l0) (hc0 : l0.length ≤ c0) (h : ranks_Sorted.f l0 = some r) :
    Calls Try.prog 14 #[.slice A0 l0.length c0] w fun e w' => ∃ v0_ : Value, e = .returned (v0_) ∧ Kd.R (Kd.int .i64) 3 w' w.heap.size (fun _ => True) v0_ r ∧ Below w.heap.size w w' := by
  unfold ranks_Sorted.f at h
  split at h
  case isFalse => cases h
  rename_i hl
  obtain rfl := Option.some.inj h
  clear h
  have HC := Aside0.mk hr0
  have HL := Aside0.mk hl
  clear hr0 hc0 hl
  obtain ⟨n, hn⟩ : ∃ n, l0.length = n := ⟨_, rfl⟩
  have HNL := Aside0.mk hn
  rw [hn] at HC HL ⊢
  clear hn
  go_enter Try.func14, Try.ntmps14
  go_wp2_with (first | ((with_reducible refine gate_dst (N := 1) rfl ?_); refine box_event ?hg (N := 1) ?hd (cs := #[.slice A0 n c0]) (t := 22) ?hr ?_; (case hd => rfl); (case hg => rfl); (case hr => first | (go_simp; done) | (go_simp; rfl)); intro gn hg w1 hbox hb; have B1 := Aside0.mk hb; have X1 := Aside0.mk hbox; have cn := (blk_cell hbox 0).trans rfl; clear hbox hb hg) | ((with_reducible refine gate_dst (N := 7) rfl ?_); refine Kd.R_make (Kd.int .i64) (w0 := w1) w1.heap.size 3 rfl (N := 7) rfl 22 _ _ rfl (n : Int) rfl rfl Try.underlying22 (.int .i64 0) 8 info3 rfl (by decide) (by omega) 0 (ok := fun _ => True) (okp := fun _ => True) rfl (fun _ hk => hk) trivial (by omega) (by have := HL.out; omega) (Below.refl _ _) (Nat.le_refl _) ?_; intro v2 w2 hr hb hg hnew; have R2 := Aside0.mk hr; have B2 := Aside0.mk hb; clear hr hb hg hnew; obtain ⟨A1, c1, hv⟩ := Kd.R_slice R2.out; rw [show (List.replicate ((n : Int)).toNat (0 : Int)).length = n by simp] at hv; subst hv))
  have H := Aside0.mk (show Rw w1 A1 n c1 w2 (iota 0 ++ List.replicate (n - 0) 0) from ⟨by simp [iota], by have := R2.out; simpa [iota] using this, B2.out⟩)
  clear R2 B2
  have HCN := Aside0.mk cn
  clear cn
  go_loopg [10] n (fun kq v10 W' => ∃ (j : Int) (k : Nat), v10 = .int .i64 j ∧ Aside0 (j = k ∧ k + kq = n) ∧ Aside0 (Rw w1 A1 n c1 W' (iota k ++ List.replicate (n - k) 0)))
  case atStart => exact ⟨0, 0, rfl, ⟨rfl, by omega⟩, H⟩
  case round =>
  clear H
  obtain ⟨j, k, rfl, HK, H⟩ := hrel
  cases gk with
  | zero =>
    have hjb : decide (j < (n : Int)) = false := decide_eq_false (by have := HK.out; omega)
    have HCM := Aside0.mk (show Cm w1 gn (fun x => 0 ≤ x ∧ x < l0.length) (fun a b => cmpI (rd l0 a) (rd l0 b)) from ⟨swo_by l0, fun W x y hB hx hy => by
      have h1 := Kd.C_below (Kd.C_below HC.out B1.out) hB
      have h2 := blk_below X1.out hB
      rw [← HNL.out] at h1 h2
      exact clo A0 c0 l0 gn W h1 h2 x y hx hy⟩)
    have HI := Aside0.mk (show Rw w1 A1 n c1 wr (iota n) by
      have h1 := H.out
      rw [show k = n by have := HK.out; omega] at h1
      simpa using h1)
    clear H HC HCN
    go_wp2_with (go_at_call 20; refine (sortStable w1 A1 n c1 (by have := HL.out; omega) gn _ _ HCM.out (iota n) (fun x hx => by have := (iota_mem n x).1 hx; rw [HNL.out]; exact this) _ HI.out).mono ?_; rintro e w5 ⟨rfl, M, h1, h2, hR⟩; have HM := Aside0.mk (And.intro h1 h2); have H5 := Aside0.mk hR; clear h1 h2 hR)
    go_ret
    have hM := isort_uniq (swo_by l0) HM.out.1 HM.out.2
    refine ⟨_, rfl, ?_, B1.out.trans (H5.out.b.mono B1.out.size)⟩
    have hr := Kd.R_lower H5.out.r B1.out.size
    rw [hM] at hr
    unfold sortedIx byL
    rw [HNL.out]
    exact hr
  | succ k1 =>
    have hjb : decide (j < (n : Int)) = true := decide_eq_true (by have := HK.out; omega)
    have hkn : k < n := by have := HK.out; omega
    obtain ⟨g, rfl, hg⟩ := H.out.form (by omega)
    have hj : j = (k : Int) := HK.out.1
    subst hj
    obtain ⟨cp, fp⟩ := H.out.cell k hkn 0 (by
      rw [List.getElem?_append_right (by rw [iota_len]; omega), iota_len, Nat.sub_self]
      rw [show n - k = (n - k - 1) + 1 by omega, List.replicate_succ]
      rfl)
    have p1 := eq_true hkn
    have hw1 : IntKind.i64.wrap ((k : Int) + 1) = (k : Int) + 1 := IntWalk.i64_in _ (by have := HL.out; omega)
    have H3 := Aside0.mk (show Rw w1 (some ⟨g, 0, none⟩) n c1 (wr.setCell ⟨g, k, none⟩ (.int .i64 (k : Int))) (iota (k + 1) ++ List.replicate (n - (k + 1)) 0) by
      have h1 := H.out.set (by omega) k (k : Int)
      rw [show n - k = (n - k - 1) + 1 by omega, List.replicate_succ, set_mid _ _ _ _ k (by rw [iota_len])] at h1
      rw [iota_succ, show n - (k + 1) = n - k - 1 by omega]
      simpa using h1)
    clear hkn H hg
    go_wp2_with fail
    go_roundg k1
    case measure => omega
    case rel => exact ⟨(k : Int) + 1, k + 1, rfl, ⟨by omega, by have := HK.out; omega⟩, H3⟩
end Go.Proofs.Ytieomcpjakamdaa.G
