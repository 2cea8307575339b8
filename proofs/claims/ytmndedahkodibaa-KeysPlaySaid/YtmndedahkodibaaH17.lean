/- All the labels of an index, rising (keys.Index.All): the walk. -/
import Derived.Test.YtmndedahkodibaaH16
namespace Go.Proofs.Ytmndedahkodibaa.G
open Go.RowKit Go.Proofs.YtmndedahkodibaaW.PrintWords Go.Proofs.YtmndedahkodibaaW.PrintLast Go.Proofs.YtmndedahkodibaaW.PrintMore
open Go.Proofs.Ytmndedahkodibaa.Pure (lt Lt Lt_tri Lt_irrefl Lt_trans less_prog less_ref)
set_option linter.unusedVariables false
set_option linter.unusedSimpArgs false

theorem info28 : (Try.prog.info? 28).map (fun i => (i.zero, i.size, i.bytes)) = some (some (.agg #[(.string ⟨#[]⟩), (.string ⟨#[]⟩), (.int .i64 0)]), 3, 40) := by kernel_rfl
/-- The labels of the slots ahead of one. -/
def keysT (S : List S60) : Nat → List S28
  | 0 => []
  | i + 1 => if (at60 S i).f0 = 1 then keysT S i ++ [(at60 S i).f1] else keysT S i
theorem keysT_len (S : List S60) : ∀ i, i ≤ S.length → (keysT S i).length = cnt S i
  | 0, _ => rfl
  | i + 1, h => by
    unfold keysT
    rw [cnt_step S i (by omega)]
    by_cases c : (at60 S i).f0 = 1
    · rw [if_pos c, if_pos c, List.length_append, keysT_len S i (by omega), List.length_singleton]
    · rw [if_neg c, if_neg c, keysT_len S i (by omega), Nat.add_zero]
theorem keysT_mem (S : List S60) (k : S28) : ∀ i, k ∈ keysT S i ↔ ∃ j, j < i ∧ (at60 S j).f0 = 1 ∧ (at60 S j).f1 = k
  | 0 => by simp [keysT]
  | i + 1 => by
    have ih := keysT_mem S k i
    unfold keysT
    by_cases c : (at60 S i).f0 = 1
    · rw [if_pos c, List.mem_append, ih, List.mem_singleton]
      constructor
      · rintro (⟨j, h, h1, h2⟩ | h)
        · exact ⟨j, by omega, h1, h2⟩
        · exact ⟨i, by omega, c, h.symm⟩
      · rintro ⟨j, h, h1, h2⟩
        by_cases e : j = i
        · subst e; exact .inr h2.symm
        · exact .inl ⟨j, by omega, h1, h2⟩
    · rw [if_neg c, ih]
      constructor
      · rintro ⟨j, h, h1, h2⟩; exact ⟨j, by omega, h1, h2⟩
      · rintro ⟨j, h, h1, h2⟩
        by_cases e : j = i
        · subst e; exact absurd h1 c
        · exact ⟨j, by omega, h1, h2⟩
theorem keysT_nodup {S : List S60} {live used : Nat} {D : S28 → Option Int} (ok : OK S live used D) : ∀ i, i ≤ S.length → (keysT S i).Nodup
  | 0, _ => List.nodup_nil
  | i + 1, h => by
    have ih := keysT_nodup ok i (by omega)
    unfold keysT
    by_cases c : (at60 S i).f0 = 1
    · rw [if_pos c, List.nodup_append]
      refine ⟨ih, by simp, ?_⟩
      intro a ha b hb e
      rw [List.mem_singleton] at hb
      obtain ⟨j, hj, h1, h2⟩ := (keysT_mem S a i).1 ha
      have := ok.un j i (by omega) (by omega) h1 c (by rw [h2, e, hb])
      omega
    · rw [if_neg c]; exact ih
theorem keysT_all {S : List S60} {live used : Nat} {D : S28 → Option Int} (ok : OK S live used D) (k : S28) : k ∈ keysT S S.length ↔ D k ≠ none := by
  rw [keysT_mem]
  constructor
  · rintro ⟨j, h, h1, h2⟩
    rw [(ok.dd k _).2 ⟨j, h, h1, h2, rfl⟩]
    exact fun e => by cases e
  · intro h
    obtain ⟨v, hv⟩ := Option.ne_none_iff_exists'.1 h
    obtain ⟨j, h0, h1, h2, _⟩ := (ok.dd k v).1 hv
    exact ⟨j, h0, h1, h2⟩

set_option maxHeartbeats 4000000 in
set_option maxRecDepth 100000 in
theorem All_walk (W : World) (base p n : Nat) (D : S28 → Option Int) (hnb : n ≤ 1073741824) (h : IX W base p n D) :
    Calls Try.prog 21 #[.pointer (some ⟨p, 0, none⟩)] W fun e w' => ∃ A c L, e = .returned (.slice A L.length c) ∧ Below W.heap.size W w' ∧ Kd.C k28 w' A L.length L ∧ L.Nodup ∧ (∀ k, k ∈ L ↔ D k ≠ none) ∧ L.Pairwise (fun a b => ¬ Lt b a) ∧ L.length = n := by
  obtain ⟨g, S, used, h⟩ := h
  have HT := Aside0.mk h
  have HN := Aside0.mk hnb
  have SL := Aside0.mk h.ok.len.2
  have hp0 : W.cell? ⟨p, 0, none⟩ = some (.slice (some ⟨g, 0, none⟩) S.length S.length) := (blk_cell h.tw.bp 0).trans rfl
  clear h hnb
  go_enter Try.func21, Try.ntmps21
  go_wp2_with fail
  go_loopg [3, 15] S.length (fun kq v3 v15 w => ∃ i : Nat, v15 = .int .i64 (i : Int) ∧ Aside0 (i + kq = S.length) ∧ Aside0 (Below W.heap.size W w) ∧ Aside0 (Kd.R k28 28 w W.heap.size (fun _ => True) v3 (keysT S i)))
  case atStart => exact ⟨0, rfl, ⟨by omega⟩, ⟨Below.refl _ W⟩, ⟨Kd.R_nil _ _ _ _ _⟩⟩
  case round =>
  obtain ⟨i, rfl, HI, HB, HR⟩ := hrel
  obtain ⟨v, hv⟩ : ∃ v, u3 = v := ⟨_, rfl⟩
  subst hv
  cases gk with
  | zero =>
    have hlt : decide ((i : Int) < (S.length : Int)) = false := decide_eq_false (by have := HI.out; omega)
    have hi : i = S.length := by have := HI.out; omega
    subst hi
    obtain ⟨L, hL⟩ : ∃ L, keysT S S.length = L := ⟨_, rfl⟩
    have HL := Aside0.mk (show L.Nodup ∧ (∀ k, k ∈ L ↔ D k ≠ none) from hL ▸ And.intro (keysT_nodup HT.out.ok S.length (Nat.le_refl _)) (keysT_all HT.out.ok))
    have HLe := Aside0.mk (show L.length = n from by rw [← hL, keysT_len S _ (Nat.le_refl _), cnt_all, ← HT.out.ok.hl])
    have HLn := Aside0.mk (show L.length ≤ 1073741824 from by rw [HLe.out]; exact HN.out)
    rw [hL] at HR
    clear hL
    go_wp2_with (go_at_call 27; refine (sort27 wr W.heap.size u3 L HLn.out HR.out).mono ?_; rintro e w7 ⟨A, c, L', rfl, rfl, hlen, hb, hc, hperm, hpw⟩; have HS := Aside0.mk (And.intro hlen (And.intro hb (And.intro hc (And.intro hperm hpw)))); clear hlen hb hc hperm hpw)
    go_ret
    refine ⟨A, c, L', ?_, HB.out.trans HS.out.2.1, ?_, ?_, ?_, HS.out.2.2.2.2, HS.out.1.trans HLe.out⟩
    · rw [HS.out.1]
      rfl
    · rw [HS.out.1]; exact HS.out.2.2.1
    · exact HS.out.2.2.2.1.nodup_iff.2 HL.out.1
    · intro k
      rw [HS.out.2.2.2.1.mem_iff]
      exact HL.out.2 k
  | succ k1 =>
    have hlt : i < S.length := by have := HI.out; omega
    have HIL := Aside0.mk hlt
    obtain ⟨x, hx⟩ : ∃ x, at60 S i = x := ⟨_, rfl⟩
    have HX := Aside0.mk hx
    have TG := Aside0.mk (blk_below HT.out.tw.bg HB.out)
    have old : ∀ j, j < 5 → wr.cell? ⟨g, i * 5 + j, none⟩ = [Value.int .i64 x.f0, .string x.f1.f0, .string x.f1.f1, .int .i64 x.f1.f2, .int .i64 x.f2][j]? := by
      intro j hj
      rw [blk_cell TG.out, ← hx, at60_eq S i hlt, ← fs_at S i hlt j hj]
      simp
    have t0 : wr.cell? ⟨g, i * 5, none⟩ = some (.int .i64 x.f0) := old 0 (by omega)
    have t1 : wr.cell? ⟨g, i * 5 + 1, none⟩ = some (.string x.f1.f0) := old 1 (by omega)
    have t2 : wr.cell? ⟨g, i * 5 + 2, none⟩ = some (.string x.f1.f1) := old 2 (by omega)
    have t3 : wr.cell? ⟨g, i * 5 + 3, none⟩ = some (.int .i64 x.f1.f2) := old 3 (by omega)
    have t4 : wr.cell? ⟨g, i * 5 + 4, none⟩ = some (.int .i64 x.f2) := old 4 (by omega)
    clear old hx
    have hwi : Aside0 (wrap64 ((i : Int) + 1) = ((i + 1 : Nat) : Int)) := ⟨by have := SL.out; have := HIL.out; unfold wrap64; omega⟩
    have HLN := Aside0.mk (show (keysT S i).length ≤ 1073741824 from by
      rw [keysT_len S i (Nat.le_of_lt HIL.out)]
      have h1 := cnt_le S i
      have h2 := HT.out.ok.hl
      have h3 := HN.out
      omega)
    by_cases s1 : x.f0 = 1
    · have s1b : (x.f0 == 1) = true := by simp [s1]
      have H1 := Aside0.mk s1
      clear s1
      have HK := Aside0.mk (show keysT S (i + 1) = keysT S i ++ [x.f1] from by
        show (if (at60 S i).f0 = 1 then keysT S i ++ [(at60 S i).f1] else keysT S i) = _
        rw [HX.out, if_pos H1.out])
      go_upto_region 8 with fail
      obtain ⟨w6, hw6⟩ : ∃ w6, wr.alloc (.cells #[.int .i64 x.f0, .string x.f1.f0, .string x.f1.f1, .int .i64 x.f1.f2, .int .i64 x.f2] 60) = w6 := ⟨_, rfl⟩
      rw [hw6]
      have X6 := show w6.heap[wr.heap.size]? = some (.cells #[.int .i64 x.f0, .string x.f1.f0, .string x.f1.f1, .int .i64 x.f1.f2, .int .i64 x.f2] 60 (0, 0)) from hw6 ▸ heap_alloc_new wr _
      have B6 := Aside0.mk (show Below W.heap.size W w6 from hw6 ▸ below_alloc HB.out _)
      have R6 := Aside0.mk (show Kd.R k28 28 w6 W.heap.size (fun _ => True) u3 (keysT S i) from hw6 ▸ Kd.R_alloc HR.out _)
      have b1 : w6.cell? ⟨wr.heap.size, 1, none⟩ = some (.string x.f1.f0) := (blk_cell X6 1).trans rfl
      have b2 : w6.cell? ⟨wr.heap.size, 2, none⟩ = some (.string x.f1.f1) := (blk_cell X6 2).trans rfl
      have b3 : w6.cell? ⟨wr.heap.size, 3, none⟩ = some (.int .i64 x.f1.f2) := (blk_cell X6 3).trans rfl
      clear hw6 X6 t0 t1 t2 t3 t4 HB HR
      go_wp2_with ((with_reducible refine gate_builtin (b := .append) (xs := #[.tmp 22, .tmp 25]) rfl ?_); at_builtin; refine Kd.R_append k28 (w0 := W) W.heap.size rfl (.tmp 22) (.tmp 25) 34 28 (.agg #[(.string ⟨#[]⟩), (.string ⟨#[]⟩), (.int .i64 0)]) 40 rfl Try.underlying34 info28 rfl (by decide) (by omega) u3 (keysT S i) x.f1 [.string x.f1.f0, .string x.f1.f1, .int .i64 x.f1.f2] (fun _ => True) (fun _ => False) rfl rfl ?aP (fun _ hk => hk.elim) ?aF ?aO ?aB ?aS ?aL ?_; (case aP => exact k28_mkM _ _ _ x.f1); (case aF => exact fun _ _ => trivial); (case aO => exact R6.out); (case aB => exact B6.out); (case aS => exact B6.out.size); (case aL => have := HLN.out; omega); intro v7 w7 ho hb hg hat; have R7 := Aside0.mk ho; have B7 := Aside0.mk hb; clear ho hb hg hat)
      go_roundg k1
      case measure => omega
      case rel =>
        refine ⟨i + 1, by rw [hwi.out], ⟨by have := HI.out; omega⟩, B7, ⟨?_⟩⟩
        rw [HK.out]
        exact R7.out
    · have s1b : (x.f0 == 1) = false := by simp [s1]
      have HK := Aside0.mk (show keysT S (i + 1) = keysT S i from by
        show (if (at60 S i).f0 = 1 then keysT S i ++ [(at60 S i).f1] else keysT S i) = _
        rw [HX.out, if_neg s1])
      clear s1
      go_wp2_with fail
      go_roundg k1
      case measure => omega
      case rel =>
        refine ⟨i + 1, by rw [hwi.out], ⟨by have := HI.out; omega⟩, ⟨below_alloc HB.out _⟩, ⟨?_⟩⟩
        rw [HK.out]
        exact Kd.R_alloc HR.out _
end Go.Proofs.Ytmndedahkodibaa.G
