/- What was put in an order is put back by that order, turned; by what is no order nothing is: for all lists. -/
import Derived.Test.YtieomcpjakamdaaGx4
import Derived.Test.YtieomcpjakamdaaOpk
import Derived.Test.YtieomcpjakamdaaPb
namespace Go.Proofs.Ytieomcpjakamdaa.Pure
open Go.RowKit Go.Proofs.Ytieomcpjakamdaa.G Go.Proofs.YtieomcpjakamdaaW.PrintWords Go.Proofs.YtieomcpjakamdaaW.PrintLast
set_option linter.unusedVariables false

theorem long_ev (l : List ByteArray) (hl : l.length ≤ 100000000000000) (d : Nat) : ∀ (i n : Int), 0 ≤ i → i ≤ l.length → (l.length : Int) - i = d → 0 ≤ n → n ≤ 5000 → ∃ r, Ev (fun k => tendrilplain_Long.l0 k l 5000 n l.length i) r := by
  induction d with
  | zero =>
    intro i n h0 h1 hd hn hn2
    exact ⟨n, (Ev.pure _).step (fun k => by rw [tendrilplain_Long.l0, if_neg (by omega)])⟩
  | succ d ih =>
    intro i n h0 h1 hd hn hn2
    have hi : i < (l.length : Int) := by omega
    obtain ⟨m, hm⟩ : ∃ m, mn ((rdOf ByteArray.empty l i).size : Int) (wrap64 (5000 + 1)) = m := ⟨_, rfl⟩
    have hmr : 0 ≤ m ∧ m ≤ 5001 := by
      have e : wrap64 (5000 + 1) = 5001 := by unfold wrap64; omega
      rw [e] at hm
      unfold mn at hm
      split at hm <;> omega
    obtain ⟨q, hq⟩ : ∃ q, wrap64 (wrap64 (n + 1) + m) = q := ⟨_, rfl⟩
    have hqr : 0 ≤ q := by
      have e : wrap64 (n + 1) = n + 1 := w1 (by omega) (by omega)
      rw [e] at hq
      unfold wrap64 at hq
      omega
    by_cases c : q > 5000
    · exact ⟨wrap64 (5000 + 1), (Ev.pure _).step (fun k => by rw [tendrilplain_Long.l0, if_pos hi, if_pos h0, if_pos hi, hm, hq, if_pos c])⟩
    · obtain ⟨r, hr⟩ := ih (i + 1) q (by omega) (by omega) (by omega) hqr (by omega)
      exact ⟨r, hr.step (fun k => by rw [tendrilplain_Long.l0, if_pos hi, if_pos h0, if_pos hi, hm, hq, if_neg c, w1 (by omega) (by omega)])⟩
theorem texts_ev (l : List ByteArray) (hl : l.length ≤ 1000000000000) : Ev (fun k => tendrilplain_Texts.f k l l) true := by
  have key : ∀ (d : Nat) (i : Int), 0 ≤ i → i ≤ l.length → (l.length : Int) - i = d → Ev (fun k => tendrilplain_Texts.l0 k l l l.length i) true := by
    intro d
    induction d with
    | zero => intro i h0 h1 hd; exact (Ev.pure _).step (fun k => by rw [tendrilplain_Texts.l0, if_neg (by omega)])
    | succ d ih =>
      intro i h0 h1 hd
      exact (ih (i + 1) (by omega) (by omega) (by omega)).step (fun k => by rw [tendrilplain_Texts.l0, if_pos (by omega), if_pos h0, if_pos (by omega), if_pos (by omega), if_pos rfl, w1 (by omega) (by omega)])
  exact (key l.length 0 (by omega) (by omega) (by omega)).eq (fun k => by rw [tendrilplain_Texts.f, if_pos rfl])

theorem do_no (p : List Int) (l : List ByteArray) (h : p.length ≠ l.length) : ∀ k, ranks_Do_string.f k p l = some [] := fun k => by
  unfold ranks_Do_string.f
  rw [if_neg h]
theorem do_isnt (p : List Int) (l : List ByteArray) (hl : p.length ≤ 10000000000) (h : ¬ IsP p) : Ev (fun k => ranks_Do_string.f k p l) [] := by
  by_cases e : p.length = l.length
  · exact ((is_ev p (by omega)).2 h).via0 (Ev.pure _) (fun k hk => by unfold ranks_Do_string.f; rw [if_pos e, hk, Option.bind_some, if_neg (by decide)])
  · exact Ev.all (do_no p l e)
theorem do_ev (p : List Int) (l : List ByteArray) (hl : p.length ≤ 1048576) (e : p.length = l.length) (h : IsP p) : Ev (fun k => ranks_Do_string.f k p l) (putIn p l) :=
  ((is_ev p (by omega)).1 h).via0 (Ev.pure _) (fun k hk => by
    unfold ranks_Do_string.f
    rw [if_pos e, hk, Option.bind_some, if_pos rfl, if_pos ⟨hl, fun x hx => by have := (h.mem x).1 hx; omega⟩])
theorem rdS_put (p : List Int) (l : List ByteArray) (i : Int) (h0 : 0 ≤ i) (h1 : i < p.length) : rdOf ByteArray.empty (putIn p l) i = rdOf ByteArray.empty l (rd p i) := by
  have hg := get_rd h0 h1
  unfold putIn
  conv => lhs; unfold rdOf
  rw [List.getD_eq_getElem?_getD, List.getElem?_map, hg]
  rfl
theorem put_len (p : List Int) (l : List ByteArray) : (putIn p l).length = p.length := by unfold putIn; rw [List.length_map]
/-- What was put in an order is put back by that order, turned. -/
theorem put_back (p t : List Int) (l : List ByteArray) (e : p.length = l.length) (h : IsP p) (ht : Tu p t) : putIn t (putIn p l) = l := by
  apply List.ext_getElem?
  intro i
  by_cases hi : i < l.length
  · obtain ⟨k, hk, ek⟩ : ∃ k, k < p.length ∧ t[i]? = some (k : Int) ∧ p[k]? = some (i : Int) := by
      obtain ⟨k, hk, ek⟩ := h.at i (by omega)
      have := ht.pt k _ ek
      rw [Int.toNat_natCast] at this
      exact ⟨k, hk, this, ek⟩
    have hr : rdOf ByteArray.empty (putIn p l) (k : Int) = rdOf ByteArray.empty l (i : Int) := by
      rw [rdS_put p l k (by omega) (by omega), rd_some ek.2]
    have hgo : (putIn t (putIn p l))[i]? = some (rdOf ByteArray.empty (putIn p l) (k : Int)) := by
      conv => lhs; unfold putIn
      rw [List.getElem?_map, ek.1]
      rfl
    rw [hgo, hr]
    unfold rdOf
    rw [Int.toNat_natCast, List.getD_eq_getElem?_getD, List.getElem?_eq_getElem hi]
    rfl
  · rw [List.getElem?_eq_none (by rw [put_len, ht.len]; omega), List.getElem?_eq_none (by omega)]
theorem tu_isP {p t : List Int} (h : IsP p) (ht : Tu p t) : IsP t := by
  refine perm_cover (iota t.length) t (iota_nodup _) (fun x hx => ?_) (by rw [iota_len]; exact Nat.le_refl _)
  obtain ⟨h0, h1⟩ := (iota_mem _ _).1 hx
  rw [ht.len] at h1
  obtain ⟨y, hy⟩ : ∃ y, p[x.toNat]? = some y := ⟨_, List.getElem?_eq_getElem (by omega)⟩
  have := ht.pt _ y hy
  rw [show ((x.toNat : Nat) : Int) = x by omega] at this
  exact List.mem_of_getElem? this
theorem do_loop (p : List Int) (l : List ByteArray) (hl : p.length ≤ 200) (e : p.length = l.length) (h : IsP p) (d : Nat) : ∀ i : Int, 0 ≤ i → i ≤ p.length → (p.length : Int) - i = d → Ev (fun k => tendrillaw05_RanksDo.l0 k p l (putIn p l) p.length i) true := by
  induction d with
  | zero =>
    intro i h0 h1 hd
    obtain ⟨t, ht, he⟩ := turn_ev p (by omega) h
    have hd2 := do_ev t (putIn p l) (by rw [ht.len]; omega) (by rw [ht.len, put_len]) (tu_isP h ht)
    rw [put_back p t l e h ht] at hd2
    obtain ⟨k1, b1⟩ := he
    obtain ⟨k2, b2⟩ := hd2
    obtain ⟨k3, b3⟩ := texts_ev l (by omega)
    obtain ⟨k4, b4⟩ := same_ev
    dsimp only at b1 b2 b3 b4
    refine ⟨k1 + k2 + k3 + k4 + 1, fun K hK => ?_⟩
    obtain ⟨k, rfl⟩ : ∃ k, K = k + 1 := ⟨K - 1, by omega⟩
    dsimp only
    rw [tendrillaw05_RanksDo.l0, if_neg (by omega), b1 k (by omega), Option.bind_some, b2 k (by omega), Option.bind_some, b3 k (by omega), Option.bind_some, if_pos rfl, b4 k (by omega), Option.bind_some]
  | succ d ih =>
    intro i h0 h1 hd
    have hi : i < (p.length : Int) := by omega
    have hx := (h.mem (rd p i)).1 (rd_mem h0 hi)
    exact (ih (i + 1) (by omega) (by omega) (by omega)).step (fun k => by
      rw [tendrillaw05_RanksDo.l0, if_pos hi, if_pos h0, if_pos (by rw [put_len]; exact hi), if_pos hi, if_pos hx.1, if_pos (by omega), rdS_put p l i h0 hi, if_pos rfl, w1 (by omega) (by omega)])
theorem do_same (p : List Int) (l : List ByteArray) : Ev (fun k => tendrillaw05_RanksDo.j0 k p l true) true :=
  same_ev.via (Ev.pure _) (fun k hk => by rw [tendrillaw05_RanksDo.j0, if_pos rfl, hk, Option.bind_some])
theorem do_none (p : List Int) (l : List ByteArray) : Ev (fun k => tendrillaw05_RanksDo.j1 k p l [] true) true :=
  same_ev.via (Ev.pure _) (fun k hk => by rw [tendrillaw05_RanksDo.j1, if_pos rfl, if_pos (by rfl), hk, Option.bind_some])
theorem do_main (p : List Int) (l : List ByteArray) (hl : p.length ≤ 200) : Ev (fun k => tendrillaw05_RanksDo.j0 k p l false) true := by
  by_cases e : p.length = l.length
  · by_cases h : IsP p
    · obtain ⟨k1, b1⟩ := do_ev p l (by omega) e h
      obtain ⟨k2, b2⟩ := (ref_is_ev p (by omega)).1 h
      have h3 : Ev (fun k => tendrillaw05_RanksDo.j1 k p l (putIn p l) false) true := (do_loop p l hl e h p.length 0 (by omega) (by omega) (by omega)).step (fun k => by
        rw [tendrillaw05_RanksDo.j1, if_neg (by decide), if_pos (by rw [put_len]; omega)])
      obtain ⟨k3, b3⟩ := h3
      dsimp only at b1 b2 b3
      refine ⟨k1 + k2 + k3 + 1, fun K hK => ?_⟩
      obtain ⟨k, rfl⟩ : ∃ k, K = k + 1 := ⟨K - 1, by omega⟩
      dsimp only
      rw [tendrillaw05_RanksDo.j0, if_neg (by decide), b1 k (by omega), Option.bind_some, if_pos (by omega), b2 k (by omega), Option.bind_some]
      exact b3 k (by omega)
    · obtain ⟨k1, b1⟩ := do_isnt p l (by omega) h
      obtain ⟨k2, b2⟩ := (ref_is_ev p (by omega)).2 h
      obtain ⟨k3, b3⟩ := do_none p l
      dsimp only at b1 b2 b3
      refine ⟨k1 + k2 + k3 + 1, fun K hK => ?_⟩
      obtain ⟨k, rfl⟩ : ∃ k, K = k + 1 := ⟨K - 1, by omega⟩
      dsimp only
      rw [tendrillaw05_RanksDo.j0, if_neg (by decide), b1 k (by omega), Option.bind_some, if_pos (by omega), b2 k (by omega), Option.bind_some]
      exact b3 k (by omega)
  · obtain ⟨k3, b3⟩ := do_none p l
    dsimp only at b3
    refine ⟨k3 + 1, fun K hK => ?_⟩
    obtain ⟨k, rfl⟩ : ∃ k, K = k + 1 := ⟨K - 1, by omega⟩
    dsimp only
    rw [tendrillaw05_RanksDo.j0, if_neg (by decide), do_no p l e, Option.bind_some, if_neg (by omega)]
    exact b3 k (by omega)
theorem RanksDo : ∀ (x0 : List Int) (x1 : List ByteArray), (x0.length * 8 ≤ 140737488351232 ∧ ∀ y ∈ x0, (Lit.int .i64 y).wf = true) → (x1.length * 16 ≤ 140737488351232 ∧ ∀ y ∈ x1, y.size ≤ 140737488351232) → ∃ k, tendrillaw05_RanksDo.f k x0 x1 = some true := by
  intro p l hp hl
  by_cases h0 : (p.length : Int) > 200
  · obtain ⟨k, hk⟩ := (do_same p l).ex
    exact ⟨k, by rw [tendrillaw05_RanksDo.f, if_pos h0]; exact hk⟩
  · obtain ⟨r, hr⟩ := long_ev l (by omega) l.length 0 0 (by omega) (by omega) (by omega) (by omega) (by omega)
    obtain ⟨k1, b1⟩ := hr
    obtain ⟨k2, b2⟩ := do_same p l
    obtain ⟨k3, b3⟩ := do_main p l (by omega)
    dsimp only at b1 b2 b3
    refine ⟨k1 + k2 + k3, ?_⟩
    rw [tendrillaw05_RanksDo.f, if_neg h0, tendrilplain_Long.f, b1 _ (by omega), Option.bind_some]
    by_cases c : r > 5000
    · rw [decide_eq_true c]; exact b2 _ (by omega)
    · rw [decide_eq_false c]; exact b3 _ (by omega)

end Go.Proofs.Ytieomcpjakamdaa.Pure
