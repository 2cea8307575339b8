/- What is wrong first with any tree, and at which node; how great a right one is. -/
import Derived.Test.YtafkgjnafddgbaaGx9
import Derived.Test.YtafkgjnafddgbaaOpk
import Derived.Test.YtafkgjnafddgbaaPe
namespace Go.Proofs.Ytafkgjnafddgbaa.Pure
open Go.RowKit Go.Proofs.Ytafkgjnafddgbaa.G Go.Proofs.YtafkgjnafddgbaaW.PrintWords Go.Proofs.YtafkgjnafddgbaaW.PrintLast
set_option linter.unusedVariables false

theorem same_evC : Ev (fun k => tendrillaw11_same.f k) true := by
  obtain ⟨k, hk⟩ := same
  exact Ev.of (fun k => tendrillaw11_same.mono k) hk

theorem rd48 {L : List S48} {i : Nat} {it : S48} (h : L[i]? = some it) : rd_T48 L (i : Int) = it := by
  unfold rd_T48
  rw [List.getD_eq_getElem?_getD, Int.toNat_natCast, h]
  rfl
theorem lt48 {L : List S48} {i : Nat} {it : S48} (h : L[i]? = some it) : i < L.length := (List.getElem?_eq_some_iff.1 h).1

/-- The keys' round. -/
theorem chk_l1 (L : List S48) (hL : L.length ≤ 4097) (i : Nat) (it : S48) (hi : L[i]? = some it) (d : Nat) : ∀ j : Nat, i - j = d → j ≤ i →
    ((∃ jt k, j ≤ k ∧ k < i ∧ L[k]? = some jt ∧ 0 ≤ it.f2 ∧ jt.f2 = it.f2 ∧ it.f0.f1.data.toList ≠ [] ∧ jt.f0.f1.data.toList = it.f0.f1.data.toList) → Ev (fun k => tendrilref11_Check.l1 k L i L.length i i j) ((i : Int), 10)) ∧
    (¬ (∃ jt k, j ≤ k ∧ k < i ∧ L[k]? = some jt ∧ 0 ≤ it.f2 ∧ jt.f2 = it.f2 ∧ it.f0.f1.data.toList ≠ [] ∧ jt.f0.f1.data.toList = it.f0.f1.data.toList) → ∀ r, Ev (fun k => tendrilref11_Check.l0 k L L.length ((i + 1 : Nat) : Int)) r → Ev (fun k => tendrilref11_Check.l1 k L i L.length i i j) r) := by
  have hil := lt48 hi
  have hrd := rd48 hi
  induction d with
  | zero =>
    intro j hd hj
    refine ⟨fun ⟨jt, k, h1, h2, _⟩ => by omega, fun _ r hr => hr.step (fun k => by rw [tendrilref11_Check.l1, if_neg (by omega), w1 (by omega) (by omega)]; rfl)⟩
  | succ d ih =>
    intro j hd hj
    obtain ⟨ih1, ih2⟩ := ih (j + 1) (by omega) (by omega)
    obtain ⟨jt, hjt⟩ : ∃ jt, L[j]? = some jt := ⟨_, List.getElem?_eq_getElem (by omega)⟩
    have hw : wrap64 ((j : Int) + 1) = ((j + 1 : Nat) : Int) := by rw [w1 (by omega) (by omega)]; rfl
    have hrj := rd48 hjt
    have a1 : (j : Int) < (i : Int) := by omega
    have a2 : (0 : Int) ≤ (i : Int) := by omega
    have a3 : (i : Int) < (L.length : Int) := by omega
    have a4 : (0 : Int) ≤ (j : Int) := by omega
    have a5 : (j : Int) < (L.length : Int) := by omega
    by_cases c : 0 ≤ it.f2 ∧ jt.f2 = it.f2 ∧ it.f0.f1.data.toList ≠ [] ∧ jt.f0.f1.data.toList = it.f0.f1.data.toList
    · refine ⟨fun _ => (Ev.pure _).step (fun k => ?_), fun h => absurd ⟨jt, j, Nat.le_refl _, by omega, hjt, c⟩ h⟩
      rw [tendrilref11_Check.l1, if_pos (by omega), if_pos (by omega), if_pos (by omega), hrd, if_pos c.1, if_pos (by omega), if_pos (by omega), hrj, if_pos c.2.1, Lib.toList_data, if_neg c.2.2.1, Lib.toList_data, if_pos c.2.2.2]
    · have hstep (k : Nat) : tendrilref11_Check.l1 (k + 1) L i L.length i i j = tendrilref11_Check.l1 k L i L.length i i ((j + 1 : Nat) : Int) := by
        rw [tendrilref11_Check.l1, if_pos a1, if_pos a2, if_pos a3, hrd]
        by_cases d1 : it.f2 ≥ 0
        · rw [if_pos d1, if_pos a4, if_pos a5, hrj]
          by_cases d2 : jt.f2 = it.f2
          · rw [if_pos d2, Lib.toList_data]
            by_cases d3 : it.f0.f1.data.toList = []
            · rw [if_pos d3, hw]
            · rw [if_neg d3, Lib.toList_data, if_neg (fun d4 => c ⟨d1, d2, d3, d4⟩), hw]
          · rw [if_neg d2, hw]
        · rw [if_neg d1, hw]
      have hex : (∃ jt k, j ≤ k ∧ k < i ∧ L[k]? = some jt ∧ 0 ≤ it.f2 ∧ jt.f2 = it.f2 ∧ it.f0.f1.data.toList ≠ [] ∧ jt.f0.f1.data.toList = it.f0.f1.data.toList) ↔ (∃ jt k, j + 1 ≤ k ∧ k < i ∧ L[k]? = some jt ∧ 0 ≤ it.f2 ∧ jt.f2 = it.f2 ∧ it.f0.f1.data.toList ≠ [] ∧ jt.f0.f1.data.toList = it.f0.f1.data.toList) := by
        constructor
        · rintro ⟨a, k, h1, h2, h3, h4⟩
          rcases Nat.eq_or_lt_of_le h1 with rfl | h1
          · rw [hjt] at h3
            cases h3
            exact absurd h4 c
          · exact ⟨a, k, h1, h2, h3, h4⟩
        · rintro ⟨a, k, h1, h2, h3, h4⟩
          exact ⟨a, k, by omega, h2, h3, h4⟩
      rw [hex]
      exact ⟨fun h => (ih1 h).step hstep, fun h r hr => (ih2 h r hr).step hstep⟩

theorem bad_ne {L : List S48} {p : Nat} {e : Int} (h : BadAt L p e) : e ≠ 0 := by
  obtain ⟨it, _, h | h | h | h⟩ := h
  · omega
  · omega
  · rw [h.2.2.2]; exact h.2.2.1
  · omega

theorem chk_ok (L : List S48) (hL : L.length ≤ 4097) (hs : ∀ it ∈ L, Sm25 it.f0) (i : Nat) (h : OKat L i) {r : Int × Int} (hr : Ev (fun k => tendrilref11_Check.l0 k L L.length ((i + 1 : Nat) : Int)) r) : Ev (fun k => tendrilref11_Check.l0 k L L.length (i : Int)) r := by
  obtain ⟨it, h1, h2, h3, h4, h5⟩ := h
  have hil := lt48 h1
  have hrd := rd48 h1
  obtain ⟨_, w2⟩ := wr_ev (hs it (List.mem_of_getElem? h1))
  rw [h4] at w2
  have hl := (chk_l1 L hL i it h1 i 0 (by omega) (by omega)).2 (fun ⟨jt, k, a1, a2, a3, a4⟩ => h5 ⟨it, jt, k, a2, h1, a3, a4⟩) r hr
  refine w2.via hl (fun k hk => ?_)
  rw [tendrilref11_Check.l0, if_pos (by omega), if_neg (by omega), if_pos (by omega), if_pos (by omega), hrd, if_neg (by omega), hk, Option.bind_some, if_pos rfl]
  rfl
theorem chk_bad (L : List S48) (hL : L.length ≤ 4097) (hs : ∀ it ∈ L, Sm25 it.f0) (p : Nat) (e : Int) (h : BadAt L p e) : Ev (fun k => tendrilref11_Check.l0 k L L.length (p : Int)) ((p : Int), e) := by
  obtain ⟨it, h1, h2⟩ := h
  have hil := lt48 h1
  have hrd := rd48 h1
  obtain ⟨_, w2⟩ := wr_ev (hs it (List.mem_of_getElem? h1))
  rcases h2 with ⟨a1, rfl⟩ | ⟨a1, a2, rfl⟩ | ⟨a1, a2, a3, rfl⟩ | ⟨a1, a2, a3, a4, rfl⟩
  · exact (Ev.pure _).step (fun k => by rw [tendrilref11_Check.l0, if_pos (by omega), if_pos (by omega)])
  · exact (Ev.pure _).step (fun k => by rw [tendrilref11_Check.l0, if_pos (by omega), if_neg (by omega), if_pos (by omega), if_pos (by omega), hrd, if_pos (by omega)])
  · exact w2.via (Ev.pure _) (fun k hk => by rw [tendrilref11_Check.l0, if_pos (by omega), if_neg (by omega), if_pos (by omega), if_pos (by omega), hrd, if_neg (by omega), hk, Option.bind_some, if_neg a3])
  · rw [a3] at w2
    obtain ⟨it', jt, j, b1, b2, b3, b4⟩ := a4
    rw [h1] at b2
    cases b2
    have hl := (chk_l1 L hL p it h1 p 0 (by omega) (by omega)).1 ⟨jt, j, by omega, b1, b3, b4⟩
    refine w2.via hl (fun k hk => ?_)
    rw [tendrilref11_Check.l0, if_pos (by omega), if_neg (by omega), if_pos (by omega), if_pos (by omega), hrd, if_neg (by omega), hk, Option.bind_some, if_pos rfl]
    rfl
theorem chk_upto (L : List S48) (hL : L.length ≤ 4097) (hs : ∀ it ∈ L, Sm25 it.f0) (p : Nat) (h : ∀ i, i < p → OKat L i) (r : Int × Int) (hr : Ev (fun k => tendrilref11_Check.l0 k L L.length (p : Int)) r) (d : Nat) : ∀ i : Nat, p - i = d → i ≤ p → Ev (fun k => tendrilref11_Check.l0 k L L.length (i : Int)) r := by
  induction d with
  | zero =>
    intro i hd hi
    obtain rfl : i = p := by omega
    exact hr
  | succ d ih =>
    intro i hd hi
    exact chk_ok L hL hs i (h i (by omega)) (ih (i + 1) (by omega) (by omega))

theorem depth_l0 (L : List S48) (hL : L.length ≤ 4097) (n : Nat) : ∀ (i : Nat) (dd : Int), L.length - i = n → Ev (fun k => tendrilref11_Depth.l0 k dd L L.length (i : Int)) ((L.drop i).foldl md dd) := by
  induction n with
  | zero =>
    intro i dd hd
    rw [List.drop_eq_nil_of_le (by omega)]
    exact (Ev.pure _).step (fun k => by rw [tendrilref11_Depth.l0, if_neg (by omega)]; rfl)
  | succ n ih =>
    intro i dd hd
    have hi : i < L.length := by omega
    rw [List.drop_eq_getElem_cons hi, List.foldl_cons]
    have hrd := rd48 (List.getElem?_eq_getElem hi)
    refine (ih (i + 1) (md dd L[i]) (by omega)).step (fun k => ?_)
    rw [tendrilref11_Depth.l0, if_pos (by omega), if_pos (by omega), if_pos (by omega), hrd, w1 (by omega) (by omega)]
    have : mx dd L[i].f1 = md dd L[i] := by unfold mx md; split <;> omega
    rw [this]
    rfl

theorem VtreeChecks : ∀ (x0 : S25), Sm25 x0 → ∃ k, tendrillaw11_VtreeChecks.f k x0.f0 x0.f1 x0.f2 x0.f3 x0.f4 = some true := by
  intro x h
  obtain ⟨b, hb, hn⟩ := few x h 5000 (by omega) (by omega)
  apply Ev.ex (f := fun k => tendrillaw11_VtreeChecks.f k x.f0 x.f1 x.f2 x.f3 x.f4)
  cases b with
  | false => exact hb.via0 same_evC (fun k hk => by rw [tendrillaw11_VtreeChecks.f, hk]; simp)
  | true =>
    have hxe : (⟨x.f0, x.f1, x.f2, x.f3, x.f4⟩ : S25) = x := by cases x; rfl
    obtain ⟨r, rest, e, bl, s, _⟩ := sim_T x h 1 0 [] [] (-1) (by simp) (by simp) (by simp) (by intro key; simp) (by simp)
    obtain ⟨L, hL⟩ : ∃ L, (⟨x, 1, -1⟩ : S48) :: rest = L := ⟨_, rfl⟩
    rw [hL] at bl s
    simp only [List.nil_append] at bl
    have hit : Ev (fun k => tendrilref11_Items.f k x.f0 x.f1 x.f2 x.f3 x.f4) L := bl.eq (fun k => by rw [tendrilref11_Items.f, hxe])
    have hlen : L.length ≤ 4097 := by
      obtain ⟨k, hk⟩ := bl.ex
      exact (blw1_len hk (by simp)).2
    have hchk : Ev (fun k => vtree_check.f k x.f0 x.f1 x.f2 x.f3 x.f4) r.2 := e.via0 (Ev.pure _) (fun k hk => by rw [vtree_check.f, hxe]; rw [show ((([] : List S48).length : Nat) : Int) = 0 from rfl] at hk; rw [hk]; rfl)
    have hsz (n : Int) (hn : (if r.2.2.2 = 0 then r.2.1 else 0) = n) : Ev (fun k => vtree_Size.f k x.f0 x.f1 x.f2 x.f3 x.f4) n := hchk.via0 (Ev.pure _) (fun k hk => by rw [vtree_Size.f, hk, Option.bind_some, ← hn]; split <;> rfl)
    have hdp (n : Int) (hn : (if r.2.2.2 = 0 then r.2.2.1 else 0) = n) : Ev (fun k => vtree_Depth.f k x.f0 x.f1 x.f2 x.f3 x.f4) n := hchk.via0 (Ev.pure _) (fun k hk => by rw [vtree_Depth.f, hk, Option.bind_some, ← hn]; split <;> rfl)
    have hrc (r : Int × Int) (hr : Ev (fun k => tendrilref11_Check.l0 k L L.length ((0 : Nat) : Int)) r) : Ev (fun k => tendrilref11_Check.f k x.f0 x.f1 x.f2 x.f3 x.f4) r := hit.via0 hr (fun k hk => by rw [tendrilref11_Check.f, hk]; rfl)
    have main (c : Int × Int) (h1 : Ev (fun k => vtree_Check.f k x.f0 x.f1 x.f2 x.f3 x.f4) c) (h2 : Ev (fun k => tendrilref11_Check.f k x.f0 x.f1 x.f2 x.f3 x.f4) c)
        (h3 : Ev (fun k => tendrillaw11_VtreeChecks.j0 k c.2 false x.f0 x.f1 x.f2 x.f3 x.f4) true) : Ev (fun k => tendrillaw11_VtreeChecks.f k x.f0 x.f1 x.f2 x.f3 x.f4) true := by
      refine hb.via0 (h1.via0 (h2.via0 h3 (F := fun k => (tendrilref11_Check.f k x.f0 x.f1 x.f2 x.f3 x.f4).bind fun bt188 => (if c.1 = bt188.1 then (tendrillaw11_VtreeChecks.j0 k bt188.2 (c.2 != bt188.2) x.f0 x.f1 x.f2 x.f3 x.f4) else (tendrillaw11_VtreeChecks.j0 k bt188.2 true x.f0 x.f1 x.f2 x.f3 x.f4))) (fun k hk => by rw [hk, Option.bind_some, if_pos rfl]; simp))
        (F := fun k => (vtree_Check.f k x.f0 x.f1 x.f2 x.f3 x.f4).bind fun bt186 => ((tendrilref11_Check.f k x.f0 x.f1 x.f2 x.f3 x.f4).bind fun bt188 => (if bt186.1 = bt188.1 then (tendrillaw11_VtreeChecks.j0 k bt188.2 (bt186.2 != bt188.2) x.f0 x.f1 x.f2 x.f3 x.f4) else (tendrillaw11_VtreeChecks.j0 k bt188.2 true x.f0 x.f1 x.f2 x.f3 x.f4)))) (fun k hk => by rw [hk, Option.bind_some])) (fun k hk => by rw [tendrillaw11_VtreeChecks.f, hk]; simp)
    cases hr : r.1 with
    | true =>
      obtain ⟨y1, y2, y3, _⟩ := s.yes hr
      simp only [List.nil_append] at y1 y2 y3
      have hz : r.2.2.2 = 0 := by rw [y1]
      have hcl : Ev (fun k => tendrilref11_Check.l0 k L L.length (L.length : Int)) (0, 0) := (Ev.pure _).step (fun k => by rw [tendrilref11_Check.l0, if_neg (by omega)])
      refine main (0, 0) (hchk.via0 (Ev.pure _) (fun k hk => by rw [vtree_Check.f, hk, Option.bind_some, if_pos hz])) (hrc _ (chk_upto L hlen s.sm L.length (fun i hi => y3 i (by simp) hi) _ hcl L.length 0 (by omega) (by omega))) ?_
      have hS := hsz (L.length : Int) (by rw [if_pos hz, y1])
      have hD := hdp (L.foldl md 0) (by rw [if_pos hz, y1])
      have hR : Ev (fun k => tendrilref11_Depth.f k x.f0 x.f1 x.f2 x.f3 x.f4) (L.foldl md 0) := hit.via0 (depth_l0 L hlen L.length 0 0 (by omega)) (fun k hk => by rw [tendrilref11_Depth.f, hk]; rfl)
      refine hS.via (hit.via0 (hD.via0 (hR.via0 same_evC (F := fun k => (tendrilref11_Depth.f k x.f0 x.f1 x.f2 x.f3 x.f4).bind fun t198 => (if L.foldl md 0 = t198 then ((tendrillaw11_same.f k).bind fun t199 => (some t199)) else (some false))) (fun k hk => by rw [hk, Option.bind_some, if_pos rfl]; simp))
        (F := fun k => (vtree_Depth.f k x.f0 x.f1 x.f2 x.f3 x.f4).bind fun t197 => ((tendrilref11_Depth.f k x.f0 x.f1 x.f2 x.f3 x.f4).bind fun t198 => (if t197 = t198 then ((tendrillaw11_same.f k).bind fun t199 => (some t199)) else (some false)))) (fun k hk => by rw [hk, Option.bind_some]))
        (F := fun k => (tendrilref11_Items.f k x.f0 x.f1 x.f2 x.f3 x.f4).bind fun t194 => (if (L.length : Int) = (t194.length : Int) then ((vtree_Depth.f k x.f0 x.f1 x.f2 x.f3 x.f4).bind fun t197 => ((tendrilref11_Depth.f k x.f0 x.f1 x.f2 x.f3 x.f4).bind fun t198 => (if t197 = t198 then ((tendrillaw11_same.f k).bind fun t199 => (some t199)) else (some false)))) else (some false))) (fun k hk => by rw [hk, Option.bind_some, if_pos rfl])) (fun k hk => by rw [tendrillaw11_VtreeChecks.j0, if_neg (by decide), if_pos rfl, hk, Option.bind_some])
    | false =>
      obtain ⟨p, p1, p2, p3, p4, p5⟩ := s.no hr
      simp only [List.nil_append] at p3 p4 p5
      have hne := bad_ne p5
      refine main (p, r.2.2.2) (hchk.via0 (Ev.pure _) (fun k hk => by rw [vtree_Check.f, hk, Option.bind_some, if_neg hne, p1])) (hrc _ (chk_upto L hlen s.sm p (fun i hi => p4 i (by simp) hi) _ (chk_bad L hlen s.sm p _ p5) p 0 (by omega) (by omega))) ?_
      have hS := hsz 0 (by rw [if_neg hne])
      have hD := hdp 0 (by rw [if_neg hne])
      refine hS.via (hD.via0 same_evC (F := fun k => (vtree_Depth.f k x.f0 x.f1 x.f2 x.f3 x.f4).bind fun t191 => (if t191 = 0 then ((tendrillaw11_same.f k).bind fun t192 => (some t192)) else (some false))) (fun k hk => by rw [hk, Option.bind_some, if_pos rfl]; simp)) (fun k hk => by rw [tendrillaw11_VtreeChecks.j0, if_neg (by decide), if_neg hne, hk, Option.bind_some, if_pos rfl])

end Go.Proofs.Ytafkgjnafddgbaa.Pure
