/- The two ways to tell that a tree is right come to the same. -/
import Derived.Test.YtafkgjnafddgbaaGx8
import Derived.Test.YtafkgjnafddgbaaPe
import Derived.Test.YtafkgjnafddgbaaGx9
import Derived.Test.YtafkgjnafddgbaaH5
namespace Go.Proofs.Ytafkgjnafddgbaa.Pure
open Go.RowKit Go.Proofs.Ytafkgjnafddgbaa.G Go.Proofs.YtafkgjnafddgbaaW.PrintWords Go.Proofs.YtafkgjnafddgbaaW.PrintLast
set_option linter.unusedVariables false

theorem rd48 {L : List S48} {i : Nat} {it : S48} (h : L[i]? = some it) : rd_T48 L (i : Int) = it := by
  unfold rd_T48
  rw [List.getD_eq_getElem?_getD, Int.toNat_natCast, h]
  rfl
theorem lt48 {L : List S48} {i : Nat} {it : S48} (h : L[i]? = some it) : i < L.length := (List.getElem?_eq_some_iff.1 h).1

/-- The keys' round. -/
theorem chk_l1 (L : List S48) (hL : L.length ≤ 4097) (i : Nat) (it : S48) (hi : L[i]? = some it) (d : Nat) : ∀ j : Nat, i - j = d → j ≤ i →
    ((∃ jt k, j ≤ k ∧ k < i ∧ L[k]? = some jt ∧ 0 ≤ it.f2 ∧ jt.f2 = it.f2 ∧ it.f0.f1.data.toList ≠ [] ∧ jt.f0.f1.data.toList = it.f0.f1.data.toList) → Ev (fun k => tendrilref11_Check.l1 k L i L.length i i j) ((i : Int), 10)) ∧
    (¬ (∃ jt k, j ≤ k ∧ k < i ∧ L[k]? = some jt ∧ 0 ≤ it.f2 ∧ jt.f2 = it.f2 ∧ it.f0.f1.data.toList ≠ [] ∧ jt.f0.f1.data.toList = it.f0.f1.data.toList) → ∀ r, Ev (fun k => tendrilref11_Check.l0 k L L.length ((i + 1 : Nat) : Int)) r → Ev (fun k => tendrilref11_Check.l1 k L i L.length i i j) r) := by
  have hil := lt48 hi
  have hrd := rd48 hi
  induction d with
  | zero =>
    intro j hd hj
    refine ⟨fun ⟨jt, k, h1, h2, _⟩ => by omega, fun _ r hr => hr.step (fun k => by rw [tendrilref11_Check.l1, if_neg (by omega), w1 (by omega) (by omega)]; rfl)⟩
  | succ d ih =>
    intro j hd hj
    obtain ⟨ih1, ih2⟩ := ih (j + 1) (by omega) (by omega)
    obtain ⟨jt, hjt⟩ : ∃ jt, L[j]? = some jt := ⟨_, List.getElem?_eq_getElem (by omega)⟩
    have hw : wrap64 ((j : Int) + 1) = ((j + 1 : Nat) : Int) := by rw [w1 (by omega) (by omega)]; rfl
    have hrj := rd48 hjt
    have a1 : (j : Int) < (i : Int) := by omega
    have a2 : (0 : Int) ≤ (i : Int) := by omega
    have a3 : (i : Int) < (L.length : Int) := by omega
    have a4 : (0 : Int) ≤ (j : Int) := by omega
    have a5 : (j : Int) < (L.length : Int) := by omega
    by_cases c : 0 ≤ it.f2 ∧ jt.f2 = it.f2 ∧ it.f0.f1.data.toList ≠ [] ∧ jt.f0.f1.data.toList = it.f0.f1.data.toList
    · refine ⟨fun _ => (Ev.pure _).step (fun k => ?_), fun h => absurd ⟨jt, j, Nat.le_refl _, by omega, hjt, c⟩ h⟩
      rw [tendrilref11_Check.l1, if_pos (by omega), if_pos (by omega), if_pos (by omega), hrd, if_pos c.1, if_pos (by omega), if_pos (by omega), hrj, if_pos c.2.1, Lib.toList_data, if_neg c.2.2.1, Lib.toList_data, if_pos c.2.2.2]
    · have hstep (k : Nat) : tendrilref11_Check.l1 (k + 1) L i L.length i i j = tendrilref11_Check.l1 k L i L.length i i ((j + 1 : Nat) : Int) := by
        rw [tendrilref11_Check.l1, if_pos a1, if_pos a2, if_pos a3, hrd]
        by_cases d1 : it.f2 ≥ 0
        · rw [if_pos d1, if_pos a4, if_pos a5, hrj]
          by_cases d2 : jt.f2 = it.f2
          · rw [if_pos d2, Lib.toList_data]
            by_cases d3 : it.f0.f1.data.toList = []
            · rw [if_pos d3, hw]
            · rw [if_neg d3, Lib.toList_data, if_neg (fun d4 => c ⟨d1, d2, d3, d4⟩), hw]
          · rw [if_neg d2, hw]
        · rw [if_neg d1, hw]
      have hex : (∃ jt k, j ≤ k ∧ k < i ∧ L[k]? = some jt ∧ 0 ≤ it.f2 ∧ jt.f2 = it.f2 ∧ it.f0.f1.data.toList ≠ [] ∧ jt.f0.f1.data.toList = it.f0.f1.data.toList) ↔ (∃ jt k, j + 1 ≤ k ∧ k < i ∧ L[k]? = some jt ∧ 0 ≤ it.f2 ∧ jt.f2 = it.f2 ∧ it.f0.f1.data.toList ≠ [] ∧ jt.f0.f1.data.toList = it.f0.f1.data.toList) := by
        constructor
        · rintro ⟨a, k, h1, h2, h3, h4⟩
          rcases Nat.eq_or_lt_of_le h1 with rfl | h1
          · rw [hjt] at h3
            cases h3
            exact absurd h4 c
          · exact ⟨a, k, h1, h2, h3, h4⟩
        · rintro ⟨a, k, h1, h2, h3, h4⟩
          exact ⟨a, k, by omega, h2, h3, h4⟩
      rw [hex]
      exact ⟨fun h => (ih1 h).step hstep, fun h r hr => (ih2 h r hr).step hstep⟩

theorem bad_ne {L : List S48} {p : Nat} {e : Int} (h : BadAt L p e) : e ≠ 0 := by
  obtain ⟨it, _, h | h | h | h⟩ := h
  · omega
  · omega
  · rw [h.2.2.2]; exact h.2.2.1
  · omega

theorem chk_ok (L : List S48) (hL : L.length ≤ 4097) (hs : ∀ it ∈ L, Sm25 it.f0) (i : Nat) (h : OKat L i) {r : Int × Int} (hr : Ev (fun k => tendrilref11_Check.l0 k L L.length ((i + 1 : Nat) : Int)) r) : Ev (fun k => tendrilref11_Check.l0 k L L.length (i : Int)) r := by
  obtain ⟨it, h1, h2, h3, h4, h5⟩ := h
  have hil := lt48 h1
  have hrd := rd48 h1
  obtain ⟨_, w2⟩ := wr_ev (hs it (List.mem_of_getElem? h1))
  rw [h4] at w2
  have hl := (chk_l1 L hL i it h1 i 0 (by omega) (by omega)).2 (fun ⟨jt, k, a1, a2, a3, a4⟩ => h5 ⟨it, jt, k, a2, h1, a3, a4⟩) r hr
  refine w2.via hl (fun k hk => ?_)
  rw [tendrilref11_Check.l0, if_pos (by omega), if_neg (by omega), if_pos (by omega), if_pos (by omega), hrd, if_neg (by omega), hk, Option.bind_some, if_pos rfl]
  rfl
theorem chk_bad (L : List S48) (hL : L.length ≤ 4097) (hs : ∀ it ∈ L, Sm25 it.f0) (p : Nat) (e : Int) (h : BadAt L p e) : Ev (fun k => tendrilref11_Check.l0 k L L.length (p : Int)) ((p : Int), e) := by
  obtain ⟨it, h1, h2⟩ := h
  have hil := lt48 h1
  have hrd := rd48 h1
  obtain ⟨_, w2⟩ := wr_ev (hs it (List.mem_of_getElem? h1))
  rcases h2 with ⟨a1, rfl⟩ | ⟨a1, a2, rfl⟩ | ⟨a1, a2, a3, rfl⟩ | ⟨a1, a2, a3, a4, rfl⟩
  · exact (Ev.pure _).step (fun k => by rw [tendrilref11_Check.l0, if_pos (by omega), if_pos (by omega)])
  · exact (Ev.pure _).step (fun k => by rw [tendrilref11_Check.l0, if_pos (by omega), if_neg (by omega), if_pos (by omega), if_pos (by omega), hrd, if_pos (by omega)])
  · exact w2.via (Ev.pure _) (fun k hk => by rw [tendrilref11_Check.l0, if_pos (by omega), if_neg (by omega), if_pos (by omega), if_pos (by omega), hrd, if_neg (by omega), hk, Option.bind_some, if_neg a3])
  · rw [a3] at w2
    obtain ⟨it', jt, j, b1, b2, b3, b4⟩ := a4
    rw [h1] at b2
    cases b2
    have hl := (chk_l1 L hL p it h1 p 0 (by omega) (by omega)).1 ⟨jt, j, by omega, b1, b3, b4⟩
    refine w2.via hl (fun k hk => ?_)
    rw [tendrilref11_Check.l0, if_pos (by omega), if_neg (by omega), if_pos (by omega), if_pos (by omega), hrd, if_neg (by omega), hk, Option.bind_some, if_pos rfl]
    rfl
theorem chk_upto (L : List S48) (hL : L.length ≤ 4097) (hs : ∀ it ∈ L, Sm25 it.f0) (p : Nat) (h : ∀ i, i < p → OKat L i) (r : Int × Int) (hr : Ev (fun k => tendrilref11_Check.l0 k L L.length (p : Int)) r) (d : Nat) : ∀ i : Nat, p - i = d → i ≤ p → Ev (fun k => tendrilref11_Check.l0 k L L.length (i : Int)) r := by
  induction d with
  | zero =>
    intro i hd hi
    obtain rfl : i = p := by omega
    exact hr
  | succ d ih =>
    intro i hd hi
    exact chk_ok L hL hs i (h i (by omega)) (ih (i + 1) (by omega) (by omega))

theorem right (x : S25) (h : Sm25 x) : ∃ (n d e : Int) (b : Bool), Ev (fun k => vtree_check.f k x.f0 x.f1 x.f2 x.f3 x.f4) (n, d, e) ∧ Ev (fun k => tendrilref11_Right.f k x.f0 x.f1 x.f2 x.f3 x.f4) b ∧ (b = true ↔ e = 0) := by
  have hxe : (⟨x.f0, x.f1, x.f2, x.f3, x.f4⟩ : S25) = x := by cases x; rfl
  obtain ⟨r, rest, e, bl, s, _⟩ := sim_T x h 1 0 [] [] (-1) (by simp) (by simp) (by simp) (by intro key; simp) (by simp)
  obtain ⟨L, hL⟩ : ∃ L, (⟨x, 1, -1⟩ : S48) :: rest = L := ⟨_, rfl⟩
  rw [hL] at bl s
  simp only [List.nil_append] at bl
  have hit : Ev (fun k => tendrilref11_Items.f k x.f0 x.f1 x.f2 x.f3 x.f4) L := bl.eq (fun k => by rw [tendrilref11_Items.f, hxe])
  have hlen : L.length ≤ 4097 := by
    obtain ⟨k, hk⟩ := bl.ex
    exact (blw1_len hk (by simp)).2
  have hchk : Ev (fun k => vtree_check.f k x.f0 x.f1 x.f2 x.f3 x.f4) (r.2.1, r.2.2.1, r.2.2.2) := e.via0 (Ev.pure _) (fun k hk => by rw [vtree_check.f, hxe]; rw [show ((([] : List S48).length : Nat) : Int) = 0 from rfl] at hk; rw [hk]; rfl)
  have hrc (r : Int × Int) (hr : Ev (fun k => tendrilref11_Check.l0 k L L.length ((0 : Nat) : Int)) r) : Ev (fun k => tendrilref11_Right.f k x.f0 x.f1 x.f2 x.f3 x.f4) (r.2 == 0) :=
    (hit.via0 hr (F := fun k => tendrilref11_Check.f k x.f0 x.f1 x.f2 x.f3 x.f4) (fun k hk => by rw [tendrilref11_Check.f, hk]; rfl)).via0 (Ev.pure _) (fun k hk => by rw [tendrilref11_Right.f, hk]; rfl)
  cases hr : r.1 with
  | true =>
    obtain ⟨y1, y2, y3, _⟩ := s.yes hr
    simp only [List.nil_append] at y1 y2 y3
    have hz : r.2.2.2 = 0 := by rw [y1]
    have hcl : Ev (fun k => tendrilref11_Check.l0 k L L.length (L.length : Int)) (0, 0) := (Ev.pure _).step (fun k => by rw [tendrilref11_Check.l0, if_neg (by omega)])
    exact ⟨_, _, _, _, hchk, hrc _ (chk_upto L hlen s.sm L.length (fun i hi => y3 i (by simp) hi) _ hcl L.length 0 (by omega) (by omega)), by simp [hz]⟩
  | false =>
    obtain ⟨p, p1, p2, p3, p4, p5⟩ := s.no hr
    simp only [List.nil_append] at p3 p4 p5
    have hne := bad_ne p5
    exact ⟨_, _, _, _, hchk, hrc _ (chk_upto L hlen s.sm p (fun i hi => p4 i (by simp) hi) _ (chk_bad L hlen s.sm p _ p5) p 0 (by omega) (by omega)), by simp [hne]⟩
end Go.Proofs.Ytafkgjnafddgbaa.Pure
/- Trees compared, copied, and copied by hand. -/
namespace Go.Proofs.Ytafkgjnafddgbaa.Pure
open Go.RowKit Go.Proofs.Ytafkgjnafddgbaa.G Go.Proofs.YtafkgjnafddgbaaW.PrintWords Go.Proofs.YtafkgjnafddgbaaW.PrintLast
set_option linter.unusedVariables false

theorem bytes_eq {a b : ByteArray} : a.toList = b.toList ↔ a = b := by
  rw [Lib.toList_data, Lib.toList_data]
  constructor
  · intro h
    cases a; cases b
    congr 1
    exact Array.toList_inj.1 h
  · rintro rfl; rfl
theorem drop42 (xs : List S42) (i : Int) (h0 : 0 ≤ i) (hi : i < xs.length) : xs.drop i.toNat = rd_T42 xs i :: xs.drop (i + 1).toNat := by
  have e : (i + 1).toNat = i.toNat + 1 := by omega
  rw [e, List.drop_eq_getElem_cons (by omega)]
  unfold rd_T42
  rw [List.getD_eq_getElem?_getD, List.getElem?_eq_getElem (by omega)]
  rfl
theorem eq42 (a b : S42) : (!((a.f0.toList) == (b.f0.toList)) || (!((a.f1.toList) == (b.f1.toList)))) = true ↔ a ≠ b := by
  have h0 := @bytes_eq a.f0 b.f0
  have h1 := @bytes_eq a.f1 b.f1
  have h2 : a = b ↔ a.f0 = b.f0 ∧ a.f1 = b.f1 := by cases a; cases b; simp
  rw [Ne, h2, ← h0, ← h1]
  simp only [Bool.or_eq_true, Bool.not_eq_true', beq_eq_false_iff_ne, ne_eq]
  constructor
  · rintro (h | h) ⟨a, b⟩
    · exact h a
    · exact h b
  · intro h
    by_cases c : a.f0.toList = b.f0.toList
    · exact .inr fun d => h ⟨c, d⟩
    · exact .inl c

theorem attr_l0 (l m : List S42) (hl : l.length = m.length) (hb : l.length ≤ 140737488351232) (d : Nat) : ∀ i : Int, 0 ≤ i → (l.length : Int) - i = d →
    ∃ b, Ev (fun k => api_Attr_38.l0 k l m l.length i) b ∧ Ev (fun k => tendrilplain_Attrs.l0 k l m l.length i) b ∧ (b = true ↔ l.drop i.toNat = m.drop i.toNat) := by
  induction d with
  | zero =>
    intro i h0 hd
    refine ⟨true, (Ev.pure _).step (fun k => by rw [api_Attr_38.l0, if_neg (by omega)]), (Ev.pure _).step (fun k => by rw [tendrilplain_Attrs.l0, if_neg (by omega)]), ?_⟩
    rw [List.drop_eq_nil_of_le (by omega), List.drop_eq_nil_of_le (by omega)]
    simp
  | succ d ih =>
    intro i h0 hd
    have h1 : i < (l.length : Int) := by omega
    have h2 : i < (m.length : Int) := by omega
    obtain ⟨b, e1, e2, e3⟩ := ih (i + 1) (by omega) (by omega)
    have hw : wrap64 (i + 1) = i + 1 := w1 (by omega) (by omega)
    rw [drop42 l i h0 h1, drop42 m i h0 h2]
    by_cases c : rd_T42 l i = rd_T42 m i
    · have hc : ¬ (!(((rd_T42 l i).f0.toList) == ((rd_T42 m i).f0.toList)) || (!(((rd_T42 l i).f1.toList) == ((rd_T42 m i).f1.toList)))) = true := fun h => (eq42 _ _).1 h c
      refine ⟨b, e1.step (fun k => by rw [api_Attr_38.l0, if_pos h1, if_pos h0, if_pos h1, if_pos h2, if_neg hc, hw]), e2.step (fun k => by rw [tendrilplain_Attrs.l0, if_pos h1, if_pos h0, if_pos h1, if_pos h2, if_neg hc, hw]), ?_⟩
      rw [e3, c]
      simp
    · have hc := (eq42 _ _).2 c
      refine ⟨false, (Ev.pure _).step (fun k => by rw [api_Attr_38.l0, if_pos h1, if_pos h0, if_pos h1, if_pos h2, if_pos hc]), (Ev.pure _).step (fun k => by rw [tendrilplain_Attrs.l0, if_pos h1, if_pos h0, if_pos h1, if_pos h2, if_pos hc]), ?_⟩
      simp [c]
theorem attr_eq (l m : List S42) (hb : l.length ≤ 140737488351232) : ∃ b, Ev (fun k => attrs_Same.f k l m) b ∧ Ev (fun k => tendrilplain_Attrs.f k l m) b ∧ (b = true ↔ l = m) := by
  by_cases c : l.length = m.length
  · obtain ⟨b, e1, e2, e3⟩ := attr_l0 l m c hb l.length 0 (by omega) (by omega)
    refine ⟨b, (e1.via0 (Ev.pure _) (F := fun k => api_Attr_38.f k l m) (fun k hk => by rw [api_Attr_38.f, if_pos (by omega), hk])).via0 (Ev.pure _) (fun k hk => by rw [attrs_Same.f, hk]; rfl), e2.eq (fun k => by rw [tendrilplain_Attrs.f, if_pos (by omega)]), by simpa using e3⟩
  · refine ⟨false, (Ev.pure _).eq (fun k => by rw [attrs_Same.f, api_Attr_38.f, if_neg (by omega)]; rfl), (Ev.pure _).eq (fun k => by rw [tendrilplain_Attrs.f, if_neg (by omega)]), ?_⟩
    simp
    exact fun h => c (by rw [h])

theorem eq25 (x y : S25) : x = y ↔ (x.f0.toList = y.f0.toList ∧ x.f1.toList = y.f1.toList ∧ x.f2.toList = y.f2.toList) ∧ x.f3 = y.f3 ∧ x.f4 = y.f4 := by
  rw [bytes_eq, bytes_eq, bytes_eq]
  cases x; cases y
  simp only [S25.mk.injEq]
  constructor
  · rintro ⟨a, b, c, d, e⟩; exact ⟨⟨a, b, c⟩, d, e⟩
  · rintro ⟨⟨a, b, c⟩, d, e⟩; exact ⟨a, b, c, d, e⟩

def AT (x : S25) : Prop := ∀ y : S25, ∃ b, Ev (fun k => alk k x y) b ∧ Ev (fun k => tendrilplain_Nodes.f k x.f0 x.f1 x.f2 x.f3 x.f4 y.f0 y.f1 y.f2 y.f3 y.f4) b ∧ (b = true ↔ x = y)
theorem alk_L (xs : List S25) (hA : ∀ x ∈ xs, AT x) : ∀ ys : List S25, xs.length = ys.length → ∃ b, Ev (fun k => alkL k xs ys) b ∧ (b = true ↔ xs = ys) := by
  induction xs with
  | nil =>
    intro ys hl
    obtain rfl : ys = [] := List.eq_nil_of_length_eq_zero hl.symm
    exact ⟨true, (Ev.pure _).step (fun k => rfl), by simp⟩
  | cons x xs ih =>
    intro ys hl
    cases ys with
    | nil => simp at hl
    | cons y ys =>
      obtain ⟨b, e1, _, e3⟩ := hA x (by simp) y
      obtain ⟨c, f1, f3⟩ := ih (fun z hz => hA z (by simp [hz])) ys (by simpa using hl)
      cases b with
      | true =>
        refine ⟨c, e1.via f1 (fun k hk => by rw [alkL_cons, hk]; rfl), ?_⟩
        rw [f3, e3.1 rfl]
        simp
      | false =>
        refine ⟨false, e1.via (Ev.pure _) (fun k hk => by rw [alkL_cons, hk]; rfl), ?_⟩
        have : x ≠ y := fun h => by simpa using e3.2 h
        simp [this]
theorem nodes_l0 (a0 a1 a2 : ByteArray) (a3 : List S42) (xs : List S25) (b0 b1 b2 : ByteArray) (b3 : List S42) (ys : List S25) (hl : xs.length = ys.length) (hb : xs.length ≤ 140737488351232) (hA : ∀ x ∈ xs, AT x) (d : Nat) : ∀ i : Int, 0 ≤ i → (xs.length : Int) - i = d →
    ∃ b, Ev (fun k => tendrilplain_Nodes.l0 k xs.length i a0 a1 a2 a3 xs b0 b1 b2 b3 ys) b ∧ (b = true ↔ xs.drop i.toNat = ys.drop i.toNat) := by
  induction d with
  | zero =>
    intro i h0 hd
    refine ⟨true, (Ev.pure _).step (fun k => by rw [tendrilplain_Nodes.l0, if_neg (by omega)]), ?_⟩
    rw [List.drop_eq_nil_of_le (by omega), List.drop_eq_nil_of_le (by omega)]
    simp
  | succ d ih =>
    intro i h0 hd
    have h1 : i < (xs.length : Int) := by omega
    have h2 : i < (ys.length : Int) := by omega
    obtain ⟨b, e1, e3⟩ := ih (i + 1) (by omega) (by omega)
    have hw : wrap64 (i + 1) = i + 1 := w1 (by omega) (by omega)
    obtain ⟨c, _, f2, f3⟩ := hA _ (rd25_mem xs i h0 h1) (rd_T25 ys i)
    rw [drop_T25 xs i h0 h1, drop_T25 ys i h0 h2]
    cases c with
    | true =>
      refine ⟨b, f2.via e1 (fun k hk => by rw [tendrilplain_Nodes.l0, if_pos h1, if_pos h0, if_pos h1, if_pos h2, hk, Option.bind_some, if_pos rfl, hw]), ?_⟩
      rw [e3, f3.1 rfl]
      simp
    | false =>
      refine ⟨false, f2.via (Ev.pure _) (fun k hk => by rw [tendrilplain_Nodes.l0, if_pos h1, if_pos h0, if_pos h1, if_pos h2, hk, Option.bind_some, if_neg (by decide)]), ?_⟩
      have : rd_T25 xs i ≠ rd_T25 ys i := fun h => by simpa using f3.2 h
      simp [this]
theorem alk_T (x : S25) (h : Sm25 x) : AT x := by
  induction h with
  | @mk x s0 s1 s2 s3 s4 s5 ih =>
    intro y
    obtain ⟨c, g1, g2, g3⟩ := attr_eq x.f3 y.f3 (by omega)
    have noj : Ev (fun k => tendrilplain_Nodes.j0 k true x.f0 x.f1 x.f2 x.f3 x.f4 y.f0 y.f1 y.f2 y.f3 y.f4) false := (Ev.pure _).step (fun k => by rw [tendrilplain_Nodes.j0, if_pos rfl])
    have e25 := eq25 x y
    by_cases q : x.f0.toList = y.f0.toList ∧ x.f1.toList = y.f1.toList ∧ x.f2.toList = y.f2.toList
    · obtain ⟨q0, q1, q2⟩ := id q
      cases c with
      | false =>
        refine ⟨false, g1.via0 (Ev.pure _) (fun k hk => by rw [alk, if_pos q, hk]; rfl), g2.via noj (fun k hk => by rw [tendrilplain_Nodes.f, if_pos q0, if_pos q1, if_pos q2, hk]; rfl), ?_⟩
        have : x.f3 ≠ y.f3 := fun h => by simpa using g3.2 h
        rw [e25]
        simp [this]
      | true =>
        by_cases l : x.f4.length = y.f4.length
        · obtain ⟨b, e1, e3⟩ := alk_L x.f4 ih y.f4 l
          obtain ⟨b', e1', e3'⟩ := nodes_l0 x.f0 x.f1 x.f2 x.f3 x.f4 y.f0 y.f1 y.f2 y.f3 y.f4 l (by omega) ih x.f4.length 0 (by omega) (by omega)
          obtain rfl : b = b' := by
            have : b = true ↔ b' = true := by rw [e3, e3']; simp
            cases b <;> cases b' <;> simp_all
          refine ⟨b, g1.via0 e1 (fun k hk => by rw [alk, if_pos q, hk, Option.bind_some, if_pos rfl, if_pos l]), g2.via (e1'.step (f := fun k => tendrilplain_Nodes.j0 k ((x.f4.length : Int) != (y.f4.length : Int)) x.f0 x.f1 x.f2 x.f3 x.f4 y.f0 y.f1 y.f2 y.f3 y.f4) (fun k => by rw [tendrilplain_Nodes.j0, if_neg (by simp [l])])) (fun k hk => by rw [tendrilplain_Nodes.f, if_pos q0, if_pos q1, if_pos q2, hk]; rfl), ?_⟩
          rw [e25, e3, g3.1 rfl]
          simp [q]
        · have hl : ((x.f4.length : Int) != (y.f4.length : Int)) = true := by simp; omega
          refine ⟨false, g1.via0 (Ev.pure _) (fun k hk => by rw [alk, if_pos q, hk, Option.bind_some, if_pos rfl, if_neg l]), g2.via noj (fun k hk => by rw [tendrilplain_Nodes.f, if_pos q0, if_pos q1, if_pos q2, hk, Option.bind_some, if_pos rfl, hl]), ?_⟩
          have : x.f4 ≠ y.f4 := fun h => l (by rw [h])
          rw [e25]
          simp [this]
    · refine ⟨false, (Ev.pure _).eq (fun k => by rw [alk, if_neg q]), ?_, ?_⟩
      · refine noj.step (fun k => ?_)
        rw [tendrilplain_Nodes.f]
        by_cases q0 : x.f0.toList = y.f0.toList
        · rw [if_pos q0]
          by_cases q1 : x.f1.toList = y.f1.toList
          · rw [if_pos q1, if_neg (fun q2 => q ⟨q0, q1, q2⟩)]
          · rw [if_neg q1]
        · rw [if_neg q0]
      · rw [e25]
        simp only [Bool.false_eq_true, false_iff]
        exact fun h => q h.1

theorem eta25 (x : S25) : (⟨x.f0, x.f1, x.f2, x.f3, x.f4⟩ : S25) = x := by cases x; rfl
def CT (x : S25) : Prop := Ev (fun k => vtree_double.f k x.f0 x.f1 x.f2 x.f3 x.f4) (x.f0, x.f1, x.f2, x.f3, x.f4)
theorem double_l0 (a0 a1 a2 : ByteArray) (a3 : List S42) (xs : List S25) (hl : xs.length * 96 ≤ 140737488351232) (hA : ∀ x ∈ xs, CT x) (d : Nat) : ∀ i : Int, 0 ≤ i → (xs.length : Int) - i = d →
    Ev (fun k => vtree_double.l0 k xs xs.length i a0 a1 a2 a3 (xs.take i.toNat)) (a0, a1, a2, a3, xs) := by
  induction d with
  | zero =>
    intro i h0 hd
    refine (Ev.pure _).step (fun k => ?_)
    rw [vtree_double.l0, if_neg (by omega), List.take_of_length_le (by omega)]
  | succ d ih =>
    intro i h0 hd
    have h1 : i < (xs.length : Int) := by omega
    have hw : wrap64 (i + 1) = i + 1 := w1 (by omega) (by omega)
    have e1 := ih (i + 1) (by omega) (by omega)
    rw [take_T25 xs i h0 h1] at e1
    have hlt : (xs.take i.toNat).length < 1466015503701 := by rw [List.length_take]; omega
    exact (hA _ (rd25_mem xs i h0 h1)).via e1 (fun k hk => by rw [vtree_double.l0, if_pos h1, if_pos h0, if_pos h1, hk, Option.bind_some, if_pos hlt, hw]; dsimp only; rw [eta25 (rd_T25 xs i)])
theorem double_T (x : S25) (h : Sm25 x) : CT x := by
  induction h with
  | @mk x s0 s1 s2 s3 s4 s5 ih =>
    have := double_l0 x.f0 x.f1 x.f2 x.f3 x.f4 s4 ih x.f4.length 0 (by omega) (by omega)
    exact this.step (fun k => by rw [vtree_double.f, api_Attr_32.f, if_pos (by omega)]; rfl)
theorem twk_L (xs : List S25) (hA : ∀ x ∈ xs, ∃ k0, ∀ k, k0 ≤ k → twk1 k x = true) : ∃ k0, ∀ k, k0 ≤ k → twk k xs = true := by
  induction xs with
  | nil => exact ⟨1, fun k hk => by obtain ⟨k, rfl⟩ : ∃ j, k = j + 1 := ⟨k - 1, by omega⟩; rfl⟩
  | cons x xs ih =>
    obtain ⟨k1, h1⟩ := hA x (by simp)
    obtain ⟨k2, h2⟩ := ih (fun y hy => hA y (by simp [hy]))
    refine ⟨k1 + k2 + 1, fun k hk => ?_⟩
    obtain ⟨k, rfl⟩ : ∃ j, k = j + 1 := ⟨k - 1, by omega⟩
    rw [twk_cons, h1 k (by omega), h2 k (by omega)]
    rfl
theorem twk_T (x : S25) (h : Sm25 x) : ∃ k0, ∀ k, k0 ≤ k → twk1 k x = true := by
  induction h with
  | @mk x s0 s1 s2 s3 s4 s5 ih =>
    obtain ⟨k1, h1⟩ := twk_L x.f4 ih
    refine ⟨k1, fun k hk => ?_⟩
    rw [twk1, h1 k hk, decide_eq_true s3.1, decide_eq_true s4]
    rfl
theorem twin_ev (x : S25) (h : Sm25 x) : Ev (fun k => tendrillaw11_twin.f k x.f0 x.f1 x.f2 x.f3 x.f4) (x.f0, x.f1, x.f2, x.f3, x.f4) := by
  obtain ⟨k0, hk⟩ := twk_T x h
  exact ⟨k0, fun k h => by show tendrillaw11_twin.f k x.f0 x.f1 x.f2 x.f3 x.f4 = _; rw [tendrillaw11_twin.f, if_pos (show twk1 k ⟨x.f0, x.f1, x.f2, x.f3, x.f4⟩ = true from hk k h)]⟩
end Go.Proofs.Ytafkgjnafddgbaa.Pure
