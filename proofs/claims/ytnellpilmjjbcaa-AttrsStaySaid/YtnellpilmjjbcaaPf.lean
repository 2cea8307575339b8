/- Which attributes are right, in plain words; what With and Without keep. -/
import Derived.Test.YtnellpilmjjbcaaPd
import Derived.Test.YtnellpilmjjbcaaPe
import Derived.Test.YtnellpilmjjbcaaPaN
namespace Go.Proofs.Ytnellpilmjjbcaa.Pure
open Go.RowKit Go.Proofs.Ytnellpilmjjbcaa.G Go.Proofs.YtnellpilmjjbcaaW.PrintWords Go.Proofs.YtnellpilmjjbcaaW.PrintLast
set_option linter.unusedVariables false

def okA (x : S45) : Prop := NamedOK x.f0 true ∧ (x.f1.size : Int) ≤ 65536
def VP : Option S45 → List S45 → Prop
  | _, [] => True
  | p, x :: xs => okA x ∧ (∀ q, p = some q → lessB q.f0 x.f0 = true) ∧ VP (some x) xs
def prev (l : List S45) (i : Int) : Option S45 := if i = 0 then none else some (rd_T45 l (i - 1))
theorem check_l0 (l : List S45) (hl : l.length ≤ 140737488351232) (d : Nat) : ∀ i : Int, 0 ≤ i → i ≤ 64 → (l.length : Int) - i = d →
    ∃ r, Ev (fun k => attrs_Check.l0 k l l l.length i) r ∧ (r.2 = 0 ↔ l.length ≤ 64 ∧ VP (prev l i) (l.drop i.toNat)) := by
  induction d with
  | zero =>
    intro i h0 h64 hd
    refine ⟨(0, 0), (Ev.pure _).step (fun k => by rw [attrs_Check.l0, if_neg (by omega)]), ?_⟩
    rw [List.drop_eq_nil_of_le (by omega), VP]
    simp
    omega
  | succ d ih =>
    intro i h0 h64 hd
    have hi : i < (l.length : Int) := by omega
    have hw : wrap64 (i + 1) = i + 1 := w1 (by omega) (by omega)
    have hv : wrap64 (i - 1) = i - 1 := wm (by omega) (by omega)
    by_cases c64 : i = 64
    · refine ⟨(i, 12), (Ev.pure _).step (fun k => by rw [attrs_Check.l0, if_pos hi, if_pos h0, if_pos hi, if_pos c64, if_neg (by decide)]), ?_⟩
      simp
      omega
    obtain ⟨r, hp, hr⟩ := ih (i + 1) (by omega) (by omega) (by omega)
    rw [drop_T45 l i h0 hi, VP]
    have hpr : prev l (i + 1) = some (rd_T45 l i) := by unfold prev; rw [if_neg (by omega), Int.add_sub_cancel]
    rw [hpr] at hr
    obtain ⟨b, nb, _, nbi⟩ := named (rd_T45 l i).f0 true
    have nb : Ev (fun k => chars_Name.f k (rd_T45 l i).f0) b := (nb.bind (g := fun _ t => some t) (Ev.pure b)).eq (fun k => rfl)
    cases b with
    | false =>
      refine ⟨(i, 8), nb.via (Ev.pure _) (fun k hk => by rw [attrs_Check.l0, if_pos hi, if_pos h0, if_pos hi, if_neg c64, hk]; rfl), ?_⟩
      have : ¬ okA (rd_T45 l i) := fun h => by simpa using nbi.2 h.1
      simp [this]
    | true =>
    have hname := nbi.1 rfl
    by_cases cf : ((rd_T45 l i).f1.size : Int) ≤ 65536
    case neg =>
      refine ⟨(i, 3), nb.via (Ev.pure _) (fun k hk => ?_), ?_⟩
      · rw [attrs_Check.l0, if_pos hi, if_pos h0, if_pos hi, if_neg c64, hk]; simp [chars_Fits.f, cf]
      · have : ¬ okA (rd_T45 l i) := fun h => cf h.2
        simp [this]
    have hok : okA (rd_T45 l i) := ⟨hname, cf⟩
    by_cases ci : i > 0
    case neg =>
      have p0 : Ev (fun k => attrs_Check.j2 k l i 0 l l.length i false) r := hp.step (fun k => by rw [attrs_Check.j2, if_neg (by decide), if_pos rfl, hw])
      have p1 : Ev (fun k => attrs_Check.j1 k l i 0 l l.length i false (rd_T45 l i).f0 (rd_T45 l i).f1) r := p0.step (fun k => by rw [attrs_Check.j1, if_neg (by decide), if_neg ci])
      refine ⟨r, nb.via p1 (fun k hk => ?_), ?_⟩
      · rw [attrs_Check.l0, if_pos hi, if_pos h0, if_pos hi, if_neg c64, hk]; simp [chars_Fits.f, cf, show ¬ 0 < i by omega]
      · rw [hr, show prev l i = none by unfold prev; rw [if_pos (by omega)]]
        simp [hok]
    have hvi : 0 ≤ wrap64 (i - 1) ∧ wrap64 (i - 1) < (l.length : Int) := by rw [hv]; omega
    have hpi : prev l i = some (rd_T45 l (i - 1)) := by unfold prev; rw [if_neg (by omega)]
    rw [hpi]
    obtain ⟨e, he⟩ : ∃ e, ((rd_T45 l (wrap64 (i - 1))).f0.toList == (rd_T45 l i).f0.toList) = e := ⟨_, rfl⟩
    have fin (r : Int × Int) (p1 : Ev (fun k => attrs_Check.j1 k l i 0 l l.length i e (rd_T45 l i).f0 (rd_T45 l i).f1) r) : Ev (fun k => attrs_Check.l0 k l l l.length i) r := by
      refine nb.via p1 (fun k hk => ?_)
      rw [attrs_Check.l0, if_pos hi, if_pos h0, if_pos hi, if_neg c64, hk]; rw [← he]; simp [chars_Fits.f, cf, show 0 < i by omega, hvi]
    cases e with
    | true =>
      refine ⟨(i, 10), fin _ ((Ev.pure _).step (fun k => by rw [attrs_Check.j1, if_pos rfl, if_neg (by decide)])), ?_⟩
      have e1 : (rd_T45 l (i - 1)).f0.toList = (rd_T45 l i).f0.toList := by rw [hv] at he; simpa using he
      have : ¬ lessB (rd_T45 l (i - 1)).f0 (rd_T45 l i).f0 = true := by rw [lessB, e1]; exact less_irrefl _
      simp [this]
    | false =>
      have e1 : ¬ (rd_T45 l (i - 1)).f0.toList = (rd_T45 l i).f0.toList := by rw [hv] at he; simpa using he
      obtain ⟨b, hb⟩ : ∃ b, Op.bytesLess (rd_T45 l i).f0.toList (rd_T45 l (wrap64 (i - 1))).f0.toList = b := ⟨_, rfl⟩
      have hb2 : lessB (rd_T45 l i).f0 (rd_T45 l (i - 1)).f0 = b := by rw [hv] at hb; exact hb
      cases b with
      | true =>
        refine ⟨(i, 9), fin _ (((Ev.pure (i, (9 : Int))).step (f := fun k => attrs_Check.j2 k l i 0 l l.length i true) (fun k => by rw [attrs_Check.j2, if_pos rfl, if_neg (by decide)])).step (fun k => by rw [attrs_Check.j1, if_neg (by decide), if_pos ci, if_pos hvi.1, if_pos hvi.2, hb])), ?_⟩
        have : ¬ lessB (rd_T45 l (i - 1)).f0 (rd_T45 l i).f0 = true := fun h => less_irrefl _ (less_trans h hb2)
        simp [this]
      | false =>
        refine ⟨r, fin r ((hp.step (f := fun k => attrs_Check.j2 k l i 0 l l.length i false) (fun k => by rw [attrs_Check.j2, if_neg (by decide), if_pos rfl, hw])).step (fun k => by rw [attrs_Check.j1, if_neg (by decide), if_pos ci, if_pos hvi.1, if_pos hvi.2, hb])), ?_⟩
        have : lessB (rd_T45 l (i - 1)).f0 (rd_T45 l i).f0 = true := by
          rcases less_total (rd_T45 l (i - 1)).f0 (rd_T45 l i).f0 with h | h | h
          · exact h
          · exact absurd h e1
          · rw [hb2] at h; cases h
        rw [hr]
        simp [hok, this]

def Rel (a b : ByteArray) : Prop := lessB a b = true
theorem VP_iff (l : List S45) : ∀ p, VP p l ↔ (∀ x ∈ l, okA x) ∧ (l.map (·.f0)).Pairwise Rel ∧ ∀ q, p = some q → ∀ x ∈ l, lessB q.f0 x.f0 = true := by
  induction l with
  | nil => intro p; simp [VP]
  | cons y l ih =>
    intro p
    rw [VP, ih]
    simp only [List.mem_cons, forall_eq_or_imp, List.map_cons, List.pairwise_cons, List.mem_map, forall_exists_index, and_imp, forall_apply_eq_imp_iff₂]
    constructor
    · rintro ⟨a, b, c, d, e⟩
      exact ⟨⟨a, c⟩, ⟨fun x hx => e y rfl x hx, d⟩, fun q hq => ⟨b q hq, fun x hx => less_trans (b q hq) (e y rfl x hx)⟩⟩
    · rintro ⟨⟨a, c⟩, ⟨e, d⟩, f⟩
      refine ⟨a, fun q hq => (f q hq).1, c, d, fun q hq x hx => ?_⟩
      cases hq
      exact e x hx
def Valid (l : List S45) : Prop := l.length ≤ 64 ∧ (∀ x ∈ l, okA x) ∧ (l.map (·.f0)).Pairwise Rel
theorem check_ev (l : List S45) (hl : l.length ≤ 140737488351232) : ∃ r, Ev (fun k => attrs_Check.f k l) r ∧ (r.2 = 0 ↔ Valid l) := by
  obtain ⟨r, h1, h2⟩ := check_l0 l hl l.length 0 (by omega) (by omega) (by omega)
  refine ⟨r, h1.eq (fun k => rfl), ?_⟩
  rw [h2, Valid, show (0 : Int).toNat = 0 from rfl, List.drop_zero, VP_iff]
  simp [prev]

theorem keep_valid (n : ByteArray) (l : List S45) (h : Valid l) : Valid (keep n l) := by
  obtain ⟨a, b, c⟩ := h
  refine ⟨by have := keep_le n l; omega, fun x hx => b x (List.mem_filter.1 (show x ∈ l.filter _ from hx)).1, ?_⟩
  exact c.sublist ((List.filter_sublist (l := l)).map _)
theorem set_valid (A : List S45) (x : S45) (B : List S45) (v : ByteArray) (h : Valid (A ++ x :: B)) : Valid (A ++ ⟨x.f0, v⟩ :: B) ↔ (v.size : Int) ≤ 65536 := by
  obtain ⟨a, b, c⟩ := h
  constructor
  · intro h2
    exact (h2.2.1 ⟨x.f0, v⟩ (by simp)).2
  · intro hv
    refine ⟨by simpa using a, fun y hy => ?_, by simpa using c⟩
    rcases List.mem_append.1 hy with hy | hy
    · exact b y (by simp [hy])
    · rcases List.mem_cons.1 hy with rfl | hy
      · exact ⟨(b x (by simp)).1, hv⟩
      · exact b y (by simp [hy])
theorem ins_valid (n v : ByteArray) (l : List S45) (h : Valid l) (hn : ∀ y ∈ l, ¬ isN n y = true) : Valid (ins n v l) ↔ NamedOK n true ∧ (v.size : Int) ≤ 65536 ∧ l.length < 64 := by
  obtain ⟨a, b, c⟩ := h
  have hi := ins_len n v l
  constructor
  · rintro ⟨h1, h2, _⟩
    have := h2 ⟨n, v⟩ (by unfold ins; simp)
    exact ⟨this.1, this.2, by omega⟩
  · rintro ⟨h1, h2, h3⟩
    refine ⟨by omega, fun y hy => ?_, ?_⟩
    · unfold ins at hy
      simp only [List.append_assoc, List.mem_append, List.mem_singleton] at hy
      rcases hy with hy | rfl | hy
      · exact b y (List.mem_of_mem_take hy)
      · exact ⟨h1, h2⟩
      · exact b y (List.mem_of_mem_drop hy)
    · obtain ⟨g1, g2⟩ := gt_split n l 0
      rw [Int.sub_zero] at g1 g2
      have hs : ((l.take (pl n l) ++ l.drop (pl n l)).map (·.f0)).Pairwise Rel := by rw [List.take_append_drop]; exact c
      rw [List.map_append, List.pairwise_append] at hs
      obtain ⟨s1, s2, s3⟩ := hs
      have lt1 : ∀ y ∈ l.take (pl n l), Rel y.f0 n := by
        intro y hy
        rcases less_total y.f0 n with h | h | h
        · exact h
        · exact absurd ((isN_iff n y).2 h) (hn y (List.mem_of_mem_take hy))
        · exact absurd h (g1 y hy)
      have lt2 : ∀ y ∈ l.drop (pl n l), Rel n y.f0 := by
        intro y hy
        cases hd : l.drop (pl n l) with
        | nil => rw [hd] at hy; cases hy
        | cons z zs =>
          have hz : lessB n z.f0 = true := g2 z zs hd
          rw [hd] at hy s2
          rcases List.mem_cons.1 hy with rfl | hy
          · exact hz
          · rw [List.map_cons, List.pairwise_cons] at s2
            exact less_trans hz (s2.1 y.f0 (List.mem_map_of_mem hy))
      unfold ins
      rw [List.map_append, List.map_append, List.append_assoc, List.pairwise_append]
      refine ⟨s1, ?_, ?_⟩
      · rw [List.map_singleton, List.singleton_append, List.pairwise_cons]
        refine ⟨fun z hz => ?_, s2⟩
        obtain ⟨y, hy, rfl⟩ := List.mem_map.1 hz
        exact lt2 y hy
      · intro p hp q hq
        obtain ⟨y, hy, rfl⟩ := List.mem_map.1 hp
        rcases List.mem_append.1 hq with hq | hq
        · simp only [List.map_singleton, List.mem_singleton] at hq
          subst hq
          exact lt1 y hy
        · exact s3 _ hp _ hq
theorem keep_none (n : ByteArray) (l : List S45) (h : ∀ y ∈ l, ¬ isN n y = true) : keep n l = l := by
  unfold keep
  exact List.filter_eq_self.2 (fun y hy => by simpa using h y hy)
theorem keep_lt (n : ByteArray) (A : List S45) (x : S45) (B : List S45) (hx : isN n x = true) : (keep n (A ++ x :: B)).length < (A ++ x :: B).length := by
  unfold keep
  rw [List.filter_append, List.filter_cons, if_neg (by simp [hx]), List.length_append, List.length_append, List.length_cons]
  have := List.length_filter_le (fun x => !isN n x) A
  have := List.length_filter_le (fun x => !isN n x) B
  omega
theorem bytes_eq {a b : ByteArray} (h : a.toList = b.toList) : a = b := by
  rw [Lib.toList_data, Lib.toList_data] at h
  cases a; cases b
  congr 1
  exact Array.toList_inj.1 h
end Go.Proofs.Ytnellpilmjjbcaa.Pure
