/- The visits against the reference's list of a tree's nodes: what is wrong first is the same. -/
import Derived.Test.YtafkgjnafddgbaaPd
import Derived.Test.YtafkgjnafddgbaaH2a
namespace Go.Proofs.Ytafkgjnafddgbaa.Pure
open Go.RowKit Go.Proofs.Ytafkgjnafddgbaa.G Go.Proofs.YtafkgjnafddgbaaW.PrintWords Go.Proofs.YtafkgjnafddgbaaW.PrintLast
set_option linter.unusedVariables false

/-! ### the list comes to an end -/
def BT (x : S25) : Prop := ∀ (l : List S48) (depth u : Int), ∃ new, Ev (fun k => blw1 k l x depth u) (l ++ new) ∧ (∀ it ∈ new, Sm25 it.f0) ∧ (¬ (l.length : Int) > 4096 → ∃ rest, new = ⟨x, depth, u⟩ :: rest)
theorem blwL_ev (ks : List S25) (hb : ∀ y ∈ ks, BT y) : ∀ (l : List S48) (depth u : Int), ∃ new, Ev (fun k => blw k l ks depth u) (l ++ new) ∧ ∀ it ∈ new, Sm25 it.f0 := by
  induction ks with
  | nil => intro l depth u; exact ⟨[], by simpa using (Ev.pure l).step (fun k => rfl), by simp⟩
  | cons y ys ih =>
    intro l depth u
    by_cases c : (l.length : Int) > 4096
    · exact ⟨[], by simpa using (Ev.pure l).step (f := fun k => blw k l (y :: ys) depth u) (fun k => by rw [blw_cons, if_pos c]), by simp⟩
    · obtain ⟨n1, e1, s1, _⟩ := hb y (by simp) l depth u
      obtain ⟨n2, e2, s2⟩ := ih (fun z hz => hb z (by simp [hz])) (l ++ n1) depth u
      refine ⟨n1 ++ n2, e1.via (by rw [← List.append_assoc]; exact e2) (fun k hk => by rw [blw_cons, if_neg c, hk]; rfl), fun it hit => ?_⟩
      rcases List.mem_append.1 hit with h | h
      · exact s1 it h
      · exact s2 it h
theorem blwT_ev (x : S25) (h : Sm25 x) : BT x := by
  induction h with
  | @mk x h0 h1 h2 h3 h4 h5 ih =>
    have hx : Sm25 x := Sm25.mk h0 h1 h2 h3 h4 h5
    intro l depth u
    by_cases c : (l.length : Int) > 4096
    · exact ⟨[], by simpa using Ev.all (f := fun k => blw1 k l x depth u) (fun k => by rw [blw1, if_pos c]), by simp, fun h => absurd c h⟩
    · by_cases d : depth > 64
      · exact ⟨[⟨x, depth, u⟩], Ev.all (fun k => by rw [blw1, if_neg c, if_pos d]), by simp [hx], fun _ => ⟨[], rfl⟩⟩
      · obtain ⟨n, e, s⟩ := blwL_ev x.f4 ih (l ++ [⟨x, depth, u⟩]) (depth + 1) l.length
        refine ⟨⟨x, depth, u⟩ :: n, (by simpa using e : Ev (fun k => blw k (l ++ [⟨x, depth, u⟩]) x.f4 (depth + 1) l.length) (l ++ ⟨x, depth, u⟩ :: n)).eq (fun k => by rw [blw1, if_neg c, if_neg d]), fun it hit => ?_, fun _ => ⟨n, rfl⟩⟩
        rcases List.mem_cons.1 hit with h | h
        · rw [h]; exact hx
        · exact s it h

/-! ### what is wrong at a place of the list -/
def Twice (L : List S48) (i : Nat) : Prop := ∃ it jt j, j < i ∧ L[i]? = some it ∧ L[j]? = some jt ∧ 0 ≤ it.f2 ∧ jt.f2 = it.f2 ∧ it.f0.f1.data.toList ≠ [] ∧ jt.f0.f1.data.toList = it.f0.f1.data.toList
def OKat (L : List S48) (i : Nat) : Prop := ∃ it, L[i]? = some it ∧ i ≠ 4096 ∧ it.f1 ≤ 64 ∧ wr it.f0 = 0 ∧ ¬ Twice L i
def BadAt (L : List S48) (i : Nat) (e : Int) : Prop := ∃ it, L[i]? = some it ∧ ((i = 4096 ∧ e = 12) ∨ (i ≠ 4096 ∧ it.f1 > 64 ∧ e = 11) ∨ (i ≠ 4096 ∧ it.f1 ≤ 64 ∧ wr it.f0 ≠ 0 ∧ e = wr it.f0) ∨ (i ≠ 4096 ∧ it.f1 ≤ 64 ∧ wr it.f0 = 0 ∧ Twice L i ∧ e = 10))
theorem get_ext {L : List S48} {i : Nat} {it : S48} (h : L[i]? = some it) (E : List S48) : (L ++ E)[i]? = some it := by
  rw [List.getElem?_append_left (List.getElem?_eq_some_iff.1 h).1]; exact h
theorem twice_ext {L : List S48} {i : Nat} (hi : i < L.length) (E : List S48) : Twice (L ++ E) i ↔ Twice L i := by
  unfold Twice
  constructor
  · rintro ⟨it, jt, j, hj, h1, h2, h3⟩
    rw [List.getElem?_append_left hi] at h1
    rw [List.getElem?_append_left (by omega)] at h2
    exact ⟨it, jt, j, hj, h1, h2, h3⟩
  · rintro ⟨it, jt, j, hj, h1, h2, h3⟩
    exact ⟨it, jt, j, hj, get_ext h1 E, get_ext h2 E, h3⟩
theorem OKat.ext {L : List S48} {i : Nat} (h : OKat L i) (E : List S48) : OKat (L ++ E) i := by
  obtain ⟨it, h1, h2, h3, h4, h5⟩ := h
  exact ⟨it, get_ext h1 E, h2, h3, h4, fun ht => h5 ((twice_ext (List.getElem?_eq_some_iff.1 h1).1 E).1 ht)⟩
theorem BadAt.ext {L : List S48} {i : Nat} {e : Int} (h : BadAt L i e) (E : List S48) : BadAt (L ++ E) i e := by
  obtain ⟨it, h1, h2⟩ := h
  refine ⟨it, get_ext h1 E, ?_⟩
  rw [twice_ext (List.getElem?_eq_some_iff.1 h1).1 E]
  exact h2

def Met (l : List S48) (u : Int) (met : List (List UInt8)) : Prop := ∀ key, key ∈ met ↔ key ≠ [] ∧ ∃ jt ∈ l, jt.f2 = u ∧ jt.f0.f1.data.toList = key
def md (d : Int) (it : S48) : Int := max d it.f1

/-- What a visit tells, against the list. -/
structure Sim (l new : List S48) (deep : Int) (r : Bool × Int × Int × Int) : Prop where
  sm : ∀ it ∈ new, Sm25 it.f0
  yes : r.1 = true → r.2 = (((l ++ new).length : Int), new.foldl md deep, 0) ∧ (l ++ new).length ≤ 4096 ∧ (∀ i, l.length ≤ i → i < (l ++ new).length → OKat (l ++ new) i) ∧ ∀ it ∈ new, it.f2 < (l ++ new).length
  no : r.1 = false → ∃ p : Nat, r.2.1 = p ∧ l.length ≤ p ∧ p < (l ++ new).length ∧ (∀ i, l.length ≤ i → i < p → OKat (l ++ new) i) ∧ BadAt (l ++ new) p r.2.2.2

def SimT (x : S25) : Prop := ∀ (depth deep : Int) (met : List (List UInt8)) (l : List S48) (u : Int), l.length ≤ 4096 → u < l.length → (u < 0 → met = []) → Met l u met → (∀ jt ∈ l, jt.f2 < l.length) →
  ∃ r rest, Ev (fun k => vis1 k x depth l.length deep met) r ∧ Ev (fun k => blw1 k l x depth u) (l ++ ⟨x, depth, u⟩ :: rest) ∧ Sim l (⟨x, depth, u⟩ :: rest) deep r ∧ (r.1 = true → ∀ it ∈ rest, (l.length : Int) ≤ it.f2)

theorem sim_L (ks : List S25) (hs : ∀ y ∈ ks, Sm25 y) (hv : ∀ y ∈ ks, SimT y) : ∀ (depth deep : Int) (met : List (List UInt8)) (l : List S48) (u : Int), l.length ≤ 4096 → u < l.length → 0 ≤ u → Met l u met → (∀ jt ∈ l, jt.f2 < l.length) →
    ∃ r new, Ev (fun k => vis k ks depth l.length deep met) r ∧ Ev (fun k => blw k l ks depth u) (l ++ new) ∧ Sim l new deep r ∧ (r.1 = true → ∀ it ∈ new, it.f2 = u ∨ (l.length : Int) ≤ it.f2) := by
  induction ks with
  | nil =>
    intro depth deep met l u h0 h1 h2 h3 h4
    refine ⟨(true, l.length, deep, 0), [], (Ev.pure _).step (fun k => rfl), by simpa using (Ev.pure l).step (fun k => rfl), ⟨by simp, fun _ => ⟨by simp, by simpa using h0, fun i a b => by simp at b; omega, by simp⟩, by simp⟩, by simp⟩
  | cons y ys ih =>
    intro depth deep met l u h0 h1 h2 h3 h4
    have hc : ¬ (l.length : Int) > 4096 := by omega
    obtain ⟨r1, rest, e1, b1, s1, q1⟩ := hv y (by simp) depth deep met l u h0 h1 (fun h => by omega) h3 h4
    obtain ⟨n1, hn1⟩ : ∃ n1, (⟨y, depth, u⟩ : S48) :: rest = n1 := ⟨_, rfl⟩
    have hmem : ∀ it, it ∈ n1 ↔ it = ⟨y, depth, u⟩ ∨ it ∈ rest := by intro it; rw [← hn1]; simp
    rw [hn1] at b1 s1
    cases hr : r1.1 with
    | false =>
      obtain ⟨n2, b2, m2⟩ := blwL_ev ys (fun z hz => blwT_ev z (hs z (by simp [hz]))) (l ++ n1) depth u
      obtain ⟨p, p1, p2, p3, p4, p5⟩ := s1.no hr
      refine ⟨r1, n1 ++ n2, e1.via (Ev.pure r1) (fun k hk => by rw [vis_cons, hk]; simp [hr]), b1.via (by rw [← List.append_assoc]; exact b2) (fun k hk => by rw [blw_cons, if_neg hc, hk]; rfl), ⟨?_, ?_, ?_⟩, ?_⟩
      · intro it hit
        rcases List.mem_append.1 hit with h | h
        · exact s1.sm it h
        · exact m2 it h
      · intro h; rw [hr] at h; cases h
      · intro _
        rw [← List.append_assoc]
        exact ⟨p, p1, p2, by rw [List.length_append]; omega, fun i a b => (p4 i a b).ext n2, p5.ext n2⟩
      · intro h; rw [hr] at h; cases h
    | true =>
      obtain ⟨y1, y2, y3, y4⟩ := s1.yes hr
      have q1 := q1 hr
      have hlen : l.length < (l ++ n1).length := by rw [← hn1]; simp
      obtain ⟨r2, n2, e2, b2, s2, q2⟩ := ih (fun z hz => hs z (by simp [hz])) (fun z hz => hv z (by simp [hz])) depth (n1.foldl md deep) (next met y) (l ++ n1) u y2 (by omega) h2 (by
        intro key
        have hn : key ∈ next met y ↔ key ∈ met ∨ (key ≠ [] ∧ y.f1.data.toList = key) := by
          unfold next
          split
          · next he =>
            constructor
            · exact .inl
            · rintro (h | ⟨h, rfl⟩)
              · exact h
              · exact absurd he h
          · next he =>
            rw [List.mem_cons]
            constructor
            · rintro (rfl | h)
              · exact .inr ⟨he, rfl⟩
              · exact .inl h
            · rintro (h | ⟨_, rfl⟩)
              · exact .inr h
              · exact .inl rfl
        rw [hn, h3 key]
        constructor
        · rintro (⟨h5, jt, h6, h7⟩ | ⟨h5, h6⟩)
          · exact ⟨h5, jt, List.mem_append_left _ h6, h7⟩
          · exact ⟨h5, ⟨y, depth, u⟩, List.mem_append_right _ ((hmem _).2 (.inl rfl)), rfl, h6⟩
        · rintro ⟨h5, jt, h6, h7, h8⟩
          rcases List.mem_append.1 h6 with h | h
          · exact .inl ⟨h5, jt, h, h7, h8⟩
          · rcases (hmem _).1 h with rfl | h
            · exact .inr ⟨h5, h8⟩
            · have := q1 jt h
              omega) (by
        intro jt hjt
        rcases List.mem_append.1 hjt with h | h
        · have := h4 jt h; omega
        · exact y4 jt h)
      refine ⟨r2, n1 ++ n2, e1.via e2 (fun k hk => by rw [vis_cons, hk]; simp only [Option.bind_some, hr, if_true, y1]; rfl), b1.via (by rw [← List.append_assoc]; exact b2) (fun k hk => by rw [blw_cons, if_neg hc, hk]; rfl), ⟨?_, ?_, ?_⟩, ?_⟩
      · intro it hit
        rcases List.mem_append.1 hit with h | h
        · exact s1.sm it h
        · exact s2.sm it h
      · intro h
        obtain ⟨z1, z2, z3, z4⟩ := s2.yes h
        rw [← List.append_assoc, List.foldl_append]
        refine ⟨z1, z2, fun i a b => ?_, fun it hit => ?_⟩
        · rcases Nat.lt_or_ge i (l ++ n1).length with c | c
          · exact (y3 i a c).ext n2
          · exact z3 i c b
        · rcases List.mem_append.1 hit with h | h
          · have := y4 it h
            rw [List.length_append]
            omega
          · exact z4 it h
      · intro h
        obtain ⟨p, p1, p2, p3, p4, p5⟩ := s2.no h
        rw [← List.append_assoc]
        refine ⟨p, p1, by omega, p3, fun i a b => ?_, p5⟩
        rcases Nat.lt_or_ge i (l ++ n1).length with c | c
        · exact (y3 i a c).ext n2
        · exact p4 i c b
      · intro h it hit
        rcases List.mem_append.1 hit with g | g
        · rcases (hmem _).1 g with rfl | g
          · exact .inl rfl
          · exact .inr (q1 it g)
        · rcases q2 h it g with g | g
          · exact .inl g
          · exact .inr (by omega)

theorem sim_T (x : S25) (h : Sm25 x) : SimT x := by
  induction h with
  | @mk x h0 h1 h2 h3 h4 h5 ih =>
    have hx : Sm25 x := Sm25.mk h0 h1 h2 h3 h4 h5
    intro depth deep met l u c0 c1 c2 c3 c4
    obtain ⟨it, hit⟩ : ∃ it : S48, (⟨x, depth, u⟩ : S48) = it := ⟨_, rfl⟩
    have i0 : it.f0 = x := by rw [← hit]
    have i1 : it.f1 = depth := by rw [← hit]
    have i2 : it.f2 = u := by rw [← hit]
    have hc : ¬ (l.length : Int) > 4096 := by omega
    have hget (rest : List S48) : (l ++ it :: rest)[l.length]? = some it := by simp
    have hget2 (rest : List S48) (j : Nat) (hj : j < l.length) : (l ++ it :: rest)[j]? = some (l[j]) := by rw [List.getElem?_append_left hj, List.getElem?_eq_getElem hj]
    obtain ⟨w1, _⟩ := wr_ev hx
    have fin (e0 : Int) (hE : Ev (fun k => visE k x depth l.length) e0) (hne : visX e0 x.f1.data.toList met ≠ 0) (hno : ∀ rest, BadAt (l ++ it :: rest) l.length (visX e0 x.f1.data.toList met)) :
        ∃ r rest, Ev (fun k => vis1 k x depth l.length deep met) r ∧ Ev (fun k => blw1 k l x depth u) (l ++ ⟨x, depth, u⟩ :: rest) ∧ Sim l (⟨x, depth, u⟩ :: rest) deep r ∧ (r.1 = true → ∀ it ∈ rest, (l.length : Int) ≤ it.f2) := by
      obtain ⟨new, b, s, hrest⟩ := blwT_ev x hx l depth u
      obtain ⟨rest, rfl⟩ := hrest hc
      refine ⟨(false, l.length, max deep depth, visX e0 x.f1.data.toList met), rest, hE.via0 (Ev.pure _) (fun k hk => by rw [vis1, if_pos h1, hk]; simp only [Option.bind_some]; rw [if_pos hne]), b, ⟨s, by simp, fun _ => ⟨l.length, rfl, Nat.le_refl _, by simp, fun i a b => by omega, ?_⟩⟩, by simp⟩
      rw [hit]
      exact hno rest
    by_cases cn : (l.length : Int) = 4096
    · exact fin 12 (Ev.all fun k => by rw [visE, if_pos cn]) (by rw [visX_ne (by decide)]; decide) (fun rest => ⟨it, hget rest, .inl ⟨by omega, by rw [visX_ne (by decide)]⟩⟩)
    by_cases cd : depth > 64
    · exact fin 11 (Ev.all fun k => by rw [visE, if_neg cn, if_pos cd]) (by rw [visX_ne (by decide)]; decide) (fun rest => ⟨it, hget rest, .inr (.inl ⟨by omega, by omega, by rw [visX_ne (by decide)]⟩)⟩)
    have hE : Ev (fun k => visE k x depth l.length) (wr x) := w1.eq (fun k => by rw [visE, if_neg cn, if_neg cd])
    by_cases cw : wr x = 0
    case neg => exact fin (wr x) hE (by rw [visX_ne cw]; exact cw) (fun rest => ⟨it, hget rest, .inr (.inr (.inl ⟨by omega, by omega, by rw [i0]; exact cw, by rw [visX_ne cw, i0]⟩))⟩)
    have htw (rest : List S48) : Twice (l ++ it :: rest) l.length ↔ x.f1.data.toList ∈ met := by
      constructor
      · rintro ⟨a, jt, j, hj, g1, g2, g3, g4, g5, g6⟩
        rw [hget rest] at g1
        cases g1
        rw [hget2 rest j hj] at g2
        cases g2
        rw [i0] at g5 g6
        rw [i2] at g4
        exact (c3 _).2 ⟨g5, l[j], List.getElem_mem _, g4, g6⟩
      · intro hk
        obtain ⟨g1, jt, g2, g3, g4⟩ := (c3 _).1 hk
        obtain ⟨j, hj, rfl⟩ := List.getElem_of_mem g2
        have hu : 0 ≤ u := by
          rcases Int.lt_or_le u 0 with h | h
          · rw [c2 h] at hk; cases hk
          · exact h
        exact ⟨it, l[j], j, hj, hget rest, hget2 rest j hj, by omega, by rw [g3, i2], by rw [i0]; exact g1, by rw [g4, i0]⟩
    by_cases ck : x.f1.data.toList ∈ met
    · exact fin (wr x) hE (by rw [visX, if_pos ⟨cw, ck⟩]; decide) (fun rest => ⟨it, hget rest, .inr (.inr (.inr ⟨by omega, by omega, by rw [i0]; exact cw, (htw rest).2 ck, by rw [visX, if_pos ⟨cw, ck⟩]⟩))⟩)
    have hX : visX (wr x) x.f1.data.toList met = 0 := by rw [visX, if_neg (fun h => ck h.2)]; exact cw
    have hl1 : (l ++ [it]).length = l.length + 1 := by simp
    obtain ⟨r, new, e, b, s, q⟩ := sim_L x.f4 h5 ih (depth + 1) (max deep depth) [] (l ++ [it]) l.length (by omega) (by omega) (by omega) (by
      intro key
      simp only [List.not_mem_nil, false_iff]
      rintro ⟨_, jt, g1, g2, _⟩
      rcases List.mem_append.1 g1 with g | g
      · have := c4 jt g; omega
      · simp at g
        subst g
        omega) (by
      intro jt g1
      rcases List.mem_append.1 g1 with g | g
      · have := c4 jt g; omega
      · simp at g
        subst g
        omega)
    have hap : l ++ [it] ++ new = l ++ it :: new := by simp
    have hcast : (((l ++ [it]).length : Nat) : Int) = (l.length : Int) + 1 := by omega
    rw [hcast] at e
    rw [hap] at b
    have hok : OKat (l ++ it :: new) l.length := ⟨it, hget new, by omega, by omega, by rw [i0]; exact cw, fun h => ck ((htw new).1 h)⟩
    refine ⟨r, new, hE.via0 e (fun k hk => by rw [vis1, if_pos h1, hk]; simp only [Option.bind_some]; rw [if_neg (by rw [hX]; decide)]), ?_, ⟨?_, ?_, ?_⟩, ?_⟩
    · rw [hit]
      exact b.eq (fun k => by rw [blw1, if_neg hc, if_neg cd, hit])
    · rw [hit]
      intro jt hjt
      rcases List.mem_cons.1 hjt with rfl | g
      · rw [i0]; exact hx
      · exact s.sm jt g
    · rw [hit]
      intro hr
      obtain ⟨z1, z2, z3, z4⟩ := s.yes hr
      rw [hap] at z1 z2 z3 z4
      refine ⟨?_, z2, fun i a b => ?_, fun jt hjt => ?_⟩
      · rw [z1, List.foldl_cons]
        have : md deep it = max deep depth := by unfold md; rw [i1]
        rw [this]
      · rcases Nat.eq_or_lt_of_le a with rfl | a
        · exact hok
        · exact z3 i (by omega) b
      · rcases List.mem_cons.1 hjt with rfl | g
        · simp only [List.length_append, List.length_cons]
          omega
        · exact z4 jt g
    · rw [hit]
      intro hr
      obtain ⟨p, p1, p2, p3, p4, p5⟩ := s.no hr
      rw [hap] at p3 p4 p5
      refine ⟨p, p1, by omega, p3, fun i a b => ?_, p5⟩
      rcases Nat.eq_or_lt_of_le a with rfl | a
      · exact hok
      · exact p4 i (by omega) b
    · intro hr jt hjt
      rcases q hr jt hjt with g | g
      · omega
      · omega
end Go.Proofs.Ytafkgjnafddgbaa.Pure
