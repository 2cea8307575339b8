/- For any list of at most 300 members: without the skipped members Longest chooses the same members; and the fixed example holds. -/
import Derived.Test.YtahjlbbliihgpaaGx5
import Derived.Test.YtahjlbbliihgpaaH8
import Derived.Test.YtahjlbbliihgpaaPureLisAny
namespace Go.Proofs.Ytahjlbbliihgpaa.Pure
open Go.RowKit Go.Proofs.Ytahjlbbliihgpaa.G Go.Proofs.YtahjlbbliihgpaaW.PrintWords Go.Proofs.YtahjlbbliihgpaaW.PrintLast

/-- Is member j not skipped? -/
def kn (l : List Int) (j : Nat) : Bool := decide (0 ≤ rd l j)
/-- The places, of the first i, that are not skipped. -/
def keptIn (l : List Int) (i : Nat) : List Nat := (List.range i).filter (kn l)
def kept (l : List Int) : List Nat := keptIn l l.length
def restOf (l : List Int) : List Int := (kept l).map fun i : Nat => rd l (i : Int)
def phi (l : List Int) (y : Int) : Int := ((kept l).getD y.toNat 0 : Nat)
def psi (l : List Int) (y : Int) : Int := if y < 0 then -1 else phi l y

theorem keptIn_succ (l : List Int) (i : Nat) : keptIn l (i + 1) = if kn l i = true then keptIn l i ++ [i] else keptIn l i := by
  unfold keptIn
  rw [List.range_succ, List.filter_append]
  split
  · rename_i h; simp [h]
  · rename_i h; simp [h]
theorem keptIn_prefix (l : List Int) (i : Nat) : ∀ d, ∃ s, keptIn l (i + d) = keptIn l i ++ s
  | 0 => ⟨[], by simp⟩
  | d + 1 => by
    obtain ⟨s, hs⟩ := keptIn_prefix l i d
    rw [← Nat.add_assoc, keptIn_succ]
    split
    · exact ⟨s ++ [i + d], by rw [hs, List.append_assoc]⟩
    · exact ⟨s, hs⟩
theorem keptIn_getD (l : List Int) (i j : Nat) (hi : i ≤ l.length) (hj : j < (keptIn l i).length) : (kept l).getD j 0 = (keptIn l i).getD j 0 := by
  obtain ⟨s, hs⟩ := keptIn_prefix l i (l.length - i)
  rw [show i + (l.length - i) = l.length by omega] at hs
  unfold kept
  rw [hs, List.getD_eq_getElem?_getD, List.getElem?_append_left hj, List.getD_eq_getElem?_getD]
theorem keptIn_mem {l : List Int} {i x : Nat} (h : x ∈ keptIn l i) : x < i ∧ 0 ≤ rd l x := by
  unfold keptIn at h
  rw [List.mem_filter] at h
  refine ⟨List.mem_range.1 h.1, ?_⟩
  have := h.2
  simpa [kn] using this
theorem phi_lt {l : List Int} {i : Nat} (hi : i ≤ l.length) {y : Int} (h0 : 0 ≤ y) (hy : y < (keptIn l i).length) : 0 ≤ phi l y ∧ phi l y < i ∧ 0 ≤ rd l (phi l y) := by
  unfold phi
  rw [keptIn_getD l i y.toNat hi (by omega)]
  have hm : (keptIn l i).getD y.toNat 0 ∈ keptIn l i := by
    rw [List.getD_eq_getElem?_getD, List.getElem?_eq_getElem (by omega)]
    exact List.getElem_mem _
  obtain ⟨a, b⟩ := keptIn_mem hm
  exact ⟨by omega, by omega, b⟩
theorem phi_at {l : List Int} {i : Nat} (hi : i < l.length) (hn : 0 ≤ rd l i) : phi l ((keptIn l i).length : Int) = i := by
  have hs := keptIn_succ l i
  rw [if_pos (by simpa [kn] using hn)] at hs
  unfold phi
  rw [keptIn_getD l (i + 1) _ (by omega) (by rw [hs]; simp), hs, Int.toNat_natCast, List.getD_eq_getElem?_getD, List.getElem?_append_right (Nat.le_refl _)]
  simp
theorem rest_len (l : List Int) : (restOf l).length = (kept l).length := by simp [restOf]
theorem rest_rd {l : List Int} {y : Int} (h0 : 0 ≤ y) (hy : y < (kept l).length) : rd (restOf l) y = rd l (phi l y) := by
  unfold phi restOf
  have e : ∀ (f : Nat → Int) (xs : List Nat) (j : Nat), j < xs.length → (xs.map f).getD j 0 = f (xs.getD j 0) := fun f xs j hj => by
    rw [List.getD_eq_getElem?_getD, List.getD_eq_getElem?_getD, List.getElem?_map, List.getElem?_eq_getElem hj]; rfl
  show ((kept l).map fun i : Nat => rd l (i : Int)).getD y.toNat 0 = _
  rw [e _ _ _ (by omega)]
theorem keptIn_le (l : List Int) (i : Nat) (hi : i ≤ l.length) : (keptIn l i).length ≤ (kept l).length := by
  obtain ⟨s, hs⟩ := keptIn_prefix l i (l.length - i)
  rw [show i + (l.length - i) = l.length by omega] at hs
  unfold kept
  rw [hs, List.length_append]
  omega

/-- How the two games stand to each other. -/
structure Twin (l : List Int) (i : Nat) (pl : List (List Int)) (al : List Int) (pr : List (List Int)) (ar : List Int) : Prop where
  piles : pl = pr.map fun p => p.map (phi l)
  ahead : ∀ k x, x ∈ pr.getD k [] → rd al (phi l x) = psi l (rd ar x)

theorem getD_map (f : Int → Int) (pr : List (List Int)) (k : Nat) : (pr.map fun p => p.map f).getD k [] = (pr.getD k []).map f := by
  rw [List.getD_eq_getElem?_getD, List.getD_eq_getElem?_getD, List.getElem?_map]
  cases pr[k]? <;> rfl
theorem rd_map (f : Int → Int) (p : List Int) (j : Int) (h0 : 0 ≤ j) (hj : j < p.length) : rd (p.map f) j = f (rd p j) := by
  unfold rd
  rw [List.getD_eq_getElem?_getD, List.getD_eq_getElem?_getD, List.getElem?_map, List.getElem?_eq_getElem (by omega)]
  rfl
theorem top_map {l : List Int} {j : Nat} {pr : List (List Int)} {ar : List Int} (hp : Pat l j pr ar) (f : Int → Int) (k : Nat) (hk : k < pr.length) : topAt (pr.map fun p => p.map f) k = f (topAt pr k) := by
  rw [topAt_eq (by rw [List.length_map]; exact hk), topAt_eq hk, getD_map, List.length_map]
  have := hp.nonempty hk
  exact rd_map f _ _ (by omega) (by omega)

theorem findL_twin (l r : List Int) (j : Nat) (pr : List (List Int)) (ar : List Int) (hp : Pat r j pr ar) (f : Int → Int) (hv : ∀ k x, x ∈ pr.getD k [] → rd l (f x) = rd r x) (n : Int) :
    ∀ (fu : Nat) (lo hi : Int), 0 ≤ lo → hi ≤ pr.length → findL fu l (pr.map fun p => p.map f) n lo hi = findL fu r pr n lo hi
  | 0, _, _, _, _ => rfl
  | fu + 1, lo, hi, h0, h1 => by
    rw [findL, findL]
    by_cases hlt : lo < hi
    · rw [if_pos hlt, if_pos hlt]
      obtain ⟨m, hm⟩ := Int.eq_ofNat_of_zero_le (show 0 ≤ (lo + hi) / 2 by omega)
      have hml : m < pr.length := by omega
      have e1 : topOf (pr.map fun p => p.map f) ((lo + hi) / 2) = f (topOf pr ((lo + hi) / 2)) := by
        have := top_map hp f m hml
        unfold topAt at this
        rw [if_neg (by omega), if_neg (by rw [List.length_map]; omega), if_neg (by omega), if_neg (by omega)] at this
        rw [hm]; exact this
      have hmem : topOf pr ((lo + hi) / 2) ∈ pr.getD m [] := by
        have := rd_last_mem _ (hp.nonempty hml)
        rw [← topAt_eq hml] at this
        unfold topAt at this
        rw [if_neg (by omega), if_neg (by omega)] at this
        rw [hm]; exact this
      rw [e1, hv m _ hmem, findL_twin l r j pr ar hp f hv n fu lo _ h0 (by omega), findL_twin l r j pr ar hp f hv n fu _ hi (by omega) h1]
    · rw [if_neg hlt, if_neg hlt]

theorem twin (l : List Int) : ∀ i, i ≤ l.length → Twin l i (playN l i).1 (playN l i).2 (playN (restOf l) (keptIn l i).length).1 (playN (restOf l) (keptIn l i).length).2
  | 0, _ => ⟨rfl, fun k x hx => by simp [keptIn, playN] at hx⟩
  | i + 1, h => by
    obtain ⟨h1, h2⟩ := twin l i (by omega)
    have hji := keptIn_le l i (by omega)
    have hP := playN_pat (restOf l) (keptIn l i).length (by rw [rest_len]; exact hji)
    rw [keptIn_succ]
    by_cases hneg : rd l i < 0
    · rw [if_neg (by simp [kn]; omega), show playN l (i + 1) = playStep l (playN l i) i from rfl]
      unfold playStep
      rw [if_pos hneg]
      exact ⟨h1, h2⟩
    · have hkn : kn l i = true := by simp [kn]; omega
      have hjlt : (keptIn l i).length < (kept l).length := by
        have := keptIn_le l (i + 1) h
        rw [keptIn_succ, if_pos hkn] at this
        simp at this
        omega
      have hphi := phi_at (l := l) (i := i) (by omega) (by omega)
      rw [if_pos hkn, List.length_append]
      simp only [List.length_cons, List.length_nil]
      obtain ⟨j, hj⟩ : ∃ j, (keptIn l i).length = j := ⟨_, rfl⟩
      rw [hj] at h1 h2 hP hjlt hphi ⊢
      obtain ⟨stl, hstl⟩ : ∃ st, playN l i = st := ⟨_, rfl⟩
      obtain ⟨str, hstr⟩ : ∃ st, playN (restOf l) j = st := ⟨_, rfl⟩
      have hinv := playN_inv l i (by omega)
      rw [hstl] at h1 h2 hinv
      rw [hstr] at h1 h2 hP
      have hrj : rd (restOf l) j = rd l i := by rw [rest_rd (by omega) (by omega), hphi]
      have hv : ∀ k x, x ∈ str.1.getD k [] → rd l (phi l x) = rd (restOf l) x := fun k x hx => by
        have := hP.range hx
        rw [rest_rd this.1 (by omega)]
      have hlen : stl.1.length = str.1.length := by rw [h1, List.length_map]
      have hfind : findL stl.1.length l stl.1 (rd l i) 0 stl.1.length = findL str.1.length (restOf l) str.1 (rd (restOf l) j) 0 str.1.length := by
        rw [hlen, h1, findL_twin l (restOf l) j str.1 str.2 hP (phi l) hv _ _ _ _ (by omega) (by omega), hrj]
      rw [show playN l (i + 1) = playStep l (playN l i) i from rfl, show playN (restOf l) (j + 1) = playStep (restOf l) (playN (restOf l) j) j from rfl, hstl, hstr]
      unfold playStep
      rw [if_neg hneg, if_neg (by rw [hrj]; exact hneg), hfind]
      have hk := findL_range (restOf l) str.1 (rd (restOf l) j) str.1.length 0 str.1.length (by omega)
      generalize findL str.1.length (restOf l) str.1 (rd (restOf l) j) 0 str.1.length = kk at hk
      obtain ⟨k, rfl⟩ := Int.eq_ofNat_of_zero_le hk.1
      have hkl : k ≤ str.1.length := by omega
      have htop : topAt stl.1 ((k : Int) - 1) = psi l (topAt str.1 ((k : Int) - 1)) := by
        cases k with
        | zero => simp [topAt, psi]
        | succ k =>
          rw [show ((k + 1 : Nat) : Int) - 1 = (k : Int) by omega, h1, top_map hP (phi l) k (by omega)]
          have hr := hP.range (rd_last_mem _ (hP.nonempty (show k < str.1.length by omega)))
          rw [← topAt_eq (show k < str.1.length by omega)] at hr
          unfold psi
          rw [if_neg (by omega)]
      refine ⟨?_, ?_⟩
      · show (if (k : Int) = stl.1.length then stl.1 ++ [[]] else stl.1).set (k : Int).toNat ((if (k : Int) = stl.1.length then stl.1 ++ [[]] else stl.1).getD (k : Int).toNat [] ++ [(i : Int)]) =
          ((if (k : Int) = str.1.length then str.1 ++ [[]] else str.1).set (k : Int).toNat ((if (k : Int) = str.1.length then str.1 ++ [[]] else str.1).getD (k : Int).toNat [] ++ [(j : Int)])).map fun p => p.map (phi l)
        have hpl : (if (k : Int) = stl.1.length then stl.1 ++ [[]] else stl.1) = (if (k : Int) = str.1.length then str.1 ++ [[]] else str.1).map fun p => p.map (phi l) := by
          rw [hlen, h1]
          split <;> simp
        rw [hpl, List.map_set, getD_map, List.map_append]
        simp only [List.map_cons, List.map_nil]
        rw [hphi]
      · intro k2 x hx
        simp only [Int.toNat_natCast] at hx
        have hx := hx
        rw [getD_stepped str.1 k hkl] at hx
        have hold : ∀ k3, x ∈ str.1.getD k3 [] → rd (stl.2.set i (topAt stl.1 ((k : Int) - 1))) (phi l x) = psi l (rd (str.2.set j (topAt str.1 ((k : Int) - 1))) x) := fun k3 h3 => by
          have hr := hP.range h3
          have hlt := phi_lt (l := l) (i := i) (by omega) hr.1 (by rw [hj]; exact hr.2)
          rw [rd_set hlt.1, if_neg (by omega), rd_set hr.1, if_neg (by omega)]
          exact h2 k3 x h3
        split at hx
        · rcases List.mem_append.1 hx with hx | hx
          · exact hold _ hx
          · obtain rfl : x = j := by simpa using hx
            show rd (stl.2.set i (topAt stl.1 ((k : Int) - 1))) (phi l j) = psi l (rd (str.2.set j (topAt str.1 ((k : Int) - 1))) j)
            rw [hphi, rd_set (by omega), if_pos rfl, if_pos (by rw [hinv.ahl]; omega), rd_set (by omega), if_pos rfl, if_pos (by rw [hP.inv.ahl, rest_len]; exact hjlt), htop]
        · exact hold _ hx

theorem chain_twin {l : List Int} {j : Nat} {pr : List (List Int)} {ar al : List Int} (hp : Pat (restOf l) j pr ar) (h2 : ∀ k x, x ∈ pr.getD k [] → rd al (phi l x) = psi l (rd ar x)) :
    ∀ (n : Nat) (x : Int), (∀ m, n = m + 1 → x ∈ pr.getD m []) → chainOf al n (psi l x) = (chainOf ar n x).map (phi l)
  | 0, _, _ => rfl
  | n + 1, x, hx => by
    have hx0 := hx n rfl
    have hr := hp.range hx0
    have e : psi l x = phi l x := by unfold psi; rw [if_neg (by omega)]
    rw [e, chainOf, chainOf, h2 n x hx0, chain_twin hp h2 n (rd ar x) (fun m hm => by subst hm; exact (hp.back m x hx0).1), List.map_append]
    rfl

theorem longest_twin (l : List Int) : longestOf l = (longestOf (restOf l)).map (phi l) ∧ (pilesOf l).length = (pilesOf (restOf l)).length := by
  obtain ⟨h1, h2⟩ := twin l l.length (Nat.le_refl _)
  have hk : (keptIn l l.length).length = (restOf l).length := by rw [rest_len]; rfl
  rw [hk] at h1 h2
  have hP := pat (restOf l)
  have hlen : (pilesOf l).length = (pilesOf (restOf l)).length := by
    show (playN l l.length).1.length = (playN (restOf l) (restOf l).length).1.length
    rw [h1, List.length_map]
  refine ⟨?_, hlen⟩
  unfold longestOf
  have htop : topAt (pilesOf l) (((pilesOf l).length : Int) - 1) = psi l (topAt (pilesOf (restOf l)) (((pilesOf (restOf l)).length : Int) - 1)) := by
    rw [hlen]
    rcases Nat.eq_zero_or_pos (pilesOf (restOf l)).length with h0 | h0
    · rw [h0]; simp [topAt, psi]
    · obtain ⟨m, hm⟩ : ∃ m, (pilesOf (restOf l)).length = m + 1 := ⟨(pilesOf (restOf l)).length - 1, by omega⟩
      rw [hm, show ((m + 1 : Nat) : Int) - 1 = (m : Int) by omega]
      have := top_map hP (phi l) m (by omega)
      have e : pilesOf l = (pilesOf (restOf l)).map fun p => p.map (phi l) := h1
      rw [e, this]
      have hr := hP.range (rd_last_mem _ (hP.nonempty (show m < (pilesOf (restOf l)).length by omega)))
      rw [← topAt_eq (show m < (pilesOf (restOf l)).length by omega)] at hr
      unfold psi
      rw [if_neg (by omega)]
  rw [htop, hlen]
  exact chain_twin hP h2 _ _ (fun m hm => by
    rw [hm, show ((m + 1 : Nat) : Int) - 1 = (m : Int) by omega, topAt_eq (by omega)]
    exact rd_last_mem _ (hP.nonempty (by omega)))

theorem longest_choice' (l : List Int) (j : Int) (h0 : 0 ≤ j) (hj : j < (longestOf l).length) : 0 ≤ rd (longestOf l) j ∧ rd (longestOf l) j < l.length := by
  obtain ⟨n, rfl⟩ := Int.eq_ofNat_of_zero_le h0
  rw [longest_len] at hj
  obtain ⟨a1, _, _⟩ := longest_at l n (by omega)
  exact (pat l).range a1

theorem skips_l1 (l : List Int) (hn : l.length ≤ 300) (d : Nat) : ∀ (k : Nat) (j : Int), 0 ≤ j → ((longestOf l).length : Int) - j = d → d + 30 < k →
    tendrillaw06_LisSkips.l1 k l (restOf l) (longestOf l) (longestOf (restOf l)) (longestOf l).length j = some true := by
  obtain ⟨e1, e2⟩ := longest_twin l
  have hlen : (longestOf l).length = (longestOf (restOf l)).length := by rw [e1, List.length_map]
  have hll := longest_len l
  have hps := (pat l).inv.psl
  induction d with
  | zero =>
    intro k j h0 hd hk
    obtain ⟨k, rfl⟩ : ∃ m, k = m + 1 := ⟨k - 1, by omega⟩
    rw [tendrillaw06_LisSkips.l1, if_neg (by omega), at_rounds tendrillaw06_same.mono (show 20 ≤ k by omega) same_true]
    rfl
  | succ d ih =>
    intro k j h0 hd hk
    obtain ⟨k, rfl⟩ : ∃ m, k = m + 1 := ⟨k - 1, by omega⟩
    obtain ⟨x, hx⟩ : ∃ x, rd (longestOf (restOf l)) j = x := ⟨_, rfl⟩
    have hx1 : rd (longestOf l) j = phi l x := by rw [e1, rd_map _ _ _ h0 (by omega), hx]
    have hc := longest_choice' (restOf l) j h0 (by omega)
    rw [hx] at hc
    have hxl : x < (kept l).length := by rw [← rest_len]; exact hc.2
    have hp := phi_lt (l := l) (i := l.length) (Nat.le_refl _) hc.1 hxl
    have hr := rest_rd hc.1 hxl
    rw [tendrillaw06_LisSkips.l1, if_pos (by omega), if_pos h0, if_pos (by omega), hx1, hx, if_neg (by omega), if_neg (by omega), if_pos (by omega), if_neg (by omega), if_neg (by omega), if_pos hp.1, if_pos hp.2.1, if_pos hc.1, if_pos hc.2, if_pos hr.symm, w1 h0 (by omega)]
    exact ih k (j + 1) (by omega) (by omega) (by omega)

theorem skips_l0 (l : List Int) (hn : l.length ≤ 300) (d : Nat) : ∀ (k i : Nat), (l.length : Int) - i = d → d + l.length + 40 < k → i ≤ l.length →
    tendrillaw06_LisSkips.l0 k l ((keptIn l i).map fun j : Nat => rd l (j : Int)) l.length i = some true := by
  obtain ⟨e1, e2⟩ := longest_twin l
  have hlen : (longestOf l).length = (longestOf (restOf l)).length := by rw [e1, List.length_map]
  have hll := longest_len l
  have hps := (pat l).inv.psl
  have hkl : (kept l).length ≤ l.length := by
    have := List.length_filter_le (kn l) (List.range l.length)
    rw [List.length_range] at this
    exact this
  induction d with
  | zero =>
    intro k i hd hk hi
    obtain ⟨k, rfl⟩ : ∃ m, k = m + 1 := ⟨k - 1, by omega⟩
    obtain rfl : i = l.length := by omega
    have f1 : lis_Longest.f l = some (longestOf l) := by unfold lis_Longest.f; rw [if_pos (by omega)]
    have f2 : lis_Longest.f (restOf l) = some (longestOf (restOf l)) := by unfold lis_Longest.f; rw [if_pos (by rw [rest_len]; omega)]
    rw [tendrillaw06_LisSkips.l0, if_neg (by omega), f1]
    simp only [Option.bind_some]
    rw [show (keptIn l l.length).map (fun j : Nat => rd l (j : Int)) = restOf l from rfl, f2]
    simp only [Option.bind_some]
    rw [if_pos (by omega)]
    exact skips_l1 l hn (longestOf l).length k 0 (by omega) (by omega) (by omega)
  | succ d ih =>
    intro k i hd hk hi
    obtain ⟨k, rfl⟩ : ∃ m, k = m + 1 := ⟨k - 1, by omega⟩
    have hle := keptIn_le l i hi
    rw [tendrillaw06_LisSkips.l0, if_pos (by omega), if_pos (by omega), if_pos (by omega), w1 (by omega) (by omega), show (i : Int) + 1 = ((i + 1 : Nat) : Int) by omega]
    have hs := keptIn_succ l i
    by_cases c : rd l i ≥ 0
    · rw [if_pos (by simp [kn]; omega)] at hs
      rw [if_pos c, if_pos (by rw [List.length_map]; omega)]
      have := ih k (i + 1) (by omega) (by omega) (by omega)
      rw [hs, List.map_append] at this
      exact this
    · rw [if_neg (by simp [kn]; omega)] at hs
      rw [if_neg c]
      have := ih k (i + 1) (by omega) (by omega) (by omega)
      rw [hs] at this
      exact this

theorem LisSkips : tendrillaw06_LisSkips.Pure := by
  intro l h1 h2 h3
  obtain ⟨K, hK⟩ : ∃ K, K = 2 * l.length + 50 := ⟨_, rfl⟩
  refine ⟨K, ?_⟩
  unfold tendrillaw06_LisSkips.f
  by_cases c1 : (l.length : Int) > 300
  · rw [if_pos c1, at_rounds tendrillaw06_same.mono (show 20 ≤ K by omega) same_true]; rfl
  rw [if_neg c1]
  exact skips_l0 l (by omega) l.length K 0 (by omega) (by omega) (by omega)
end Go.Proofs.Ytahjlbbliihgpaa.Pure
