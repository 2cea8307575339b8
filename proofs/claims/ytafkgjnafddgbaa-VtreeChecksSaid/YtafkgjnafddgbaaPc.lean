/- How great a tree is, how deep, whether it is right: and what the visits, and the weighing, come to. -/
import Derived.Test.YtafkgjnafddgbaaPb
import Derived.Test.YtafkgjnafddgbaaGx4
import Derived.Test.YtafkgjnafddgbaaH1a
namespace Go.Proofs.Ytafkgjnafddgbaa.Pure
open Go.RowKit Go.Proofs.Ytafkgjnafddgbaa.G Go.Proofs.YtafkgjnafddgbaaW.PrintWords Go.Proofs.YtafkgjnafddgbaaW.PrintLast
set_option linter.unusedVariables false

mutual
def szT : S25 → Int
  | ⟨_, _, _, _, ks⟩ => 1 + szL ks
def szL : List S25 → Int
  | [] => 0
  | y :: ys => szT y + szL ys
end
mutual
def htT : S25 → Int
  | ⟨_, _, _, _, ks⟩ => 1 + htL ks
def htL : List S25 → Int
  | [] => 0
  | y :: ys => max (htT y) (htL ys)
end
theorem szT_eq (x : S25) : szT x = 1 + szL x.f4 := by cases x; rw [szT]
theorem htT_eq (x : S25) : htT x = 1 + htL x.f4 := by cases x; rw [htT]

open Classical in
noncomputable def wr (x : S25) : Int := if h : ∃ e, Ev (fun k => vtree_wrong.f k x.f0 x.f1 x.f2 x.f3 x.f4) e then h.choose else 0
theorem wr_ev {x : S25} (h : Sm25 x) : Ev (fun k => vtree_wrong.f k x.f0 x.f1 x.f2 x.f3 x.f4) (wr x) ∧ Ev (fun k => tendrilref11_Alone.f k x.f0 x.f1 x.f2 x.f3 x.f4) (wr x) := by
  obtain ⟨e, h1, h2⟩ := alone x h
  have hx : ∃ e, Ev (fun k => vtree_wrong.f k x.f0 x.f1 x.f2 x.f3 x.f4) e := ⟨e, h1⟩
  have hw : wr x = e := by
    unfold wr
    rw [dif_pos hx]
    exact Ev.uniq hx.choose_spec h1
  rw [hw]
  exact ⟨h1, h2⟩

def keyOf (x : S25) : List UInt8 := x.f1.data.toList
def next (met : List (List UInt8)) (x : S25) : List (List UInt8) := if x.f1.data.toList = [] then met else x.f1.data.toList :: met
/-- No key twice, and none of those that were met. -/
def DK : List (List UInt8) → List S25 → Prop
  | _, [] => True
  | met, y :: ys => y.f1.data.toList ∉ met ∧ DK (next met y) ys
mutual
def goodT : S25 → Prop
  | ⟨a, b, c, d, ks⟩ => wr ⟨a, b, c, d, ks⟩ = 0 ∧ DK [] ks ∧ goodL ks
def goodL : List S25 → Prop
  | [] => True
  | y :: ys => goodT y ∧ goodL ys
end
theorem goodT_eq (x : S25) : goodT x ↔ wr x = 0 ∧ DK [] x.f4 ∧ goodL x.f4 := by cases x; rw [goodT]

theorem pos_of (x : S25) (h : Sm25 x) : 1 ≤ szT x ∧ 1 ≤ htT x := by
  induction h with
  | @mk x h0 h1 h2 h3 h4 h5 ih =>
    rw [szT_eq, htT_eq]
    have (ks : List S25) (hk : ∀ y ∈ ks, 1 ≤ szT y ∧ 1 ≤ htT y) : 0 ≤ szL ks ∧ 0 ≤ htL ks := by
      induction ks with
      | nil => simp [szL, htL]
      | cons y ys ih2 =>
        have a := hk y (by simp)
        have b := ih2 (fun z hz => hk z (by simp [hz]))
        rw [szL, htL]
        omega
    have := this x.f4 ih
    omega
theorem posL (ks : List S25) (h : ∀ y ∈ ks, Sm25 y) : 0 ≤ szL ks ∧ 0 ≤ htL ks := by
  induction ks with
  | nil => simp [szL, htL]
  | cons y ys ih =>
    have a := pos_of y (h y (by simp))
    have b := ih (fun z hz => h z (by simp [hz]))
    rw [szL, htL]
    omega

def VT (x : S25) : Prop := ∀ (depth num deep : Int) (met : List (List UInt8)), 0 ≤ num → num + szT x ≤ 4096 →
  ∃ r, Ev (fun k => vis1 k x depth num deep met) r ∧ (r.1 = true ↔ goodT x ∧ depth + htT x - 1 ≤ 64 ∧ x.f1.data.toList ∉ met) ∧ (r.1 = true → r.2 = (num + szT x, max deep (depth + htT x - 1), 0)) ∧ (r.1 = false → r.2.2.2 ≠ 0)
theorem vis_L (ks : List S25) (hs : ∀ y ∈ ks, Sm25 y) (hv : ∀ y ∈ ks, VT y) : ∀ (depth num deep : Int) (met : List (List UInt8)), 0 ≤ num → num + szL ks ≤ 4096 → depth - 1 ≤ deep → depth ≤ 65 →
    ∃ r, Ev (fun k => vis k ks depth num deep met) r ∧ (r.1 = true ↔ goodL ks ∧ depth + htL ks - 1 ≤ 64 ∧ DK met ks) ∧ (r.1 = true → r.2 = (num + szL ks, max deep (depth + htL ks - 1), 0)) ∧ (r.1 = false → r.2.2.2 ≠ 0) := by
  induction ks with
  | nil =>
    intro depth num deep met h0 h1 h2 h3
    refine ⟨(true, num, deep, 0), (Ev.pure _).step (fun k => rfl), ?_, ?_, by simp⟩
    · simp [goodL, htL, DK]
      omega
    · intro _
      simp [szL, htL]
      omega
  | cons y ys ih =>
    intro depth num deep met h0 h1 h2 h3
    have pl := posL ys (fun z hz => hs z (by simp [hz]))
    have pt := pos_of y (hs y (by simp))
    rw [szL] at h1
    obtain ⟨r1, e1, t1, u1, v1⟩ := hv y (by simp) depth num deep met h0 (by omega)
    cases hr : r1.1 with
    | false =>
      refine ⟨r1, e1.via (Ev.pure r1) (fun k hk => by rw [vis_cons, hk]; simp [hr]), ?_, ?_, v1⟩
      · rw [hr]
        rw [hr] at t1
        simp only [Bool.false_eq_true, false_iff] at t1 ⊢
        intro h
        apply t1
        rw [goodL, htL, DK] at h
        exact ⟨h.1.1, by omega, h.2.2.1⟩
      · intro h
        rw [hr] at h
        cases h
    | true =>
      have hu := u1 hr
      obtain ⟨r2, e2, t2, u2, v2⟩ := ih (fun z hz => hs z (by simp [hz])) (fun z hz => hv z (by simp [hz])) depth (num + szT y) (max deep (depth + htT y - 1)) (next met y) (by omega) (by omega) (by omega) h3
      refine ⟨r2, e1.via e2 (fun k hk => by rw [vis_cons, hk]; simp only [Option.bind_some, hr, if_true, hu]; rfl), ?_, ?_, v2⟩
      · rw [t2, goodL, htL, DK]
        have := t1.1 hr
        constructor
        · intro h
          exact ⟨⟨this.1, h.1⟩, by omega, this.2.2, h.2.2⟩
        · intro h
          exact ⟨h.1.2, by omega, h.2.2.2⟩
      · intro h
        rw [u2 h, szL, htL]
        simp only [Prod.mk.injEq, and_true]
        refine ⟨by omega, by omega⟩
theorem vis_T (x : S25) (h : Sm25 x) : VT x := by
  induction h with
  | @mk x h0 h1 h2 h3 h4 h5 ih =>
    have hx : Sm25 x := Sm25.mk h0 h1 h2 h3 h4 h5
    intro depth num deep met hn0 hn
    rw [szT_eq] at hn
    have pl := posL x.f4 h5
    obtain ⟨w1, _⟩ := wr_ev hx
    have fin (e0 : Int) (hE : Ev (fun k => visE k x depth num) e0) (hne : visX e0 x.f1.data.toList met ≠ 0) (hno : ¬ (goodT x ∧ depth + htT x - 1 ≤ 64 ∧ x.f1.data.toList ∉ met)) :
        ∃ r, Ev (fun k => vis1 k x depth num deep met) r ∧ (r.1 = true ↔ goodT x ∧ depth + htT x - 1 ≤ 64 ∧ x.f1.data.toList ∉ met) ∧ (r.1 = true → r.2 = (num + szT x, max deep (depth + htT x - 1), 0)) ∧ (r.1 = false → r.2.2.2 ≠ 0) :=
      ⟨(false, num, max deep depth, visX e0 x.f1.data.toList met), hE.via0 (Ev.pure _) (fun k hk => by rw [vis1, if_pos h1, hk]; simp only [Option.bind_some]; rw [if_pos hne]), by simpa using hno, by simp, fun _ => hne⟩
    by_cases c2 : depth > 64
    · refine fin 11 (Ev.all fun k => by rw [visE, if_neg (by omega), if_pos c2]) (by rw [visX_ne (by decide)]; decide) ?_
      rw [htT_eq]
      intro h
      omega
    have hE : Ev (fun k => visE k x depth num) (wr x) := w1.eq (fun k => by rw [visE, if_neg (by omega), if_neg c2])
    by_cases cw : wr x = 0
    case neg => exact fin (wr x) hE (by rw [visX_ne cw]; exact cw) (fun h => cw ((goodT_eq x).1 h.1).1)
    by_cases ck : x.f1.data.toList ∈ met
    · exact fin (wr x) hE (by rw [visX, if_pos ⟨cw, ck⟩]; decide) (fun h => h.2.2 ck)
    · have hX : visX (wr x) x.f1.data.toList met = 0 := by rw [visX, if_neg (fun h => ck h.2)]; exact cw
      obtain ⟨r, e, t, u, v⟩ := vis_L x.f4 h5 ih (depth + 1) (num + 1) (max deep depth) [] (by omega) (by omega) (by omega) (by omega)
      refine ⟨r, hE.via0 e (fun k hk => by rw [vis1, if_pos h1, hk]; simp only [Option.bind_some]; rw [if_neg (by rw [hX]; decide)]), ?_, ?_, v⟩
      · rw [t, goodT_eq, htT_eq]
        constructor
        · intro h
          exact ⟨⟨cw, h.2.2, h.1⟩, by omega, ck⟩
        · intro h
          exact ⟨h.1.2.2, by omega, h.1.2.1⟩
      · intro h
        rw [u h, szT_eq, htT_eq]
        simp only [Prod.mk.injEq, and_true]
        refine ⟨by omega, by omega⟩
end Go.Proofs.Ytafkgjnafddgbaa.Pure
