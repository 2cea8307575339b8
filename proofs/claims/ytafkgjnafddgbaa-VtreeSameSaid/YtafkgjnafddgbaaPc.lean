/- How great a tree is, how deep, whether it is right: and what the visits, and the weighing, come to. -/
import Derived.Test.YtafkgjnafddgbaaPb
import Derived.Test.YtafkgjnafddgbaaGx4
import Derived.Test.YtafkgjnafddgbaaH1a
namespace Go.Proofs.Ytafkgjnafddgbaa.Pure
open Go.RowKit Go.Proofs.Ytafkgjnafddgbaa.G Go.Proofs.YtafkgjnafddgbaaW.PrintWords Go.Proofs.YtafkgjnafddgbaaW.PrintLast
set_option linter.unusedVariables false

mutual
def szT : S25 → Int
  | ⟨_, _, _, _, ks⟩ => 1 + szL ks
def szL : List S25 → Int
  | [] => 0
  | y :: ys => szT y + szL ys
end
mutual
def htT : S25 → Int
  | ⟨_, _, _, _, ks⟩ => 1 + htL ks
def htL : List S25 → Int
  | [] => 0
  | y :: ys => max (htT y) (htL ys)
end
theorem szT_eq (x : S25) : szT x = 1 + szL x.f4 := by cases x; rw [szT]
theorem htT_eq (x : S25) : htT x = 1 + htL x.f4 := by cases x; rw [htT]

open Classical in
noncomputable def wr (x : S25) : Int := if h : ∃ e, Ev (fun k => vtree_wrong.f k x.f0 x.f1 x.f2 x.f3 x.f4) e then h.choose else 0
theorem wr_ev {x : S25} (h : Sm25 x) : Ev (fun k => vtree_wrong.f k x.f0 x.f1 x.f2 x.f3 x.f4) (wr x) ∧ Ev (fun k => tendrilref11_Alone.f k x.f0 x.f1 x.f2 x.f3 x.f4) (wr x) := by
  obtain ⟨e, h1, h2⟩ := alone x h
  have hx : ∃ e, Ev (fun k => vtree_wrong.f k x.f0 x.f1 x.f2 x.f3 x.f4) e := ⟨e, h1⟩
  have hw : wr x = e := by
    unfold wr
    rw [dif_pos hx]
    exact Ev.uniq hx.choose_spec h1
  rw [hw]
  exact ⟨h1, h2⟩

def next (met : List (List UInt8)) (x : S25) : List (List UInt8) := if x.f1.data.toList = [] then met else x.f1.data.toList :: met
theorem pos_of (x : S25) (h : Sm25 x) : 1 ≤ szT x ∧ 1 ≤ htT x := by
  induction h with
  | @mk x h0 h1 h2 h3 h4 h5 ih =>
    rw [szT_eq, htT_eq]
    have (ks : List S25) (hk : ∀ y ∈ ks, 1 ≤ szT y ∧ 1 ≤ htT y) : 0 ≤ szL ks ∧ 0 ≤ htL ks := by
      induction ks with
      | nil => simp [szL, htL]
      | cons y ys ih2 =>
        have a := hk y (by simp)
        have b := ih2 (fun z hz => hk z (by simp [hz]))
        rw [szL, htL]
        omega
    have := this x.f4 ih
    omega
theorem posL (ks : List S25) (h : ∀ y ∈ ks, Sm25 y) : 0 ≤ szL ks ∧ 0 ≤ htL ks := by
  induction ks with
  | nil => simp [szL, htL]
  | cons y ys ih =>
    have a := pos_of y (h y (by simp))
    have b := ih (fun z hz => h z (by simp [hz]))
    rw [szL, htL]
    omega

end Go.Proofs.Ytafkgjnafddgbaa.Pure
