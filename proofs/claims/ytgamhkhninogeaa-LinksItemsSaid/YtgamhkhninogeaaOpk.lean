-- Written by gp.py (wip/gen) for this claim: pure functions and contracts, out of the translation; not trusted: Lean checks it.
import Derived.Test.YtgamhkhninogeaaOpn
import Derived.Test.YtgamhkhninogeaaGx0
namespace Go.Proofs.Ytgamhkhninogeaa.G
open Go.RowKit Go.Proofs.Ytgamhkhninogeaa.Opn Go.Proofs.YtgamhkhninogeaaW.PrintWords
set_option linter.unusedVariables false
set_option maxRecDepth 100000
theorem at_slice2 {α : Type} {P : Program} {n : Nat} {T e : TypeId} {d : Kd α} {Sm : α → Prop} {B : Nat} (ht : P.underlying T = some (.slice e)) (hc : P.cellsOf e = d.sz) (hb : P.bytesOf e = B) (hd : ∀ m, m < n → At P m e d Sm) :
    At P n T (Kd.slice e d) (fun xs => xs.length * B ≤ 140737488351232 ∧ ∀ x ∈ xs, Sm x) := hb ▸ at_slice ht hc hd
structure Sm39 (x : S39) : Prop where
  h0 : True
  h1 : (Lit.int .i64 x.f1).wf = true
  h2 : (Lit.int .i64 x.f2).wf = true
  h3 : (Lit.int .i64 x.f3).wf = true
theorem at_S39 (n : Nat) : At Try.prog n 39 k39 Sm39 := by
  refine at_imp (at_iso (fun x : S39 => (x.f0, x.f1, x.f2, x.f3)) (fun p => ⟨p.1, p.2.1, p.2.2.1, p.2.2.2⟩) (fun _ => rfl) (at_struct (d := (Kd.pair Kd.bool (Kd.pair (Kd.int .i64) (Kd.pair (Kd.int .i64) (Kd.int .i64))))) (Sm := fun (p : (Bool) × (Int) × (Int) × (Int)) => True ∧ (Lit.int .i64 p.2.1).wf = true ∧ (Lit.int .i64 p.2.2.1).wf = true ∧ (Lit.int .i64 p.2.2.2).wf = true) Try.underlying39 (by kernel_rfl) (fun m hm => ?h))) ?k ?s
  case h =>
    refine fields_cons (Sm := fun (q : Bool) => True) (Sm2 := fun (p : (Int) × (Int) × (Int)) => (Lit.int .i64 p.1).wf = true ∧ (Lit.int .i64 p.2.1).wf = true ∧ (Lit.int .i64 p.2.2).wf = true) ?_ ?_ ?_ ?_
    · rfl
    · kernel_rfl
    · exact (at_bool Try.underlying4)
    refine fields_cons (Sm := fun (q : Int) => (Lit.int .i64 q).wf = true) (Sm2 := fun (p : (Int) × (Int)) => (Lit.int .i64 p.1).wf = true ∧ (Lit.int .i64 p.2).wf = true) ?_ ?_ ?_ ?_
    · rfl
    · kernel_rfl
    · exact (at_int Try.underlying3)
    refine fields_cons (Sm := fun (q : Int) => (Lit.int .i64 q).wf = true) (Sm2 := fun (p : (Int)) => (Lit.int .i64 p).wf = true) ?_ ?_ ?_ ?_
    · rfl
    · kernel_rfl
    · exact (at_int Try.underlying3)
    refine fields_one (Sm := fun (p : (Int)) => (Lit.int .i64 p).wf = true) ?_ ?_ ?_
    · rfl
    · kernel_rfl
    · exact (at_int Try.underlying3)
  case k => exact fun _ _ _ h => h
  case s => exact fun a h => ⟨h.1, h.2.1, h.2.2.1, h.2.2.2⟩
theorem weightsEach_head {H : Type} {P : Program} {t : TypeId} {ts : List TypeId} {d : DataW H} {ds : List (DataW H)} {q : Nat → Bool} (h : (DataW.weightsEach P (t :: ts) (d :: ds)).all q = true) : (d.weights P t).all q = true ∧ (DataW.weightsEach P ts ds).all q = true := by
  simpa only [DataW.weightsEach, List.all_append, Bool.and_eq_true] using h
theorem okWide_agg {P : Program} {w : World} {r : Reach} {base : Nat} {t : TypeId} {v : Value} {fs : Array Field} (ht : P.underlying t = some (.struct fs)) (h : Value.okWide P w r base t v) : ∃ cs, v = .agg cs := by
  simp only [Value.okWide, ht] at h
  obtain ⟨cs, rfl, _⟩ := h
  exact ⟨cs, rfl⟩
end Go.Proofs.Ytgamhkhninogeaa.G
