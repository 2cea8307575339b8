-- Written by gp.py (wip/gen) for this claim: pure functions and contracts, out of the translation; not trusted: Lean checks it.
import Derived.Test.YtmndedahkodibaaOpn
import Derived.Test.YtmndedahkodibaaGx0
namespace Go.Proofs.Ytmndedahkodibaa.G
open Go.RowKit Go.Proofs.Ytmndedahkodibaa.Opn Go.Proofs.YtmndedahkodibaaW.PrintWords
set_option linter.unusedVariables false
set_option maxRecDepth 100000
theorem at_slice2 {α : Type} {P : Program} {n : Nat} {T e : TypeId} {d : Kd α} {Sm : α → Prop} {B : Nat} (ht : P.underlying T = some (.slice e)) (hc : P.cellsOf e = d.sz) (hb : P.bytesOf e = B) (hd : ∀ m, m < n → At P m e d Sm) :
    At P n T (Kd.slice e d) (fun xs => xs.length * B ≤ 140737488351232 ∧ ∀ x ∈ xs, Sm x) := hb ▸ at_slice ht hc hd
structure Sm28 (x : S28) : Prop where
  h0 : x.f0.size ≤ 140737488351232
  h1 : x.f1.size ≤ 140737488351232
  h2 : (Lit.int .i64 x.f2).wf = true
theorem at_S28 (n : Nat) : At Try.prog n 28 k28 Sm28 := by
  refine at_imp (at_iso (fun x : S28 => (x.f0, x.f1, x.f2)) (fun p => ⟨p.1, p.2.1, p.2.2⟩) (fun _ => rfl) (at_struct (d := (Kd.pair Kd.string (Kd.pair Kd.string (Kd.int .i64)))) (Sm := fun (p : (ByteArray) × (ByteArray) × (Int)) => p.1.size ≤ 140737488351232 ∧ p.2.1.size ≤ 140737488351232 ∧ (Lit.int .i64 p.2.2).wf = true) Try.underlying28 (by kernel_rfl) (fun m hm => ?h))) ?k ?s
  case h =>
    refine fields_cons (Sm := fun (q : ByteArray) => q.size ≤ 140737488351232) (Sm2 := fun (p : (ByteArray) × (Int)) => p.1.size ≤ 140737488351232 ∧ (Lit.int .i64 p.2).wf = true) ?_ ?_ ?_ ?_
    · rfl
    · kernel_rfl
    · exact (at_string Try.underlying9)
    refine fields_cons (Sm := fun (q : ByteArray) => q.size ≤ 140737488351232) (Sm2 := fun (p : (Int)) => (Lit.int .i64 p).wf = true) ?_ ?_ ?_ ?_
    · rfl
    · kernel_rfl
    · exact (at_string Try.underlying9)
    refine fields_one (Sm := fun (p : (Int)) => (Lit.int .i64 p).wf = true) ?_ ?_ ?_
    · rfl
    · kernel_rfl
    · exact (at_int Try.underlying3)
  case k => exact fun _ _ _ h => h
  case s => exact fun a h => ⟨h.1, h.2.1, h.2.2⟩
structure Sm46 (x : S46) : Prop where
  h0 : (Lit.int .i64 x.f0).wf = true
  h1 : Sm28 x.f1
  h2 : (Lit.int .i64 x.f2).wf = true
theorem at_S46 (n : Nat) : At Try.prog n 46 k46 Sm46 := by
  refine at_imp (at_iso (fun x : S46 => (x.f0, x.f1, x.f2)) (fun p => ⟨p.1, p.2.1, p.2.2⟩) (fun _ => rfl) (at_struct (d := (Kd.pair (Kd.int .i64) (Kd.pair k28 (Kd.int .i64)))) (Sm := fun (p : (Int) × (S28) × (Int)) => (Lit.int .i64 p.1).wf = true ∧ Sm28 p.2.1 ∧ (Lit.int .i64 p.2.2).wf = true) Try.underlying46 (by kernel_rfl) (fun m hm => ?h))) ?k ?s
  case h =>
    refine fields_cons (Sm := fun (q : Int) => (Lit.int .i64 q).wf = true) (Sm2 := fun (p : (S28) × (Int)) => Sm28 p.1 ∧ (Lit.int .i64 p.2).wf = true) ?_ ?_ ?_ ?_
    · rfl
    · kernel_rfl
    · exact (at_int Try.underlying3)
    refine fields_cons (Sm := fun (q : S28) => Sm28 q) (Sm2 := fun (p : (Int)) => (Lit.int .i64 p).wf = true) ?_ ?_ ?_ ?_
    · rfl
    · kernel_rfl
    · exact (at_S28 m)
    refine fields_one (Sm := fun (p : (Int)) => (Lit.int .i64 p).wf = true) ?_ ?_ ?_
    · rfl
    · kernel_rfl
    · exact (at_int Try.underlying3)
  case k => exact fun _ _ _ h => h
  case s => exact fun a h => ⟨h.1, h.2.1, h.2.2⟩
theorem weightsEach_head {H : Type} {P : Program} {t : TypeId} {ts : List TypeId} {d : DataW H} {ds : List (DataW H)} {q : Nat → Bool} (h : (DataW.weightsEach P (t :: ts) (d :: ds)).all q = true) : (d.weights P t).all q = true ∧ (DataW.weightsEach P ts ds).all q = true := by
  simpa only [DataW.weightsEach, List.all_append, Bool.and_eq_true] using h
theorem okWide_agg {P : Program} {w : World} {r : Reach} {base : Nat} {t : TypeId} {v : Value} {fs : Array Field} (ht : P.underlying t = some (.struct fs)) (h : Value.okWide P w r base t v) : ∃ cs, v = .agg cs := by
  simp only [Value.okWide, ht] at h
  obtain ⟨cs, rfl, _⟩ := h
  exact ⟨cs, rfl⟩
end Go.Proofs.Ytmndedahkodibaa.G
