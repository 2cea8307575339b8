-- Written by gp.py (wip/gen) for this claim: pure functions and contracts, out of the translation; not trusted: Lean checks it.
import Derived.Test.YtcebfldagnjddaaOpn
import Derived.Test.YtcebfldagnjddaaGx0
namespace Go.Proofs.Ytcebfldagnjddaa.G
open Go.RowKit Go.Proofs.Ytcebfldagnjddaa.Opn Go.Proofs.YtcebfldagnjddaaW.PrintWords
set_option linter.unusedVariables false
set_option maxRecDepth 100000
theorem at_slice2 {α : Type} {P : Program} {n : Nat} {T e : TypeId} {d : Kd α} {Sm : α → Prop} {B : Nat} (ht : P.underlying T = some (.slice e)) (hc : P.cellsOf e = d.sz) (hb : P.bytesOf e = B) (hd : ∀ m, m < n → At P m e d Sm) :
    At P n T (Kd.slice e d) (fun xs => xs.length * B ≤ 140737488351232 ∧ ∀ x ∈ xs, Sm x) := hb ▸ at_slice ht hc hd
structure Sm69 (x : S69) : Prop where
  h0 : x.f0.size ≤ 140737488351232
  h1 : x.f1.size ≤ 140737488351232
theorem at_S69 (n : Nat) : At Try.prog n 69 k69 Sm69 := by
  refine at_imp (at_iso (fun x : S69 => (x.f0, x.f1)) (fun p => ⟨p.1, p.2⟩) (fun _ => rfl) (at_struct (d := (Kd.pair Kd.string Kd.string)) (Sm := fun (p : (ByteArray) × (ByteArray)) => p.1.size ≤ 140737488351232 ∧ p.2.size ≤ 140737488351232) Try.underlying69 (by kernel_rfl) (fun m hm => ?h))) ?k ?s
  case h =>
    refine fields_cons (Sm := fun (q : ByteArray) => q.size ≤ 140737488351232) (Sm2 := fun (p : (ByteArray)) => p.size ≤ 140737488351232) ?_ ?_ ?_ ?_
    · rfl
    · kernel_rfl
    · exact (at_string Try.underlying9)
    refine fields_one (Sm := fun (p : (ByteArray)) => p.size ≤ 140737488351232) ?_ ?_ ?_
    · rfl
    · kernel_rfl
    · exact (at_string Try.underlying9)
  case k => exact fun _ _ _ h => h
  case s => exact fun a h => ⟨h.1, h.2⟩
inductive Sm25 : S25 → Prop
  | mk {x : S25} (h0 : x.f0.size ≤ 140737488351232) (h1 : x.f1.size ≤ 140737488351232) (h2 : x.f2.size ≤ 140737488351232) (h3 : (x.f3.length * 32 ≤ 140737488351232 ∧ ∀ y ∈ x.f3, Sm69 y)) (h4 : x.f4.length * 96 ≤ 140737488351232) (h4' : ∀ y ∈ x.f4, Sm25 y) : Sm25 x
theorem at_S25 (n : Nat) : At Try.prog n 25 k25 Sm25 := by
  induction n using Nat.strongRecOn with
  | _ n ih =>
    refine at_imp (at_iso (fun x : S25 => (x.f0, x.f1, x.f2, x.f3, x.f4)) (fun p => ⟨p.1, p.2.1, p.2.2.1, p.2.2.2.1, p.2.2.2.2⟩) (fun _ => rfl) (at_struct (d := (Kd.pair Kd.string (Kd.pair Kd.string (Kd.pair Kd.string (Kd.pair (Kd.slice 69 k69) (Kd.slice 25 k25)))))) (Sm := fun (p : (ByteArray) × (ByteArray) × (ByteArray) × (List (S69)) × (List (S25))) => p.1.size ≤ 140737488351232 ∧ p.2.1.size ≤ 140737488351232 ∧ p.2.2.1.size ≤ 140737488351232 ∧ (p.2.2.2.1.length * 32 ≤ 140737488351232 ∧ ∀ y ∈ p.2.2.2.1, Sm69 y) ∧ (p.2.2.2.2.length * 96 ≤ 140737488351232 ∧ ∀ y ∈ p.2.2.2.2, Sm25 y)) Try.underlying25 (by kernel_rfl) (fun m hm => ?h))) ?k ?s
    case h =>
      refine fields_cons (Sm := fun (q : ByteArray) => q.size ≤ 140737488351232) (Sm2 := fun (p : (ByteArray) × (ByteArray) × (List (S69)) × (List (S25))) => p.1.size ≤ 140737488351232 ∧ p.2.1.size ≤ 140737488351232 ∧ (p.2.2.1.length * 32 ≤ 140737488351232 ∧ ∀ y ∈ p.2.2.1, Sm69 y) ∧ (p.2.2.2.length * 96 ≤ 140737488351232 ∧ ∀ y ∈ p.2.2.2, Sm25 y)) ?_ ?_ ?_ ?_
      · rfl
      · kernel_rfl
      · exact (at_string Try.underlying9)
      refine fields_cons (Sm := fun (q : ByteArray) => q.size ≤ 140737488351232) (Sm2 := fun (p : (ByteArray) × (List (S69)) × (List (S25))) => p.1.size ≤ 140737488351232 ∧ (p.2.1.length * 32 ≤ 140737488351232 ∧ ∀ y ∈ p.2.1, Sm69 y) ∧ (p.2.2.length * 96 ≤ 140737488351232 ∧ ∀ y ∈ p.2.2, Sm25 y)) ?_ ?_ ?_ ?_
      · rfl
      · kernel_rfl
      · exact (at_string Try.underlying9)
      refine fields_cons (Sm := fun (q : ByteArray) => q.size ≤ 140737488351232) (Sm2 := fun (p : (List (S69)) × (List (S25))) => (p.1.length * 32 ≤ 140737488351232 ∧ ∀ y ∈ p.1, Sm69 y) ∧ (p.2.length * 96 ≤ 140737488351232 ∧ ∀ y ∈ p.2, Sm25 y)) ?_ ?_ ?_ ?_
      · rfl
      · kernel_rfl
      · exact (at_string Try.underlying9)
      refine fields_cons (Sm := fun (q : List (S69)) => (q.length * 32 ≤ 140737488351232 ∧ ∀ y ∈ q, Sm69 y)) (Sm2 := fun (p : (List (S25))) => (p.length * 96 ≤ 140737488351232 ∧ ∀ y ∈ p, Sm25 y)) ?_ ?_ ?_ ?_
      · rfl
      · kernel_rfl
      · exact (at_slice2 Try.underlying22 (by kernel_rfl) (by kernel_rfl) (fun m' hm' => (at_S69 m')))
      refine fields_one (Sm := fun (p : (List (S25))) => (p.length * 96 ≤ 140737488351232 ∧ ∀ y ∈ p, Sm25 y)) ?_ ?_ ?_
      · rfl
      · kernel_rfl
      · exact (at_slice2 Try.underlying23 (by kernel_rfl) (by kernel_rfl) (fun m' hm' => ih m' (Nat.lt_trans hm' hm)))
    case k =>
      intro w a cs hk
      obtain ⟨_, _, rfl, rfl, ⟨_, _, rfl, rfl, ⟨_, _, rfl, rfl, ⟨_, _, rfl, ⟨A3, c3, rfl, l3, g3⟩, ⟨A4, c4, rfl, l4, g4⟩⟩⟩⟩⟩ := hk
      exact k25_mk w a l3 g3 l4 g4
    case s => exact fun a h => Sm25.mk h.1 h.2.1 h.2.2.1 h.2.2.2.1 h.2.2.2.2.1 h.2.2.2.2.2
structure Sm53 (x : S53) : Prop where
  h0 : (Lit.int .i64 x.f0).wf = true
  h1 : (Lit.int .i64 x.f1).wf = true
  h2 : x.f2.size ≤ 140737488351232
  h3 : x.f3.size ≤ 140737488351232
  h4 : x.f4.size ≤ 140737488351232
  h5 : (x.f5.length * 32 ≤ 140737488351232 ∧ ∀ y ∈ x.f5, Sm69 y)
theorem weightsEach_head {H : Type} {P : Program} {t : TypeId} {ts : List TypeId} {d : DataW H} {ds : List (DataW H)} {q : Nat → Bool} (h : (DataW.weightsEach P (t :: ts) (d :: ds)).all q = true) : (d.weights P t).all q = true ∧ (DataW.weightsEach P ts ds).all q = true := by
  simpa only [DataW.weightsEach, List.all_append, Bool.and_eq_true] using h
theorem okWide_agg {P : Program} {w : World} {r : Reach} {base : Nat} {t : TypeId} {v : Value} {fs : Array Field} (ht : P.underlying t = some (.struct fs)) (h : Value.okWide P w r base t v) : ∃ cs, v = .agg cs := by
  simp only [Value.okWide, ht] at h
  obtain ⟨cs, rfl, _⟩ := h
  exact ⟨cs, rfl⟩
end Go.Proofs.Ytcebfldagnjddaa.G
