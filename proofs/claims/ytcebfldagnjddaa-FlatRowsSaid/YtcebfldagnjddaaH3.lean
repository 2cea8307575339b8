import Derived.Test.YtcebfldagnjddaaGx0
namespace Go.Proofs.Ytcebfldagnjddaa.G
open Go.RowKit Go.Proofs.YtcebfldagnjddaaW.PrintWords Go.Proofs.YtcebfldagnjddaaW.PrintLast Go.Proofs.YtcebfldagnjddaaW.PrintMore
set_option linter.unusedVariables false
set_option linter.unusedSimpArgs false
theorem info69b : (Try.prog.info? 69).map (fun i => (i.zero, i.size, i.bytes)) = some (some (.agg #[(.string ⟨#[]⟩), (.string ⟨#[]⟩)]), 2, 32) := by kernel_rfl
def api_Attr.f (l0 : List S69) : Option (List S69) := if l0.length ≤ 4398046510976 then some l0 else none
set_option maxHeartbeats 4000000 in
set_option maxRecDepth 100000 in
theorem api_Attr.calls (A0 : Option Addr) (c0 : Nat) (l0 : List (S69)) (r : List S69) (w : World) (hr0 : Kd.C k69 w A0 l0.length l0) (hc0 : l0.length ≤ c0) (h : api_Attr.f l0 = some r) :
    Calls Try.prog 47 #[.slice A0 l0.length c0] w fun e w' => ∃ v0_ : Value, e = .returned (v0_) ∧ Kd.R k69 69 w' w.heap.size (fun _ => True) v0_ r ∧ Below w.heap.size w w' := by
  unfold api_Attr.f at h
  split at h
  case isFalse => cases h
  rename_i hl
  obtain rfl := Option.some.inj h
  clear h
  have HR := Aside0.mk hr0
  have HC := Aside0.mk hc0
  clear hr0 hc0
  cases A0 with
  | none =>
    have hn : l0 = [] := by
      cases l0 with
      | nil => rfl
      | cons x xs => obtain ⟨ad, _, e, _⟩ := Kd.C_get HR.out z69 0 (by omega) (by simp)
                     cases e
    subst hn; have he : ∀ W, (binOp .eql 22 (.slice none 0 c0) (.slice none 0 0)).run Try.prog W = .ok (.bool true) W := fun _ => rfl
    go_enter Try.func47, Try.ntmps47
    go_wp2_with fail
    go_ret
    exact ⟨_, rfl, Kd.R_nil _ _ _ _ _, Below.refl _ _⟩
  | some ad =>
    have he : ∀ W, (binOp .eql 22 (.slice (some ad) l0.length c0) (.slice none 0 0)).run Try.prog W = .ok (.bool false) W := fun _ => rfl
    go_enter Try.func47, Try.ntmps47
    obtain ⟨W, hW⟩ : ∃ W, w.alloc (.cells #[] 69) = W := ⟨_, rfl⟩; have HB := Aside0.mk (show Below w.heap.size w W from hW ▸ below_alloc (Below.refl _ _) _); have HRW := Aside0.mk (show Kd.C k69 W (some ad) l0.length l0 from hW ▸ Kd.C_alloc HR.out _); have HO := Aside0.mk (show Kd.R k69 69 W w.heap.size (fun _ => True) (.slice (some ⟨w.heap.size, 0, none⟩) 0 0) [] from
      ⟨fun _ _ => trivial, [], ⟨by simp, .inr ⟨w.heap.size, 0, #[], rfl, Nat.le_refl _, by rw [← hW]; exact blk_new w _, Nat.le_refl _, by unfold maxLen; omega, by simp, by simp⟩⟩, by simp [Reps]⟩)
    have HL := Aside0.mk hl
    go_wp2_with (at_builtin; (try rw [hW]); refine Kd.R_append_rows k69 (Rr := k69.K W) (w0 := w) w.heap.size rfl _ _ 22 69 _ 32 rfl Try.underlying22 info69b rfl (by decide) (by decide) (.slice (some ⟨w.heap.size, 0, none⟩) 0 0) [] l0 (some ad) l0.length c0 (fun _ => True) (fun _ => False) rfl rfl HO.out HRW.out (fun x cs hx => by have hx := k69_open hx; subst hx; exact k69_mkM _ _ _ x) (fun _ h => h.elim) (fun _ _ => trivial) HB.out HB.out.size (by have := HL.out; simp; omega) ?_; intro v1 w1 hr1 hb1 hg1 ho1; have R1 := Aside0.mk hr1; have B1 := Aside0.mk hb1; clear hr1 hb1 hg1 ho1)
    obtain ⟨A9, c9, ev⟩ := Kd.R_slice R1.out; subst ev
    go_wp2_with fail
    go_ret
    exact ⟨_, rfl, R1.out, B1.out⟩
end Go.Proofs.Ytcebfldagnjddaa.G
