/- attrs.Without: what it gives, and its walk. -/
import Derived.Test.YtnellpilmjjbcaaH9
namespace Go.Proofs.Ytnellpilmjjbcaa.G
open Go.RowKit Go.Proofs.YtnellpilmjjbcaaW.PrintWords Go.Proofs.YtnellpilmjjbcaaW.PrintLast Go.Proofs.YtnellpilmjjbcaaW.PrintMore
set_option linter.unusedVariables false
set_option linter.unusedSimpArgs false

def attrs_Without.f (l0 : List S45) (a1 : ByteArray) : Option (List S45 × Bool) := if l0.length ≤ 4398046510000 then some (keep a1 l0, decide ((keep a1 l0).length < l0.length)) else none

set_option maxHeartbeats 4000000 in
set_option maxRecDepth 100000 in
theorem attrs_Without.calls (A0 : Option Addr) (c0 : Nat) (l0 : List (S45)) (a1 : ByteArray) (r1 : List S45) (r2 : Bool) (w : World) (hr0 : Kd.C k45 w A0 l0.length l0) (hc0 : l0.length ≤ c0) (h : attrs_Without.f l0 a1 = some (r1, r2)) :
    Calls Try.prog 14 #[.slice A0 l0.length c0, .string a1] w fun e w' => ∃ v0_ : Value, e = .returned (.tuple #[v0_, .bool r2]) ∧ Kd.R k45 45 w' w.heap.size (fun _ => True) v0_ r1 ∧ Below w.heap.size w w' := by
  unfold attrs_Without.f at h
  split at h
  case isFalse => cases h
  rename_i hl
  simp only [Option.some.injEq, Prod.mk.injEq] at h
  obtain ⟨h1, h2⟩ := h
  have HR := Aside0.mk hr0
  have HC := Aside0.mk hc0
  have HL := Aside0.mk hl
  have H1 := Aside0.mk h1
  have H2 := Aside0.mk h2
  clear hr0 hc0 hl h1 h2
  have hmf : ∀ (fn : Fn) (first cap : Array Value) (w : World), (Instr.makeFunc fn first cap).run Try.prog w = .ok (.func fn first cap) w := fun _ _ _ _ => rfl
  go_enter Try.func14, Try.ntmps14
  go_upto_region 2 with (first
    | ((with_reducible refine gate_dst (N := 3) rfl ?_); refine box_event ?hg (N := 3) ?hd (cs := #[.string a1]) (t := 9) ?hr ?_; (case hd => rfl); (case hg => rfl); (case hr => first | (go_simp; done) | (go_simp; rfl)); intro g hg w1 hbox hb; have G := Aside0.mk hg; have X1 := Aside0.mk hbox; have B1 := Aside0.mk hb; clear hbox hb hg)
    | (go_at_call 28; refine (api_Attr_28.calls _ _ l0 l0 _ (Kd.C_below HR.out B1.out) HC.out (by unfold api_Attr_28.f; rw [if_pos (by have := HL.out; omega)])).mono ?_; rintro e w2 ⟨v2, rfl, hr2, hb⟩; have R2 := Aside0.mk (Kd.R_lower hr2 B1.out.size); have X2 := Aside0.mk (blk_below X1.out hb); have B2 := Aside0.mk (B1.out.trans (hb.mono B1.out.size)); clear hb hr2; obtain ⟨A2, c2, ev⟩ := Kd.R_slice R2.out; subst ev)
    | (go_at_call 30; refine (deleteF w w2 A2 c2 l0 g a1 R2.out B2.out X2.out HL.out).mono ?_; rintro e w3 ⟨v3, rfl, hr3, hb⟩; have R3 := Aside0.mk hr3; have B3 := Aside0.mk hb; clear hb hr3; obtain ⟨A3, c3, ev⟩ := Kd.R_slice R3.out; subst ev))
  obtain ⟨m, hm⟩ : ∃ m, (keep a1 l0).length = m := ⟨_, rfl⟩
  rw [hm] at R3 H2 ⊢
  have HM := Aside0.mk hm
  clear hm
  go_wp2_with fail
  go_ret2
  refine ⟨_, ?_, H1.out ▸ R3.out, B3.out⟩
  rw [← H2.out]
  rfl
end Go.Proofs.Ytnellpilmjjbcaa.G
