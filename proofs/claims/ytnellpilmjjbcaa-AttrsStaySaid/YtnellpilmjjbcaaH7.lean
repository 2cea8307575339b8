/- attrs.With: what it gives, and its walk. -/
import Derived.Test.YtnellpilmjjbcaaGx2
import Derived.Test.YtnellpilmjjbcaaH3
import Derived.Test.YtnellpilmjjbcaaH6
namespace Go.Proofs.Ytnellpilmjjbcaa.G
open Go.RowKit Go.Proofs.YtnellpilmjjbcaaW.PrintWords Go.Proofs.YtnellpilmjjbcaaW.PrintLast Go.Proofs.YtnellpilmjjbcaaW.PrintMore
set_option linter.unusedVariables false
set_option linter.unusedSimpArgs false

/-- A list in which a name has a value, by the place that was found. -/
def withAt (l : List S45) (n v : ByteArray) (t : Int × Bool) : Option (List S45) :=
  if l.length ≤ 4398046510000 ∧ 0 ≤ t.1 ∧ t.1 ≤ l.length then (if t.2 = true then (if t.1 < l.length then some (l.set t.1.toNat ⟨(rd_T45 l t.1).f0, v⟩) else none) else some (l.take t.1.toNat ++ [⟨n, v⟩] ++ l.drop t.1.toNat)) else none
def attrs_With.f (k : Nat) (l0 : List S45) (a1 : ByteArray) (a2 : ByteArray) : Option (List S45) := (attrs_find.f k l0 a1).bind (withAt l0 a1 a2)
theorem attrs_With.mono : ∀ a0 a1 a2 k, LeO (attrs_With.f k a0 a1 a2) (attrs_With.f (k + 1) a0 a1 a2) := fun _ _ _ _ => LeO.bind (attrs_find.mono _ _ _) (fun _ => LeO.refl _)

set_option maxHeartbeats 4000000 in
set_option maxRecDepth 100000 in
theorem attrs_With.calls (k : Nat) (A0 : Option Addr) (c0 : Nat) (l0 : List (S45)) (a1 : ByteArray) (a2 : ByteArray) (r : List S45) (w : World) (hr0 : Kd.C k45 w A0 l0.length l0) (hc0 : l0.length ≤ c0) (h : attrs_With.f k l0 a1 a2 = some r) :
    Calls Try.prog 13 #[.slice A0 l0.length c0, .string a1, .string a2] w fun e w' => ∃ v0_ : Value, e = .returned v0_ ∧ Kd.R k45 45 w' w.heap.size (fun _ => True) v0_ r ∧ Below w.heap.size w w' := by
  obtain ⟨⟨t1, t2⟩, hf, h2⟩ := Option.bind_eq_some_iff.1 h
  unfold withAt at h2
  split at h2
  case isFalse => cases h2
  rename_i hc
  obtain ⟨hl, h0, hle⟩ := hc
  have HF := Aside0.mk hf
  have HR := Aside0.mk hr0
  have HC := Aside0.mk hc0
  have HL := Aside0.mk hl
  have H0 := Aside0.mk h0
  have HLE := Aside0.mk hle
  clear hr0 hc0 h hf hl h0 hle
  cases t2 with
  | true =>
    rw [if_pos rfl] at h2
    split at h2
    case isFalse => cases h2
    rename_i hlt
    have HRES := Aside0.mk (Option.some.inj h2)
    have HLT := Aside0.mk hlt
    have a1' : decide (0 ≤ t1) = true := decide_eq_true H0.out
    have a2' : decide (t1 < (l0.length : Int)) = true := decide_eq_true hlt
    clear h2 hlt
    go_enter Try.func13, Try.ntmps13
    go_upto_region 4 with (first
      | (go_at_call 26; refine (attrs_find.calls k _ _ l0 a1 t1 true _ HR.out HC.out HF.out).mono ?_; rintro e w1 ⟨rfl, hb⟩; have B1 := Aside0.mk hb; clear hb)
      | (go_at_call 28; refine (api_Attr_28.calls _ _ l0 l0 _ (Kd.C_below HR.out B1.out) HC.out (by unfold api_Attr_28.f; rw [if_pos (by have := HL.out; omega)])).mono ?_; rintro e w2 ⟨v2, rfl, hr2, hb⟩; have R2 := Aside0.mk (Kd.R_lower hr2 B1.out.size); have B2 := Aside0.mk (B1.out.trans (hb.mono B1.out.size)); clear hb hr2))
    obtain ⟨go9, co9, eo9, gb9, gl9, cl9, HG9⟩ := Kd.R_form R2.out (by have := HLT.out; have := H0.out; omega)
    subst eo9
    obtain ⟨ce9, hcl9, hM9, hcc9, hfr9⟩ := Kd.R_elem R2.out z45 t1 H0.out HLT.out
    obtain rfl := k45_openM hM9
    have HP := Aside0.mk (Kd.R_seg R2.out t1 H0.out HLT.out (seg := [.string a2]) (j := 1) hcl9 hcc9 (show 2 ≤ 2 from by decide) (x' := (⟨(rd_T45 l0 t1).f0, a2⟩ : S45)) (k45_mkM _ _ _ (⟨(rd_T45 l0 t1).f0, a2⟩ : S45)) (fun _ hk => hk))
    have hx1 := hcc9 1 _ rfl
    have hf1 := hfr9 1
    simp only [show k45.sz = 2 from rfl] at hx1 hf1
    have GB := Aside0.mk gb9
    have p9 := eq_true H0.out
    have q9 := eq_true HLT.out
    clear gb9 gl9 cl9 HG9 hcl9 hM9 hcc9 hfr9
    go_wp2_with fail
    go_ret
    refine ⟨_, rfl, ?_, below_set B2.out GB.out⟩
    have h1 := HP.out.1
    rw [HRES.out] at h1
    exact h1
  | false =>
    have HRES := Aside0.mk (Option.some.inj h2)
    clear h2
    obtain ⟨i, hi⟩ : ∃ i : Nat, t1 = (i : Int) := ⟨t1.toNat, by have := H0.out; omega⟩
    subst hi
    go_enter Try.func13, Try.ntmps13
    go_upto_region 6 with (first
      | (go_at_call 26; refine (attrs_find.calls k _ _ l0 a1 i false _ HR.out HC.out HF.out).mono ?_; rintro e w1 ⟨rfl, hb⟩; have B1 := Aside0.mk hb; clear hb)
      | (go_at_call 28; refine (api_Attr_28.calls _ _ l0 l0 _ (Kd.C_below HR.out B1.out) HC.out (by unfold api_Attr_28.f; rw [if_pos (by have := HL.out; omega)])).mono ?_; rintro e w2 ⟨v2, rfl, hr2, hb⟩; have R2 := Aside0.mk (Kd.R_lower hr2 B1.out.size); have B2 := Aside0.mk (B1.out.trans (hb.mono B1.out.size)); clear hb hr2))
    obtain ⟨A2, c2, ev⟩ := Kd.R_slice R2.out
    subst ev
    go_wp2_with (go_at_call 29; refine (insert w (w2.alloc (.cells #[.string a1, .string a2] 45)) (fun _ => True) A2 l0.length c2 l0 i ⟨a1, a2⟩ w2.heap.size (Kd.R_alloc (Kd.R_mono R2.out (fun _ _ => trivial)) _) (below_alloc B2.out _) (blk_new w2 _) B2.out.size (fun e => by have := Kd.R_lt R2.out _ e.symm; omega) (by have := HLE.out; omega) (by have := HL.out; omega) _ rfl).mono ?_; rintro e w3 ⟨v3, rfl, hr3, hb⟩; have R3 := Aside0.mk hr3; have B3 := Aside0.mk hb; clear hb hr3)
    go_ret
    refine ⟨_, rfl, ?_, B3.out⟩
    have h1 := R3.out
    rw [← HRES.out]
    exact h1
end Go.Proofs.Ytnellpilmjjbcaa.G
