/- flat.Rows: its walk. -/
import Derived.Test.YtcebfldagnjddaaH4
import Derived.Test.YtcebfldagnjddaaGx4
namespace Go.Proofs.Ytcebfldagnjddaa.G
open Go.RowKit Go.Proofs.YtcebfldagnjddaaW.PrintWords Go.Proofs.YtcebfldagnjddaaW.PrintLast Go.Proofs.YtcebfldagnjddaaW.PrintMore
set_option linter.unusedVariables false
set_option linter.unusedSimpArgs false
def flat_Rows.f (k : Nat) (a0_0 : ByteArray) (a0_1 : ByteArray) (a0_2 : ByteArray) (l0_3 : List S69) (l0_4 : List S25) : Option (List S53 × Int) :=
  (vtree_Check.f k a0_0 a0_1 a0_2 l0_3 l0_4).bind fun t => if t.2 = 0 then (put1 k [] ⟨a0_0, a0_1, a0_2, l0_3, l0_4⟩ 0).bind fun l => some (l, 0) else some ([], t.2)
theorem flat_Rows.mono : ∀ a0 a1 a2 a3 a4 k, LeO (flat_Rows.f k a0 a1 a2 a3 a4) (flat_Rows.f (k + 1) a0 a1 a2 a3 a4) := by
  intro a0 a1 a2 a3 a4 k
  unfold flat_Rows.f
  exact LeO.bind (vtree_Check.mono _ _ _ _ _ _) (fun t => LeO.ite (LeO.bind (put1_mono _ _ _ _) (fun _ => LeO.refl _)) (LeO.refl _))
set_option maxHeartbeats 4000000 in
set_option maxRecDepth 100000 in
theorem flat_Rows.calls (k : Nat) (a0_0 : ByteArray) (a0_1 : ByteArray) (a0_2 : ByteArray) (A0_3 : Option Addr) (c0_3 : Nat) (l0_3 : List (S69)) (A0_4 : Option Addr) (c0_4 : Nat) (l0_4 : List (S25)) (r1 : List S53) (r2 : Int) (w : World) (hr0_3 : Kd.C k69 w A0_3 l0_3.length l0_3) (hc0_3 : l0_3.length ≤ c0_3) (hr0_4 : Kd.C k25 w A0_4 l0_4.length l0_4) (hc0_4 : l0_4.length ≤ c0_4) (h : flat_Rows.f k a0_0 a0_1 a0_2 l0_3 l0_4 = some (r1, r2)) :
    Calls Try.prog 9 #[.agg #[.string a0_0, .string a0_1, .string a0_2, .slice A0_3 l0_3.length c0_3, .slice A0_4 l0_4.length c0_4]] w fun e w' => ∃ v0_ : Value, e = .returned (.tuple #[v0_, .int .i64 r2]) ∧ Kd.N k53 53 w' w.heap.size (fun k_ => w.heap.size ≤ k_) v0_ r1 ∧ Below w.heap.size w w' := by
  unfold flat_Rows.f at h
  obtain ⟨⟨t1, t2⟩, hc, h⟩ := Option.bind_eq_some_iff.1 h
  have H3 := Aside0.mk hr0_3
  have H4 := Aside0.mk hr0_4
  have D3 := Aside0.mk hc0_3
  have D4 := Aside0.mk hc0_4
  have HC := Aside0.mk hc
  dsimp only at h
  by_cases h0 : t2 = 0
  · rw [if_pos h0] at h
    obtain ⟨l, hp, h⟩ := Option.bind_eq_some_iff.1 h; obtain ⟨rfl, rfl⟩ := Prod.mk.inj (Option.some.inj h); have HP := Aside0.mk hp; have hb : (t2 != 0) = false := by simp [h0]
    have hb2 : (t2 == 0) = true := by simp [h0]
    clear h hp hc hr0_3 hr0_4 hc0_3 hc0_4 h0
    go_enter Try.func9, Try.ntmps9
    go_wp2_with (first
      | ((with_reducible refine gate_dst (N := 1) rfl ?_); refine box_event ?hg (N := 1) ?hd (cs := #[.string a0_0, .string a0_1, .string a0_2, .slice A0_3 l0_3.length c0_3, .slice A0_4 l0_4.length c0_4]) (t := 25) ?hr ?_; (case hd => rfl); (case hg => rfl); (case hr => first | (go_simp; done) | (go_simp; rfl)); intro g hg w1 hbox hb1; have HX := Aside0.mk hbox; have HB1 := Aside0.mk hb1; have g0 : w1.cell? ⟨g, 0, none⟩ = some (.string a0_0) := (blk_cell hbox 0).trans rfl; have g1 : w1.cell? ⟨g, 1, none⟩ = some (.string a0_1) := (blk_cell hbox 1).trans rfl; have g2 : w1.cell? ⟨g, 2, none⟩ = some (.string a0_2) := (blk_cell hbox 2).trans rfl; have g3 : w1.cell? ⟨g, 3, none⟩ = some (.slice A0_3 l0_3.length c0_3) := (blk_cell hbox 3).trans rfl; have g4 : w1.cell? ⟨g, 4, none⟩ = some (.slice A0_4 l0_4.length c0_4) := (blk_cell hbox 4).trans rfl; have HG := Aside0.mk hg; clear hbox hb1 hg)
      | (go_at_call 28; refine (vtree_Check.calls k a0_0 a0_1 a0_2 A0_3 c0_3 l0_3 A0_4 c0_4 l0_4 t1 t2 _ (Kd.C_below H3.out HB1.out) D3.out (Kd.C_below H4.out HB1.out) D4.out HC.out).mono ?_; rintro e w3 ⟨rfl, hb3⟩; have B3 := Aside0.mk (HB1.out.trans (hb3.mono HB1.out.size)); have X3 := Aside0.mk (blk_below HX.out hb3); clear hb3 g0 g1 g2 g3 g4; have g0 : w3.cell? ⟨g, 0, none⟩ = some (.string a0_0) := (blk_cell X3.out 0).trans rfl; have g1 : w3.cell? ⟨g, 1, none⟩ = some (.string a0_1) := (blk_cell X3.out 1).trans rfl; have g2 : w3.cell? ⟨g, 2, none⟩ = some (.string a0_2) := (blk_cell X3.out 2).trans rfl; have g3 : w3.cell? ⟨g, 3, none⟩ = some (.slice A0_3 l0_3.length c0_3) := (blk_cell X3.out 3).trans rfl; have g4 : w3.cell? ⟨g, 4, none⟩ = some (.slice A0_4 l0_4.length c0_4) := (blk_cell X3.out 4).trans rfl)
      | (go_at_call 29; refine (put w k ⟨a0_0, a0_1, a0_2, l0_3, l0_4⟩ A0_3 c0_3 A0_4 c0_4 0 [] (.slice none 0 0) l _ H3.out D3.out H4.out D4.out B3.out (Kd.R_nil _ _ _ _ _) HP.out).mono ?_; rintro e w5 ⟨v5, rfl, hr5, hb5, _⟩; have R5 := Aside0.mk hr5; have B5 := Aside0.mk hb5; clear hr5 hb5))
    go_ret2
    exact ⟨_, rfl, Kd.R_N (Kd.R_mono (Kd.R_bound R5.out) (fun k hk => hk.2.1)), B5.out⟩
  · rw [if_neg h0] at h
    obtain ⟨rfl, rfl⟩ := Prod.mk.inj (Option.some.inj h); have hb : (t2 != 0) = true := by simp [h0]
    have hb2 : (t2 == 0) = false := by simp [h0]
    clear h hc hr0_3 hr0_4 hc0_3 hc0_4 h0
    go_enter Try.func9, Try.ntmps9
    go_wp2_with (first
      | ((with_reducible refine gate_dst (N := 1) rfl ?_); refine box_event ?hg (N := 1) ?hd (cs := #[.string a0_0, .string a0_1, .string a0_2, .slice A0_3 l0_3.length c0_3, .slice A0_4 l0_4.length c0_4]) (t := 25) ?hr ?_; (case hd => rfl); (case hg => rfl); (case hr => first | (go_simp; done) | (go_simp; rfl)); intro g hg w1 hbox hb1; have HX := Aside0.mk hbox; have HB1 := Aside0.mk hb1; have g0 : w1.cell? ⟨g, 0, none⟩ = some (.string a0_0) := (blk_cell hbox 0).trans rfl; have g1 : w1.cell? ⟨g, 1, none⟩ = some (.string a0_1) := (blk_cell hbox 1).trans rfl; have g2 : w1.cell? ⟨g, 2, none⟩ = some (.string a0_2) := (blk_cell hbox 2).trans rfl; have g3 : w1.cell? ⟨g, 3, none⟩ = some (.slice A0_3 l0_3.length c0_3) := (blk_cell hbox 3).trans rfl; have g4 : w1.cell? ⟨g, 4, none⟩ = some (.slice A0_4 l0_4.length c0_4) := (blk_cell hbox 4).trans rfl; have HG := Aside0.mk hg; clear hbox hb1 hg)
      | (go_at_call 28; refine (vtree_Check.calls k a0_0 a0_1 a0_2 A0_3 c0_3 l0_3 A0_4 c0_4 l0_4 t1 t2 _ (Kd.C_below H3.out HB1.out) D3.out (Kd.C_below H4.out HB1.out) D4.out HC.out).mono ?_; rintro e w3 ⟨rfl, hb3⟩; have B3 := Aside0.mk (HB1.out.trans (hb3.mono HB1.out.size)); clear hb3))
    go_ret2
    exact ⟨_, rfl, Kd.N_nil _ _ _ _ _, B3.out⟩
end Go.Proofs.Ytcebfldagnjddaa.G
