import Derived.Test.YtafkgjnafddgbaaH1b
import Derived.Laws.EntriesVeiled
namespace Go.Proofs.Ytafkgjnafddgbaa.G
open Go.RowKit Go.Maps Go.Proofs.YtafkgjnafddgbaaW.PrintWords Go.Proofs.YtafkgjnafddgbaaW.PrintLast Go.Proofs.YtafkgjnafddgbaaW.PrintMore
set_option linter.unusedVariables false
set_option linter.unusedSimpArgs false
set_option maxHeartbeats 4000000 in
set_option maxRecDepth 100000 in
theorem vtree_check.calls (k : Nat) (a0_0 : ByteArray) (a0_1 : ByteArray) (a0_2 : ByteArray) (A0_3 : Option Addr) (c0_3 : Nat) (l0_3 : List (S42)) (A0_4 : Option Addr) (c0_4 : Nat) (l0_4 : List (S25)) (r1 r2 r3 : Int) (w : World) (hr0_3 : Kd.C k42 w A0_3 l0_3.length l0_3) (hc0_3 : l0_3.length ≤ c0_3) (hr0_4 : Kd.C k25 w A0_4 l0_4.length l0_4) (hc0_4 : l0_4.length ≤ c0_4) (h : vtree_check.f k a0_0 a0_1 a0_2 l0_3 l0_4 = some (r1, r2, r3)) :
    Calls Try.prog 21 #[.agg #[.string a0_0, .string a0_1, .string a0_2, .slice A0_3 l0_3.length c0_3, .slice A0_4 l0_4.length c0_4]] w fun e w' => e = .returned (.agg #[.int .i64 r1, .int .i64 r2, .int .i64 r3]) ∧ Below w.heap.size w w' := by
  obtain ⟨r, h1, h2⟩ := Option.bind_eq_some_iff.1 h
  obtain ⟨b, n1, d1, e1⟩ := r
  obtain ⟨rfl, rfl, rfl⟩ : n1 = r1 ∧ d1 = r2 ∧ e1 = r3 := by simpa using h2
  have H3 := Aside0.mk hr0_3
  have H4 := Aside0.mk hr0_4
  have HC3 := Aside0.mk hc0_3
  have HC4 := Aside0.mk hc0_4
  have H := Aside0.mk h1
  clear h h1 h2 hr0_3 hr0_4 hc0_3 hc0_4
  have hmm := @run_makeMap Try.prog
  have hmf : ∀ (fn : Fn) (first cap : Array Value) (w : World), (Instr.makeFunc fn first cap).run Try.prog w = .ok (.func fn first cap) w := fun _ _ _ _ => rfl
  go_enter Try.func21, Try.ntmps21
  go_upto_region 3 with (first | ((with_reducible refine gate_dst (N := 1) rfl ?_); refine box_event ?hg (N := 1) ?hd (cs := #[.string a0_0, .string a0_1, .string a0_2, .slice A0_3 l0_3.length c0_3, .slice A0_4 l0_4.length c0_4]) (t := 25) ?hr ?_; (case hd => rfl); (case hg => rfl); (case hr => first | (go_simp; done) | (go_simp; rfl)); intro g1 hg w1 hbox hb; have HG1 := Aside0.mk hg; have HX1 := Aside0.mk hbox; have HB1 := Aside0.mk hb; clear hbox hb hg) | ((with_reducible refine gate_dst (N := 2) rfl ?_); refine box_event ?hg (N := 2) ?hd (cs := #[(.int .i64 0), (.int .i64 0), (.int .i64 0)]) (t := 45) ?hr ?_; (case hd => rfl); (case hg => rfl); (case hr => first | (go_simp; done) | (go_simp; rfl)); intro g2 hg w2 hbox hb; have HG2 := Aside0.mk hg; have HX2 := Aside0.mk hbox; have HB2 := Aside0.mk hb; clear hbox hb hg) | ((with_reducible refine gate_dst (N := 3) rfl ?_); refine box_event ?hg (N := 3) ?hd (cs := #[(.int .i64 0), (.int .i64 0), (.int .i64 0)]) (t := 45) ?hr ?_; (case hd => rfl); (case hg => rfl); (case hr => first | (go_simp; done) | (go_simp; rfl)); intro g3 hg w3 hbox hb; have HG3 := Aside0.mk hg; have HX3 := Aside0.mk hbox; have HB3 := Aside0.mk hb; clear hbox hb hg) | ((with_reducible refine gate_dst (N := 4) rfl ?_); refine box_event ?hg (N := 4) ?hd (cs := #[.nilFunc]) (t := 53) ?hr ?_; (case hd => rfl); (case hg => rfl); (case hr => first | (go_simp; done) | (go_simp; rfl)); intro g4 hg w4 hbox hb; have HG4 := Aside0.mk hg; have HX4 := Aside0.mk hbox; have HB4 := Aside0.mk hb; clear hbox hb hg))
  have X1 := Aside0.mk (blk_below (blk_below (blk_below HX1.out HB2.out) HB3.out) HB4.out)
  have X2 := Aside0.mk (blk_below (blk_below HX2.out HB3.out) HB4.out)
  have X3 := Aside0.mk (blk_below HX3.out HB4.out)
  have L1 := Aside0.mk (blk_lt HX1.out)
  have L2 := Aside0.mk (blk_lt HX2.out)
  have L3 := Aside0.mk (blk_lt HX3.out)
  have L4 := Aside0.mk (blk_lt HX4.out)
  have N34 : Aside0 (w.heap.size ≤ g3 ∧ w.heap.size ≤ g4 ∧ g1 ≠ g4 ∧ g2 ≠ g4 ∧ g3 ≠ g4 ∧ g2 ≠ g3 ∧ g1 ≠ g3 ∧ w.heap.size ≤ g2) := ⟨by
    have e1 := HG1.out
    have e2 := HG2.out
    have e3 := HG3.out
    have e4 := HG4.out
    have b1 := HB1.out.size
    have b2 := HB2.out.size
    have b3 := HB3.out.size
    have l1 := L1.out
    have l2 := L2.out
    have l3 := L3.out
    refine ⟨?_, ?_, ?_, ?_, ?_, ?_, ?_, ?_⟩ <;> omega⟩
  have BW : Aside0 (Below w.heap.size w w4) := ⟨by
    have b1 := HB1.out
    have b2 := b1.trans (HB2.out.mono b1.size)
    have b3 := b2.trans (HB3.out.mono b2.size)
    exact b3.trans (HB4.out.mono b3.size)⟩
  have f0 := blk_frozen HX4.out 0
  have c0 : w4.cell? ⟨g4, 0, none⟩ = some .nilFunc := (blk_cell HX4.out 0).trans rfl
  go_upto_region 4 with (fail)
  obtain ⟨w5, hw5⟩ : ∃ w5, w4.setCell ⟨g4, 0, none⟩ (.func (.func 28) #[] #[.pointer (some ⟨g3, 0, none⟩), .pointer (some ⟨g4, 0, none⟩)]) = w5 := ⟨_, rfl⟩
  rw [hw5]
  obtain ⟨n1', n2', n3', n4', n5', n6', n7', n8'⟩ := N34.out
  have V5 := Aside0.mk (show VW w g3 g4 0 0 0 w5 from hw5 ▸ ⟨BW.out.setCell n2' _, n1', n2', blk_far X3.out n5' _, blk_put HX4.out 0 _ rfl⟩)
  have Y1 := Aside0.mk (hw5 ▸ blk_far (p := ⟨g4, 0, none⟩) X1.out n3' (.func (.func 28) #[] #[.pointer (some ⟨g3, 0, none⟩), .pointer (some ⟨g4, 0, none⟩)]))
  have Y2 := Aside0.mk (hw5 ▸ blk_far (p := ⟨g4, 0, none⟩) X2.out n4' (.func (.func 28) #[] #[.pointer (some ⟨g3, 0, none⟩), .pointer (some ⟨g4, 0, none⟩)]))
  clear hw5 f0 c0 X1 X2 X3 HX1 HX2 HX3 HX4 BW
  obtain ⟨w6, hw6⟩ : ∃ w6, w5.alloc (.map #[] 0) = w6 := ⟨_, rfl⟩
  obtain ⟨mb, hmb⟩ : ∃ mb, w5.heap.size = mb := ⟨_, rfl⟩
  replace hmm : ∀ t, (Instr.makeMap t none).run Try.prog w5 = .ok (.map (some mb)) w6 := fun t => by rw [hmm, hmb, hw6]
  have V6 := Aside0.mk (hw6 ▸ V5.out.alloc (.map #[] 0))
  have B6 := Aside0.mk (show MapIs w6 mb [] from hw6 ▸ hmb ▸ MapIs.made w5)
  have Z2 := Aside0.mk (hw6 ▸ blk_alloc Y2.out (.map #[] 0))
  have HMB := Aside0.mk (show mb ≠ g3 ∧ mb ≠ g4 ∧ mb ≠ g2 ∧ w.heap.size ≤ mb by
    have h1 := blk_lt V5.out.hl
    have h2 := blk_lt V5.out.hv
    have h3 := blk_lt Y2.out
    refine ⟨?_, ?_, ?_, ?_⟩ <;> omega)
  obtain ⟨m1, m2, m3, m4⟩ := HMB.out
  have qv := V5.out.cv
  have b0 : w5.cell? ⟨g1, 0, none⟩ = some (.string a0_0) := (blk_cell Y1.out 0).trans rfl
  have b1 : w5.cell? ⟨g1, 1, none⟩ = some (.string a0_1) := (blk_cell Y1.out 1).trans rfl
  have b2 : w5.cell? ⟨g1, 2, none⟩ = some (.string a0_2) := (blk_cell Y1.out 2).trans rfl
  have b3 : w5.cell? ⟨g1, 3, none⟩ = some (.slice A0_3 l0_3.length c0_3) := (blk_cell Y1.out 3).trans rfl
  have b4 : w5.cell? ⟨g1, 4, none⟩ = some (.slice A0_4 l0_4.length c0_4) := (blk_cell Y1.out 4).trans rfl
  clear hw6 hmb
  go_upto_region 5 with (go_at_call 28; refine (visit w g3 g4 k ⟨a0_0, a0_1, a0_2, l0_3, l0_4⟩ _ c0_3 _ c0_4 1 0 0 0 [] mb (b, n1, d1, e1) _ H3.out HC3.out H4.out HC4.out V6.out B6.out m4 m1 m2 (by omega) (by omega) (by omega) (by simp) H.out).mono ?_; rintro e w7 ⟨rfl, hv, hf, hm'⟩; have VA := Aside0.mk hv; have FA := Aside0.mk hf; clear hv hf hm')
  have q0 := VA.out.c0
  have q1 := VA.out.c1
  have q2 := VA.out.c2
  have K2 := (FA.out.same g2 (blk_lt Z2.out) n6' (Ne.symm m3)).trans Z2.out
  have h0_ : w7.cell? ⟨g2, 0, none⟩ = some (.int .i64 0) := (blk_cell K2 0).trans rfl
  have h1_ : w7.cell? ⟨g2, 1, none⟩ = some (.int .i64 0) := (blk_cell K2 1).trans rfl
  have h2_ : w7.cell? ⟨g2, 2, none⟩ = some (.int .i64 0) := (blk_cell K2 2).trans rfl
  have f0 := blk_frozen K2 0
  have f1 := blk_frozen K2 1
  have f2 := blk_frozen K2 2
  have HK2 := Aside0.mk K2
  clear K2
  go_wp2_with fail
  refine bodyPost_ret (results_cell_row rfl _ _ g2 45 #[.int .i64 n1, .int .i64 d1, .int .i64 e1] (0, 0) _ rfl (blk_put (blk_put (blk_put HK2.out 0 _ rfl) 1 _ rfl) 2 _ rfl) Try.underlying45 rfl (by kernel_rfl)) rfl ?_
  exact ⟨rfl, ((VA.out.below.setCell (p := ⟨g2, 0, none⟩) n8' _).setCell (p := ⟨g2, 1, none⟩) n8' _).setCell (p := ⟨g2, 2, none⟩) n8' _⟩
end Go.Proofs.Ytafkgjnafddgbaa.G
