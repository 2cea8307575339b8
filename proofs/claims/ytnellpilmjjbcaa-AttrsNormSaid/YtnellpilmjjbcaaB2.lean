/- What the claim LawAttrsNorm rests on, part 2 of 5: the kit's words, the printed walks, the walks by hand, the plain laws. -/
import Derived.Test.YtnellpilmjjbcaaB0
import Derived.Test.YtnellpilmjjbcaaB1
import Derived.Deep.CutRange
import Derived.Sort.Walk0
namespace Go.Proofs.Ytnellpilmjjbcaa.G
open Go.RowKit Go.Proofs.YtnellpilmjjbcaaW.PrintWords Go.Proofs.YtnellpilmjjbcaaW.PrintLast Go.Proofs.YtnellpilmjjbcaaW.PrintMore Go.Proofs.Ytnellpilmjjbcaa.Srt
set_option linter.unusedVariables false
set_option linter.unusedSimpArgs false
/-- A call of a function value, in a region that draws. -/
theorem goesV_ {P : Program} {ops : Array Oper} {Q : Exit → Act → World → Prop} {oi : Oper} {N : Option Tmp} {a : Act} {w : World} {K : Act → World → Prop} {f : FuncId} {fn : Func} {ags : Array Operand} {ts : Array TypeId} {t : Operand} (bound : Array Value) (hf : P.funcs[f]? = some fn) (hname : (fn.name == "runtime.NumGoroutine") = false) (hb : fn.body.isSome = true) (args : Array Value)
    (hw : Region.wanted oi (yielded ops a.tmps) = true) (hN : oi.dst = N) (hop : oi.op = .call { callee := .value t, args := ags, argTypes := ts }) (hcv : a.eval t = .func (.func f) #[] bound) (hargs : ags.map a.eval ++ bound = args)
    (h : Calls P f args w fun e w' => ∃ v, e = .returned v ∧ K (a.put N v) w') : if Region.wanted oi (yielded ops a.tmps) = true then Oper.wp P oi a w K Q else K (a.put N undef) w := by
  refine call_ f args hw hN ?_ h; have he := enters_ hf hname hb args w; unfold execOp; simp [hop, resolve, Deferred.ofValue, invoke, hcv, hargs, he]
def lt (cm : S45 → S45 → Int) (x y : S45) : Bool := decide (cm x y < 0)
/-- What the sort's function value says. -/
structure Cm (w0 : World) (gn : Nat) (ok : S45 → Prop) (cm : S45 → S45 → Int) : Prop where
  swo : Swo (lt cm)
  call : ∀ (W : World) (x y : S45), Below w0.heap.size w0 W → ok x → ok y → Calls Try.prog 34 #[.agg #[.string x.f0, .string x.f1], .agg #[.string y.f0, .string y.f1]] W fun e w' => e = .returned (.int .i64 (cm x y)) ∧ Below W.heap.size W w'
set_option maxHeartbeats 4000000 in
set_option maxRecDepth 100000 in
theorem insertion (w0 : World) (A : Option Addr) (n c : Nat) (hn : n ≤ 140737488351232) (gn : Nat) (ok : S45 → Prop) (cm : S45 → S45 → Int) (hc : Cm w0 gn ok cm) (P X Q : List S45) (hok : ∀ x ∈ X, ok x) (W : World) (h : Rw w0 A n c W (P ++ X ++ Q))
    (a b : Int) (ha : a = P.length) (hb : b = P.length + X.length) :
    Calls Try.prog 47 #[.slice A n c, .int .i64 a, .int .i64 b, .func (.func 34) #[] #[]] W fun e w' => e = .returned (.tuple #[]) ∧ ∃ M, Srt (lt cm) M ∧ Stb (lt cm) X M ∧ Rw w0 A n c w' (P ++ M ++ Q) := by
  have HN := Aside0.mk hn; have HC := Aside0.mk hc; have HOK := Aside0.mk hok; have HA := Aside0.mk (And.intro ha hb); have HLN := Aside0.mk (show P.length + X.length ≤ n by have := h.ln; (try simp at this); omega); have hwa : IntKind.i64.wrap (a + 1) = a + 1 := IntWalk.i64_in _ (by have := HLN.out; omega)
  cases X with
  | nil =>
    have H := Aside0.mk h; have hab : decide (a + 1 < b) = false := decide_eq_false (by simp at hb; omega); clear h hn hc hok ha hb
    go_enter Try.func47, Try.ntmps47
    go_wp2_with fail
    go_loopg [8] 1 (fun kq v8 W' => v8 = .int .i64 (a + 1) ∧ W' = W)
    case atStart => exact ⟨rfl, rfl⟩
    case round =>
    obtain ⟨rfl, rfl⟩ := hrel
    go_wp2_with fail
    refine bodyPost_end (results_none rfl _ _ _) rfl ?_; exact ⟨rfl, [], List.Pairwise.nil, Stb.refl _ _, H.out⟩
  | cons x0 X0 =>
  have H := Aside0.mk (show Rw w0 A n c W (P ++ [x0] ++ (X0 ++ Q)) by simpa using h); clear h hn hc hok ha hb; obtain ⟨X, hXX⟩ : ∃ X, x0 :: X0 = X := ⟨_, rfl⟩; rw [hXX] at HOK HA HLN; simp only [hXX]; have HX := Aside0.mk hXX; clear hXX
  go_enter Try.func47, Try.ntmps47
  go_wp2_with fail
  go_loopg [8] X0.length (fun kq v8 W' => ∃ (i : Int) (M X1 X2 : List S45), v8 = .int .i64 i ∧ Aside0 (X = X1 ++ X2 ∧ Srt (lt cm) M ∧ Stb (lt cm) X1 M ∧ i = P.length + X1.length ∧ kq = X2.length) ∧ Aside0 (Rw w0 A n c W' (P ++ M ++ (X2 ++ Q))))
  case atStart => exact ⟨a + 1, [x0], [x0], X0, rfl, ⟨HX.out.symm, List.pairwise_singleton _ _, Stb.refl _ _, by have := HA.out; simp; omega, rfl⟩, H⟩
  case round =>
  clear H hwa HX; obtain ⟨i, M, X1, X2, rfl, HI, H⟩ := hrel; have HXL := Aside0.mk (show X.length = X1.length + X2.length by rw [HI.out.1, List.length_append])
  cases X2 with
  | nil =>
    have hib : decide (i < b) = false := decide_eq_false (by have hi := HI.out.2.2.2.1; have := HA.out; have hx := HXL.out; simp at hx; omega)
    go_wp2_with fail
    refine bodyPost_end (results_none rfl _ _ _) rfl ?_; have h1 := HI.out; rw [List.append_nil] at h1; refine ⟨rfl, M, h1.2.1, ?_, by simpa using H.out⟩; rw [h1.1]; exact h1.2.2.1
  | cons x X3 =>
  have HX3 := Aside0.mk (show X.length = X1.length + X3.length + 1 by have := HXL.out; simp at this; omega)
  cases gk with
  | zero => exact absurd HI.out.2.2.2.2 (by simp)
  | succ k1 =>
  have hib : decide (i < b) = true := decide_eq_true (by have := HI.out; have := HA.out; have := HX3.out; omega); have HML := Aside0.mk HI.out.2.2.1.len; have HIL := Aside0.mk (show 0 ≤ i ∧ i < n by have := HI.out; have := HA.out; have := HX3.out; have := HLN.out; omega); have hi1 : IntKind.i64.wrap (i + 1) = i + 1 := IntWalk.i64_in _ (by have := HIL.out; have := HN.out; omega); have hokx : ok x := HOK.out x (by rw [HI.out.1]; simp); have HOX := Aside0.mk hokx; have HOM := Aside0.mk (show ∀ y ∈ M, ok y from fun y hy => HOK.out y (by rw [HI.out.1, List.mem_append]; exact .inl ((HI.out.2.2.1.mem HC.out.swo y).1 hy))); clear hokx
  go_wp2_with fail
  go_loopg [9] M.length (fun kq v9 W' => ∃ (j : Int) (Am B : List S45), v9 = .int .i64 j ∧ Aside0 (M = Am ++ B ∧ (∀ b ∈ B, lt cm x b = true) ∧ j = P.length + Am.length ∧ kq = Am.length) ∧ Aside0 (Rw w0 A n c W' (P ++ Am ++ x :: (B ++ (X3 ++ Q)))))
  case atStart => exact ⟨i, M, [], rfl, ⟨by simp, (fun (b : S45) (hb : b ∈ ([] : List S45)) => by cases hb), by have := HI.out; have := HML.out; omega, rfl⟩, ⟨by have := H.out; simpa using this⟩⟩
  case round =>
  clear H; obtain ⟨j, Am, B, rfl, HJ, H⟩ := hrel; have HMB := Aside0.mk (show M.length = Am.length + B.length by rw [HJ.out.1, List.length_append])
  rcases List.eq_nil_or_concat Am with e | ⟨A', y, e⟩
  · subst e
    have hja : decide (j > a) = false := decide_eq_false (by have hj := HJ.out.2.2.1; have := HA.out; simp at hj; omega)
    have hja2 : decide (a < j) = false := hja
    go_upto_region 4 with fail
    refine start_ (n := 17) (S := (fun w' => True)) (ds := []) #[false, false, false, false, false, false, false, false, false, false, false, false, false, false, false, false, false] (by kernel_rfl) rfl rfl ?_ ?_
    · trivial
    intro hHeld
    refine pure_ (i := 0) (N := some 18) (v := ?_) (a' := ?_) #[true, false, false, false, false, false, false, false, false, false, false, false, false, false, false, false, false] rfl rfl (by kernel_rfl) (fun _ _ _ h => h) (Or.inl ⟨by rfl, ?_⟩) ?_ ?_
    rotate_left
    · intro w'
      go_simp
      with_reducible rfl
    rotate_left
    · simp only [Act.put, List.setIfInBounds_toArray, List.set_cons_zero, List.set_cons_succ, i64_w, i32_w]
      rfl
    refine pure_ (i := 1) (N := some 19) (v := ?_) (a' := ?_) #[true, true, false, false, false, false, false, false, false, false, false, false, false, false, false, false, false] rfl rfl (by kernel_rfl) (fun _ _ _ h => h) (Or.inl ⟨by rfl, ?_⟩) ?_ ?_
    rotate_left
    · intro w'
      go_simp
      with_reducible rfl
    rotate_left
    · simp only [Act.put, List.setIfInBounds_toArray, List.set_cons_zero, List.set_cons_succ, i64_w, i32_w]
      rfl
    refine pure_ (i := 2) (N := some 20) (v := ?_) (a' := ?_) #[true, true, true, false, false, false, false, false, false, false, false, false, false, false, false, false, false] rfl rfl (by kernel_rfl) (fun _ _ _ h => h) (Or.inl ⟨by rfl, ?_⟩) ?_ ?_
    rotate_left
    · intro w'
      go_simp
      with_reducible rfl
    rotate_left
    · simp only [Act.put, List.setIfInBounds_toArray, List.set_cons_zero, List.set_cons_succ, i64_w, i32_w]
      rfl
    refine pure_ (i := 3) (N := some 21) (v := ?_) (a' := ?_) #[true, true, true, true, false, false, false, false, false, false, false, false, false, false, false, false, false] rfl rfl (by kernel_rfl) (fun _ _ _ h => h) (Or.inl ⟨by rfl, ?_⟩) ?_ ?_
    rotate_left
    · intro w'
      go_simp
      with_reducible rfl
    rotate_left
    · simp only [Act.put, List.setIfInBounds_toArray, List.set_cons_zero, List.set_cons_succ, i64_w, i32_w]
      rfl
    refine pure_ (i := 4) (N := some 22) (v := undef) (a' := ?_) #[true, true, true, true, true, false, false, false, false, false, false, false, false, false, false, false, false] rfl rfl (by kernel_rfl) (fun _ _ _ h => h) (Or.inr ⟨by rfl, rfl⟩) ?_ ?_
    rotate_left
    · simp only [Act.put, List.setIfInBounds_toArray, List.set_cons_zero, List.set_cons_succ, i64_w, i32_w]
      rfl
    refine pure_ (i := 5) (N := some 23) (v := undef) (a' := ?_) #[true, true, true, true, true, true, false, false, false, false, false, false, false, false, false, false, false] rfl rfl (by kernel_rfl) (fun _ _ _ h => h) (Or.inr ⟨by rfl, rfl⟩) ?_ ?_
    rotate_left
    · simp only [Act.put, List.setIfInBounds_toArray, List.set_cons_zero, List.set_cons_succ, i64_w, i32_w]
      rfl
    refine pure_ (i := 6) (N := some 24) (v := undef) (a' := ?_) #[true, true, true, true, true, true, true, false, false, false, false, false, false, false, false, false, false] rfl rfl (by kernel_rfl) (fun _ _ _ h => h) (Or.inr ⟨by rfl, rfl⟩) ?_ ?_
    rotate_left
    · simp only [Act.put, List.setIfInBounds_toArray, List.set_cons_zero, List.set_cons_succ, i64_w, i32_w]
      rfl
    refine pure_ (i := 7) (N := some 25) (v := undef) (a' := ?_) #[true, true, true, true, true, true, true, true, false, false, false, false, false, false, false, false, false] rfl rfl (by kernel_rfl) (fun _ _ _ h => h) (Or.inr ⟨by rfl, rfl⟩) ?_ ?_
    rotate_left
    · simp only [Act.put, List.setIfInBounds_toArray, List.set_cons_zero, List.set_cons_succ, i64_w, i32_w]
      rfl
    refine pure_ (i := 9) (N := some 27) (v := undef) (a' := ?_) #[true, true, true, true, true, true, true, true, false, true, false, false, false, false, false, false, false] rfl rfl (by kernel_rfl) (fun _ _ _ h => h) (Or.inr ⟨by rfl, rfl⟩) ?_ ?_
    rotate_left
    · simp only [Act.put, List.setIfInBounds_toArray, List.set_cons_zero, List.set_cons_succ, i64_w, i32_w]
      rfl
    refine pure_ (i := 10) (N := some 28) (v := undef) (a' := ?_) #[true, true, true, true, true, true, true, true, false, true, true, false, false, false, false, false, false] rfl rfl (by kernel_rfl) (fun _ _ _ h => h) (Or.inr ⟨by rfl, rfl⟩) ?_ ?_
    rotate_left
    · simp only [Act.put, List.setIfInBounds_toArray, List.set_cons_zero, List.set_cons_succ, i64_w, i32_w]
      rfl
    refine pure_ (i := 11) (N := some 29) (v := undef) (a' := ?_) #[true, true, true, true, true, true, true, true, false, true, true, true, false, false, false, false, false] rfl rfl (by kernel_rfl) (fun _ _ _ h => h) (Or.inr ⟨by rfl, rfl⟩) ?_ ?_
    rotate_left
    · simp only [Act.put, List.setIfInBounds_toArray, List.set_cons_zero, List.set_cons_succ, i64_w, i32_w]
      rfl
    refine pure_ (i := 12) (N := some 30) (v := undef) (a' := ?_) #[true, true, true, true, true, true, true, true, false, true, true, true, true, false, false, false, false] rfl rfl (by kernel_rfl) (fun _ _ _ h => h) (Or.inr ⟨by rfl, rfl⟩) ?_ ?_
    rotate_left
    · simp only [Act.put, List.setIfInBounds_toArray, List.set_cons_zero, List.set_cons_succ, i64_w, i32_w]
      rfl
    refine pure_ (i := 8) (N := some 26) (v := undef) (a' := ?_) #[true, true, true, true, true, true, true, true, true, true, true, true, true, false, false, false, false] rfl rfl (by kernel_rfl) (fun _ _ _ h => h) (Or.inr ⟨by rfl, rfl⟩) ?_ ?_
    rotate_left
    · simp only [Act.put, List.setIfInBounds_toArray, List.set_cons_zero, List.set_cons_succ, i64_w, i32_w]
      rfl
    refine pure_ (i := 13) (N := some 31) (v := undef) (a' := ?_) #[true, true, true, true, true, true, true, true, true, true, true, true, true, true, false, false, false] rfl rfl (by kernel_rfl) (fun _ _ _ h => h) (Or.inr ⟨by rfl, rfl⟩) ?_ ?_
    rotate_left
    · simp only [Act.put, List.setIfInBounds_toArray, List.set_cons_zero, List.set_cons_succ, i64_w, i32_w]
      rfl
    refine pure_ (i := 14) (N := some 32) (v := undef) (a' := ?_) #[true, true, true, true, true, true, true, true, true, true, true, true, true, true, true, false, false] rfl rfl (by kernel_rfl) (fun _ _ _ h => h) (Or.inr ⟨by rfl, rfl⟩) ?_ ?_
    rotate_left
    · simp only [Act.put, List.setIfInBounds_toArray, List.set_cons_zero, List.set_cons_succ, i64_w, i32_w]
      rfl
    refine pure_ (i := 15) (N := some 33) (v := undef) (a' := ?_) #[true, true, true, true, true, true, true, true, true, true, true, true, true, true, true, true, false] rfl rfl (by kernel_rfl) (fun _ _ _ h => h) (Or.inr ⟨by rfl, rfl⟩) ?_ ?_
    rotate_left
    · simp only [Act.put, List.setIfInBounds_toArray, List.set_cons_zero, List.set_cons_succ, i64_w, i32_w]
      rfl
    refine pure_ (i := 16) (N := some 34) (v := ?_) (a' := ?_) #[true, true, true, true, true, true, true, true, true, true, true, true, true, true, true, true, true] rfl rfl (by kernel_rfl) (fun _ _ _ h => h) (Or.inl ⟨by rfl, ?_⟩) ?_ ?_
    rotate_left
    · intro w'
      go_simp
      with_reducible rfl
    rotate_left
    · simp only [Act.put, List.setIfInBounds_toArray, List.set_cons_zero, List.set_cons_succ, i64_w, i32_w]
      rfl
    refine done_ (by kernel_rfl) ?_
    obtain ⟨W3, hW3⟩ : ∃ W3, wr.drew = W3 := ⟨_, rfl⟩
    have H3 := Aside0.mk (hW3 ▸ H.out.drew)
    rw [hW3]
    clear hW3
    go_wp2_with fail
    have HF := Aside0.mk (inserted (w := HC.out.swo) (A := []) (B := B) (x := x) (by have := HI.out.2.1; rw [HJ.out.1] at this; exact this) HJ.out.2.1 (fun a ha => by cases ha))
    go_roundg k1
    case measure => omega
    case rel =>
      refine ⟨i + 1, [] ++ x :: B, X1 ++ [x], X3, rfl, ⟨?_, HF.out.1, ?_, ?_, ?_⟩, ⟨by have := H3.out; simpa using this⟩⟩; (rw [HI.out.1]; simp); (have h1 := HI.out.2.2.1; rw [HJ.out.1] at h1; exact (h1.app (Stb.refl (lt cm) [x])).trans HF.out.2); (have := HI.out; simp; omega); (have := HI.out; simp at this; omega)
  · subst e
    have hja : decide (j > a) = true := decide_eq_true (by have hj := HJ.out.2.2.1; have := HA.out; simp at hj; omega)
    have hja2 : decide (a < j) = true := hja
    obtain ⟨q, hq⟩ : ∃ q : Nat, q = P.length + A'.length := ⟨_, rfl⟩
    have HQ := Aside0.mk hq
    have hj : j = (q : Int) + 1 := by have := HJ.out; simp at this; omega
    have HJQ := Aside0.mk hj
    have H2 := Aside0.mk (show Rw w0 A n c wr ((P ++ A') ++ y :: ([] ++ x :: (B ++ (X3 ++ Q)))) by have := H.out; simpa using this)
    obtain ⟨g, rfl, hg⟩ := H2.out.form (by have := HIL.out; omega)
    obtain ⟨hpn, ⟨cq0, cq1, _, _⟩, ⟨cp0, cp1, _, _⟩, c2, c3⟩ := H2.out.two q (q + 1) (by simp; omega) (by simp; omega)
    have w1 : wrap64 (q : Int) = (q : Int) := by unfold wrap64; have := HN.out; omega
    have HPN := Aside0.mk hpn
    have hpn1 := eq_true hpn
    have hqn1 := eq_true (show q < n by omega)
    have e1 : ((q : Int) + 1).toNat = q + 1 := by omega
    have e0 : (0 ≤ (q : Int) + 1) = True := eq_true (by omega)
    have e2 : ((q : Int) + 1 < (n : Int)) = True := eq_true (by omega)
    subst hj
    have HOY := Aside0.mk (show ok y from HOM.out y (by rw [HJ.out.1]; simp))
    obtain ⟨r, hr⟩ : ∃ r, cm x y = r := ⟨_, rfl⟩
    have HR := Aside0.mk hr
    clear hq hg hpn hr c2 c3
    by_cases hr0 : r < 0
    · have hrb : decide (r < 0) = true := decide_eq_true hr0
      have HLT := Aside0.mk (show lt cm x y = true by unfold lt; rw [HR.out]; exact decide_eq_true hr0)
      clear hr0
      go_upto_region 4 with fail
      refine start_ (n := 17) (S := (fun w' => w'.cell? ⟨g, q * 2, none⟩ = some (.string y.f0) ∧ w'.cell? ⟨g, q * 2 + 1, none⟩ = some (.string y.f1) ∧ w'.cell? ⟨g, (q + 1) * 2, none⟩ = some (.string x.f0) ∧ w'.cell? ⟨g, (q + 1) * 2 + 1, none⟩ = some (.string x.f1))) (ds := []) #[false, false, false, false, false, false, false, false, false, false, false, false, false, false, false, false, false] (by kernel_rfl) rfl rfl ?_ ?_
      · exact ⟨cq0, cq1, cp0, cp1⟩
      intro hHeld
      clear cq0 cq1 cp0 cp1; have H2 := Aside0.mk H2.out.drew; generalize wr.drew = w3 at H2 hHeld ⊢; have hH := hHeld; obtain ⟨cq0, cq1, cp0, cp1⟩ := hH
      refine pure_ (i := 0) (N := some 18) (v := ?_) (a' := ?_) #[true, false, false, false, false, false, false, false, false, false, false, false, false, false, false, false, false] rfl rfl (by kernel_rfl) (fun _ _ _ h => h) (Or.inl ⟨by rfl, ?_⟩) ?_ ?_
      rotate_left
      · intro w'
        go_simp
        with_reducible rfl
      rotate_left
      · simp only [Act.put, List.setIfInBounds_toArray, List.set_cons_zero, List.set_cons_succ, i64_w, i32_w]
        rfl
      refine pure_ (i := 1) (N := some 19) (v := ?_) (a' := ?_) #[true, true, false, false, false, false, false, false, false, false, false, false, false, false, false, false, false] rfl rfl (by kernel_rfl) (fun _ _ _ h => h) (Or.inl ⟨by rfl, ?_⟩) ?_ ?_
      rotate_left
      · intro w'
        go_simp
        with_reducible rfl
      rotate_left
      · simp only [Act.put, List.setIfInBounds_toArray, List.set_cons_zero, List.set_cons_succ, i64_w, i32_w]
        rfl
      refine pure_ (i := 2) (N := some 20) (v := ?_) (a' := ?_) #[true, true, true, false, false, false, false, false, false, false, false, false, false, false, false, false, false] rfl rfl (by kernel_rfl) (fun _ _ _ h => h) (Or.inl ⟨by rfl, ?_⟩) ?_ ?_
      rotate_left
      · intro w'
        go_simp
        with_reducible rfl
      rotate_left
      · simp only [Act.put, List.setIfInBounds_toArray, List.set_cons_zero, List.set_cons_succ, i64_w, i32_w]
        rfl
      refine pure_ (i := 3) (N := some 21) (v := ?_) (a' := ?_) #[true, true, true, true, false, false, false, false, false, false, false, false, false, false, false, false, false] rfl rfl (by kernel_rfl) (fun _ _ _ h => h) (Or.inl ⟨by rfl, ?_⟩) ?_ ?_
      rotate_left
      · intro w'
        go_simp
        with_reducible rfl
      rotate_left
      · simp only [Act.put, List.setIfInBounds_toArray, List.set_cons_zero, List.set_cons_succ, i64_w, i32_w]
        rfl
      refine pure_ (i := 4) (N := some 22) (v := ?_) (a' := ?_) #[true, true, true, true, true, false, false, false, false, false, false, false, false, false, false, false, false] rfl rfl (by kernel_rfl) (fun _ _ _ h => h) (Or.inl ⟨by rfl, ?_⟩) ?_ ?_
      rotate_left
      · intro w'
        go_simp
        with_reducible rfl
      rotate_left
      · simp only [Act.put, List.setIfInBounds_toArray, List.set_cons_zero, List.set_cons_succ, i64_w, i32_w]
        rfl
      refine pure_ (i := 5) (N := some 23) (v := ?_) (a' := ?_) #[true, true, true, true, true, true, false, false, false, false, false, false, false, false, false, false, false] rfl rfl (by kernel_rfl) (fun _ _ _ h => h) (Or.inl ⟨by rfl, ?_⟩) ?_ ?_
      rotate_left
      · intro w'
        go_simp
        with_reducible rfl
      rotate_left
      · simp only [Act.put, List.setIfInBounds_toArray, List.set_cons_zero, List.set_cons_succ, i64_w, i32_w]
        rfl
      refine pure_ (i := 6) (N := some 24) (v := ?_) (a' := ?_) #[true, true, true, true, true, true, true, false, false, false, false, false, false, false, false, false, false] rfl rfl (by kernel_rfl) (fun _ _ _ h => h) (Or.inl ⟨by rfl, ?_⟩) ?_ ?_
      rotate_left
      · intro w'
        go_simp
        with_reducible rfl
      rotate_left
      · simp only [Act.put, List.setIfInBounds_toArray, List.set_cons_zero, List.set_cons_succ, i64_w, i32_w]
        rfl
      refine pure_ (i := 7) (N := some 25) (v := ?_) (a' := ?_) #[true, true, true, true, true, true, true, true, false, false, false, false, false, false, false, false, false] rfl rfl (by kernel_rfl) (fun _ _ _ h => h) (Or.inl ⟨by rfl, ?_⟩) ?_ ?_
      rotate_left
      · intro w'
        go_simp
        with_reducible rfl
      rotate_left
      · simp only [Act.put, List.setIfInBounds_toArray, List.set_cons_zero, List.set_cons_succ, i64_w, i32_w]
        rfl
      refine pure_ (i := 9) (N := some 27) (v := ?_) (a' := ?_) #[true, true, true, true, true, true, true, true, false, true, false, false, false, false, false, false, false] rfl rfl (by kernel_rfl) (fun _ _ _ h => h) (Or.inl ⟨by rfl, ?_⟩) ?_ ?_
      rotate_left
      · intro w'
        go_simp
        with_reducible rfl
      rotate_left
      · simp only [Act.put, List.setIfInBounds_toArray, List.set_cons_zero, List.set_cons_succ, i64_w, i32_w]
        rfl
      refine pure_ (i := 10) (N := some 28) (v := ?_) (a' := ?_) #[true, true, true, true, true, true, true, true, false, true, true, false, false, false, false, false, false] rfl rfl (by kernel_rfl) (fun _ _ _ h => h) (Or.inl ⟨by rfl, ?_⟩) ?_ ?_
      rotate_left
      · intro w'
        go_simp
        with_reducible rfl
      rotate_left
      · simp only [Act.put, List.setIfInBounds_toArray, List.set_cons_zero, List.set_cons_succ, i64_w, i32_w]
        rfl
      refine pure_ (i := 11) (N := some 29) (v := ?_) (a' := ?_) #[true, true, true, true, true, true, true, true, false, true, true, true, false, false, false, false, false] rfl rfl (by kernel_rfl) (fun _ _ _ h => h) (Or.inl ⟨by rfl, ?_⟩) ?_ ?_
      rotate_left
      · intro w'
        go_simp
        with_reducible rfl
      rotate_left
      · simp only [Act.put, List.setIfInBounds_toArray, List.set_cons_zero, List.set_cons_succ, i64_w, i32_w]
        rfl
      refine pure_ (i := 12) (N := some 30) (v := ?_) (a' := ?_) #[true, true, true, true, true, true, true, true, false, true, true, true, true, false, false, false, false] rfl rfl (by kernel_rfl) (fun _ _ _ h => h) (Or.inl ⟨by rfl, ?_⟩) ?_ ?_
      rotate_left
      · intro w'
        go_simp
        with_reducible rfl
      rotate_left
      · simp only [Act.put, List.setIfInBounds_toArray, List.set_cons_zero, List.set_cons_succ, i64_w, i32_w]
        rfl
      refine take_ (i := 8) (N := some 26) (v := ?_) (a' := ?_) #[true, true, true, true, true, true, true, true, true, true, true, true, true, false, false, false, false] rfl rfl (by kernel_rfl) (fun _ _ _ h => h) (Or.inl ⟨by rfl, ?_⟩) hHeld ?_ ?_
      rotate_left
      · rintro w' ⟨s0, s1, s2, s3⟩
        go_simp
        with_reducible rfl
      rotate_left
      · simp only [Act.put, List.setIfInBounds_toArray, List.set_cons_zero, List.set_cons_succ, i64_w, i32_w]
        rfl
      refine take_ (i := 13) (N := some 31) (v := ?_) (a' := ?_) #[true, true, true, true, true, true, true, true, true, true, true, true, true, true, false, false, false] rfl rfl (by kernel_rfl) (fun _ _ _ h => h) (Or.inl ⟨by rfl, ?_⟩) hHeld ?_ ?_
      rotate_left
      · rintro w' ⟨s0, s1, s2, s3⟩
        go_simp
        with_reducible rfl
      rotate_left
      · simp only [Act.put, List.setIfInBounds_toArray, List.set_cons_zero, List.set_cons_succ, i64_w, i32_w]
        rfl
      refine one_ (i := 14) (N := some 32) #[true, true, true, true, true, true, true, true, true, true, true, true, true, true, true, false, false] rfl rfl (by kernel_rfl) (by decide) (fun K hK => ?_)
      refine goesV_ #[] Try.func34 (by kernel_rfl) rfl #[.agg #[.string x.f0, .string x.f1], .agg #[.string y.f0, .string y.f1]] (by rfl) rfl rfl (by rfl) (by (try simp only [List.map_toArray, List.map_cons, List.map_nil, List.append_toArray, List.cons_append, List.nil_append]); first | done | rfl) ?_
      refine (HC.out.call w3 x y H2.out.b HOX.out HOY.out).mono ?_
      rintro e w4 ⟨rfl, hb⟩
      rw [HR.out]
      refine ⟨_, rfl, ?_⟩
      have H4 := Aside0.mk (H2.out.below hb)
      obtain ⟨_, ⟨dq0, dq1, _, _⟩, ⟨dp0, dp1, _, _⟩, _, _⟩ := H4.out.two q (q + 1) (by have := HQ.out; simp; omega) (by have := HQ.out; simp; omega)
      clear hb cq0 cq1 cp0 cp1
      refine hK.out _ _ ⟨dq0, dq1, dp0, dp1⟩ (fun hHeld => ?_)
      clear hK K
      refine norm_ (a' := ?_) ?_ ?_
      rotate_left
      · show Act.put _ (some 32) _ = _
        simp only [Act.put, List.setIfInBounds_toArray, List.set_cons_zero, List.set_cons_succ, i64_w, i32_w]
        rfl
      refine pure_ (i := 15) (N := some 33) (v := ?_) (a' := ?_) #[true, true, true, true, true, true, true, true, true, true, true, true, true, true, true, true, false] rfl rfl (by kernel_rfl) (fun _ _ _ h => h) (Or.inl ⟨by rfl, ?_⟩) ?_ ?_
      rotate_left
      · intro w'
        go_simp
        with_reducible rfl
      rotate_left
      · simp only [Act.put, List.setIfInBounds_toArray, List.set_cons_zero, List.set_cons_succ, i64_w, i32_w]
        rfl
      refine pure_ (i := 16) (N := some 34) (v := ?_) (a' := ?_) #[true, true, true, true, true, true, true, true, true, true, true, true, true, true, true, true, true] rfl rfl (by kernel_rfl) (fun _ _ _ h => h) (Or.inl ⟨by rfl, ?_⟩) ?_ ?_
      rotate_left
      · intro w'
        go_simp
        with_reducible rfl
      rotate_left
      · simp only [Act.put, List.setIfInBounds_toArray, List.set_cons_zero, List.set_cons_succ, i64_w, i32_w]
        rfl
      refine done_ (by kernel_rfl) ?_
      obtain ⟨_, ⟨cq0, cq1, fq0, fq1⟩, ⟨cp0, cp1, fp0, fp1⟩, c2, c3⟩ := H4.out.two q (q + 1) (by have := HQ.out; simp; omega) (by have := HQ.out; simp; omega)
      obtain ⟨eq0, eq1, gq0, gq1⟩ := c3 y
      unfold put2 at eq0 eq1 gq0 gq1
      clear c2 c3 dq0 dq1 dp0 dp1
      go_upto_region 6 with fail
      refine start_ (n := 18) (S := (fun w' => w'.cell? ⟨g, q * 2, none⟩ = some (.string y.f0) ∧ w'.cell? ⟨g, q * 2 + 1, none⟩ = some (.string y.f1) ∧ w'.cell? ⟨g, (q + 1) * 2, none⟩ = some (.string x.f0) ∧ w'.cell? ⟨g, (q + 1) * 2 + 1, none⟩ = some (.string x.f1))) (ds := [15, 17]) #[false, false, false, false, false, false, false, false, false, false, false, false, false, false, false, false, false, false] (by kernel_rfl) rfl rfl ?_ ?_
      · exact ⟨cq0, cq1, cp0, cp1⟩
      intro hHeld
      refine pure_ (i := 0) (N := some 37) (v := ?_) (a' := ?_) #[true, false, false, false, false, false, false, false, false, false, false, false, false, false, false, false, false, false] rfl rfl (by kernel_rfl) (fun _ _ _ h => h) (Or.inl ⟨by rfl, ?_⟩) ?_ ?_
      rotate_left
      · intro w'
        go_simp
        with_reducible rfl
      rotate_left
      · simp only [Act.put, List.setIfInBounds_toArray, List.set_cons_zero, List.set_cons_succ, i64_w, i32_w]
        rfl
      refine pure_ (i := 1) (N := some 38) (v := ?_) (a' := ?_) #[true, true, false, false, false, false, false, false, false, false, false, false, false, false, false, false, false, false] rfl rfl (by kernel_rfl) (fun _ _ _ h => h) (Or.inl ⟨by rfl, ?_⟩) ?_ ?_
      rotate_left
      · intro w'
        go_simp
        with_reducible rfl
      rotate_left
      · simp only [Act.put, List.setIfInBounds_toArray, List.set_cons_zero, List.set_cons_succ, i64_w, i32_w]
        rfl
      refine pure_ (i := 2) (N := some 39) (v := ?_) (a' := ?_) #[true, true, true, false, false, false, false, false, false, false, false, false, false, false, false, false, false, false] rfl rfl (by kernel_rfl) (fun _ _ _ h => h) (Or.inl ⟨by rfl, ?_⟩) ?_ ?_
      rotate_left
      · intro w'
        go_simp
        with_reducible rfl
      rotate_left
      · simp only [Act.put, List.setIfInBounds_toArray, List.set_cons_zero, List.set_cons_succ, i64_w, i32_w]
        rfl
      refine pure_ (i := 3) (N := some 40) (v := ?_) (a' := ?_) #[true, true, true, true, false, false, false, false, false, false, false, false, false, false, false, false, false, false] rfl rfl (by kernel_rfl) (fun _ _ _ h => h) (Or.inl ⟨by rfl, ?_⟩) ?_ ?_
      rotate_left
      · intro w'
        go_simp
        with_reducible rfl
      rotate_left
      · simp only [Act.put, List.setIfInBounds_toArray, List.set_cons_zero, List.set_cons_succ, i64_w, i32_w]
        rfl
      refine pure_ (i := 4) (N := some 41) (v := ?_) (a' := ?_) #[true, true, true, true, true, false, false, false, false, false, false, false, false, false, false, false, false, false] rfl rfl (by kernel_rfl) (fun _ _ _ h => h) (Or.inl ⟨by rfl, ?_⟩) ?_ ?_
      rotate_left
      · intro w'
        go_simp
        with_reducible rfl
      rotate_left
      · simp only [Act.put, List.setIfInBounds_toArray, List.set_cons_zero, List.set_cons_succ, i64_w, i32_w]
        rfl
      refine pure_ (i := 5) (N := some 42) (v := ?_) (a' := ?_) #[true, true, true, true, true, true, false, false, false, false, false, false, false, false, false, false, false, false] rfl rfl (by kernel_rfl) (fun _ _ _ h => h) (Or.inl ⟨by rfl, ?_⟩) ?_ ?_
      rotate_left
      · intro w'
        go_simp
        with_reducible rfl
      rotate_left
      · simp only [Act.put, List.setIfInBounds_toArray, List.set_cons_zero, List.set_cons_succ, i64_w, i32_w]
        rfl
      refine pure_ (i := 6) (N := some 43) (v := ?_) (a' := ?_) #[true, true, true, true, true, true, true, false, false, false, false, false, false, false, false, false, false, false] rfl rfl (by kernel_rfl) (fun _ _ _ h => h) (Or.inl ⟨by rfl, ?_⟩) ?_ ?_
      rotate_left
      · intro w'
        go_simp
        with_reducible rfl
      rotate_left
      · simp only [Act.put, List.setIfInBounds_toArray, List.set_cons_zero, List.set_cons_succ, i64_w, i32_w]
        rfl
      refine pure_ (i := 7) (N := some 44) (v := ?_) (a' := ?_) #[true, true, true, true, true, true, true, true, false, false, false, false, false, false, false, false, false, false] rfl rfl (by kernel_rfl) (fun _ _ _ h => h) (Or.inl ⟨by rfl, ?_⟩) ?_ ?_
      rotate_left
      · intro w'
        go_simp
        with_reducible rfl
      rotate_left
      · simp only [Act.put, List.setIfInBounds_toArray, List.set_cons_zero, List.set_cons_succ, i64_w, i32_w]
        rfl
      refine pure_ (i := 8) (N := some 45) (v := ?_) (a' := ?_) #[true, true, true, true, true, true, true, true, true, false, false, false, false, false, false, false, false, false] rfl rfl (by kernel_rfl) (fun _ _ _ h => h) (Or.inl ⟨by rfl, ?_⟩) ?_ ?_
      rotate_left
      · intro w'
        go_simp
        with_reducible rfl
      rotate_left
      · simp only [Act.put, List.setIfInBounds_toArray, List.set_cons_zero, List.set_cons_succ, i64_w, i32_w]
        rfl
      refine pure_ (i := 10) (N := some 47) (v := ?_) (a' := ?_) #[true, true, true, true, true, true, true, true, true, false, true, false, false, false, false, false, false, false] rfl rfl (by kernel_rfl) (fun _ _ _ h => h) (Or.inl ⟨by rfl, ?_⟩) ?_ ?_
      rotate_left
      · intro w'
        go_simp
        with_reducible rfl
      rotate_left
      · simp only [Act.put, List.setIfInBounds_toArray, List.set_cons_zero, List.set_cons_succ, i64_w, i32_w]
        rfl
      refine pure_ (i := 11) (N := some 48) (v := ?_) (a' := ?_) #[true, true, true, true, true, true, true, true, true, false, true, true, false, false, false, false, false, false] rfl rfl (by kernel_rfl) (fun _ _ _ h => h) (Or.inl ⟨by rfl, ?_⟩) ?_ ?_
      rotate_left
      · intro w'
        go_simp
        with_reducible rfl
      rotate_left
      · simp only [Act.put, List.setIfInBounds_toArray, List.set_cons_zero, List.set_cons_succ, i64_w, i32_w]
        rfl
      refine pure_ (i := 12) (N := some 49) (v := ?_) (a' := ?_) #[true, true, true, true, true, true, true, true, true, false, true, true, true, false, false, false, false, false] rfl rfl (by kernel_rfl) (fun _ _ _ h => h) (Or.inl ⟨by rfl, ?_⟩) ?_ ?_
      rotate_left
      · intro w'
        go_simp
        with_reducible rfl
      rotate_left
      · simp only [Act.put, List.setIfInBounds_toArray, List.set_cons_zero, List.set_cons_succ, i64_w, i32_w]
        rfl
      refine take_ (i := 9) (N := some 46) (v := ?_) (a' := ?_) #[true, true, true, true, true, true, true, true, true, true, true, true, true, false, false, false, false, false] rfl rfl (by kernel_rfl) (fun _ _ _ h => h) (Or.inl ⟨by rfl, ?_⟩) hHeld ?_ ?_
      rotate_left
      · rintro w' ⟨s0, s1, s2, s3⟩
        go_simp
        with_reducible rfl
      rotate_left
      · simp only [Act.put, List.setIfInBounds_toArray, List.set_cons_zero, List.set_cons_succ, i64_w, i32_w]
        rfl
      refine take_ (i := 13) (N := some 50) (v := ?_) (a' := ?_) #[true, true, true, true, true, true, true, true, true, true, true, true, true, true, false, false, false, false] rfl rfl (by kernel_rfl) (fun _ _ _ h => h) (Or.inl ⟨by rfl, ?_⟩) hHeld ?_ ?_
      rotate_left
      · rintro w' ⟨s0, s1, s2, s3⟩
        go_simp
        with_reducible rfl
      rotate_left
      · simp only [Act.put, List.setIfInBounds_toArray, List.set_cons_zero, List.set_cons_succ, i64_w, i32_w]
        rfl
      refine pure_ (i := 14) (N := some 51) (v := ?_) (a' := ?_) #[true, true, true, true, true, true, true, true, true, true, true, true, true, true, true, false, false, false] rfl rfl (by kernel_rfl) (fun _ _ _ h => h) (Or.inl ⟨by rfl, ?_⟩) ?_ ?_
      rotate_left
      · intro w'
        go_simp
        with_reducible rfl
      rotate_left
      · simp only [Act.put, List.setIfInBounds_toArray, List.set_cons_zero, List.set_cons_succ, i64_w, i32_w]
        rfl
      refine last_ (i := 15) (N := none) #[true, true, true, true, true, true, true, true, true, true, true, true, true, true, true, true, false, false] rfl rfl (by kernel_rfl) (by decide) (fun K hK => ?_)
      refine skip_ (w1 := put2 w4.drew g (q + 1) y) (by rfl) rfl ?_ ?_
      · unfold put2; first | (go_simp; done) | (go_simp; rfl)
      refine hK.out _ _ ?_
      clear hK K
      refine pure_ (i := 16) (N := some 52) (v := ?_) (a' := ?_) #[true, true, true, true, true, true, true, true, true, true, true, true, true, true, true, true, true, false] rfl rfl (by kernel_rfl) (fun _ _ _ h => h) (Or.inl ⟨by rfl, ?_⟩) ?_ ?_
      rotate_left
      · intro w'
        go_simp
        with_reducible rfl
      rotate_left
      · simp only [Act.put, List.setIfInBounds_toArray, List.set_cons_zero, List.set_cons_succ, i64_w, i32_w]
        rfl
      refine last_ (i := 17) (N := none) #[true, true, true, true, true, true, true, true, true, true, true, true, true, true, true, true, true, true] rfl rfl (by kernel_rfl) (by decide) (fun K hK => ?_)
      refine skip_ (w1 := put2 (put2 w4.drew g (q + 1) y) g q x) (by rfl) rfl ?_ ?_
      · unfold put2; first | (go_simp; done) | (go_simp; rfl)
      refine hK.out _ _ ?_
      clear hK K
      refine done_ (by kernel_rfl) ?_
      clear cq0 cq1 cp0 cp1 fq0 fq1 fp0 fp1 eq0 eq1 gq0 gq1
      have H5 := Aside0.mk (H4.out.drew.swap' q (q + 1) (by have := HQ.out; simp; omega) (by have := HQ.out; simp; omega))
      obtain ⟨W5, hW5⟩ : ∃ W5, put2 (put2 w4.drew g (q + 1) y) g q x = W5 := ⟨_, rfl⟩
      rw [hW5] at H5 ⊢
      clear hW5
      go_wp2_with fail
      cases gk with
      | zero => exact absurd HJ.out.2.2.2 (by simp)
      | succ k2 =>
      go_roundg k2
      case measure => omega
      case rel =>
        refine ⟨(q : Int), A', y :: B, rfl, ⟨?_, ?_, ?_, ?_⟩, ⟨by have := H5.out; simpa using this⟩⟩; (rw [HJ.out.1]; simp)
        · intro b hb
          rcases List.mem_cons.1 hb with rfl | hb
          · exact HLT.out
          · exact HJ.out.2.1 b hb
        (have := HQ.out; omega); (have := HJ.out; simp at this; omega)
    · have hrb : decide (r < 0) = false := decide_eq_false hr0
      have HLT := Aside0.mk (show lt cm x y = false by unfold lt; rw [HR.out]; exact decide_eq_false hr0)
      clear hr0
      go_upto_region 4 with fail
      refine start_ (n := 17) (S := (fun w' => w'.cell? ⟨g, q * 2, none⟩ = some (.string y.f0) ∧ w'.cell? ⟨g, q * 2 + 1, none⟩ = some (.string y.f1) ∧ w'.cell? ⟨g, (q + 1) * 2, none⟩ = some (.string x.f0) ∧ w'.cell? ⟨g, (q + 1) * 2 + 1, none⟩ = some (.string x.f1))) (ds := []) #[false, false, false, false, false, false, false, false, false, false, false, false, false, false, false, false, false] (by kernel_rfl) rfl rfl ?_ ?_
      · exact ⟨cq0, cq1, cp0, cp1⟩
      intro hHeld
      clear cq0 cq1 cp0 cp1; have H2 := Aside0.mk H2.out.drew; generalize wr.drew = w3 at H2 hHeld ⊢; have hH := hHeld; obtain ⟨cq0, cq1, cp0, cp1⟩ := hH
      refine pure_ (i := 0) (N := some 18) (v := ?_) (a' := ?_) #[true, false, false, false, false, false, false, false, false, false, false, false, false, false, false, false, false] rfl rfl (by kernel_rfl) (fun _ _ _ h => h) (Or.inl ⟨by rfl, ?_⟩) ?_ ?_
      rotate_left
      · intro w'
        go_simp
        with_reducible rfl
      rotate_left
      · simp only [Act.put, List.setIfInBounds_toArray, List.set_cons_zero, List.set_cons_succ, i64_w, i32_w]
        rfl
      refine pure_ (i := 1) (N := some 19) (v := ?_) (a' := ?_) #[true, true, false, false, false, false, false, false, false, false, false, false, false, false, false, false, false] rfl rfl (by kernel_rfl) (fun _ _ _ h => h) (Or.inl ⟨by rfl, ?_⟩) ?_ ?_
      rotate_left
      · intro w'
        go_simp
        with_reducible rfl
      rotate_left
      · simp only [Act.put, List.setIfInBounds_toArray, List.set_cons_zero, List.set_cons_succ, i64_w, i32_w]
        rfl
      refine pure_ (i := 2) (N := some 20) (v := ?_) (a' := ?_) #[true, true, true, false, false, false, false, false, false, false, false, false, false, false, false, false, false] rfl rfl (by kernel_rfl) (fun _ _ _ h => h) (Or.inl ⟨by rfl, ?_⟩) ?_ ?_
      rotate_left
      · intro w'
        go_simp
        with_reducible rfl
      rotate_left
      · simp only [Act.put, List.setIfInBounds_toArray, List.set_cons_zero, List.set_cons_succ, i64_w, i32_w]
        rfl
      refine pure_ (i := 3) (N := some 21) (v := ?_) (a' := ?_) #[true, true, true, true, false, false, false, false, false, false, false, false, false, false, false, false, false] rfl rfl (by kernel_rfl) (fun _ _ _ h => h) (Or.inl ⟨by rfl, ?_⟩) ?_ ?_
      rotate_left
      · intro w'
        go_simp
        with_reducible rfl
      rotate_left
      · simp only [Act.put, List.setIfInBounds_toArray, List.set_cons_zero, List.set_cons_succ, i64_w, i32_w]
        rfl
      refine pure_ (i := 4) (N := some 22) (v := ?_) (a' := ?_) #[true, true, true, true, true, false, false, false, false, false, false, false, false, false, false, false, false] rfl rfl (by kernel_rfl) (fun _ _ _ h => h) (Or.inl ⟨by rfl, ?_⟩) ?_ ?_
      rotate_left
      · intro w'
        go_simp
        with_reducible rfl
      rotate_left
      · simp only [Act.put, List.setIfInBounds_toArray, List.set_cons_zero, List.set_cons_succ, i64_w, i32_w]
        rfl
      refine pure_ (i := 5) (N := some 23) (v := ?_) (a' := ?_) #[true, true, true, true, true, true, false, false, false, false, false, false, false, false, false, false, false] rfl rfl (by kernel_rfl) (fun _ _ _ h => h) (Or.inl ⟨by rfl, ?_⟩) ?_ ?_
      rotate_left
      · intro w'
        go_simp
        with_reducible rfl
      rotate_left
      · simp only [Act.put, List.setIfInBounds_toArray, List.set_cons_zero, List.set_cons_succ, i64_w, i32_w]
        rfl
      refine pure_ (i := 6) (N := some 24) (v := ?_) (a' := ?_) #[true, true, true, true, true, true, true, false, false, false, false, false, false, false, false, false, false] rfl rfl (by kernel_rfl) (fun _ _ _ h => h) (Or.inl ⟨by rfl, ?_⟩) ?_ ?_
      rotate_left
      · intro w'
        go_simp
        with_reducible rfl
      rotate_left
      · simp only [Act.put, List.setIfInBounds_toArray, List.set_cons_zero, List.set_cons_succ, i64_w, i32_w]
        rfl
      refine pure_ (i := 7) (N := some 25) (v := ?_) (a' := ?_) #[true, true, true, true, true, true, true, true, false, false, false, false, false, false, false, false, false] rfl rfl (by kernel_rfl) (fun _ _ _ h => h) (Or.inl ⟨by rfl, ?_⟩) ?_ ?_
      rotate_left
      · intro w'
        go_simp
        with_reducible rfl
      rotate_left
      · simp only [Act.put, List.setIfInBounds_toArray, List.set_cons_zero, List.set_cons_succ, i64_w, i32_w]
        rfl
      refine pure_ (i := 9) (N := some 27) (v := ?_) (a' := ?_) #[true, true, true, true, true, true, true, true, false, true, false, false, false, false, false, false, false] rfl rfl (by kernel_rfl) (fun _ _ _ h => h) (Or.inl ⟨by rfl, ?_⟩) ?_ ?_
      rotate_left
      · intro w'
        go_simp
        with_reducible rfl
      rotate_left
      · simp only [Act.put, List.setIfInBounds_toArray, List.set_cons_zero, List.set_cons_succ, i64_w, i32_w]
        rfl
      refine pure_ (i := 10) (N := some 28) (v := ?_) (a' := ?_) #[true, true, true, true, true, true, true, true, false, true, true, false, false, false, false, false, false] rfl rfl (by kernel_rfl) (fun _ _ _ h => h) (Or.inl ⟨by rfl, ?_⟩) ?_ ?_
      rotate_left
      · intro w'
        go_simp
        with_reducible rfl
      rotate_left
      · simp only [Act.put, List.setIfInBounds_toArray, List.set_cons_zero, List.set_cons_succ, i64_w, i32_w]
        rfl
      refine pure_ (i := 11) (N := some 29) (v := ?_) (a' := ?_) #[true, true, true, true, true, true, true, true, false, true, true, true, false, false, false, false, false] rfl rfl (by kernel_rfl) (fun _ _ _ h => h) (Or.inl ⟨by rfl, ?_⟩) ?_ ?_
      rotate_left
      · intro w'
        go_simp
        with_reducible rfl
      rotate_left
      · simp only [Act.put, List.setIfInBounds_toArray, List.set_cons_zero, List.set_cons_succ, i64_w, i32_w]
        rfl
      refine pure_ (i := 12) (N := some 30) (v := ?_) (a' := ?_) #[true, true, true, true, true, true, true, true, false, true, true, true, true, false, false, false, false] rfl rfl (by kernel_rfl) (fun _ _ _ h => h) (Or.inl ⟨by rfl, ?_⟩) ?_ ?_
      rotate_left
      · intro w'
        go_simp
        with_reducible rfl
      rotate_left
      · simp only [Act.put, List.setIfInBounds_toArray, List.set_cons_zero, List.set_cons_succ, i64_w, i32_w]
        rfl
      refine take_ (i := 8) (N := some 26) (v := ?_) (a' := ?_) #[true, true, true, true, true, true, true, true, true, true, true, true, true, false, false, false, false] rfl rfl (by kernel_rfl) (fun _ _ _ h => h) (Or.inl ⟨by rfl, ?_⟩) hHeld ?_ ?_
      rotate_left
      · rintro w' ⟨s0, s1, s2, s3⟩
        go_simp
        with_reducible rfl
      rotate_left
      · simp only [Act.put, List.setIfInBounds_toArray, List.set_cons_zero, List.set_cons_succ, i64_w, i32_w]
        rfl
      refine take_ (i := 13) (N := some 31) (v := ?_) (a' := ?_) #[true, true, true, true, true, true, true, true, true, true, true, true, true, true, false, false, false] rfl rfl (by kernel_rfl) (fun _ _ _ h => h) (Or.inl ⟨by rfl, ?_⟩) hHeld ?_ ?_
      rotate_left
      · rintro w' ⟨s0, s1, s2, s3⟩
        go_simp
        with_reducible rfl
      rotate_left
      · simp only [Act.put, List.setIfInBounds_toArray, List.set_cons_zero, List.set_cons_succ, i64_w, i32_w]
        rfl
      refine one_ (i := 14) (N := some 32) #[true, true, true, true, true, true, true, true, true, true, true, true, true, true, true, false, false] rfl rfl (by kernel_rfl) (by decide) (fun K hK => ?_)
      refine goesV_ #[] Try.func34 (by kernel_rfl) rfl #[.agg #[.string x.f0, .string x.f1], .agg #[.string y.f0, .string y.f1]] (by rfl) rfl rfl (by rfl) (by (try simp only [List.map_toArray, List.map_cons, List.map_nil, List.append_toArray, List.cons_append, List.nil_append]); first | done | rfl) ?_
      refine (HC.out.call w3 x y H2.out.b HOX.out HOY.out).mono ?_
      rintro e w4 ⟨rfl, hb⟩
      rw [HR.out]
      refine ⟨_, rfl, ?_⟩
      have H4 := Aside0.mk (H2.out.below hb)
      obtain ⟨_, ⟨dq0, dq1, _, _⟩, ⟨dp0, dp1, _, _⟩, _, _⟩ := H4.out.two q (q + 1) (by have := HQ.out; simp; omega) (by have := HQ.out; simp; omega)
      clear hb cq0 cq1 cp0 cp1
      refine hK.out _ _ ⟨dq0, dq1, dp0, dp1⟩ (fun hHeld => ?_)
      clear hK K
      refine norm_ (a' := ?_) ?_ ?_
      rotate_left
      · show Act.put _ (some 32) _ = _
        simp only [Act.put, List.setIfInBounds_toArray, List.set_cons_zero, List.set_cons_succ, i64_w, i32_w]
        rfl
      refine pure_ (i := 15) (N := some 33) (v := ?_) (a' := ?_) #[true, true, true, true, true, true, true, true, true, true, true, true, true, true, true, true, false] rfl rfl (by kernel_rfl) (fun _ _ _ h => h) (Or.inl ⟨by rfl, ?_⟩) ?_ ?_
      rotate_left
      · intro w'
        go_simp
        with_reducible rfl
      rotate_left
      · simp only [Act.put, List.setIfInBounds_toArray, List.set_cons_zero, List.set_cons_succ, i64_w, i32_w]
        rfl
      refine pure_ (i := 16) (N := some 34) (v := ?_) (a' := ?_) #[true, true, true, true, true, true, true, true, true, true, true, true, true, true, true, true, true] rfl rfl (by kernel_rfl) (fun _ _ _ h => h) (Or.inl ⟨by rfl, ?_⟩) ?_ ?_
      rotate_left
      · intro w'
        go_simp
        with_reducible rfl
      rotate_left
      · simp only [Act.put, List.setIfInBounds_toArray, List.set_cons_zero, List.set_cons_succ, i64_w, i32_w]
        rfl
      refine done_ (by kernel_rfl) ?_
      clear dq0 dq1 dp0 dp1
      go_wp2_with fail
      have HF := Aside0.mk (inserted (w := HC.out.swo) (A := A' ++ [y]) (B := B) (x := x) (by have := HI.out.2.1; rw [HJ.out.1] at this; simpa using this) HJ.out.2.1 (srt_last HC.out.swo (by have := HI.out.2.1; rw [HJ.out.1] at this; exact (List.pairwise_append.1 (by simpa [Srt] using this)).1) HLT.out))
      go_roundg k1
      case measure => omega
      case rel =>
        refine ⟨i + 1, (A' ++ [y]) ++ x :: B, X1 ++ [x], X3, rfl, ⟨?_, HF.out.1, ?_, ?_, ?_⟩, ⟨by have := H4.out; simpa using this⟩⟩; (rw [HI.out.1]; simp); (have h1 := HI.out.2.2.1; rw [HJ.out.1] at h1; exact (h1.app (Stb.refl (lt cm) [x])).trans (by have := HF.out.2; simpa using this)); (have := HI.out; simp; omega); (have := HI.out; simp at this; omega)
theorem srt_take {α : Type} {lt : α → α → Bool} (w : Swo lt) {Y : List α} (hY : Srt lt Y) {h : Nat} {y : α} (e : Y[h]? = some y) : ∀ b ∈ Y.take (h + 1), lt y b = false := by
  intro b hb; rw [take_get e] at hb; have h1 := List.pairwise_append.1 (show (Y.take h ++ Y.drop h).Pairwise (fun a b => lt b a = false) by rw [List.take_append_drop]; exact hY)
  rcases List.mem_append.1 hb with hb | hb
  (exact h1.2.2 b hb y (by rw [drop_get e]; simp)); (rw [List.mem_singleton.1 hb]; exact w.irr _)
theorem srt_drop {α : Type} {lt : α → α → Bool} (w : Swo lt) {Y : List α} (hY : Srt lt Y) {h : Nat} {y : α} (e : Y[h]? = some y) : ∀ b ∈ Y.drop h, lt b y = false := by
  intro b hb; have h1 := List.pairwise_append.1 (show (Y.take h ++ Y.drop h).Pairwise (fun a b => lt b a = false) by rw [List.take_append_drop]; exact hY); rw [drop_get e] at hb h1
  rcases List.mem_cons.1 hb with rfl | hb
  (exact w.irr _); (exact (List.pairwise_cons.1 h1.2.1).1 b hb)
theorem bs_lt {α : Type} {lt : α → α → Bool} (w : Swo lt) {Y : List α} (hY : Srt lt Y) {h : Nat} {x y : α} (e : Y[h]? = some y) (hl : lt y x = true) : ∀ b ∈ Y.take (h + 1), lt b x = true := by
  intro b hb
  cases hx : lt b x with
  | true => rfl
  | false => rw [w.nt y b x (srt_take w hY e b hb) hx] at hl; cases hl
theorem bs_ge {α : Type} {lt : α → α → Bool} (w : Swo lt) {Y : List α} (hY : Srt lt Y) {h : Nat} {x y : α} (e : Y[h]? = some y) (hl : lt y x = false) : ∀ b ∈ Y.drop h, lt b x = false :=
  fun b hb => w.nt b y x (srt_drop w hY e b hb) hl
theorem bs2_ge {α : Type} {lt : α → α → Bool} (w : Swo lt) {Y : List α} (hY : Srt lt Y) {h : Nat} {x y : α} (e : Y[h]? = some y) (hl : lt x y = false) : ∀ b ∈ Y.take (h + 1), lt x b = false :=
  fun b hb => w.nt x y b hl (srt_take w hY e b hb)
theorem bs2_lt {α : Type} {lt : α → α → Bool} (w : Swo lt) {Y : List α} (hY : Srt lt Y) {h : Nat} {x y : α} (e : Y[h]? = some y) (hl : lt x y = true) : ∀ b ∈ Y.drop h, lt x b = true := by
  intro b hb
  cases hx : lt x b with
  | true => rfl
  | false => rw [w.nt x b y hx (srt_drop w hY e b hb)] at hl; cases hl
theorem half_i (i j : Int) (h0 : 0 ≤ i + j) (h : i + j ≤ 281474976710656) : wrap64 (IntKind.u64.wrap (wrap64 (i + j)) / 2) = (i + j) / 2 := by
  have e1 : wrap64 (i + j) = i + j := by unfold wrap64; omega
  have e2 : IntKind.u64.wrap (i + j) = i + j := by rw [IntKind.wrap_u64]; omega
  rw [e1, e2]; unfold wrap64; omega
theorem get_fst {α : Type} {P X Y Q : List α} (p k : Nat) (x : α) (hp : p = P.length + k) (hx : X[k]? = some x) : (P ++ X ++ Y ++ Q)[p]? = some x := by
  have hk := (List.getElem?_eq_some_iff.1 hx).1; subst hp; rw [List.append_assoc, List.append_assoc, List.getElem?_append_right (by omega), Nat.add_sub_cancel_left, List.getElem?_append_left hk, hx]
theorem get_snd {α : Type} {P X Y Q : List α} (p k : Nat) (x : α) (hp : p = P.length + X.length + k) (hx : Y[k]? = some x) : (P ++ X ++ Y ++ Q)[p]? = some x := by
  have hk := (List.getElem?_eq_some_iff.1 hx).1; subst hp; rw [← List.length_append, List.append_assoc, List.getElem?_append_right (by omega), Nat.add_sub_cancel_left, List.getElem?_append_left hk, hx]
set_option maxHeartbeats 4000000 in
set_option maxRecDepth 100000 in
theorem sym1 (w0 : World) (A : Option Addr) (n c : Nat) (hn : n ≤ 140737488351232) (gn : Nat) (ok : S45 → Prop) (cm : S45 → S45 → Int) (hc : Cm w0 gn ok cm) (P : List S45) (x : S45) (Y Q : List S45) (hok : ok x ∧ ∀ y ∈ Y, ok y) (hY : Srt (lt cm) Y) (W : World) (h : Rw w0 A n c W (P ++ [x] ++ Y ++ Q))
    (a m b : Int) (ha : a = P.length) (hm : m = P.length + 1) (hb : b = P.length + 1 + Y.length) :
    Calls Try.prog 48 #[.slice A n c, .int .i64 a, .int .i64 m, .int .i64 b, .func (.func 34) #[] #[]] W fun e w' => e = .returned (.tuple #[]) ∧ ∃ M, Srt (lt cm) M ∧ Stb (lt cm) ([x] ++ Y) M ∧ Rw w0 A n c w' (P ++ M ++ Q) := by
  have HN := Aside0.mk hn; have HC := Aside0.mk hc; have HOK := Aside0.mk hok; obtain ⟨pa, hpa⟩ : ∃ pa : Nat, pa = P.length := ⟨_, rfl⟩
  obtain rfl : a = (pa : Int) := by omega
  have HPA := Aside0.mk hpa; have HA := Aside0.mk (And.intro hm hb); have HY := Aside0.mk hY; have H := Aside0.mk h; have HLN := Aside0.mk (show P.length + 1 + Y.length ≤ n by have := h.ln; simp at this; omega)
  have e1 : IntKind.i64.wrap (m - (pa : Int)) = 1 := by rw [IntWalk.i64_in _ (by omega)]; omega
  obtain ⟨g, rfl, hg⟩ := h.form (by have := HLN.out; omega); have p0 := eq_true (show pa < n by have := HLN.out; omega); clear h hn hc hok ha hm hb hY hpa hg
  go_enter Try.func48, Try.ntmps48
  go_wp2_with fail
  go_loopg [10, 11] Y.length (fun kq v10 v11 W' => ∃ (i j : Int) (s t : Nat), v10 = .int .i64 i ∧ v11 = .int .i64 j ∧ Aside0 (i = P.length + 1 + s ∧ j = P.length + 1 + t ∧ s ≤ t ∧ t ≤ Y.length ∧ t ≤ s + kq) ∧ Aside0 ((∀ b ∈ Y.take s, lt cm b x = true) ∧ (∀ b ∈ Y.drop t, lt cm b x = false)) ∧ Aside0 (Rw w0 (some ⟨g, 0, none⟩) n c W' (P ++ [x] ++ Y ++ Q)))
  case atStart => exact ⟨m, b, 0, Y.length, rfl, rfl, ⟨by have := HA.out; omega, by have := HA.out; omega, by omega, by omega, by omega⟩, ⟨by simp, by simp⟩, H⟩
  case round =>
  clear H e1; obtain ⟨i, j, s, t, rfl, rfl, HI, HS, H⟩ := hrel
  by_cases hij : i < j
  · have hijb : decide (i < j) = true := decide_eq_true hij
    cases gk with
    | zero => exact absurd hij (by have := HI.out; omega)
    | succ k1 =>
    obtain ⟨h, hh⟩ : ∃ h : Nat, h = (i + j).toNat / 2 - (P.length + 1) := ⟨_, rfl⟩
    have HH := Aside0.mk (show s ≤ h ∧ h < t ∧ (i + j) / 2 = P.length + 1 + h by have := HI.out; omega)
    obtain ⟨p, hp⟩ : ∃ p : Nat, p = P.length + 1 + h := ⟨_, rfl⟩
    have w1 : wrap64 (IntKind.u64.wrap (wrap64 (i + j)) / 2) = (p : Int) := by rw [half_i i j (by have := HI.out; omega) (by have := HI.out; have := HLN.out; have := HN.out; omega)]; have := HH.out; omega
    have w2 : IntKind.i64.wrap ((p : Int) + 1) = (p : Int) + 1 := IntWalk.i64_in _ (by have := HH.out; have := HI.out; have := HLN.out; have := HN.out; omega)
    obtain ⟨y, hy⟩ : ∃ y, Y[h]? = some y := ⟨_, List.getElem?_eq_getElem (by have := HH.out; have := HI.out; omega)⟩
    have HP := Aside0.mk hp
    have hpn : p < n := by have := HH.out; have := HI.out; have := HLN.out; omega
    have HPN := Aside0.mk hpn
    have hpn1 := eq_true hpn
    obtain ⟨cp0, cp1, _, _⟩ := H.out.cell p hpn y (get_snd p h y hp hy)
    obtain ⟨ca0, ca1, _, _⟩ := H.out.cell pa (by have := HLN.out; have := HPA.out; omega) x (get_fst pa 0 x (by have := HPA.out; omega) rfl)
    have HOY := Aside0.mk (HOK.out.2 y (List.mem_of_getElem? hy))
    have HYY := Aside0.mk hy
    obtain ⟨r, hr⟩ : ∃ r, cm y x = r := ⟨_, rfl⟩
    have HR := Aside0.mk hr
    clear hij hh hp hy hpn hr
    go_upto_region 5 with fail
    rw [w1]
    refine start_ (n := 11) (S := (fun w' => w'.cell? ⟨g, p * 2, none⟩ = some (.string y.f0) ∧ w'.cell? ⟨g, p * 2 + 1, none⟩ = some (.string y.f1) ∧ w'.cell? ⟨g, pa * 2, none⟩ = some (.string x.f0) ∧ w'.cell? ⟨g, pa * 2 + 1, none⟩ = some (.string x.f1))) (ds := []) #[false, false, false, false, false, false, false, false, false, false, false] (by kernel_rfl) rfl rfl ?_ ?_
    · exact ⟨cp0, cp1, ca0, ca1⟩
    intro hHeld
    clear cp0 cp1 ca0 ca1; have H2 := Aside0.mk H.out.drew; generalize wr.drew = w3 at H2 hHeld ⊢; have hH := hHeld; obtain ⟨cp0, cp1, ca0, ca1⟩ := hH
    refine pure_ (i := 0) (N := some 40) (v := ?_) (a' := ?_) #[true, false, false, false, false, false, false, false, false, false, false] rfl rfl (by kernel_rfl) (fun _ _ _ h => h) (Or.inl ⟨by rfl, ?_⟩) ?_ ?_
    rotate_left
    · intro w'
      go_simp
      with_reducible rfl
    rotate_left
    · simp only [Act.put, List.setIfInBounds_toArray, List.set_cons_zero, List.set_cons_succ, i64_w, i32_w]
      rfl
    refine pure_ (i := 1) (N := some 41) (v := ?_) (a' := ?_) #[true, true, false, false, false, false, false, false, false, false, false] rfl rfl (by kernel_rfl) (fun _ _ _ h => h) (Or.inl ⟨by rfl, ?_⟩) ?_ ?_
    rotate_left
    · intro w'
      go_simp
      with_reducible rfl
    rotate_left
    · simp only [Act.put, List.setIfInBounds_toArray, List.set_cons_zero, List.set_cons_succ, i64_w, i32_w]
      rfl
    refine pure_ (i := 2) (N := some 42) (v := ?_) (a' := ?_) #[true, true, true, false, false, false, false, false, false, false, false] rfl rfl (by kernel_rfl) (fun _ _ _ h => h) (Or.inl ⟨by rfl, ?_⟩) ?_ ?_
    rotate_left
    · intro w'
      go_simp
      with_reducible rfl
    rotate_left
    · simp only [Act.put, List.setIfInBounds_toArray, List.set_cons_zero, List.set_cons_succ, i64_w, i32_w]
      rfl
    refine pure_ (i := 3) (N := some 43) (v := ?_) (a' := ?_) #[true, true, true, true, false, false, false, false, false, false, false] rfl rfl (by kernel_rfl) (fun _ _ _ h => h) (Or.inl ⟨by rfl, ?_⟩) ?_ ?_
    rotate_left
    · intro w'
      go_simp
      with_reducible rfl
    rotate_left
    · simp only [Act.put, List.setIfInBounds_toArray, List.set_cons_zero, List.set_cons_succ, i64_w, i32_w]
      rfl
    refine pure_ (i := 5) (N := some 45) (v := ?_) (a' := ?_) #[true, true, true, true, false, true, false, false, false, false, false] rfl rfl (by kernel_rfl) (fun _ _ _ h => h) (Or.inl ⟨by rfl, ?_⟩) ?_ ?_
    rotate_left
    · intro w'
      go_simp
      with_reducible rfl
    rotate_left
    · simp only [Act.put, List.setIfInBounds_toArray, List.set_cons_zero, List.set_cons_succ, i64_w, i32_w]
      rfl
    refine pure_ (i := 6) (N := some 46) (v := ?_) (a' := ?_) #[true, true, true, true, false, true, true, false, false, false, false] rfl rfl (by kernel_rfl) (fun _ _ _ h => h) (Or.inl ⟨by rfl, ?_⟩) ?_ ?_
    rotate_left
    · intro w'
      go_simp
      with_reducible rfl
    rotate_left
    · simp only [Act.put, List.setIfInBounds_toArray, List.set_cons_zero, List.set_cons_succ, i64_w, i32_w]
      rfl
    refine pure_ (i := 7) (N := some 47) (v := ?_) (a' := ?_) #[true, true, true, true, false, true, true, true, false, false, false] rfl rfl (by kernel_rfl) (fun _ _ _ h => h) (Or.inl ⟨by rfl, ?_⟩) ?_ ?_
    rotate_left
    · intro w'
      go_simp
      with_reducible rfl
    rotate_left
    · simp only [Act.put, List.setIfInBounds_toArray, List.set_cons_zero, List.set_cons_succ, i64_w, i32_w]
      rfl
    refine take_ (i := 4) (N := some 44) (v := ?_) (a' := ?_) #[true, true, true, true, true, true, true, true, false, false, false] rfl rfl (by kernel_rfl) (fun _ _ _ h => h) (Or.inl ⟨by rfl, ?_⟩) hHeld ?_ ?_
    rotate_left
    · rintro w' ⟨s0, s1, s2, s3⟩
      go_simp
      with_reducible rfl
    rotate_left
    · simp only [Act.put, List.setIfInBounds_toArray, List.set_cons_zero, List.set_cons_succ, i64_w, i32_w]
      rfl
    refine take_ (i := 8) (N := some 48) (v := ?_) (a' := ?_) #[true, true, true, true, true, true, true, true, true, false, false] rfl rfl (by kernel_rfl) (fun _ _ _ h => h) (Or.inl ⟨by rfl, ?_⟩) hHeld ?_ ?_
    rotate_left
    · rintro w' ⟨s0, s1, s2, s3⟩
      go_simp
      with_reducible rfl
    rotate_left
    · simp only [Act.put, List.setIfInBounds_toArray, List.set_cons_zero, List.set_cons_succ, i64_w, i32_w]
      rfl
    refine one_ (i := 9) (N := some 49) #[true, true, true, true, true, true, true, true, true, true, false] rfl rfl (by kernel_rfl) (by decide) (fun K hK => ?_)
    refine goesV_ #[] Try.func34 (by kernel_rfl) rfl #[.agg #[.string y.f0, .string y.f1], .agg #[.string x.f0, .string x.f1]] (by rfl) rfl rfl (by rfl) (by (try simp only [List.map_toArray, List.map_cons, List.map_nil, List.append_toArray, List.cons_append, List.nil_append]); first | done | rfl) ?_
    refine (HC.out.call w3 y x H2.out.b HOY.out HOK.out.1).mono ?_
    rintro e w4 ⟨rfl, hb⟩
    rw [HR.out]
    refine ⟨_, rfl, ?_⟩
    have H4 := Aside0.mk (H2.out.below hb)
    obtain ⟨cp4, cp5, _, _⟩ := H4.out.cell p HPN.out y (get_snd p h y HP.out HYY.out)
    obtain ⟨ca4, ca5, _, _⟩ := H4.out.cell pa (by have := HLN.out; have := HPA.out; omega) x (get_fst pa 0 x (by have := HPA.out; omega) rfl)
    clear hb cp0 cp1 ca0 ca1
    refine hK.out _ _ ⟨cp4, cp5, ca4, ca5⟩ (fun hHeld => ?_)
    clear hK K
    refine norm_ (a' := ?_) ?_ ?_
    rotate_left
    · show Act.put _ (some 49) _ = _
      simp only [Act.put, List.setIfInBounds_toArray, List.set_cons_zero, List.set_cons_succ, i64_w, i32_w]
      rfl
    refine pure_ (i := 10) (N := some 50) (v := ?_) (a' := ?_) #[true, true, true, true, true, true, true, true, true, true, true] rfl rfl (by kernel_rfl) (fun _ _ _ h => h) (Or.inl ⟨by rfl, ?_⟩) ?_ ?_
    rotate_left
    · intro w'
      go_simp
      with_reducible rfl
    rotate_left
    · simp only [Act.put, List.setIfInBounds_toArray, List.set_cons_zero, List.set_cons_succ, i64_w, i32_w]
      rfl
    refine done_ (by kernel_rfl) ?_
    clear cp4 cp5 ca4 ca5
    by_cases hr0 : r < 0
    · have hrb : decide (r < 0) = true := decide_eq_true hr0
      have HLT := Aside0.mk (show lt cm y x = true by unfold lt; rw [HR.out]; exact decide_eq_true hr0)
      clear hr0
      simp only [hrb]
      go_wp2_with fail
      go_roundg k1
      case measure => omega
      case rel => exact ⟨(p : Int) + 1, j, h + 1, t, rfl, rfl, ⟨by have := HP.out; omega, by have := HI.out; omega, by have := HH.out; omega, by have := HI.out; omega, by have := HI.out; have := HH.out; omega⟩, ⟨bs_lt HC.out.swo HY.out HYY.out HLT.out, HS.out.2⟩, H4⟩
    · have hrb : decide (r < 0) = false := decide_eq_false hr0
      have HLT := Aside0.mk (show lt cm y x = false by unfold lt; rw [HR.out]; exact decide_eq_false hr0)
      clear hr0
      simp only [hrb]
      go_wp2_with fail
      go_roundg k1
      case measure => omega
      case rel => exact ⟨i, (p : Int), s, h, rfl, rfl, ⟨by have := HI.out; omega, by have := HP.out; omega, by have := HH.out; omega, by have := HI.out; have := HH.out; omega, by have := HI.out; have := HH.out; omega⟩, ⟨HS.out.1, bs_ge HC.out.swo HY.out HYY.out HLT.out⟩, H4⟩
  · have hijb : decide (i < j) = false := decide_eq_false hij
    have hst : t = s := by have := HI.out; omega
    subst hst
    have w1 : IntKind.i64.wrap (i - 1) = i - 1 := IntWalk.i64_in _ (by have := HI.out; have := HLN.out; have := HN.out; omega)
    clear hij
    go_wp2_with fail
    go_loopg [13] t (fun kq v13 W' => ∃ (k : Int) (u : Nat), v13 = .int .i64 k ∧ Aside0 (k = P.length + u ∧ u + kq = t) ∧ Aside0 (Rw w0 (some ⟨g, 0, none⟩) n c W' (P ++ Y.take u ++ x :: (Y.drop u ++ Q))))
    case atStart => exact ⟨(pa : Int), 0, rfl, ⟨by have := HPA.out; omega, by omega⟩, ⟨by have := H.out; simpa using this⟩⟩
    case round =>
    clear H
    obtain ⟨k, u, rfl, HK, H⟩ := hrel
    cases gk with
    | zero =>
      have hkb : decide (k < i - 1) = false := decide_eq_false (by have := HK.out; have := HI.out; omega)
      go_wp2_with fail
      (try simp only [Exit.inBlock, Exit.then])
      refine bodyPost_ret (results_none rfl _ _ _) rfl ?_
      have hu : u = t := by have := HK.out; omega
      subst hu; have hF := inserted (w := HC.out.swo) (A := Y.take u) (B := Y.drop u) (x := x); refine ⟨rfl, Y.take u ++ x :: Y.drop u, ?_, ?_, by have := H.out; simpa using this⟩; (have hY := HY.out; rw [← List.take_append_drop u Y] at hY; have h1 := merged HC.out.swo (x := []) (u := [x]) (v := Y.take u) (y := Y.drop u) (M1 := Y.take u) (M2 := [x] ++ Y.drop u) (List.pairwise_singleton _ _) hY (fun a ha b hb => by rw [List.mem_singleton.1 ha]; exact HS.out.1 b hb) (fun a ha => by cases ha) (List.pairwise_append.1 hY).1 (by simpa using Stb.refl (lt cm) (Y.take u)) (List.pairwise_cons.2 ⟨fun b hb => HS.out.2 b hb, (List.pairwise_append.1 hY).2.1⟩) (Stb.refl _ _); simpa using h1.1); (have hY := HY.out; rw [← List.take_append_drop u Y] at hY; have h1 := merged HC.out.swo (x := []) (u := [x]) (v := Y.take u) (y := Y.drop u) (M1 := Y.take u) (M2 := [x] ++ Y.drop u) (List.pairwise_singleton _ _) hY (fun a ha b hb => by rw [List.mem_singleton.1 ha]; exact HS.out.1 b hb) (fun a ha => by cases ha) (List.pairwise_append.1 hY).1 (by simpa using Stb.refl (lt cm) (Y.take u)) (List.pairwise_cons.2 ⟨fun b hb => HS.out.2 b hb, (List.pairwise_append.1 hY).2.1⟩) (Stb.refl _ _); have h2 := h1.2; rw [List.take_append_drop] at h2; simpa using h2)
    | succ k1 =>
      have hkb : decide (k < i - 1) = true := decide_eq_true (by have := HK.out; have := HI.out; omega); obtain ⟨y, hy⟩ : ∃ y, Y[u]? = some y := ⟨_, List.getElem?_eq_getElem (by have := HK.out; have := HI.out; omega)⟩; obtain ⟨q, hq⟩ : ∃ q : Nat, q = P.length + u := ⟨_, rfl⟩
      have hkq : k = (q : Int) := by have := HK.out; omega
      subst hkq; have HQ := Aside0.mk hq; have HYY := Aside0.mk hy; have H2 := Aside0.mk (show Rw w0 (some ⟨g, 0, none⟩) n c wr ((P ++ Y.take u) ++ x :: ([] ++ y :: (Y.drop (u + 1) ++ Q))) by have := H.out; rw [drop_get hy] at this; simpa using this); have HQL := Aside0.mk (show q = (P ++ Y.take u).length by rw [List.length_append, List.length_take]; have := HI.out; have := HK.out; omega); obtain ⟨hpn, ⟨cq0, cq1, fq0, fq1⟩, ⟨cp0, cp1, _, _⟩, c2, c3⟩ := H2.out.two q (q + 1) HQL.out (by have := HQL.out; simp only [List.length_nil]; omega); obtain ⟨dp0, dp1, fp0, fp1⟩ := c2 y; unfold put2 at dp0 dp1 fp0 fp1; have w2 : IntKind.i64.wrap ((q : Int) + 1) = (q : Int) + 1 := IntWalk.i64_in _ (by have := HN.out; omega); have hpn1 := eq_true hpn; have hqn1 := eq_true (show q < n by omega)
      have e1 : ((q : Int) + 1).toNat = q + 1 := by omega
      have e0 : (0 ≤ (q : Int) + 1) = True := eq_true (by omega); have e2 : ((q : Int) + 1 < (n : Int)) = True := eq_true (by omega); clear hq hy hpn c2 c3 H
      go_upto_region 11 with fail
      refine start_ (n := 18) (S := (fun w' => w'.cell? ⟨g, q * 2, none⟩ = some (.string x.f0) ∧ w'.cell? ⟨g, q * 2 + 1, none⟩ = some (.string x.f1) ∧ w'.cell? ⟨g, (q + 1) * 2, none⟩ = some (.string y.f0) ∧ w'.cell? ⟨g, (q + 1) * 2 + 1, none⟩ = some (.string y.f1))) (ds := [15, 17]) #[false, false, false, false, false, false, false, false, false, false, false, false, false, false, false, false, false, false] (by kernel_rfl) rfl rfl ?_ ?_; (exact ⟨cq0, cq1, cp0, cp1⟩); intro hHeld; refine pure_ (i := 0) (N := some 61) (v := ?_) (a' := ?_) #[true, false, false, false, false, false, false, false, false, false, false, false, false, false, false, false, false, false] rfl rfl (by kernel_rfl) (fun _ _ _ h => h) (Or.inl ⟨by rfl, ?_⟩) ?_ ?_; rotate_left; (intro w'; go_simp; (with_reducible rfl)); rotate_left; (simp only [Act.put, List.setIfInBounds_toArray, List.set_cons_zero, List.set_cons_succ, i64_w, i32_w]; rfl); refine pure_ (i := 1) (N := some 62) (v := ?_) (a' := ?_) #[true, true, false, false, false, false, false, false, false, false, false, false, false, false, false, false, false, false] rfl rfl (by kernel_rfl) (fun _ _ _ h => h) (Or.inl ⟨by rfl, ?_⟩) ?_ ?_; rotate_left; (intro w'; go_simp; (with_reducible rfl)); rotate_left; (simp only [Act.put, List.setIfInBounds_toArray, List.set_cons_zero, List.set_cons_succ, i64_w, i32_w]; rfl); refine pure_ (i := 2) (N := some 63) (v := ?_) (a' := ?_) #[true, true, true, false, false, false, false, false, false, false, false, false, false, false, false, false, false, false] rfl rfl (by kernel_rfl) (fun _ _ _ h => h) (Or.inl ⟨by rfl, ?_⟩) ?_ ?_; rotate_left; (intro w'; go_simp; (with_reducible rfl)); rotate_left; (simp only [Act.put, List.setIfInBounds_toArray, List.set_cons_zero, List.set_cons_succ, i64_w, i32_w]; rfl); refine pure_ (i := 3) (N := some 64) (v := ?_) (a' := ?_) #[true, true, true, true, false, false, false, false, false, false, false, false, false, false, false, false, false, false] rfl rfl (by kernel_rfl) (fun _ _ _ h => h) (Or.inl ⟨by rfl, ?_⟩) ?_ ?_; rotate_left; (intro w'; go_simp; (with_reducible rfl)); rotate_left; (simp only [Act.put, List.setIfInBounds_toArray, List.set_cons_zero, List.set_cons_succ, i64_w, i32_w]; rfl); refine pure_ (i := 4) (N := some 65) (v := ?_) (a' := ?_) #[true, true, true, true, true, false, false, false, false, false, false, false, false, false, false, false, false, false] rfl rfl (by kernel_rfl) (fun _ _ _ h => h) (Or.inl ⟨by rfl, ?_⟩) ?_ ?_; rotate_left; (intro w'; go_simp; (with_reducible rfl)); rotate_left; (simp only [Act.put, List.setIfInBounds_toArray, List.set_cons_zero, List.set_cons_succ, i64_w, i32_w]; rfl); refine pure_ (i := 5) (N := some 66) (v := ?_) (a' := ?_) #[true, true, true, true, true, true, false, false, false, false, false, false, false, false, false, false, false, false] rfl rfl (by kernel_rfl) (fun _ _ _ h => h) (Or.inl ⟨by rfl, ?_⟩) ?_ ?_; rotate_left; (intro w'; go_simp; (with_reducible rfl)); rotate_left; (simp only [Act.put, List.setIfInBounds_toArray, List.set_cons_zero, List.set_cons_succ, i64_w, i32_w]; rfl); refine pure_ (i := 6) (N := some 67) (v := ?_) (a' := ?_) #[true, true, true, true, true, true, true, false, false, false, false, false, false, false, false, false, false, false] rfl rfl (by kernel_rfl) (fun _ _ _ h => h) (Or.inl ⟨by rfl, ?_⟩) ?_ ?_; rotate_left; (intro w'; go_simp; (with_reducible rfl)); rotate_left; (simp only [Act.put, List.setIfInBounds_toArray, List.set_cons_zero, List.set_cons_succ, i64_w, i32_w]; rfl); refine pure_ (i := 7) (N := some 68) (v := ?_) (a' := ?_) #[true, true, true, true, true, true, true, true, false, false, false, false, false, false, false, false, false, false] rfl rfl (by kernel_rfl) (fun _ _ _ h => h) (Or.inl ⟨by rfl, ?_⟩) ?_ ?_; rotate_left; (intro w'; go_simp; (with_reducible rfl)); rotate_left; (simp only [Act.put, List.setIfInBounds_toArray, List.set_cons_zero, List.set_cons_succ, i64_w, i32_w]; rfl); refine pure_ (i := 8) (N := some 69) (v := ?_) (a' := ?_) #[true, true, true, true, true, true, true, true, true, false, false, false, false, false, false, false, false, false] rfl rfl (by kernel_rfl) (fun _ _ _ h => h) (Or.inl ⟨by rfl, ?_⟩) ?_ ?_; rotate_left; (intro w'; go_simp; (with_reducible rfl)); rotate_left; (simp only [Act.put, List.setIfInBounds_toArray, List.set_cons_zero, List.set_cons_succ, i64_w, i32_w]; rfl); refine pure_ (i := 10) (N := some 71) (v := ?_) (a' := ?_) #[true, true, true, true, true, true, true, true, true, false, true, false, false, false, false, false, false, false] rfl rfl (by kernel_rfl) (fun _ _ _ h => h) (Or.inl ⟨by rfl, ?_⟩) ?_ ?_; rotate_left; (intro w'; go_simp; (with_reducible rfl)); rotate_left; (simp only [Act.put, List.setIfInBounds_toArray, List.set_cons_zero, List.set_cons_succ, i64_w, i32_w]; rfl); refine pure_ (i := 11) (N := some 72) (v := ?_) (a' := ?_) #[true, true, true, true, true, true, true, true, true, false, true, true, false, false, false, false, false, false] rfl rfl (by kernel_rfl) (fun _ _ _ h => h) (Or.inl ⟨by rfl, ?_⟩) ?_ ?_; rotate_left; (intro w'; go_simp; (with_reducible rfl)); rotate_left; (simp only [Act.put, List.setIfInBounds_toArray, List.set_cons_zero, List.set_cons_succ, i64_w, i32_w]; rfl); refine pure_ (i := 12) (N := some 73) (v := ?_) (a' := ?_) #[true, true, true, true, true, true, true, true, true, false, true, true, true, false, false, false, false, false] rfl rfl (by kernel_rfl) (fun _ _ _ h => h) (Or.inl ⟨by rfl, ?_⟩) ?_ ?_; rotate_left; (intro w'; go_simp; (with_reducible rfl)); rotate_left; (simp only [Act.put, List.setIfInBounds_toArray, List.set_cons_zero, List.set_cons_succ, i64_w, i32_w]; rfl); refine take_ (i := 9) (N := some 70) (v := ?_) (a' := ?_) #[true, true, true, true, true, true, true, true, true, true, true, true, true, false, false, false, false, false] rfl rfl (by kernel_rfl) (fun _ _ _ h => h) (Or.inl ⟨by rfl, ?_⟩) hHeld ?_ ?_; rotate_left; (rintro w' ⟨s0, s1, s2, s3⟩; go_simp; (with_reducible rfl)); rotate_left; (simp only [Act.put, List.setIfInBounds_toArray, List.set_cons_zero, List.set_cons_succ, i64_w, i32_w]; rfl); refine take_ (i := 13) (N := some 74) (v := ?_) (a' := ?_) #[true, true, true, true, true, true, true, true, true, true, true, true, true, true, false, false, false, false] rfl rfl (by kernel_rfl) (fun _ _ _ h => h) (Or.inl ⟨by rfl, ?_⟩) hHeld ?_ ?_; rotate_left; (rintro w' ⟨s0, s1, s2, s3⟩; go_simp; (with_reducible rfl)); rotate_left; (simp only [Act.put, List.setIfInBounds_toArray, List.set_cons_zero, List.set_cons_succ, i64_w, i32_w]; rfl); refine pure_ (i := 14) (N := some 75) (v := ?_) (a' := ?_) #[true, true, true, true, true, true, true, true, true, true, true, true, true, true, true, false, false, false] rfl rfl (by kernel_rfl) (fun _ _ _ h => h) (Or.inl ⟨by rfl, ?_⟩) ?_ ?_; rotate_left; (intro w'; go_simp; (with_reducible rfl)); rotate_left; (simp only [Act.put, List.setIfInBounds_toArray, List.set_cons_zero, List.set_cons_succ, i64_w, i32_w]; rfl); refine last_ (i := 15) (N := none) #[true, true, true, true, true, true, true, true, true, true, true, true, true, true, true, true, false, false] rfl rfl (by kernel_rfl) (by decide) (fun K hK => ?_); refine skip_ (w1 := put2 wr.drew g q y) (by rfl) rfl ?_ ?_
      · unfold put2; first | (go_simp; done) | (go_simp; rfl)
      refine hK.out _ _ ?_; clear hK K; refine pure_ (i := 16) (N := some 76) (v := ?_) (a' := ?_) #[true, true, true, true, true, true, true, true, true, true, true, true, true, true, true, true, true, false] rfl rfl (by kernel_rfl) (fun _ _ _ h => h) (Or.inl ⟨by rfl, ?_⟩) ?_ ?_; rotate_left; (intro w'; go_simp; (with_reducible rfl)); rotate_left; (simp only [Act.put, List.setIfInBounds_toArray, List.set_cons_zero, List.set_cons_succ, i64_w, i32_w]; rfl); refine last_ (i := 17) (N := none) #[true, true, true, true, true, true, true, true, true, true, true, true, true, true, true, true, true, true] rfl rfl (by kernel_rfl) (by decide) (fun K hK => ?_); refine skip_ (w1 := put2 (put2 wr.drew g q y) g (q + 1) x) (by rfl) rfl ?_ ?_
      · unfold put2; first | (go_simp; done) | (go_simp; rfl)
      refine hK.out _ _ ?_; clear hK K; refine done_ (by kernel_rfl) ?_; clear cq0 cq1 cp0 cp1 fq0 fq1 dp0 dp1 fp0 fp1; have H5 := Aside0.mk (H2.out.drew.swap q (q + 1) HQL.out (by have := HQL.out; simp only [List.length_nil]; omega)); obtain ⟨W5, hW5⟩ : ∃ W5, put2 (put2 wr.drew g q y) g (q + 1) x = W5 := ⟨_, rfl⟩; rw [hW5] at H5 ⊢; clear hW5
      go_wp2_with fail
      go_roundg k1
      case measure => omega
      case rel => exact ⟨(q : Int) + 1, u + 1, rfl, ⟨by have := HQ.out; omega, by have := HK.out; omega⟩, ⟨by have := H5.out; rw [take_get HYY.out]; simpa using this⟩⟩
theorem sym2_end {cm : S45 → S45 → Int} (w : Swo (lt cm)) {X : List S45} {y : S45} (u : Nat) (hX : Srt (lt cm) X) (h1 : ∀ b ∈ X.take u, lt cm y b = false) (h2 : ∀ b ∈ X.drop u, lt cm y b = true) :
    Srt (lt cm) (X.take u ++ y :: X.drop u) ∧ Stb (lt cm) (X ++ [y]) (X.take u ++ y :: X.drop u) := by
  have h3 := inserted w (A := X.take u) (B := X.drop u) (x := y) (by rw [List.take_append_drop]; exact hX) h2 h1; rw [List.take_append_drop] at h3; exact h3
set_option maxHeartbeats 4000000 in
set_option maxRecDepth 100000 in
theorem sym2 (w0 : World) (A : Option Addr) (n c : Nat) (hn : n ≤ 140737488351232) (gn : Nat) (ok : S45 → Prop) (cm : S45 → S45 → Int) (hc : Cm w0 gn ok cm) (P : List S45) (y : S45) (X Q : List S45) (hok : ok y ∧ ∀ x ∈ X, ok x) (hX : Srt (lt cm) X) (hX2 : 2 ≤ X.length) (W : World) (h : Rw w0 A n c W (P ++ X ++ [y] ++ Q))
    (a m b : Int) (ha : a = P.length) (hm : m = P.length + X.length) (hb : b = P.length + X.length + 1) :
    Calls Try.prog 48 #[.slice A n c, .int .i64 a, .int .i64 m, .int .i64 b, .func (.func 34) #[] #[]] W fun e w' => e = .returned (.tuple #[]) ∧ ∃ M, Srt (lt cm) M ∧ Stb (lt cm) (X ++ [y]) M ∧ Rw w0 A n c w' (P ++ M ++ Q) := by
  have HN := Aside0.mk hn; have HC := Aside0.mk hc; have HOK := Aside0.mk hok; obtain ⟨pm, hpm⟩ : ∃ pm : Nat, pm = P.length + X.length := ⟨_, rfl⟩
  obtain rfl : m = (pm : Int) := by omega
  have HPM := Aside0.mk hpm; have HA := Aside0.mk (And.intro ha hb); have HX := Aside0.mk hX; have H := Aside0.mk h; have HLN := Aside0.mk (show P.length + X.length + 1 ≤ n by have := h.ln; simp at this; omega); obtain ⟨d, hd⟩ : ∃ d, (pm : Int) - a = d := ⟨_, rfl⟩
  have e1 : IntKind.i64.wrap ((pm : Int) - a) = d := by rw [IntWalk.i64_in _ (by have := HLN.out; omega)]; exact hd
  have e1b : (d == 1) = false := by simp; omega
  have e2 : IntKind.i64.wrap (b - (pm : Int)) = 1 := by rw [IntWalk.i64_in _ (by omega)]; omega
  obtain ⟨g, rfl, hg⟩ := h.form (by have := HLN.out; omega); have p0 := eq_true (show pm < n by have := HLN.out; omega); clear h hn hc hok ha hm hb hX hpm hg hX2 hd
  go_enter Try.func48, Try.ntmps48
  go_wp2_with fail
  go_loopg [14, 15] X.length (fun kq v10 v11 W' => ∃ (i j : Int) (s t : Nat), v10 = .int .i64 i ∧ v11 = .int .i64 j ∧ Aside0 (i = P.length + s ∧ j = P.length + t ∧ s ≤ t ∧ t ≤ X.length ∧ t ≤ s + kq) ∧ Aside0 ((∀ b ∈ X.take s, lt cm y b = false) ∧ (∀ b ∈ X.drop t, lt cm y b = true)) ∧ Aside0 (Rw w0 (some ⟨g, 0, none⟩) n c W' (P ++ X ++ [y] ++ Q)))
  case atStart => exact ⟨a, (pm : Int), 0, X.length, rfl, rfl, ⟨by have := HA.out; omega, by have := HPM.out; omega, by omega, by omega, by omega⟩, ⟨by simp, by simp⟩, H⟩
  case round =>
  clear H e1 e1b e2; obtain ⟨i, j, s, t, rfl, rfl, HI, HS, H⟩ := hrel
  by_cases hij : i < j
  · have hijb : decide (i < j) = true := decide_eq_true hij
    cases gk with
    | zero => exact absurd hij (by have := HI.out; omega)
    | succ k1 =>
    obtain ⟨h, hh⟩ : ∃ h : Nat, h = (i + j).toNat / 2 - P.length := ⟨_, rfl⟩
    have HH := Aside0.mk (show s ≤ h ∧ h < t ∧ (i + j) / 2 = P.length + h by have := HI.out; omega)
    obtain ⟨p, hp⟩ : ∃ p : Nat, p = P.length + h := ⟨_, rfl⟩
    have w1 : wrap64 (IntKind.u64.wrap (wrap64 (i + j)) / 2) = (p : Int) := by rw [half_i i j (by have := HI.out; omega) (by have := HI.out; have := HLN.out; have := HN.out; omega)]; have := HH.out; omega
    have w2 : IntKind.i64.wrap ((p : Int) + 1) = (p : Int) + 1 := IntWalk.i64_in _ (by have := HH.out; have := HI.out; have := HLN.out; have := HN.out; omega)
    obtain ⟨x, hy⟩ : ∃ x, X[h]? = some x := ⟨_, List.getElem?_eq_getElem (by have := HH.out; have := HI.out; omega)⟩
    have HP := Aside0.mk hp
    have hpn : p < n := by have := HH.out; have := HI.out; have := HLN.out; omega
    have HPN := Aside0.mk hpn
    have hpn1 := eq_true hpn
    obtain ⟨cp0, cp1, _, _⟩ := H.out.cell p hpn x (get_fst p h x hp hy)
    obtain ⟨ca0, ca1, _, _⟩ := H.out.cell pm (by have := HLN.out; have := HPM.out; omega) y (get_snd pm 0 y (by have := HPM.out; omega) rfl)
    have HOY := Aside0.mk (HOK.out.2 x (List.mem_of_getElem? hy))
    have HYY := Aside0.mk hy
    obtain ⟨r, hr⟩ : ∃ r, cm y x = r := ⟨_, rfl⟩
    have HR := Aside0.mk hr
    clear hij hh hp hy hpn hr
    go_upto_region 17 with fail
    rw [w1]
    refine start_ (n := 12) (S := (fun w' => w'.cell? ⟨g, p * 2, none⟩ = some (.string x.f0) ∧ w'.cell? ⟨g, p * 2 + 1, none⟩ = some (.string x.f1) ∧ w'.cell? ⟨g, pm * 2, none⟩ = some (.string y.f0) ∧ w'.cell? ⟨g, pm * 2 + 1, none⟩ = some (.string y.f1))) (ds := []) #[false, false, false, false, false, false, false, false, false, false, false, false] (by kernel_rfl) rfl rfl ?_ ?_
    · exact ⟨cp0, cp1, ca0, ca1⟩
    intro hHeld
    clear cp0 cp1 ca0 ca1; have H2 := Aside0.mk H.out.drew; generalize wr.drew = w3 at H2 hHeld ⊢; have hH := hHeld; obtain ⟨cp0, cp1, ca0, ca1⟩ := hH
    refine pure_ (i := 0) (N := some 92) (v := ?_) (a' := ?_) #[true, false, false, false, false, false, false, false, false, false, false, false] rfl rfl (by kernel_rfl) (fun _ _ _ h => h) (Or.inl ⟨by rfl, ?_⟩) ?_ ?_
    rotate_left
    · intro w'
      go_simp
      with_reducible rfl
    rotate_left
    · simp only [Act.put, List.setIfInBounds_toArray, List.set_cons_zero, List.set_cons_succ, i64_w, i32_w]
      rfl
    refine pure_ (i := 1) (N := some 93) (v := ?_) (a' := ?_) #[true, true, false, false, false, false, false, false, false, false, false, false] rfl rfl (by kernel_rfl) (fun _ _ _ h => h) (Or.inl ⟨by rfl, ?_⟩) ?_ ?_
    rotate_left
    · intro w'
      go_simp
      with_reducible rfl
    rotate_left
    · simp only [Act.put, List.setIfInBounds_toArray, List.set_cons_zero, List.set_cons_succ, i64_w, i32_w]
      rfl
    refine pure_ (i := 2) (N := some 94) (v := ?_) (a' := ?_) #[true, true, true, false, false, false, false, false, false, false, false, false] rfl rfl (by kernel_rfl) (fun _ _ _ h => h) (Or.inl ⟨by rfl, ?_⟩) ?_ ?_
    rotate_left
    · intro w'
      go_simp
      with_reducible rfl
    rotate_left
    · simp only [Act.put, List.setIfInBounds_toArray, List.set_cons_zero, List.set_cons_succ, i64_w, i32_w]
      rfl
    refine pure_ (i := 3) (N := some 95) (v := ?_) (a' := ?_) #[true, true, true, true, false, false, false, false, false, false, false, false] rfl rfl (by kernel_rfl) (fun _ _ _ h => h) (Or.inl ⟨by rfl, ?_⟩) ?_ ?_
    rotate_left
    · intro w'
      go_simp
      with_reducible rfl
    rotate_left
    · simp only [Act.put, List.setIfInBounds_toArray, List.set_cons_zero, List.set_cons_succ, i64_w, i32_w]
      rfl
    refine pure_ (i := 5) (N := some 97) (v := ?_) (a' := ?_) #[true, true, true, true, false, true, false, false, false, false, false, false] rfl rfl (by kernel_rfl) (fun _ _ _ h => h) (Or.inl ⟨by rfl, ?_⟩) ?_ ?_
    rotate_left
    · intro w'
      go_simp
      with_reducible rfl
    rotate_left
    · simp only [Act.put, List.setIfInBounds_toArray, List.set_cons_zero, List.set_cons_succ, i64_w, i32_w]
      rfl
    refine pure_ (i := 6) (N := some 98) (v := ?_) (a' := ?_) #[true, true, true, true, false, true, true, false, false, false, false, false] rfl rfl (by kernel_rfl) (fun _ _ _ h => h) (Or.inl ⟨by rfl, ?_⟩) ?_ ?_
    rotate_left
    · intro w'
      go_simp
      with_reducible rfl
    rotate_left
    · simp only [Act.put, List.setIfInBounds_toArray, List.set_cons_zero, List.set_cons_succ, i64_w, i32_w]
      rfl
    refine pure_ (i := 7) (N := some 99) (v := ?_) (a' := ?_) #[true, true, true, true, false, true, true, true, false, false, false, false] rfl rfl (by kernel_rfl) (fun _ _ _ h => h) (Or.inl ⟨by rfl, ?_⟩) ?_ ?_
    rotate_left
    · intro w'
      go_simp
      with_reducible rfl
    rotate_left
    · simp only [Act.put, List.setIfInBounds_toArray, List.set_cons_zero, List.set_cons_succ, i64_w, i32_w]
      rfl
    refine take_ (i := 4) (N := some 96) (v := ?_) (a' := ?_) #[true, true, true, true, true, true, true, true, false, false, false, false] rfl rfl (by kernel_rfl) (fun _ _ _ h => h) (Or.inl ⟨by rfl, ?_⟩) hHeld ?_ ?_
    rotate_left
    · rintro w' ⟨s0, s1, s2, s3⟩
      go_simp
      with_reducible rfl
    rotate_left
    · simp only [Act.put, List.setIfInBounds_toArray, List.set_cons_zero, List.set_cons_succ, i64_w, i32_w]
      rfl
    refine take_ (i := 8) (N := some 100) (v := ?_) (a' := ?_) #[true, true, true, true, true, true, true, true, true, false, false, false] rfl rfl (by kernel_rfl) (fun _ _ _ h => h) (Or.inl ⟨by rfl, ?_⟩) hHeld ?_ ?_
    rotate_left
    · rintro w' ⟨s0, s1, s2, s3⟩
      go_simp
      with_reducible rfl
    rotate_left
    · simp only [Act.put, List.setIfInBounds_toArray, List.set_cons_zero, List.set_cons_succ, i64_w, i32_w]
      rfl
    refine one_ (i := 9) (N := some 101) #[true, true, true, true, true, true, true, true, true, true, false, false] rfl rfl (by kernel_rfl) (by decide) (fun K hK => ?_)
    refine goesV_ #[] Try.func34 (by kernel_rfl) rfl #[.agg #[.string y.f0, .string y.f1], .agg #[.string x.f0, .string x.f1]] (by rfl) rfl rfl (by rfl) (by (try simp only [List.map_toArray, List.map_cons, List.map_nil, List.append_toArray, List.cons_append, List.nil_append]); first | done | rfl) ?_
    refine (HC.out.call w3 y x H2.out.b HOK.out.1 HOY.out).mono ?_
    rintro e w4 ⟨rfl, hb⟩
    rw [HR.out]
    refine ⟨_, rfl, ?_⟩
    have H4 := Aside0.mk (H2.out.below hb)
    obtain ⟨cp4, cp5, _, _⟩ := H4.out.cell p HPN.out x (get_fst p h x HP.out HYY.out)
    obtain ⟨ca4, ca5, _, _⟩ := H4.out.cell pm (by have := HLN.out; have := HPM.out; omega) y (get_snd pm 0 y (by have := HPM.out; omega) rfl)
    clear hb cp0 cp1 ca0 ca1
    refine hK.out _ _ ⟨cp4, cp5, ca4, ca5⟩ (fun hHeld => ?_)
    clear hK K
    refine norm_ (a' := ?_) ?_ ?_
    rotate_left
    · show Act.put _ (some 101) _ = _
      simp only [Act.put, List.setIfInBounds_toArray, List.set_cons_zero, List.set_cons_succ, i64_w, i32_w]
      rfl
    refine pure_ (i := 10) (N := some 102) (v := ?_) (a' := ?_) #[true, true, true, true, true, true, true, true, true, true, true, false] rfl rfl (by kernel_rfl) (fun _ _ _ h => h) (Or.inl ⟨by rfl, ?_⟩) ?_ ?_
    rotate_left
    · intro w'
      go_simp
      with_reducible rfl
    rotate_left
    · simp only [Act.put, List.setIfInBounds_toArray, List.set_cons_zero, List.set_cons_succ, i64_w, i32_w]
      rfl
    refine pure_ (i := 11) (N := some 103) (v := ?_) (a' := ?_) #[true, true, true, true, true, true, true, true, true, true, true, true] rfl rfl (by kernel_rfl) (fun _ _ _ h => h) (Or.inl ⟨by rfl, ?_⟩) ?_ ?_
    rotate_left
    · intro w'
      go_simp
      with_reducible rfl
    rotate_left
    · simp only [Act.put, List.setIfInBounds_toArray, List.set_cons_zero, List.set_cons_succ, i64_w, i32_w]
      rfl
    refine done_ (by kernel_rfl) ?_
    clear cp4 cp5 ca4 ca5
    by_cases hr0 : r < 0
    · have hrb : decide (r < 0) = true := decide_eq_true hr0
      have HLT := Aside0.mk (show lt cm y x = true by unfold lt; rw [HR.out]; exact decide_eq_true hr0)
      clear hr0
      simp only [hrb, Bool.not_true]
      go_wp2_with fail
      go_roundg k1
      case measure => omega
      case rel => exact ⟨i, (p : Int), s, h, rfl, rfl, ⟨by have := HI.out; omega, by have := HP.out; omega, by have := HH.out; omega, by have := HI.out; have := HH.out; omega, by have := HI.out; have := HH.out; omega⟩, ⟨HS.out.1, bs2_lt HC.out.swo HX.out HYY.out HLT.out⟩, H4⟩
    · have hrb : decide (r < 0) = false := decide_eq_false hr0
      have HLT := Aside0.mk (show lt cm y x = false by unfold lt; rw [HR.out]; exact decide_eq_false hr0)
      clear hr0
      simp only [hrb, Bool.not_false]
      go_wp2_with fail
      go_roundg k1
      case measure => omega
      case rel => exact ⟨(p : Int) + 1, j, h + 1, t, rfl, rfl, ⟨by have := HP.out; omega, by have := HI.out; omega, by have := HH.out; omega, by have := HI.out; omega, by have := HI.out; have := HH.out; omega⟩, ⟨bs2_ge HC.out.swo HX.out HYY.out HLT.out, HS.out.2⟩, H4⟩
  · have hijb : decide (i < j) = false := decide_eq_false hij
    have hst : t = s := by have := HI.out; omega
    subst hst
    clear hij
    go_wp2_with fail
    go_loopg [17] (X.length - t) (fun kq v13 W' => ∃ (k : Int) (u : Nat), v13 = .int .i64 k ∧ Aside0 (k = P.length + u ∧ u = t + kq ∧ u ≤ X.length) ∧ Aside0 (Rw w0 (some ⟨g, 0, none⟩) n c W' (P ++ X.take u ++ y :: (X.drop u ++ Q))))
    case atStart => exact ⟨(pm : Int), X.length, rfl, ⟨by have := HPM.out; omega, by have := HI.out; omega, by omega⟩, ⟨by have := H.out; simpa using this⟩⟩
    case round =>
    clear H
    obtain ⟨k, u, rfl, HK, H⟩ := hrel
    cases gk with
    | zero =>
      have hkb : decide (k > i) = false := decide_eq_false (by have := HK.out; have := HI.out; omega); have hkb2 : decide (i < k) = false := hkb
      go_wp2_with fail
      (try simp only [Exit.inBlock, Exit.then])
      refine bodyPost_ret (results_none rfl _ _ _) rfl ?_
      have hu : u = t := by have := HK.out; omega
      subst hu; have hE := sym2_end HC.out.swo u HX.out HS.out.1 HS.out.2; exact ⟨rfl, X.take u ++ y :: X.drop u, hE.1, hE.2, by have := H.out; simpa using this⟩
    | succ k1 =>
      have hkb : decide (k > i) = true := decide_eq_true (by have := HK.out; have := HI.out; omega); have hkb2 : decide (i < k) = true := hkb; obtain ⟨u1, hu1⟩ : ∃ u1, u = u1 + 1 := ⟨u - 1, by have := HK.out; omega⟩; subst hu1; obtain ⟨x, hy⟩ : ∃ x, X[u1]? = some x := ⟨_, List.getElem?_eq_getElem (by have := HK.out; have := HI.out; omega)⟩; obtain ⟨q, hq⟩ : ∃ q : Nat, q = P.length + u1 := ⟨_, rfl⟩
      have hkq : k = (q : Int) + 1 := by have := HK.out; omega
      subst hkq; have HQ := Aside0.mk hq; have HYY := Aside0.mk hy; have H2 := Aside0.mk (show Rw w0 (some ⟨g, 0, none⟩) n c wr ((P ++ X.take u1) ++ x :: ([] ++ y :: (X.drop (u1 + 1) ++ Q))) by have := H.out; rw [take_get hy] at this; simpa using this); have HQL := Aside0.mk (show q = (P ++ X.take u1).length by rw [List.length_append, List.length_take]; have := HI.out; have := HK.out; omega); obtain ⟨hpn, ⟨cq0, cq1, _, _⟩, ⟨cp0, cp1, fp0, fp1⟩, c2, c3⟩ := H2.out.two q (q + 1) HQL.out (by have := HQL.out; simp only [List.length_nil]; omega); obtain ⟨dq0, dq1, fq0, fq1⟩ := c3 x; unfold put2 at dq0 dq1 fq0 fq1
      have w2 : wrap64 (q : Int) = (q : Int) := by unfold wrap64; have := HN.out; omega
      have hpn1 := eq_true hpn; have hqn1 := eq_true (show q < n by omega)
      have e1 : ((q : Int) + 1).toNat = q + 1 := by omega
      have e0 : (0 ≤ (q : Int) + 1) = True := eq_true (by omega); have e2 : ((q : Int) + 1 < (n : Int)) = True := eq_true (by omega); clear hq hy hpn c2 c3 H
      go_upto_region 23 with fail
      refine start_ (n := 18) (S := (fun w' => w'.cell? ⟨g, q * 2, none⟩ = some (.string x.f0) ∧ w'.cell? ⟨g, q * 2 + 1, none⟩ = some (.string x.f1) ∧ w'.cell? ⟨g, (q + 1) * 2, none⟩ = some (.string y.f0) ∧ w'.cell? ⟨g, (q + 1) * 2 + 1, none⟩ = some (.string y.f1))) (ds := [15, 17]) #[false, false, false, false, false, false, false, false, false, false, false, false, false, false, false, false, false, false] (by kernel_rfl) rfl rfl ?_ ?_; (exact ⟨cq0, cq1, cp0, cp1⟩); intro hHeld; refine pure_ (i := 0) (N := some 113) (v := ?_) (a' := ?_) #[true, false, false, false, false, false, false, false, false, false, false, false, false, false, false, false, false, false] rfl rfl (by kernel_rfl) (fun _ _ _ h => h) (Or.inl ⟨by rfl, ?_⟩) ?_ ?_; rotate_left; (intro w'; go_simp; (with_reducible rfl)); rotate_left; (simp only [Act.put, List.setIfInBounds_toArray, List.set_cons_zero, List.set_cons_succ, i64_w, i32_w]; rfl); refine pure_ (i := 1) (N := some 114) (v := ?_) (a' := ?_) #[true, true, false, false, false, false, false, false, false, false, false, false, false, false, false, false, false, false] rfl rfl (by kernel_rfl) (fun _ _ _ h => h) (Or.inl ⟨by rfl, ?_⟩) ?_ ?_; rotate_left; (intro w'; go_simp; (with_reducible rfl)); rotate_left; (simp only [Act.put, List.setIfInBounds_toArray, List.set_cons_zero, List.set_cons_succ, i64_w, i32_w]; rfl); refine pure_ (i := 2) (N := some 115) (v := ?_) (a' := ?_) #[true, true, true, false, false, false, false, false, false, false, false, false, false, false, false, false, false, false] rfl rfl (by kernel_rfl) (fun _ _ _ h => h) (Or.inl ⟨by rfl, ?_⟩) ?_ ?_; rotate_left; (intro w'; go_simp; (with_reducible rfl)); rotate_left; (simp only [Act.put, List.setIfInBounds_toArray, List.set_cons_zero, List.set_cons_succ, i64_w, i32_w]; rfl); refine pure_ (i := 3) (N := some 116) (v := ?_) (a' := ?_) #[true, true, true, true, false, false, false, false, false, false, false, false, false, false, false, false, false, false] rfl rfl (by kernel_rfl) (fun _ _ _ h => h) (Or.inl ⟨by rfl, ?_⟩) ?_ ?_; rotate_left; (intro w'; go_simp; (with_reducible rfl)); rotate_left; (simp only [Act.put, List.setIfInBounds_toArray, List.set_cons_zero, List.set_cons_succ, i64_w, i32_w]; rfl); refine pure_ (i := 4) (N := some 117) (v := ?_) (a' := ?_) #[true, true, true, true, true, false, false, false, false, false, false, false, false, false, false, false, false, false] rfl rfl (by kernel_rfl) (fun _ _ _ h => h) (Or.inl ⟨by rfl, ?_⟩) ?_ ?_; rotate_left; (intro w'; go_simp; (with_reducible rfl)); rotate_left; (simp only [Act.put, List.setIfInBounds_toArray, List.set_cons_zero, List.set_cons_succ, i64_w, i32_w]; rfl); refine pure_ (i := 5) (N := some 118) (v := ?_) (a' := ?_) #[true, true, true, true, true, true, false, false, false, false, false, false, false, false, false, false, false, false] rfl rfl (by kernel_rfl) (fun _ _ _ h => h) (Or.inl ⟨by rfl, ?_⟩) ?_ ?_; rotate_left; (intro w'; go_simp; (with_reducible rfl)); rotate_left; (simp only [Act.put, List.setIfInBounds_toArray, List.set_cons_zero, List.set_cons_succ, i64_w, i32_w]; rfl); refine pure_ (i := 6) (N := some 119) (v := ?_) (a' := ?_) #[true, true, true, true, true, true, true, false, false, false, false, false, false, false, false, false, false, false] rfl rfl (by kernel_rfl) (fun _ _ _ h => h) (Or.inl ⟨by rfl, ?_⟩) ?_ ?_; rotate_left; (intro w'; go_simp; (with_reducible rfl)); rotate_left; (simp only [Act.put, List.setIfInBounds_toArray, List.set_cons_zero, List.set_cons_succ, i64_w, i32_w]; rfl); refine pure_ (i := 7) (N := some 120) (v := ?_) (a' := ?_) #[true, true, true, true, true, true, true, true, false, false, false, false, false, false, false, false, false, false] rfl rfl (by kernel_rfl) (fun _ _ _ h => h) (Or.inl ⟨by rfl, ?_⟩) ?_ ?_; rotate_left; (intro w'; go_simp; (with_reducible rfl)); rotate_left; (simp only [Act.put, List.setIfInBounds_toArray, List.set_cons_zero, List.set_cons_succ, i64_w, i32_w]; rfl); refine pure_ (i := 8) (N := some 121) (v := ?_) (a' := ?_) #[true, true, true, true, true, true, true, true, true, false, false, false, false, false, false, false, false, false] rfl rfl (by kernel_rfl) (fun _ _ _ h => h) (Or.inl ⟨by rfl, ?_⟩) ?_ ?_; rotate_left; (intro w'; go_simp; (with_reducible rfl)); rotate_left; (simp only [Act.put, List.setIfInBounds_toArray, List.set_cons_zero, List.set_cons_succ, i64_w, i32_w]; rfl); refine pure_ (i := 10) (N := some 123) (v := ?_) (a' := ?_) #[true, true, true, true, true, true, true, true, true, false, true, false, false, false, false, false, false, false] rfl rfl (by kernel_rfl) (fun _ _ _ h => h) (Or.inl ⟨by rfl, ?_⟩) ?_ ?_; rotate_left; (intro w'; go_simp; (with_reducible rfl)); rotate_left; (simp only [Act.put, List.setIfInBounds_toArray, List.set_cons_zero, List.set_cons_succ, i64_w, i32_w]; rfl); refine pure_ (i := 11) (N := some 124) (v := ?_) (a' := ?_) #[true, true, true, true, true, true, true, true, true, false, true, true, false, false, false, false, false, false] rfl rfl (by kernel_rfl) (fun _ _ _ h => h) (Or.inl ⟨by rfl, ?_⟩) ?_ ?_; rotate_left; (intro w'; go_simp; (with_reducible rfl)); rotate_left; (simp only [Act.put, List.setIfInBounds_toArray, List.set_cons_zero, List.set_cons_succ, i64_w, i32_w]; rfl); refine pure_ (i := 12) (N := some 125) (v := ?_) (a' := ?_) #[true, true, true, true, true, true, true, true, true, false, true, true, true, false, false, false, false, false] rfl rfl (by kernel_rfl) (fun _ _ _ h => h) (Or.inl ⟨by rfl, ?_⟩) ?_ ?_; rotate_left; (intro w'; go_simp; (with_reducible rfl)); rotate_left; (simp only [Act.put, List.setIfInBounds_toArray, List.set_cons_zero, List.set_cons_succ, i64_w, i32_w]; rfl); refine take_ (i := 9) (N := some 122) (v := ?_) (a' := ?_) #[true, true, true, true, true, true, true, true, true, true, true, true, true, false, false, false, false, false] rfl rfl (by kernel_rfl) (fun _ _ _ h => h) (Or.inl ⟨by rfl, ?_⟩) hHeld ?_ ?_; rotate_left; (rintro w' ⟨s0, s1, s2, s3⟩; go_simp; (with_reducible rfl)); rotate_left; (simp only [Act.put, List.setIfInBounds_toArray, List.set_cons_zero, List.set_cons_succ, i64_w, i32_w]; rfl); refine take_ (i := 13) (N := some 126) (v := ?_) (a' := ?_) #[true, true, true, true, true, true, true, true, true, true, true, true, true, true, false, false, false, false] rfl rfl (by kernel_rfl) (fun _ _ _ h => h) (Or.inl ⟨by rfl, ?_⟩) hHeld ?_ ?_; rotate_left; (rintro w' ⟨s0, s1, s2, s3⟩; go_simp; (with_reducible rfl)); rotate_left; (simp only [Act.put, List.setIfInBounds_toArray, List.set_cons_zero, List.set_cons_succ, i64_w, i32_w]; rfl); refine pure_ (i := 14) (N := some 127) (v := ?_) (a' := ?_) #[true, true, true, true, true, true, true, true, true, true, true, true, true, true, true, false, false, false] rfl rfl (by kernel_rfl) (fun _ _ _ h => h) (Or.inl ⟨by rfl, ?_⟩) ?_ ?_; rotate_left; (intro w'; go_simp; (with_reducible rfl)); rotate_left; (simp only [Act.put, List.setIfInBounds_toArray, List.set_cons_zero, List.set_cons_succ, i64_w, i32_w]; rfl); refine last_ (i := 15) (N := none) #[true, true, true, true, true, true, true, true, true, true, true, true, true, true, true, true, false, false] rfl rfl (by kernel_rfl) (by decide) (fun K hK => ?_); refine skip_ (w1 := put2 wr.drew g (q + 1) x) (by rfl) rfl ?_ ?_
      · unfold put2; first | (go_simp; done) | (go_simp; rfl)
      refine hK.out _ _ ?_; clear hK K; refine pure_ (i := 16) (N := some 128) (v := ?_) (a' := ?_) #[true, true, true, true, true, true, true, true, true, true, true, true, true, true, true, true, true, false] rfl rfl (by kernel_rfl) (fun _ _ _ h => h) (Or.inl ⟨by rfl, ?_⟩) ?_ ?_; rotate_left; (intro w'; go_simp; (with_reducible rfl)); rotate_left; (simp only [Act.put, List.setIfInBounds_toArray, List.set_cons_zero, List.set_cons_succ, i64_w, i32_w]; rfl); refine last_ (i := 17) (N := none) #[true, true, true, true, true, true, true, true, true, true, true, true, true, true, true, true, true, true] rfl rfl (by kernel_rfl) (by decide) (fun K hK => ?_); refine skip_ (w1 := put2 (put2 wr.drew g (q + 1) x) g q y) (by rfl) rfl ?_ ?_
      · unfold put2; first | (go_simp; done) | (go_simp; rfl)
      refine hK.out _ _ ?_; clear hK K; refine done_ (by kernel_rfl) ?_; clear cq0 cq1 cp0 cp1 fp0 fp1 dq0 dq1 fq0 fq1; have H5 := Aside0.mk (H2.out.drew.swap' q (q + 1) HQL.out (by have := HQL.out; simp only [List.length_nil]; omega)); obtain ⟨W5, hW5⟩ : ∃ W5, put2 (put2 wr.drew g (q + 1) x) g q y = W5 := ⟨_, rfl⟩; rw [hW5] at H5 ⊢; clear hW5
      go_wp2_with fail
      go_roundg k1
      case measure => omega
      case rel => exact ⟨wrap64 (q : Int), u1, rfl, ⟨by rw [w2]; have := HQ.out; omega, by have := HK.out; omega, by have := HK.out; omega⟩, ⟨by have := H5.out; rw [drop_get HYY.out]; simpa using this⟩⟩
def SymAt (w0 : World) (A : Option Addr) (n c gn : Nat) (ok : S45 → Prop) (cm : S45 → S45 → Int) (N : Nat) : Prop :=
  ∀ (P X Y Q : List S45) (W : World), X ≠ [] → Y ≠ [] → X.length + Y.length ≤ N → (∀ z ∈ X ++ Y, ok z) → Srt (lt cm) X → Srt (lt cm) Y → Rw w0 A n c W (P ++ X ++ Y ++ Q) →
    ∀ a m b : Int, a = P.length → m = P.length + X.length → b = P.length + X.length + Y.length →
    Calls Try.prog 48 #[.slice A n c, .int .i64 a, .int .i64 m, .int .i64 b, .func (.func 34) #[] #[]] W fun e w' => e = .returned (.tuple #[]) ∧ ∃ M, Srt (lt cm) M ∧ Stb (lt cm) (X ++ Y) M ∧ Rw w0 A n c w' (P ++ M ++ Q)
theorem td {α : Type} (t : Nat) (X R : List α) : X.take t ++ (X.drop t ++ R) = X ++ R := by rw [← List.append_assoc, List.take_append_drop]
theorem cut_four {α : Type} (P X Y Q : List α) (t k : Nat) : P ++ X.take t ++ X.drop t ++ Y.take k ++ (Y.drop k ++ Q) = P ++ X ++ Y ++ Q := by
  simp only [List.append_assoc, td]
theorem cut_none {α : Type} (X Y Q : List α) (t k : Nat) (h : X.drop t = [] ∨ Y.take k = []) : X.take t ++ (Y.take k ++ (X.drop t ++ (Y.drop k ++ Q))) = X ++ (Y ++ Q) := by
  rcases h with e | e
  (have h1 := List.take_append_drop t X; rw [e, List.append_nil] at h1; rw [e, List.nil_append, td, h1]); (have h1 := List.take_append_drop k Y; rw [e, List.nil_append] at h1; rw [e, List.nil_append, td, h1])
/-- Where the runs are cut: the bounds of what is searched. -/
def cut0 (x y : Nat) : Nat := if x > (x + y) / 2 then (x + y) / 2 - y else 0
def cut1 (x y : Nat) : Nat := if x > (x + y) / 2 then (x + y) / 2 else x
structure CutOk (cm : S45 → S45 → Int) (X Y : List S45) (s t : Nat) : Prop where
  lo : cut0 X.length Y.length ≤ s
  st : s ≤ t
  hi : t ≤ cut1 X.length Y.length
  left : s = cut0 X.length Y.length ∨ ∃ s1 x y, s = s1 + 1 ∧ X[s1]? = some x ∧ Y[(X.length + Y.length) / 2 - s]? = some y ∧ lt cm y x = false
  right : t = cut1 X.length Y.length ∨ ∃ x y, X[t]? = some x ∧ t < (X.length + Y.length) / 2 ∧ Y[(X.length + Y.length) / 2 - 1 - t]? = some y ∧ lt cm y x = true
theorem cut_le (x y : Nat) : cut0 x y ≤ cut1 x y ∧ cut1 x y ≤ x ∧ cut1 x y ≤ (x + y) / 2 ∧ (x + y) / 2 ≤ cut0 x y + y := by
  unfold cut0 cut1; split <;> omega
theorem cut_sub (x y : Nat) (h : 0 < y) : (x + y) / 2 - cut0 x y = y ∨ cut0 x y = 0 := by
  unfold cut0; split <;> omega
theorem cut_top (x y : Nat) : cut1 x y = x ∨ cut1 x y = (x + y) / 2 := by
  unfold cut1; split <;> simp
theorem CutOk.merge {cm : S45 → S45 → Int} (w : Swo (lt cm)) {X Y : List S45} {s h : Nat} (c : CutOk cm X Y s s) (hh : h = (X.length + Y.length) / 2) (hX : Srt (lt cm) X) (hY : Srt (lt cm) Y) (hY0 : 0 < Y.length) {M1 M2 : List S45}
    (h1 : Srt (lt cm) M1) (s1 : Stb (lt cm) (X.take s ++ Y.take (h - s)) M1) (h2 : Srt (lt cm) M2) (s2 : Stb (lt cm) (X.drop s ++ Y.drop (h - s)) M2) : Srt (lt cm) (M1 ++ M2) ∧ Stb (lt cm) (X ++ Y) (M1 ++ M2) := by
  have hX' : Srt (lt cm) (X.take s ++ X.drop s) := by rw [List.take_append_drop]; exact hX
  have hY' : Srt (lt cm) (Y.take (h - s) ++ Y.drop (h - s)) := by rw [List.take_append_drop]; exact hY
  have pX := List.pairwise_append.1 hX'; have pY := List.pairwise_append.1 hY'; have hle := cut_le X.length Y.length; have r := merged w hX' hY' (all_lt w pX.2.1 pY.1 ?_) (all_ge w pX.1 pY.2.1 ?_) h1 s1 h2 s2; (rw [List.take_append_drop, List.take_append_drop] at r; exact r)
  · rcases c.right with e | ⟨x, y, e1, e2, e3, e4⟩
    · rcases cut_top X.length Y.length with e5 | e5
      · exact .inl (List.drop_eq_nil_of_le (by omega))
      · exact .inr (.inl (by rw [show h - s = 0 by omega]; rfl))
    · refine .inr (.inr ⟨x, X.drop (s + 1), Y.take (h - 1 - s), y, drop_get e1, ?_, e4⟩)
      rw [← hh] at e3 e2
      rw [show h - s = h - 1 - s + 1 by omega]
      exact take_get e3
  · rcases c.left with e | ⟨k1, x, y, e1, e2, e3, e4⟩
    · rcases cut_sub X.length Y.length hY0 with e5 | e5
      · exact .inr (.inl (List.drop_eq_nil_of_le (by omega)))
      · exact .inl (by rw [show s = 0 by omega]; rfl)
    · subst e1
      rw [← hh] at e3
      exact .inr (.inr ⟨X.take k1, x, y, Y.drop (h - (k1 + 1) + 1), take_get e2, drop_get e3, e4⟩)
set_option maxHeartbeats 8000000 in
set_option maxRecDepth 100000 in
theorem symR (w0 : World) (A : Option Addr) (n c : Nat) (hn : n ≤ 140737488351232) (gn : Nat) (ok : S45 → Prop) (cm : S45 → S45 → Int) (hc : Cm w0 gn ok cm) (N : Nat) (ih : SymAt w0 A n c gn ok cm N)
    (P X Y Q : List S45) (W : World) (hX2 : 2 ≤ X.length) (hY2 : 2 ≤ Y.length) (hN : X.length + Y.length ≤ N + 1) (hok : ∀ z ∈ X ++ Y, ok z) (hX : Srt (lt cm) X) (hY : Srt (lt cm) Y) (h : Rw w0 A n c W (P ++ X ++ Y ++ Q))
    (a m b : Int) (ha : a = P.length) (hm : m = P.length + X.length) (hb : b = P.length + X.length + Y.length) :
    Calls Try.prog 48 #[.slice A n c, .int .i64 a, .int .i64 m, .int .i64 b, .func (.func 34) #[] #[]] W fun e w' => e = .returned (.tuple #[]) ∧ ∃ M, Srt (lt cm) M ∧ Stb (lt cm) (X ++ Y) M ∧ Rw w0 A n c w' (P ++ M ++ Q) := by
  obtain ⟨h', hh'⟩ : ∃ h', (X.length + Y.length) / 2 = h' := ⟨_, rfl⟩; have HLN := Aside0.mk (show P.length + X.length + Y.length ≤ n by have := h.ln; simp at this; omega); have HN := Aside0.mk hn; have HC := Aside0.mk hc; have IH := Aside0.mk ih; have HOK := Aside0.mk hok; have HX := Aside0.mk hX; have HY := Aside0.mk hY; have H := Aside0.mk h; have H2 := Aside0.mk (And.intro hX2 (And.intro hY2 hN)); have HA := Aside0.mk (And.intro ha (And.intro hm hb)); have HHH := Aside0.mk hh'; obtain ⟨d1, hd1⟩ : ∃ d, m - a = d := ⟨_, rfl⟩; obtain ⟨d2, hd2⟩ : ∃ d, b - m = d := ⟨_, rfl⟩
  have e1 : IntKind.i64.wrap (m - a) = d1 := by rw [IntWalk.i64_in _ (by have := HLN.out; omega)]; exact hd1
  have e1b : (d1 == 1) = false := by simp; omega
  have e2 : IntKind.i64.wrap (b - m) = d2 := by rw [IntWalk.i64_in _ (by have := HLN.out; omega)]; exact hd2
  have e2b : (d2 == 1) = false := by simp; omega
  obtain ⟨mid, hmid⟩ : ∃ mid : Int, mid = P.length + h' := ⟨_, rfl⟩; have HMID := Aside0.mk hmid
  have wmid : wrap64 (IntKind.u64.wrap (wrap64 (a + b)) / 2) = mid := by rw [half_i a b (by omega) (by have := HLN.out; omega)]; omega
  obtain ⟨nn, hnn⟩ : ∃ nn : Int, nn = mid + m := ⟨_, rfl⟩; have HNN := Aside0.mk hnn
  have wnn : wrap64 (mid + m) = nn := by unfold wrap64; have := HLN.out; omega
  obtain ⟨pp, hpp⟩ : ∃ pp : Int, pp = nn - 1 := ⟨_, rfl⟩; have HPP := Aside0.mk hpp
  have wpp : wrap64 (nn - 1) = pp := by unfold wrap64; have := HLN.out; omega
  obtain ⟨st, hst⟩ : ∃ st : Int, st = P.length + cut0 X.length Y.length := ⟨_, rfl⟩; obtain ⟨rt, hrt⟩ : ∃ rt : Int, rt = P.length + cut1 X.length Y.length := ⟨_, rfl⟩; have HST := Aside0.mk (And.intro hst hrt); obtain ⟨g, rfl, hg⟩ := h.form (by have := HLN.out; omega)
  have wst : m > mid → wrap64 (nn - b) = st ∧ mid = rt := by
    intro hgt; rw [hst, hrt]; unfold cut0 cut1; rw [if_pos (by omega), if_pos (by omega)]; unfold wrap64; have := HLN.out; omega
  have wst' : ¬ m > mid → a = st ∧ m = rt := by
    intro hgt; rw [hst, hrt]; unfold cut0 cut1; rw [if_neg (by omega), if_neg (by omega)]; omega
  have WST := Aside0.mk (And.intro wst wst'); clear h hn hc hok ha hm hb hX hY hg hX2 hY2 hN hd1 hd2 hmid hnn hpp hst hrt hh' ih wst wst'
  go_enter Try.func48, Try.ntmps48
  go_upto_if 140 with fail
  go_cut [18, 19, 20, 21] from 131 to 146 (fun v18 v19 v20 v21 w' => v18 = .int .i64 mid ∧ v19 = .int .i64 nn ∧ v20 = .int .i64 st ∧ v21 = .int .i64 rt ∧ w' = W)
  case first =>
    by_cases hgt : m > mid
    · obtain ⟨q1, q2⟩ := WST.out.1 hgt
      have hgb : decide (m > mid) = true := decide_eq_true hgt
      have hgb2 : decide (mid < m) = true := hgb
      have HQ := Aside0.mk (And.intro q1 q2)
      clear q1 q2 hgt
      simp only [hgb, hgb2]
      go_wp2_with fail
      go_meet
      case rel => exact ⟨rfl, rfl, by rw [HQ.out.1], by rw [HQ.out.2], rfl⟩
    · obtain ⟨q1, q2⟩ := WST.out.2 hgt
      have hgb : decide (m > mid) = false := decide_eq_false hgt
      have hgb2 : decide (mid < m) = false := hgb
      have HQ := Aside0.mk (And.intro q1 q2)
      clear q1 q2 hgt
      simp only [hgb, hgb2]
      go_wp2_with fail
      go_meet
      case rel => exact ⟨rfl, rfl, by rw [HQ.out.1], by rw [HQ.out.2], rfl⟩
  case rest =>
  obtain ⟨rfl, rfl, rfl, rfl, rfl⟩ := hcut
  go_wp2_with fail
  go_loopg [20, 21] X.length (fun kq v20 v21 W' => ∃ (i j : Int) (s t : Nat), v20 = .int .i64 i ∧ v21 = .int .i64 j ∧ Aside0 (i = P.length + s ∧ j = P.length + t ∧ t ≤ s + kq) ∧ Aside0 (CutOk cm X Y s t) ∧ Aside0 (Rw w0 (some ⟨g, 0, none⟩) n c W' (P ++ X ++ Y ++ Q)))
  case atStart => exact ⟨st, rt, cut0 X.length Y.length, cut1 X.length Y.length, rfl, rfl, ⟨HST.out.1, HST.out.2, by have := cut_le X.length Y.length; omega⟩, ⟨Nat.le_refl _, (cut_le _ _).1, Nat.le_refl _, .inl rfl, .inl rfl⟩, H⟩
  case round =>
  clear H HST WST; obtain ⟨i, j, s, t, rfl, rfl, HI, HS, H⟩ := hrel; have HLE := Aside0.mk (show cut1 X.length Y.length ≤ X.length ∧ cut1 X.length Y.length ≤ h' ∧ h' ≤ cut0 X.length Y.length + Y.length by have := cut_le X.length Y.length; have := HHH.out; omega)
  by_cases hij : i < j
  · have hijb : decide (i < j) = true := decide_eq_true hij
    cases gk with
    | zero => exact absurd hij (by have := HI.out; omega)
    | succ k1 =>
    obtain ⟨k, hk⟩ : ∃ k : Nat, k = (i + j).toNat / 2 - P.length := ⟨_, rfl⟩
    have HK := Aside0.mk (show s ≤ k ∧ k < t ∧ (i + j) / 2 = P.length + k by have := HI.out; omega)
    obtain ⟨p, hp⟩ : ∃ p : Nat, p = P.length + k := ⟨_, rfl⟩
    obtain ⟨q, hq⟩ : ∃ q : Nat, q = P.length + X.length + (h' - 1 - k) := ⟨_, rfl⟩
    have HB := Aside0.mk (show k < X.length ∧ k < h' ∧ h' - 1 - k < Y.length by have := HK.out; have h1 := HS.out.lo; have h2 := HS.out.hi; have := HLE.out; omega)
    have w1 : wrap64 (IntKind.u64.wrap (wrap64 (i + j)) / 2) = (p : Int) := by rw [half_i i j (by have := HI.out; omega) (by have := HI.out; have h2 := HS.out.hi; have := HLE.out; have := HLN.out; have := HN.out; omega)]; have := HK.out; omega
    have w2 : IntKind.i64.wrap ((p : Int) + 1) = (p : Int) + 1 := IntWalk.i64_in _ (by have := HB.out; have := HLN.out; have := HN.out; omega)
    have w3 : IntKind.i64.wrap (pp - (p : Int)) = (q : Int) := by rw [IntWalk.i64_in _ (by have := HB.out; have := HLN.out; have := HN.out; have := HPP.out; have := HNN.out; have := HMID.out; have := HA.out; omega)]; have := HB.out; have := HPP.out; have := HNN.out; have := HMID.out; have := HA.out; omega
    obtain ⟨x, hx⟩ : ∃ x, X[k]? = some x := ⟨_, List.getElem?_eq_getElem (by have := HB.out; omega)⟩
    obtain ⟨y, hy⟩ : ∃ y, Y[h' - 1 - k]? = some y := ⟨_, List.getElem?_eq_getElem (by have := HB.out; omega)⟩
    have HP := Aside0.mk (And.intro hp hq)
    have hpn : p < n := by have := HB.out; have := HLN.out; omega
    have hqn : q < n := by have := HB.out; have := HLN.out; omega
    have HPN := Aside0.mk (And.intro hpn hqn)
    have hpn1 := eq_true hpn
    have hqn1 := eq_true hqn
    obtain ⟨cp0, cp1, _, _⟩ := H.out.cell p hpn x (get_fst p k x hp hx)
    obtain ⟨cq0, cq1, _, _⟩ := H.out.cell q hqn y (get_snd q (h' - 1 - k) y hq hy)
    have HOX := Aside0.mk (HOK.out x (List.mem_append.2 (.inl (List.mem_of_getElem? hx))))
    have HOY := Aside0.mk (HOK.out y (List.mem_append.2 (.inr (List.mem_of_getElem? hy))))
    have HXY := Aside0.mk (And.intro hx hy)
    obtain ⟨r, hr⟩ : ∃ r, cm y x = r := ⟨_, rfl⟩
    have HR := Aside0.mk hr
    clear hij hk hp hq hx hy hpn hqn hr
    go_upto_region 35 with fail
    rw [w1]
    refine start_ (n := 14) (S := (fun w' => w'.cell? ⟨g, p * 2, none⟩ = some (.string x.f0) ∧ w'.cell? ⟨g, p * 2 + 1, none⟩ = some (.string x.f1) ∧ w'.cell? ⟨g, q * 2, none⟩ = some (.string y.f0) ∧ w'.cell? ⟨g, q * 2 + 1, none⟩ = some (.string y.f1))) (ds := []) #[false, false, false, false, false, false, false, false, false, false, false, false, false, false] (by kernel_rfl) rfl rfl ?_ ?_
    · exact ⟨cp0, cp1, cq0, cq1⟩
    intro hHeld
    clear cp0 cp1 cq0 cq1; have H2 := Aside0.mk H.out.drew; generalize wr.drew = w3 at H2 hHeld ⊢; have hH := hHeld; obtain ⟨cp0, cp1, cq0, cq1⟩ := hH
    refine pure_ (i := 0) (N := some 158) (v := ?_) (a' := ?_) #[true, false, false, false, false, false, false, false, false, false, false, false, false, false] rfl rfl (by kernel_rfl) (fun _ _ _ h => h) (Or.inl ⟨by rfl, ?_⟩) ?_ ?_
    rotate_left
    · intro w'
      go_simp
      with_reducible rfl
    rotate_left
    · simp only [Act.put, List.setIfInBounds_toArray, List.set_cons_zero, List.set_cons_succ, i64_w, i32_w]
      rfl
    refine pure_ (i := 1) (N := some 159) (v := ?_) (a' := ?_) #[true, true, false, false, false, false, false, false, false, false, false, false, false, false] rfl rfl (by kernel_rfl) (fun _ _ _ h => h) (Or.inl ⟨by rfl, ?_⟩) ?_ ?_
    rotate_left
    · intro w'
      go_simp
      with_reducible rfl
    rotate_left
    · simp only [Act.put, List.setIfInBounds_toArray, List.set_cons_zero, List.set_cons_succ, i64_w, i32_w]
      rfl
    refine pure_ (i := 2) (N := some 160) (v := ?_) (a' := ?_) #[true, true, true, false, false, false, false, false, false, false, false, false, false, false] rfl rfl (by kernel_rfl) (fun _ _ _ h => h) (Or.inl ⟨by rfl, ?_⟩) ?_ ?_
    rotate_left
    · intro w'
      go_simp
      with_reducible rfl
    rotate_left
    · simp only [Act.put, List.setIfInBounds_toArray, List.set_cons_zero, List.set_cons_succ, i64_w, i32_w]
      rfl
    refine pure_ (i := 3) (N := some 161) (v := ?_) (a' := ?_) #[true, true, true, true, false, false, false, false, false, false, false, false, false, false] rfl rfl (by kernel_rfl) (fun _ _ _ h => h) (Or.inl ⟨by rfl, ?_⟩) ?_ ?_
    rotate_left
    · intro w'
      go_simp
      with_reducible rfl
    rotate_left
    · simp only [Act.put, List.setIfInBounds_toArray, List.set_cons_zero, List.set_cons_succ, i64_w, i32_w]
      rfl
    refine pure_ (i := 4) (N := some 162) (v := ?_) (a' := ?_) #[true, true, true, true, true, false, false, false, false, false, false, false, false, false] rfl rfl (by kernel_rfl) (fun _ _ _ h => h) (Or.inl ⟨by rfl, ?_⟩) ?_ ?_
    rotate_left
    · intro w'
      go_simp
      with_reducible rfl
    rotate_left
    · simp only [Act.put, List.setIfInBounds_toArray, List.set_cons_zero, List.set_cons_succ, i64_w, i32_w]
      rfl
    refine pure_ (i := 5) (N := some 163) (v := ?_) (a' := ?_) #[true, true, true, true, true, true, false, false, false, false, false, false, false, false] rfl rfl (by kernel_rfl) (fun _ _ _ h => h) (Or.inl ⟨by rfl, ?_⟩) ?_ ?_
    rotate_left
    · intro w'
      go_simp
      with_reducible rfl
    rotate_left
    · simp only [Act.put, List.setIfInBounds_toArray, List.set_cons_zero, List.set_cons_succ, i64_w, i32_w]
      rfl
    refine pure_ (i := 7) (N := some 165) (v := ?_) (a' := ?_) #[true, true, true, true, true, true, false, true, false, false, false, false, false, false] rfl rfl (by kernel_rfl) (fun _ _ _ h => h) (Or.inl ⟨by rfl, ?_⟩) ?_ ?_
    rotate_left
    · intro w'
      go_simp
      with_reducible rfl
    rotate_left
    · simp only [Act.put, List.setIfInBounds_toArray, List.set_cons_zero, List.set_cons_succ, i64_w, i32_w]
      rfl
    refine pure_ (i := 8) (N := some 166) (v := ?_) (a' := ?_) #[true, true, true, true, true, true, false, true, true, false, false, false, false, false] rfl rfl (by kernel_rfl) (fun _ _ _ h => h) (Or.inl ⟨by rfl, ?_⟩) ?_ ?_
    rotate_left
    · intro w'
      go_simp
      with_reducible rfl
    rotate_left
    · simp only [Act.put, List.setIfInBounds_toArray, List.set_cons_zero, List.set_cons_succ, i64_w, i32_w]
      rfl
    refine pure_ (i := 9) (N := some 167) (v := ?_) (a' := ?_) #[true, true, true, true, true, true, false, true, true, true, false, false, false, false] rfl rfl (by kernel_rfl) (fun _ _ _ h => h) (Or.inl ⟨by rfl, ?_⟩) ?_ ?_
    rotate_left
    · intro w'
      go_simp
      with_reducible rfl
    rotate_left
    · simp only [Act.put, List.setIfInBounds_toArray, List.set_cons_zero, List.set_cons_succ, i64_w, i32_w]
      rfl
    refine take_ (i := 6) (N := some 164) (v := ?_) (a' := ?_) #[true, true, true, true, true, true, true, true, true, true, false, false, false, false] rfl rfl (by kernel_rfl) (fun _ _ _ h => h) (Or.inl ⟨by rfl, ?_⟩) hHeld ?_ ?_
    rotate_left
    · rintro w' ⟨s0, s1, s2, s3⟩
      go_simp
      with_reducible rfl
    rotate_left
    · simp only [Act.put, List.setIfInBounds_toArray, List.set_cons_zero, List.set_cons_succ, i64_w, i32_w]
      rfl
    refine take_ (i := 10) (N := some 168) (v := ?_) (a' := ?_) #[true, true, true, true, true, true, true, true, true, true, true, false, false, false] rfl rfl (by kernel_rfl) (fun _ _ _ h => h) (Or.inl ⟨by rfl, ?_⟩) hHeld ?_ ?_
    rotate_left
    · rintro w' ⟨s0, s1, s2, s3⟩
      go_simp
      with_reducible rfl
    rotate_left
    · simp only [Act.put, List.setIfInBounds_toArray, List.set_cons_zero, List.set_cons_succ, i64_w, i32_w]
      rfl
    refine one_ (i := 11) (N := some 169) #[true, true, true, true, true, true, true, true, true, true, true, true, false, false] rfl rfl (by kernel_rfl) (by decide) (fun K hK => ?_)
    refine goesV_ #[] Try.func34 (by kernel_rfl) rfl #[.agg #[.string y.f0, .string y.f1], .agg #[.string x.f0, .string x.f1]] (by rfl) rfl rfl (by rfl) (by (try simp only [List.map_toArray, List.map_cons, List.map_nil, List.append_toArray, List.cons_append, List.nil_append]); first | done | rfl) ?_
    refine (HC.out.call w3 y x H2.out.b HOY.out HOX.out).mono ?_
    rintro e w4 ⟨rfl, hb⟩
    rw [HR.out]
    refine ⟨_, rfl, ?_⟩
    have H4 := Aside0.mk (H2.out.below hb)
    obtain ⟨cp4, cp5, _, _⟩ := H4.out.cell p HPN.out.1 x (get_fst p k x HP.out.1 HXY.out.1)
    obtain ⟨cq4, cq5, _, _⟩ := H4.out.cell q HPN.out.2 y (get_snd q (h' - 1 - k) y HP.out.2 HXY.out.2)
    clear hb cp0 cp1 cq0 cq1
    refine hK.out _ _ ⟨cp4, cp5, cq4, cq5⟩ (fun hHeld => ?_)
    clear hK K
    refine norm_ (a' := ?_) ?_ ?_
    rotate_left
    · show Act.put _ (some 169) _ = _
      simp only [Act.put, List.setIfInBounds_toArray, List.set_cons_zero, List.set_cons_succ, i64_w, i32_w]
      rfl
    refine pure_ (i := 12) (N := some 170) (v := ?_) (a' := ?_) #[true, true, true, true, true, true, true, true, true, true, true, true, true, false] rfl rfl (by kernel_rfl) (fun _ _ _ h => h) (Or.inl ⟨by rfl, ?_⟩) ?_ ?_
    rotate_left
    · intro w'
      go_simp
      with_reducible rfl
    rotate_left
    · simp only [Act.put, List.setIfInBounds_toArray, List.set_cons_zero, List.set_cons_succ, i64_w, i32_w]
      rfl
    refine pure_ (i := 13) (N := some 171) (v := ?_) (a' := ?_) #[true, true, true, true, true, true, true, true, true, true, true, true, true, true] rfl rfl (by kernel_rfl) (fun _ _ _ h => h) (Or.inl ⟨by rfl, ?_⟩) ?_ ?_
    rotate_left
    · intro w'
      go_simp
      with_reducible rfl
    rotate_left
    · simp only [Act.put, List.setIfInBounds_toArray, List.set_cons_zero, List.set_cons_succ, i64_w, i32_w]
      rfl
    refine done_ (by kernel_rfl) ?_
    clear cp4 cp5 cq4 cq5
    by_cases hr0 : r < 0
    · have hrb : decide (r < 0) = true := decide_eq_true hr0
      have HLT := Aside0.mk (show lt cm y x = true by unfold lt; rw [HR.out]; exact decide_eq_true hr0)
      clear hr0
      simp only [hrb, Bool.not_true]
      go_wp2_with fail
      go_roundg k1
      case measure => omega
      case rel =>
        refine ⟨i, (p : Int), s, k, rfl, rfl, ⟨by have := HI.out; omega, by have := HP.out; omega, by have := HI.out; have := HK.out; omega⟩, ⟨HS.out.lo, HK.out.1, by have h2 := HS.out.hi; have := HK.out; omega, HS.out.left, .inr ⟨x, y, HXY.out.1, ?_, ?_, HLT.out⟩⟩, H4⟩; (have := HHH.out; have := HB.out; omega); (rw [HHH.out]; exact HXY.out.2)
    · have hrb : decide (r < 0) = false := decide_eq_false hr0
      have HLT := Aside0.mk (show lt cm y x = false by unfold lt; rw [HR.out]; exact decide_eq_false hr0)
      clear hr0
      simp only [hrb, Bool.not_false]
      go_wp2_with fail
      go_roundg k1
      case measure => omega
      case rel =>
        refine ⟨(p : Int) + 1, j, k + 1, t, rfl, rfl, ⟨by have := HP.out; omega, by have := HI.out; omega, by have := HI.out; have := HK.out; omega⟩, ⟨by have h2 := HS.out.lo; have := HK.out; omega, by have := HK.out; omega, HS.out.hi, .inr ⟨k, x, y, rfl, HXY.out.1, ?_, HLT.out⟩, HS.out.right⟩, H4⟩; rw [HHH.out, show h' - (k + 1) = h' - 1 - k by omega]; exact HXY.out.2
  · have hijb : decide (i < j) = false := decide_eq_false hij
    have hst : t = s := by have := HI.out; have h2 := HS.out.st; omega
    subst hst
    have HB := Aside0.mk (show t ≤ X.length ∧ t ≤ h' ∧ h' ≤ t + Y.length by have h1 := HS.out.lo; have h2 := HS.out.hi; have := HLE.out; omega)
    have HII := Aside0.mk (show i = P.length + t from HI.out.1)
    obtain ⟨en, hen⟩ : ∃ en : Int, en = nn - i := ⟨_, rfl⟩
    have wen : wrap64 (nn - i) = en := by unfold wrap64; have := HII.out; have := HB.out; have := HNN.out; have := HMID.out; have := HA.out; have := HLN.out; have := HN.out; omega
    have HEN := Aside0.mk (show en = P.length + X.length + (h' - t : Nat) by have := HII.out; have := HB.out; have := HNN.out; have := HMID.out; have := HA.out; omega)
    obtain ⟨B1, hB1⟩ : ∃ B1 : Bool, B1 = (decide (i < m) && decide (m < en)) := ⟨_, rfl⟩
    obtain ⟨B2, hB2⟩ : ∃ B2 : Bool, B2 = (decide (a < i) && decide (i < mid)) := ⟨_, rfl⟩
    obtain ⟨B3, hB3⟩ : ∃ B3 : Bool, B3 = (decide (mid < en) && decide (en < b)) := ⟨_, rfl⟩
    have HB1 := Aside0.mk hB1
    have HB2 := Aside0.mk hB2
    have HB3 := Aside0.mk hB3
    clear hij hen hB1 hB2 hB3 HI HLE
    go_upto_region 39 with fail
    go_cut [24, 185] from 175 to 191 (fun v24 v185 w' => v24 = .int .i64 en ∧ v185 = .bool B1 ∧ w' = wr)
    case first =>
      by_cases h1 : i < m
      · have h1b : decide (i < m) = true := decide_eq_true h1
        have HX1 := Aside0.mk (show B1 = decide (m < en) by rw [HB1.out, h1b, Bool.true_and])
        clear h1
        go_wp2_with fail
        go_meet
        case rel => exact ⟨by first | rfl | rw [wen], by rw [HX1.out], rfl⟩
      · have h1b : decide (i < m) = false := decide_eq_false h1
        have HX1 := Aside0.mk (show B1 = false by rw [HB1.out, h1b, Bool.false_and])
        clear h1
        go_wp2_with fail
        go_meet
        case rel => exact ⟨by first | rfl | rw [wen], by rw [HX1.out], rfl⟩
    case rest =>
    obtain ⟨rfl, rfl, rfl⟩ := hcut
    go_upto_if 185 with fail
    go_cut [] from 175 to 191 (fun w' => Aside0 (Rw w0 (some ⟨g, 0, none⟩) n c w' (P ++ X.take t ++ Y.take (h' - t) ++ X.drop t ++ Y.drop (h' - t) ++ Q)))
    case first =>
      cases B1 with
      | true =>
        have HX1 := Aside0.mk (show i < m ∧ m < en by have := HB1.out; simpa using this.symm)
        go_wp2_with fail
        refine (rotate w0 (some ⟨g, 0, none⟩) n c HN.out _ (P ++ X.take t) (X.drop t) (Y.take (h' - t)) (Y.drop (h' - t) ++ Q) (List.ne_nil_of_length_pos (by rw [List.length_drop]; have := HX1.out; have := HII.out; have := HA.out; omega)) (List.ne_nil_of_length_pos (by rw [List.length_take]; have := HX1.out; have := HEN.out; have := HA.out; have := HB.out; omega)) _ (by rw [cut_four]; exact H.out) i m en (by rw [List.length_append, List.length_take]; have := HII.out; have := HB.out; omega) (by rw [List.length_append, List.length_take, List.length_drop]; have := HA.out; have := HB.out; omega) (by rw [List.length_append, List.length_take, List.length_take, List.length_drop]; have := HEN.out; have := HA.out; have := HB.out; omega)).mono ?_; rintro e w3 ⟨rfl, hR⟩; have H3 := Aside0.mk hR; clear hR
        go_wp2_with fail
        go_meet
        case rel => exact ⟨by have := H3.out; simpa using this⟩
      | false =>
        have HX1 := Aside0.mk (show X.drop t = [] ∨ Y.take (h' - t) = [] by
          have h1 := HB1.out
          by_cases h2 : i < m
          · rw [decide_eq_true h2, Bool.true_and] at h1
            have h3 := of_decide_eq_false h1.symm; exact .inr (by rw [show h' - t = 0 by have := HEN.out; have := HA.out; omega]; rfl)
          · exact .inl (List.drop_eq_nil_of_le (by have := HII.out; have := HA.out; omega)))
        go_wp2_with fail
        go_meet
        case rel =>
          refine ⟨?_⟩; have h3 := H.out; simp only [List.append_assoc] at h3 ⊢; rw [cut_none X Y Q t (h' - t) HX1.out]; exact h3
    case rest =>
    have H3 := hcut
    clear H hcut HB1
    go_upto_region 41 with fail
    go_cut [199] from 192 to 205 (fun v185 w' => v185 = .bool B2 ∧ w' = wc)
    case first =>
      by_cases h1 : a < i
      · have h1b : decide (a < i) = true := decide_eq_true h1
        have HX1 := Aside0.mk (show B2 = decide (i < mid) by rw [HB2.out, h1b, Bool.true_and])
        clear h1
        go_wp2_with fail
        go_meet
        case rel => exact ⟨by rw [HX1.out], rfl⟩
      · have h1b : decide (a < i) = false := decide_eq_false h1
        have HX1 := Aside0.mk (show B2 = false by rw [HB2.out, h1b, Bool.false_and])
        clear h1
        go_wp2_with fail
        go_meet
        case rel => exact ⟨by rw [HX1.out], rfl⟩
    case rest =>
    obtain ⟨rfl, rfl⟩ := hcut
    go_upto_if 199 with fail
    go_cut [] from 192 to 205 (fun w' => ∃ M1, Aside0 (Srt (lt cm) M1 ∧ Stb (lt cm) (X.take t ++ Y.take (h' - t)) M1) ∧ Aside0 (Rw w0 (some ⟨g, 0, none⟩) n c w' (P ++ M1 ++ X.drop t ++ Y.drop (h' - t) ++ Q)))
    case first =>
      have SX := Aside0.mk (show Srt (lt cm) (X.take t) ∧ Srt (lt cm) (Y.take (h' - t)) from ⟨List.Pairwise.sublist (List.take_sublist _ _) HX.out, List.Pairwise.sublist (List.take_sublist _ _) HY.out⟩)
      cases B2 with
      | true =>
        have HX1 := Aside0.mk (show a < i ∧ i < mid by have := HB2.out; simpa using this.symm)
        go_wp2_with (go_at_call 48; refine (IH.out P (X.take t) (Y.take (h' - t)) (X.drop t ++ Y.drop (h' - t) ++ Q) _ (List.ne_nil_of_length_pos (by rw [List.length_take]; have := HX1.out; have := HII.out; have := HA.out; have := HB.out; omega)) (List.ne_nil_of_length_pos (by rw [List.length_take]; have := HX1.out; have := HII.out; have := HMID.out; have := HB.out; omega)) (by rw [List.length_take, List.length_take]; have := HB.out; have := H2.out; have := HHH.out; omega) (fun z hz => HOK.out z (by rcases List.mem_append.1 hz with hz | hz; exact List.mem_append.2 (.inl (List.mem_of_mem_take hz)); exact List.mem_append.2 (.inr (List.mem_of_mem_take hz)))) SX.out.1 SX.out.2 (by have h3 := H3.out; simp only [List.append_assoc] at h3 ⊢; exact h3) a i mid (by have := HA.out; omega) (by rw [List.length_take]; have := HII.out; have := HB.out; omega) (by rw [List.length_take, List.length_take]; have := HMID.out; have := HB.out; omega)).mono ?_; rintro e w3 ⟨rfl, M1, h1, h2, hR⟩; have HM := Aside0.mk (And.intro h1 h2); have H4 := Aside0.mk hR; clear hR h1 h2)
        go_meet
        case rel => exact ⟨M1, HM, ⟨by have h3 := H4.out; simp only [List.append_assoc] at h3 ⊢; exact h3⟩⟩
      | false =>
        have HX1 := Aside0.mk (show Srt (lt cm) (X.take t ++ Y.take (h' - t)) by
          have h1 := HB2.out
          by_cases h2 : a < i
          · rw [decide_eq_true h2, Bool.true_and] at h1
            have h3 := of_decide_eq_false h1.symm; rw [show h' - t = 0 by have := HMID.out; have := HII.out; omega, List.take_zero, List.append_nil]; exact SX.out.1
          · rw [show t = 0 by have := HII.out; have := HA.out; omega, List.take_zero, List.nil_append]
            exact List.Pairwise.sublist (List.take_sublist _ _) HY.out)
        go_wp2_with fail
        go_meet
        case rel => exact ⟨X.take t ++ Y.take (h' - t), ⟨HX1.out, Stb.refl _ _⟩, ⟨by have h3 := H3.out; simp only [List.append_assoc] at h3 ⊢; exact h3⟩⟩
    case rest =>
    clear H3 HB2
    obtain ⟨M1, HM, H3⟩ := hcut
    have HML := Aside0.mk (show M1.length = h' by rw [HM.out.2.len, List.length_append, List.length_take, List.length_take]; have := HB.out; omega)
    go_upto_region 43 with fail
    go_cut [213] from 206 to 219 (fun v185 w' => v185 = .bool B3 ∧ w' = wc)
    case first =>
      by_cases h1 : mid < en
      · have h1b : decide (mid < en) = true := decide_eq_true h1
        have HX1 := Aside0.mk (show B3 = decide (en < b) by rw [HB3.out, h1b, Bool.true_and])
        clear h1
        go_wp2_with fail
        go_meet
        case rel => exact ⟨by rw [HX1.out], rfl⟩
      · have h1b : decide (mid < en) = false := decide_eq_false h1
        have HX1 := Aside0.mk (show B3 = false by rw [HB3.out, h1b, Bool.false_and])
        clear h1
        go_wp2_with fail
        go_meet
        case rel => exact ⟨by rw [HX1.out], rfl⟩
    case rest =>
    obtain ⟨rfl, rfl⟩ := hcut
    have SX := Aside0.mk (show Srt (lt cm) (X.drop t) ∧ Srt (lt cm) (Y.drop (h' - t)) from ⟨List.Pairwise.sublist (List.drop_sublist _ _) HX.out, List.Pairwise.sublist (List.drop_sublist _ _) HY.out⟩)
    cases B3 with
    | true =>
      have HX1 := Aside0.mk (show mid < en ∧ en < b by have := HB3.out; simpa using this.symm)
      go_wp2_with (go_at_call 48; refine (IH.out (P ++ M1) (X.drop t) (Y.drop (h' - t)) Q _ (List.ne_nil_of_length_pos (by rw [List.length_drop]; have := HX1.out; have := HEN.out; have := HMID.out; have := HB.out; omega)) (List.ne_nil_of_length_pos (by rw [List.length_drop]; have := HX1.out; have := HEN.out; have := HA.out; have := HB.out; omega)) (by rw [List.length_drop, List.length_drop]; have := HB.out; have := H2.out; have := HHH.out; omega) (fun z hz => HOK.out z (by rcases List.mem_append.1 hz with hz | hz; exact List.mem_append.2 (.inl (List.mem_of_mem_drop hz)); exact List.mem_append.2 (.inr (List.mem_of_mem_drop hz)))) SX.out.1 SX.out.2 (by have h3 := H3.out; simp only [List.append_assoc] at h3 ⊢; exact h3) mid en b (by rw [List.length_append]; have := HML.out; have := HMID.out; omega) (by rw [List.length_append, List.length_drop]; have := HML.out; have := HEN.out; have := HB.out; omega) (by rw [List.length_append, List.length_drop, List.length_drop]; have := HML.out; have := HA.out; have := HB.out; omega)).mono ?_; rintro e w3 ⟨rfl, M2, h1, h2, hR⟩; have HM2 := Aside0.mk (And.intro h1 h2); have H4 := Aside0.mk hR; clear hR h1 h2)
      refine bodyPost_end (results_none rfl _ _ _) rfl ?_; have hF := HS.out.merge HC.out.swo HHH.out.symm HX.out HY.out (by have := H2.out; omega) HM.out.1 HM.out.2 HM2.out.1 HM2.out.2; exact ⟨rfl, M1 ++ M2, hF.1, hF.2, by have h3 := H4.out; simp only [List.append_assoc] at h3 ⊢; exact h3⟩
    | false =>
      have HX1 := Aside0.mk (show Srt (lt cm) (X.drop t ++ Y.drop (h' - t)) by
        have h1 := HB3.out
        by_cases h2 : mid < en
        · rw [decide_eq_true h2, Bool.true_and] at h1
          have h3 := of_decide_eq_false h1.symm; have e5 : Y.drop (h' - t) = [] := List.drop_eq_nil_of_le (by have := HEN.out; have := HA.out; have := HB.out; omega); rw [e5, List.append_nil]; exact SX.out.1
        · have e5 : X.drop t = [] := List.drop_eq_nil_of_le (by have := HEN.out; have := HMID.out; have := HB.out; omega)
          rw [e5, List.nil_append]
          exact SX.out.2)
      go_wp2_with fail
      refine bodyPost_end (results_none rfl _ _ _) rfl ?_; have hF := HS.out.merge HC.out.swo HHH.out.symm HX.out HY.out (by have := H2.out; omega) HM.out.1 HM.out.2 HX1.out (Stb.refl _ _); exact ⟨rfl, M1 ++ (X.drop t ++ Y.drop (h' - t)), hF.1, hF.2, by have h3 := H3.out; simp only [List.append_assoc] at h3 ⊢; exact h3⟩
theorem symAll (w0 : World) (A : Option Addr) (n c : Nat) (hn : n ≤ 140737488351232) (gn : Nat) (ok : S45 → Prop) (cm : S45 → S45 → Int) (hc : Cm w0 gn ok cm) : ∀ N, SymAt w0 A n c gn ok cm N
  | 0 => by
    intro P X Y Q W hX hY hN
    have := List.length_pos_iff.2 hX
    omega
  | N + 1 => by
    intro P X Y Q W hX hY hN hok sX sY h a m b ha hm hb
    have pX := List.length_pos_iff.2 hX
    have pY := List.length_pos_iff.2 hY
    by_cases h1 : X.length = 1
    · obtain ⟨x, rfl⟩ := List.length_eq_one_iff.1 h1
      exact sym1 w0 A n c hn gn ok cm hc P x Y Q ⟨hok x (by simp), fun y hy => hok y (by simp [hy])⟩ sY W h a m b ha (by simpa using hm) (by simpa using hb)
    · by_cases h2 : Y.length = 1
      · obtain ⟨y, rfl⟩ := List.length_eq_one_iff.1 h2
        exact sym2 w0 A n c hn gn ok cm hc P y X Q ⟨hok y (by simp), fun x hx => hok x (by simp [hx])⟩ sX (by omega) W h a m b ha hm (by simpa using hb)
      · exact symR w0 A n c hn gn ok cm hc N (symAll w0 A n c hn gn ok cm hc N) P X Y Q W (by omega) (by omega) hN hok sX sY h a m b ha hm hb
/-- What has been sorted block by block. -/
structure Blk (cm : S45 → S45 → Int) (X L : List S45) (bs : Nat) (cs : List (List S45)) (last : List S45) : Prop where
  e : L = cs.flatten ++ last
  full : Full (lt cm) bs cs
  ll : last.length < bs
  sl : Srt (lt cm) last
  st : Stb (lt cm) X L
theorem Blk.done {cm : S45 → S45 → Int} {X L : List S45} {bs : Nat} {cs : List (List S45)} {last : List S45} (h : Blk cm X L bs cs last) (hn : L.length ≤ bs) : Srt (lt cm) L := by
  have hl := congrArg List.length h.e; rw [List.length_append] at hl; rw [h.e]
  rcases cs with _ | ⟨c, _ | ⟨c2, cs⟩⟩
  (simpa using h.sl); (have h1 := h.full c (by simp); simp at hl; obtain rfl : last = [] := List.length_eq_zero_iff.1 (by omega); simpa using h1.2); (have h1 := h.full c (by simp); have h2 := h.full c2 (by simp); have h3 := h.ll; simp at hl; omega)
set_option maxHeartbeats 8000000 in
set_option maxRecDepth 100000 in
theorem stable (w0 : World) (A : Option Addr) (n c : Nat) (hn : n ≤ 140737488351232) (gn : Nat) (ok : S45 → Prop) (cm : S45 → S45 → Int) (hc : Cm w0 gn ok cm) (X : List S45) (hok : ∀ x ∈ X, ok x) (W : World) (h : Rw w0 A n c W X) :
    Calls Try.prog 42 #[.slice A n c, .int .i64 (n : Int), .func (.func 34) #[] #[]] W fun e w' => e = .returned (.tuple #[]) ∧ ∃ M, Srt (lt cm) M ∧ Stb (lt cm) X M ∧ Rw w0 A n c w' M := by
  have HN := Aside0.mk hn; have HC := Aside0.mk hc; have HOK := Aside0.mk hok; have H := Aside0.mk h; have HLX := Aside0.mk h.ln; obtain ⟨ni, hni⟩ : ∃ ni : Int, (n : Int) = ni := ⟨_, rfl⟩; rw [hni]; have HNI := Aside0.mk hni.symm; clear h hn hc hok hni
  go_enter Try.func42, Try.ntmps42
  go_wp2_with fail
  go_loopg [7, 8] n (fun kq v7 v8 W' => ∃ (a b : Int) (cs : List (List S45)) (X1 R : List S45), v7 = .int .i64 a ∧ v8 = .int .i64 b ∧ Aside0 (a = cs.flatten.length ∧ b = a + 20 ∧ R.length ≤ kq ∧ X = X1 ++ R) ∧ Aside0 (Full (lt cm) 20 cs ∧ Stb (lt cm) X1 cs.flatten) ∧ Aside0 (Rw w0 A n c W' (cs.flatten ++ R)))
  case atStart => exact ⟨0, 20, [], [], X, rfl, rfl, ⟨rfl, rfl, by have := HLX.out; omega, rfl⟩, ⟨(fun c hc => by cases hc), Stb.refl _ _⟩, H⟩
  case round =>
  clear H; obtain ⟨a, b, cs, X1, R, rfl, rfl, HI, HF, H⟩ := hrel; have HLN := Aside0.mk (show (n : Int) = a + R.length by have := H.out.ln; rw [List.length_append] at this; have := HI.out.1; omega)
  by_cases hbn : b ≤ ni
  · have hbnb : decide (b ≤ ni) = true := decide_eq_true hbn
    cases gk with
    | zero => exact absurd hbn (by have := HI.out.2.1; have := HI.out.2.2.1; have := HLN.out; have := HNI.out; omega)
    | succ k1 =>
    obtain ⟨C, R', hR, hCl⟩ := split_at R 20 (by have := HI.out.2.1; have := HLN.out; have := HNI.out; omega)
    have HR := Aside0.mk (And.intro hR hCl)
    have w1 : IntKind.i64.wrap (b + 20) = b + 20 := IntWalk.i64_in _ (by have := HI.out.1; have := HI.out.2.1; have := HLN.out; have := HN.out; have := HNI.out; omega)
    have HA0 := Aside0.mk (show 0 ≤ a by have := HI.out.1; omega)
    clear hbn hR hCl
    go_wp2_with (go_at_call 47; refine (insertion w0 A n c HN.out gn ok cm HC.out cs.flatten C R' (fun x hx => HOK.out x (by rw [HI.out.2.2.2, HR.out.1]; simp [hx])) _ (by have := H.out; rw [HR.out.1] at this; simpa using this) a b HI.out.1 (by have := HI.out.1; have := HI.out.2.1; have := HR.out.2; omega)).mono ?_; rintro e w3 ⟨rfl, M, h1, h2, hR⟩; have HM := Aside0.mk (And.intro h1 h2); have H3 := Aside0.mk hR; clear h1 h2 hR)
    go_roundg k1
    case measure => omega
    case rel =>
      refine ⟨b, b + 20, cs ++ [M], X1 ++ C, R', rfl, rfl, ⟨?_, rfl, ?_, ?_⟩, ⟨full_snoc HF.out.1 (by rw [HM.out.2.len, HR.out.2]) HM.out.1, ?_⟩, ⟨by have := H3.out; simpa using this⟩⟩; (have h1 := HM.out.2.len; have := HR.out.2; have := HI.out.1; have := HI.out.2.1; simp only [List.flatten_append, List.flatten_cons, List.flatten_nil, List.append_nil, List.length_append]; omega); (have h1 := congrArg List.length HR.out.1; rw [List.length_append] at h1; have := HR.out.2; have := HI.out.2.2.1; omega); (rw [HI.out.2.2.2, HR.out.1]; simp); (rw [List.flatten_append]; refine HF.out.2.app ?_; simpa using HM.out.2)
  have hbnb : decide (b ≤ ni) = false := decide_eq_false hbn; have HRL := Aside0.mk (show R.length < 20 by have := HI.out.2.1; have := HLN.out; have := HNI.out; omega); clear hbn
  go_wp2_with (go_at_call 47; refine (insertion w0 A n c HN.out gn ok cm HC.out cs.flatten R [] (fun x hx => HOK.out x (by rw [HI.out.2.2.2]; simp [hx])) _ (by have := H.out; simpa using this) a ni HI.out.1 (by have := HI.out.1; have := HLN.out; have := HNI.out; omega)).mono ?_; rintro e w3 ⟨rfl, M, h1, h2, hR⟩; have HM := Aside0.mk (And.intro h1 h2); have H3 := Aside0.mk hR; clear h1 h2 hR)
  have HBK := Aside0.mk (show Blk cm X (cs.flatten ++ M) 20 cs M from ⟨rfl, HF.out.1, by rw [HM.out.2.len]; exact HRL.out, HM.out.1, by rw [HI.out.2.2.2]; exact HF.out.2.app HM.out.2⟩); replace H3 := Aside0.mk (show Rw w0 A n c w3 (cs.flatten ++ M) by have := H3.out; simpa using this); clear H HM HRL HF HLN
  go_loopg [6, 7, 8, 9] n (fun kq v6 v7 v8 v9 W' => ∃ (bi : Int) (bs : Nat) (L : List S45) (cs : List (List S45)) (last : List S45), v6 = .int .i64 bi ∧ Aside0 (bi = bs ∧ n ≤ bs + kq ∧ 20 ≤ bs) ∧ Aside0 (Blk cm X L bs cs last) ∧ Aside0 (Rw w0 A n c W' L))
  case atStart => exact ⟨20, 20, _, cs, M, rfl, ⟨rfl, by omega, by omega⟩, HBK, H3⟩
  case round =>
  clear HBK H3 HI; obtain ⟨bi, bs, L, cs, last, rfl, HI, HBK, H⟩ := hrel
  by_cases hbn : bi < ni
  case neg =>
    have hbnb : decide (bi < ni) = false := decide_eq_false hbn; have HD := Aside0.mk (HBK.out.done (by rw [H.out.ln]; have := HI.out.1; have := HNI.out; omega)); clear hbn
    go_wp2_with fail
    refine bodyPost_end (results_none rfl _ _ _) rfl ?_; exact ⟨rfl, L, HD.out, HBK.out.st, H.out⟩
  have hbnb : decide (bi < ni) = true := decide_eq_true hbn; have HBN := Aside0.mk (show bs < n by have := HI.out.1; have := HNI.out; omega); have w2 : IntKind.i64.wrap (2 * bi) = 2 * bi := IntWalk.i64_in _ (by have := HI.out.1; have := HBN.out; have := HN.out; omega); have w2' : IntKind.i64.wrap (bi * 2) = bi * 2 := IntWalk.i64_in _ (by have := HI.out.1; have := HBN.out; have := HN.out; omega)
  cases gk with
  | zero => exact absurd HI.out.2.1 (by have := HBN.out; omega)
  | succ k1 =>
  clear hbn
  go_wp2_with fail
  go_loopg [7, 8] cs.length (fun kq v7 v8 W' => ∃ (a b : Int) (ds rs : List (List S45)), v7 = .int .i64 a ∧ v8 = .int .i64 b ∧ Aside0 (a = ds.flatten.length ∧ b = a + 2 * bi ∧ rs.length ≤ kq) ∧ Aside0 (Full (lt cm) (2 * bs) ds ∧ Full (lt cm) bs rs ∧ Stb (lt cm) X (ds.flatten ++ (rs.flatten ++ last))) ∧ Aside0 (Rw w0 A n c W' (ds.flatten ++ (rs.flatten ++ last))))
  case atStart => exact ⟨0, 2 * bi, [], cs, rfl, rfl, ⟨rfl, by omega, Nat.le_refl _⟩, ⟨(fun c hc => by cases hc), HBK.out.full, by have := HBK.out.st; rw [HBK.out.e] at this; exact this⟩, ⟨by have := H.out; rw [HBK.out.e] at this; exact this⟩⟩
  case round =>
  clear H; obtain ⟨a, b, ds, rs, rfl, rfl, HJ, HF, H⟩ := hrel; have HLN := Aside0.mk (show (n : Int) = a + rs.flatten.length + last.length by have := H.out.ln; rw [List.length_append, List.length_append] at this; have := HJ.out.1; omega); have HLL := Aside0.mk HBK.out.ll; have HLS := Aside0.mk HBK.out.sl; have HA0 := Aside0.mk (show 0 ≤ a by have := HJ.out.1; omega); have HOKL := Aside0.mk (show ∀ z ∈ ds.flatten ++ (rs.flatten ++ last), ok z from fun z hz => HOK.out z ((HF.out.2.2.mem HC.out.swo z).1 hz)); have w3 : IntKind.i64.wrap (a + bi) = a + bi := IntWalk.i64_in _ (by have := HLN.out; have := HI.out.1; have := HBN.out; have := HN.out; have := HA0.out; omega)
  rcases rs with _ | ⟨c1, _ | ⟨c2, rs⟩⟩
  · have hbb : decide (b ≤ ni) = false := decide_eq_false (by have := HLN.out; simp at this; have := HLL.out; have := HJ.out.2.1; have := HI.out.1; have := HNI.out; omega)
    have hmb : decide (a + bi < ni) = false := decide_eq_false (by have := HLN.out; simp at this; have := HLL.out; have := HI.out.1; have := HNI.out; omega)
    go_wp2_with fail
    go_roundg k1
    case measure => omega
    case rel =>
      exact ⟨bi * 2, 2 * bs, _, ds, last, rfl, ⟨by have := HI.out.1; omega, by have := HI.out; omega, by have := HI.out; omega⟩, ⟨by simp, HF.out.1, by have := HLL.out; omega, HLS.out, HF.out.2.2⟩, H⟩
  · have hc1 := HF.out.2.1 c1 (by simp)
    have HC1 := Aside0.mk hc1
    have HLN2 := Aside0.mk (show (n : Int) = a + bs + last.length by have := HLN.out; simp at this; omega)
    have hbb : decide (b ≤ ni) = false := decide_eq_false (by have := HLN2.out; have := HLL.out; have := HJ.out.2.1; have := HI.out.1; have := HNI.out; omega)
    by_cases hl : last = []
    · have HL := Aside0.mk hl
      have hmb : decide (a + bi < ni) = false := decide_eq_false (by have := HLN2.out; rw [hl] at this; simp at this; have := HI.out.1; have := HNI.out; omega)
      clear hl hc1
      go_wp2_with fail
      go_roundg k1
      case measure => omega
      case rel =>
        refine ⟨bi * 2, 2 * bs, _, ds, c1, rfl, ⟨by have := HI.out.1; omega, by have := HI.out; omega, by have := HI.out; omega⟩, ⟨rfl, HF.out.1, by have := HC1.out.1; have := HI.out; omega, HC1.out.2, ?_⟩, ?_⟩; (have := HF.out.2.2; rw [HL.out] at this; simpa using this); (exact ⟨by have := H.out; rw [HL.out] at this; simpa using this⟩)
    · have HL := Aside0.mk hl
      have hmb : decide (a + bi < ni) = true := decide_eq_true (by have := List.length_pos_iff.2 hl; have := HLN2.out; have := HI.out.1; have := HNI.out; omega)
      clear hl hc1
      go_wp2_with (go_at_call 48; refine (symAll w0 A n c HN.out gn ok cm HC.out _ ds.flatten c1 last [] _ (List.ne_nil_of_length_pos (by have := HC1.out.1; have := HI.out.2.2; omega)) HL.out (Nat.le_refl _) (fun z hz => HOKL.out z (by simp at hz ⊢; exact .inr hz)) HC1.out.2 HLS.out (by have := H.out; simpa using this) a (a + bi) ni HJ.out.1 (by have := HJ.out.1; have := HC1.out.1; have := HI.out.1; omega) (by have := HJ.out.1; have := HC1.out.1; have := HLN2.out; have := HNI.out; omega)).mono ?_; rintro e w5 ⟨rfl, M, h1, h2, hR⟩; have HM := Aside0.mk (And.intro h1 h2); have H5 := Aside0.mk hR; clear h1 h2 hR)
      go_roundg k1
      case measure => omega
      case rel =>
        refine ⟨bi * 2, 2 * bs, _, ds, M, rfl, ⟨by have := HI.out.1; omega, by have := HI.out; omega, by have := HI.out; omega⟩, ⟨rfl, HF.out.1, by rw [HM.out.2.len, List.length_append]; have := HC1.out.1; have := HLL.out; omega, HM.out.1, ?_⟩, ⟨by have := H5.out; simpa using this⟩⟩; have h3 := HF.out.2.2; rw [List.flatten_cons, List.flatten_nil, List.append_nil] at h3; exact h3.trans ((Stb.refl _ _).app HM.out.2)
  · have hc1 := HF.out.2.1 c1 (by simp)
    have hc2 := HF.out.2.1 c2 (by simp)
    have HC1 := Aside0.mk (And.intro hc1 hc2)
    have HLN2 := Aside0.mk (show (n : Int) = a + bs + bs + rs.flatten.length + last.length by have := HLN.out; simp only [List.flatten_cons, List.length_append] at this; omega)
    have hbb : decide (b ≤ ni) = true := decide_eq_true (by have := HLN2.out; have := HJ.out.2.1; have := HI.out.1; have := HNI.out; omega)
    have w4 : IntKind.i64.wrap (b + 2 * bi) = b + 2 * bi := IntWalk.i64_in _ (by have := HLN2.out; have := HJ.out.2.1; have := HI.out.1; have := HBN.out; have := HN.out; have := HA0.out; omega)
    clear hc1 hc2
    cases gk with
    | zero => exact absurd HJ.out.2.2 (by simp)
    | succ k2 =>
    go_wp2_with (go_at_call 48; refine (symAll w0 A n c HN.out gn ok cm HC.out _ ds.flatten c1 c2 (rs.flatten ++ last) _ (List.ne_nil_of_length_pos (by have := HC1.out.1.1; have := HI.out.2.2; omega)) (List.ne_nil_of_length_pos (by have := HC1.out.2.1; have := HI.out.2.2; omega)) (Nat.le_refl _) (fun z hz => HOKL.out z (by simp only [List.flatten_cons, List.mem_append] at hz ⊢; rcases hz with hz | hz; exact .inr (.inl (.inl hz)); exact .inr (.inl (.inr (.inl hz))))) HC1.out.1.2 HC1.out.2.2 (by have := H.out; simpa using this) a (a + bi) b HJ.out.1 (by have := HJ.out.1; have := HC1.out.1.1; have := HI.out.1; omega) (by have := HJ.out.1; have := HC1.out.1.1; have := HC1.out.2.1; have := HJ.out.2.1; have := HI.out.1; omega)).mono ?_; rintro e w5 ⟨rfl, M, h1, h2, hR⟩; have HM := Aside0.mk (And.intro h1 h2); have H5 := Aside0.mk hR; clear h1 h2 hR)
    go_roundg k2
    case measure => omega
    case rel =>
      have hml := HM.out.2.len; rw [List.length_append] at hml; refine ⟨b, b + 2 * bi, ds ++ [M], rs, rfl, rfl, ⟨?_, rfl, ?_⟩, ⟨full_snoc HF.out.1 (by have := HC1.out.1.1; have := HC1.out.2.1; omega) HM.out.1, fun c hc => HF.out.2.1 c (by simp [hc]), ?_⟩, ⟨by have := H5.out; simpa using this⟩⟩; (rw [List.flatten_append, List.length_append]; have := HJ.out.1; have := HJ.out.2.1; have := HC1.out.1.1; have := HC1.out.2.1; have := HI.out.1; simp only [List.flatten_cons, List.flatten_nil, List.append_nil]; omega); (have := HJ.out.2.2; simp at this; omega)
      · have h3 := HF.out.2.2
        have h4 := (Stb.refl (lt cm) ds.flatten).app (HM.out.2.app (Stb.refl (lt cm) (rs.flatten ++ last)))
        have e1 : ds.flatten ++ (c1 ++ c2 ++ (rs.flatten ++ last)) = ds.flatten ++ ((c1 :: c2 :: rs).flatten ++ last) := by simp
        have e2 : (ds ++ [M]).flatten ++ (rs.flatten ++ last) = ds.flatten ++ (M ++ (rs.flatten ++ last)) := by simp
        rw [e1] at h4
        rw [e2]
        exact h3.trans h4
set_option maxHeartbeats 4000000 in
set_option maxRecDepth 100000 in
theorem sortStable (w0 : World) (A : Option Addr) (n c : Nat) (hn : n ≤ 140737488351232) (gn : Nat) (ok : S45 → Prop) (cm : S45 → S45 → Int) (hc : Cm w0 gn ok cm) (X : List S45) (hok : ∀ x ∈ X, ok x) (W : World) (h : Rw w0 A n c W X) :
    Calls Try.prog 33 #[.slice A n c, .func (.func 34) #[] #[]] W fun e w' => e = .returned (.tuple #[]) ∧ ∃ M, Srt (lt cm) M ∧ Stb (lt cm) X M ∧ Rw w0 A n c w' M := by
  have HN := Aside0.mk hn; have HC := Aside0.mk hc; have HOK := Aside0.mk hok; have H := Aside0.mk h; clear h hn hc hok
  go_enter Try.func33, Try.ntmps33
  go_wp2_with (go_at_call 42; refine (stable w0 A n c HN.out gn ok cm HC.out X HOK.out _ H.out).mono ?_; rintro e w3 ⟨rfl, hR⟩; have H3 := Aside0.mk hR; clear hR)
  refine bodyPost_end (results_none rfl _ _ _) rfl ?_; exact ⟨rfl, H3.out⟩
def cmpS (a b : ByteArray) : Int := if Op.bytesLess a.toList b.toList = true then -1 else if Op.bytesLess b.toList a.toList = true then 1 else 0
theorem isNaN (x : ByteArray) (W : World) : Calls Try.prog 43 #[.string x] W fun e w' => e = .returned (.bool false) ∧ w' = W := by
  go_enter Try.func43, Try.ntmps43
  go_wp2; go_ret; exact ⟨by simp, rfl⟩
theorem cmpCalls (x y : ByteArray) (W : World) : Calls Try.prog 35 #[.string x, .string y] W fun e w' => e = .returned (.int .i64 (cmpS x y)) ∧ w' = W := by
  by_cases h1 : Op.bytesLess x.toList y.toList = true
  · have HE := Aside0.mk (show cmpS x y = -1 by unfold cmpS; rw [if_pos h1])
    go_enter Try.func35, Try.ntmps35
    go_wp2_with (go_at_call 43; refine (isNaN _ _).mono ?_; rintro e w9 ⟨rfl, hw⟩; rw [hw]; clear hw w9)
    go_ret
    exact ⟨by rw [HE.out]; rfl, rfl⟩
  · have h1b : Op.bytesLess x.toList y.toList = false := by simpa using h1
    by_cases h2 : Op.bytesLess y.toList x.toList = true
    · have HE := Aside0.mk (show cmpS x y = 1 by unfold cmpS; rw [if_neg h1, if_pos h2])
      clear h1
      go_enter Try.func35, Try.ntmps35
      go_wp2_with (go_at_call 43; refine (isNaN _ _).mono ?_; rintro e w9 ⟨rfl, hw⟩; rw [hw]; clear hw w9)
      go_ret
      exact ⟨by rw [HE.out]; rfl, rfl⟩
    · have h2b : Op.bytesLess y.toList x.toList = false := by simpa using h2
      have HE := Aside0.mk (show cmpS x y = 0 by unfold cmpS; rw [if_neg h1, if_neg h2])
      clear h1 h2
      go_enter Try.func35, Try.ntmps35
      go_wp2_with (go_at_call 43; refine (isNaN _ _).mono ?_; rintro e w9 ⟨rfl, hw⟩; rw [hw]; clear hw w9)
      go_ret
      exact ⟨by rw [HE.out]; rfl, rfl⟩
set_option maxHeartbeats 4000000 in
set_option maxRecDepth 100000 in
theorem clo (x y : S45) (W : World) : Calls Try.prog 34 #[.agg #[.string x.f0, .string x.f1], .agg #[.string y.f0, .string y.f1]] W fun e w' => e = .returned (.int .i64 (cmpS x.f0 y.f0)) ∧ Below W.heap.size W w' := by
  go_enter Try.func34, Try.ntmps34
  go_upto_region 1 with fail
  obtain ⟨W1, hW1⟩ : ∃ W1, W.alloc (.cells #[.string x.f0, .string x.f1] 45) = W1 := ⟨_, rfl⟩; obtain ⟨W2, hW2⟩ : ∃ W2, W1.alloc (.cells #[.string y.f0, .string y.f1] 45) = W2 := ⟨_, rfl⟩
  have hs1 : W1.heap.size = W.heap.size + 1 := by rw [← hW1]; simp
  have b1 : W1.heap[W.heap.size]? = some (.cells #[.string x.f0, .string x.f1] 45 (0, 0)) := hW1 ▸ heap_alloc_new W _; have b2 : W2.heap[W.heap.size]? = some (.cells #[.string x.f0, .string x.f1] 45 (0, 0)) := hW2 ▸ (heap_alloc_old W1 _ (by omega)).trans b1; have b3 : W2.heap[W.heap.size + 1]? = some (.cells #[.string y.f0, .string y.f1] 45 (0, 0)) := hs1 ▸ hW2 ▸ heap_alloc_new W1 _; have HB := Aside0.mk (show Below W.heap.size W W2 from hW2 ▸ zA (hW1 ▸ zA (Below.refl _ _) _) _); rw [hW1, hW2]; have c0 : W2.cell? ⟨W.heap.size, 0, none⟩ = some (.string x.f0) := (zC b2 0).trans rfl; have c1 : W2.cell? ⟨W.heap.size + 1, 0, none⟩ = some (.string y.f0) := (zC b3 0).trans rfl; clear b1 b2 b3 hs1 hW1 hW2
  go_wp2_with (go_at_call 35; refine (cmpCalls _ _ _).mono ?_; rintro e w9 ⟨rfl, hw⟩; rw [hw]; clear hw w9)
  go_ret; exact ⟨rfl, HB.out⟩
/-- An attribute is ahead of another one, by its name. -/
def cmA (x y : S45) : Int := cmpS x.f0 y.f0
theorem cmpS_lt (a b : ByteArray) : decide (cmpS a b < 0) = Op.bytesLess a.toList b.toList := by
  unfold cmpS
  cases h : Op.bytesLess a.toList b.toList with
  | true => simp
  | false =>
    simp only [Bool.false_eq_true, if_false]; split <;> simp
theorem less_irrefl : ∀ x : List UInt8, Op.bytesLess x x = false
  | [] => rfl
  | a :: x => by
    have ih := less_irrefl x
    simp only [Op.bytesLess]
    have h2 : ¬ a < a := fun h' => absurd (show a.toNat < a.toNat from h') (by omega)
    simp [h2, ih]
theorem less_iff (a b : UInt8) (x y : List UInt8) : Op.bytesLess (a :: x) (b :: y) = true ↔ a.toNat < b.toNat ∨ (a = b ∧ Op.bytesLess x y = true) := by
  simp only [Op.bytesLess]
  by_cases h1 : a < b
  · have : a.toNat < b.toNat := h1
    simp [h1, this]
  · have h1' : ¬ a.toNat < b.toNat := h1
    by_cases h2 : a = b
    · subst h2; simp [h1]
    · simp [h1, h2, h1']
theorem less_trans : ∀ x y z : List UInt8, Op.bytesLess x y = true → Op.bytesLess y z = true → Op.bytesLess x z = true
  | [], [], z, h1, h2 => by simp [Op.bytesLess] at h1
  | [], b :: y, [], h1, h2 => by simp [Op.bytesLess] at h2
  | [], b :: y, c :: z, h1, h2 => by simp [Op.bytesLess]
  | a :: x, [], z, h1, h2 => by simp [Op.bytesLess] at h1
  | a :: x, b :: y, [], h1, h2 => by simp [Op.bytesLess] at h2
  | a :: x, b :: y, c :: z, h1, h2 => by
    rw [less_iff] at *
    rcases h1 with h1 | ⟨rfl, h1⟩
    · rcases h2 with h2 | ⟨rfl, h2⟩
      · exact .inl (by omega)
      · exact .inl h1
    · rcases h2 with h2 | ⟨rfl, h2⟩
      · exact .inl h2
      · exact .inr ⟨rfl, less_trans x y z h1 h2⟩
theorem less_tri (x y : List UInt8) (h1 : Op.bytesLess x y = false) (h2 : Op.bytesLess y x = false) : x = y := by
  have := Go.Proofs.Ytnellpilmjjbcaa.Str.bytesLess_swap x y; rw [h1, h2] at this; simpa using this
theorem lt_cmA (x y : S45) : lt cmA x y = Op.bytesLess x.f0.toList y.f0.toList := cmpS_lt _ _
theorem swoA : Swo (lt cmA) := by
  refine ⟨fun x => ?_, fun x y z h1 h2 => ?_, fun x y h1 => ?_⟩; (rw [lt_cmA]; exact less_irrefl _)
  · rw [lt_cmA] at *
    cases h : Op.bytesLess x.f0.toList z.f0.toList with
    | false => rfl
    | true =>
      cases h3 : Op.bytesLess y.f0.toList x.f0.toList with
      | true => rw [less_trans _ _ _ h3 h] at h2; cases h2
      | false =>
        have e := less_tri _ _ h1 h3; rw [e, h2] at h; cases h
  · rw [lt_cmA] at *
    cases h : Op.bytesLess y.f0.toList x.f0.toList with
    | false => rfl
    | true =>
      have := less_trans _ _ _ h1 h; rw [less_irrefl] at this; cases this
theorem CmA (w0 : World) (gn : Nat) : Cm w0 gn (fun _ => True) cmA := ⟨swoA, fun W x y hb _ _ => clo x y W⟩
theorem takeWhile_all {α : Type} (p : α → Bool) : ∀ (l : List α), ∀ a ∈ l.takeWhile p, p a = true
  | [], a, h => by cases h
  | b :: l, a, h => by
    rw [List.takeWhile_cons] at h
    split at h
    · next hb =>
      rcases List.mem_cons.1 h with rfl | h
      · exact hb
      · exact takeWhile_all p l a h
    · cases h
theorem dropWhile_head {α : Type} (p : α → Bool) : ∀ (l : List α), l.dropWhile p = [] ∨ ∃ b r, l.dropWhile p = b :: r ∧ p b = false
  | [] => .inl rfl
  | b :: l => by
    rw [List.dropWhile_cons]
    split
    · exact dropWhile_head p l
    · next hb => exact .inr ⟨b, l, rfl, by simpa using hb⟩
def insR {α : Type} (lt : α → α → Bool) (x : α) (acc : List α) : List α := acc.takeWhile (fun a => !lt x a) ++ x :: acc.dropWhile (fun a => !lt x a)
def isort {α : Type} (lt : α → α → Bool) (l : List α) : List α := l.foldl (fun acc x => insR lt x acc) []
theorem insR_ok {α : Type} {lt : α → α → Bool} (w : Swo lt) (x : α) {acc : List α} (h : Srt lt acc) : Srt lt (insR lt x acc) ∧ Stb lt (acc ++ [x]) (insR lt x acc) := by
  have e : acc.takeWhile (fun a => !lt x a) ++ acc.dropWhile (fun a => !lt x a) = acc := List.takeWhile_append_dropWhile; have r := inserted w (A := acc.takeWhile (fun a => !lt x a)) (B := acc.dropWhile (fun a => !lt x a)) (x := x) (by rw [e]; exact h) (fun b hb => ?_) (fun a ha => by simpa using takeWhile_all _ _ a ha); (rw [e] at r; exact r)
  · rcases dropWhile_head (fun a => !lt x a) acc with e1 | ⟨b0, t, e1, e2⟩
    · rw [e1] at hb; cases hb
    · have h0 : lt x b0 = true := by simpa using e2
      have hs := (List.pairwise_append.1 (show (acc.takeWhile (fun a => !lt x a) ++ acc.dropWhile (fun a => !lt x a)).Pairwise (fun a b => lt b a = false) by rw [e]; exact h)).2.1
      rw [e1] at hs hb
      rcases List.mem_cons.1 hb with rfl | hb
      · exact h0
      · cases hx : lt x b with
        | true => rfl
        | false => rw [w.nt x b b0 hx ((List.pairwise_cons.1 hs).1 b hb)] at h0; cases h0
theorem isort_snoc {α : Type} (lt : α → α → Bool) (l : List α) (x : α) : isort lt (l ++ [x]) = insR lt x (isort lt l) := by
  unfold isort; rw [List.foldl_append]; rfl
theorem isort_ok {α : Type} {lt : α → α → Bool} (w : Swo lt) (l : List α) : ∀ n, l.length = n → Srt lt (isort lt l) ∧ Stb lt l (isort lt l) := by
  intro n
  induction n generalizing l with
  | zero => intro h; obtain rfl := List.length_eq_zero_iff.1 h; exact ⟨List.Pairwise.nil, Stb.refl _ _⟩
  | succ n ih =>
    intro h
    rcases List.eq_nil_or_concat l with rfl | ⟨l', x, rfl⟩
    (simp at h); (obtain ⟨h1, h2⟩ := ih l' (by simpa using h); rw [List.concat_eq_append, isort_snoc]; have h3 := insR_ok w x h1; exact ⟨h3.1, (h2.app (Stb.refl lt [x])).trans h3.2⟩)
theorem isort_uniq {α : Type} {lt : α → α → Bool} (w : Swo lt) {l M : List α} (h1 : Srt lt M) (h2 : Stb lt l M) : M = isort lt l := by
  obtain ⟨h3, h4⟩ := isort_ok w l _ rfl; exact uniq w h1 h3 (fun z => (h2.fl z).trans (h4.fl z).symm)
/-- The last of each name, of the first so many of a row. -/
def keepAt (M : List S45) (i : Nat) : Bool := i + 1 == M.length || (rd_T45 M ((i + 1 : Nat) : Int)).f0.toList != (rd_T45 M (i : Int)).f0.toList
def dedT (M : List S45) : Nat → List S45
  | 0 => []
  | i + 1 => if keepAt M i = true then dedT M i ++ [rd_T45 M (i : Int)] else dedT M i
def normP (l : List S45) : List S45 := dedT (isort (lt cmA) l) (isort (lt cmA) l).length
theorem dedT_len (M : List S45) : ∀ i, (dedT M i).length ≤ i
  | 0 => Nat.le_refl _
  | i + 1 => by
    have := dedT_len M i
    unfold dedT
    split
    · rw [List.length_append, List.length_singleton]; omega
    · omega
theorem rd43_get (M : List S45) (i : Nat) (h : i < M.length) : rd_T45 M (i : Int) = M[i] := by
  unfold rd_T45; rw [List.getD_eq_getElem?_getD, Int.toNat_natCast, List.getElem?_eq_getElem h]; rfl
/-- What the row holds behind so many rounds: its first ones are kept, the others stand as_ they stood. -/
structure Half (M L : List S45) (i : Nat) : Prop where
  len : L.length = M.length
  kept : L.take (dedT M i).length = dedT M i
  rest : ∀ j, i ≤ j → j < M.length → L[j]? = M[j]?
theorem Half.step {M L : List S45} {i : Nat} (h : Half M L i) (hi : i < M.length) (hk : keepAt M i = true) : Half M (L.set (dedT M i).length (rd_T45 M (i : Int))) (i + 1) := by
  have hd := dedT_len M i
  have e : dedT M (i + 1) = dedT M i ++ [rd_T45 M (i : Int)] := by
    show (if keepAt M i = true then _ else _) = _
    rw [if_pos hk]
  refine ⟨by rw [List.length_set, h.len], ?_, fun j hj hjm => ?_⟩; (rw [e, List.length_append, List.length_singleton, List.take_succ_eq_append_getElem (by rw [List.length_set, h.len]; omega), List.getElem_set_self, List.take_set_of_le (Nat.le_refl _), h.kept]); (rw [List.getElem?_set_ne (by omega)]; exact h.rest j (by omega) hjm)
theorem Half.skip {M L : List S45} {i : Nat} (h : Half M L i) (hk : keepAt M i = false) : Half M L (i + 1) := by
  have e : dedT M (i + 1) = dedT M i := by
    show (if keepAt M i = true then _ else _) = _
    rw [if_neg (by rw [hk]; decide)]
  exact ⟨h.len, by rw [e]; exact h.kept, fun j hj hjm => h.rest j (by omega) hjm⟩
theorem clip (A : Option Addr) (c m : Nat) (hm : m ≤ c) (W : World) : Calls Try.prog 36 #[.slice A m c] W fun e w' => e = .returned (.slice A m m) ∧ w' = W := by
  go_enter Try.func36, Try.ntmps36
  go_wp2; go_ret; exact ⟨rfl, rfl⟩
set_option maxHeartbeats 8000000 in
set_option maxRecDepth 100000 in
theorem norm_walk (A0 : Option Addr) (c0 : Nat) (l : List S45) (w : World) (hr0 : Kd.C k45 w A0 l.length l) (hc0 : l.length ≤ c0) (hl : l.length ≤ 1000000) :
    Calls Try.prog 19 #[.slice A0 l.length c0] w fun e w' => ∃ A, e = .returned (.slice A (normP l).length (normP l).length) ∧ Kd.F k45 w' (fun k => w.heap.size ≤ k) A (normP l).length (normP l) ∧ Below w.heap.size w w' := by
  have HR := Aside0.mk hr0; have HC := Aside0.mk hc0; have HL := Aside0.mk hl; clear hr0 hc0 hl
  go_enter Try.func19, Try.ntmps19
  go_upto_region 2 with (go_at_call 28; refine (api_Attr_28.calls _ _ l l _ HR.out HC.out (by unfold api_Attr_28.f; rw [if_pos (by have := HL.out; omega)])).mono ?_; rintro e w1 ⟨v1, rfl, hr1, hb1⟩; have R1 := Aside0.mk hr1; have B1 := Aside0.mk hb1; clear hr1 hb1)
  obtain ⟨A1, c1, ev⟩ := Kd.R_slice R1.out; subst ev; have W1 := Aside0.mk (show Rw w A1 l.length c1 w1 l from ⟨rfl, R1.out, B1.out⟩); obtain ⟨n, hn⟩ : ∃ n, l.length = n := ⟨_, rfl⟩; rw [hn] at W1 HL ⊢; have HN := Aside0.mk hn; clear hn R1 B1
  go_upto_region 3 with (go_at_call 33; refine (sortStable w A1 n c1 (by have := HL.out; omega) 0 (fun _ => True) cmA (CmA w 0) l (fun _ _ => trivial) _ W1.out).mono ?_; rintro e w2 ⟨rfl, M, h1, h2, hR⟩; have W2 := Aside0.mk hR; have HM := Aside0.mk (isort_uniq swoA h1 h2); clear h1 h2 hR)
  have HNP := Aside0.mk (show normP l = dedT M M.length from by unfold normP; rw [← HM.out]); have HML := Aside0.mk W2.out.ln; clear W1
  go_wp2_with fail
  go_loopg [4, 5, 6, 13] n (fun kq v4 v5 v6 v13 W => ∃ (i : Nat) (L : List S45), v4 = .int .i64 ((dedT M i).length : Int) ∧ v13 = .int .i64 (i : Int) ∧ Aside0 (i + kq = n) ∧ Aside0 (Half M L i) ∧ Aside0 (Rw w A1 n c1 W L))
  case atStart => exact ⟨0, M, rfl, rfl, ⟨by omega⟩, ⟨rfl, rfl, fun _ _ _ => rfl⟩, W2⟩
  case round =>
  clear W2; obtain ⟨i, L, rfl, rfl, HI, HH, H⟩ := hrel; obtain ⟨m, hm⟩ : ∃ m, (dedT M i).length = m := ⟨_, rfl⟩; rw [hm]; have HMM := Aside0.mk hm; have HMI := Aside0.mk (show m ≤ i from hm ▸ dedT_len M i); clear hm
  cases gk with
  | zero =>
    have hi : i = n := by have := HI.out; omega
    subst hi
    have hmi : (m : Int) ≤ (i : Int) := by have := HMI.out; omega
    have HLEN := Aside0.mk (show (normP l).length = m by rw [HNP.out, HML.out]; exact HMM.out)
    have HF := Aside0.mk (show Kd.F k45 wr (fun k => w.heap.size ≤ k) A1 m (normP l) from by
      have h1 := Kd.R_F (Kd.R_mono (ok' := fun k => w.heap.size ≤ k) (Kd.R_bound H.out.r) (fun k hk => hk.2.1))
      have e : (normP l) = L.take m := by rw [HNP.out, HML.out, ← HH.out.kept, HMM.out]
      rw [e]; refine Kd.F_imp h1 (fun W' hC => ?_); have hl := H.out.ln; have h2 := Kd.C_take (xs := L) (m := m) (by rw [hl]; exact hC) (by rw [hl]; exact HMI.out); rw [List.length_take, hl, Nat.min_eq_left HMI.out] at h2
      exact h2)
    have hmc : m ≤ c1 := Nat.le_trans HMI.out (Kd.R_reads' H.out.r).2.1
    go_wp2_with (go_at_call 36; refine (clip A1 c1 m hmc _).mono ?_; rintro e w9 ⟨rfl, hw⟩; rw [hw]; clear hw w9)
    go_ret; rw [HLEN.out]; exact ⟨_, rfl, HF.out, H.out.b⟩
  | succ k1 =>
    have hin : i < n := by have := HI.out; omega
    have HIN := Aside0.mk hin; obtain ⟨g, rfl, hg⟩ := H.out.form (by omega); have HG := Aside0.mk hg; obtain ⟨x, hx⟩ : ∃ x, rd_T45 M (i : Int) = x := ⟨_, rfl⟩; have HX := Aside0.mk hx
    have hLi : L[i]? = some x := by
      rw [HH.out.rest i (Nat.le_refl _) (by rw [HML.out]; exact hin), List.getElem?_eq_getElem (by rw [HML.out]; exact hin), ← rd43_get M i (by rw [HML.out]; exact hin), hx]
    obtain ⟨t0, t1, _, _⟩ := H.out.cell i hin x hLi
    have hw1 : wrap64 ((i : Int) + 1) = (i : Int) + 1 := by have := HL.out; unfold wrap64; omega
    have hw2 : wrap64 ((m : Int) + 1) = (m : Int) + 1 := by have := HL.out; have := HMI.out; unfold wrap64; omega
    clear hx hLi hg
    go_upto_region 7 with fail
    obtain ⟨gb, hgb⟩ : ∃ gb, wr.heap.size = gb := ⟨_, rfl⟩; obtain ⟨W3, hW3⟩ : ∃ W3, wr.alloc (.cells #[.string x.f0, .string x.f1] 45) = W3 := ⟨_, rfl⟩; rw [hW3]; have X3 := Aside0.mk (show W3.heap[gb]? = some (.cells #[.string x.f0, .string x.f1] 45 (0, 0)) from hgb ▸ hW3 ▸ heap_alloc_new wr _); have H3 := Aside0.mk (H.out.below (hW3 ▸ zA (Below.refl _ _) _ : Below wr.heap.size wr W3)); rw [hgb]; clear hW3 hgb t0 t1 H; have b0 : W3.cell? ⟨gb, 0, none⟩ = some (.string x.f0) := (zC X3.out 0).trans rfl; have b1 : W3.cell? ⟨gb, 1, none⟩ = some (.string x.f1) := (zC X3.out 1).trans rfl; obtain ⟨z, hz⟩ : ∃ z, L[m]? = some z := ⟨_, List.getElem?_eq_getElem (by have := H3.out.ln; have := HMI.out; have := HIN.out; omega)⟩
    have hmn : m < n := by have := HMI.out; have := HIN.out; omega
    obtain ⟨m0, m1, f0, f1⟩ := H3.out.cell m hmn z hz; have HZ := Aside0.mk hz; have hmn1 := eq_true hmn; clear hz hmn
    by_cases hlast : i + 1 = n
    · have e1 : ((i : Int) + 1 == (n : Int)) = true := by rw [beq_iff_eq]; omega
      have HK := Aside0.mk (show keepAt M i = true from by unfold keepAt; rw [HML.out, hlast]; simp)
      clear hlast
      refine start_ (n := 16) (S := (fun w' => True)) (ds := []) #[false, false, false, false, false, false, false, false, false, false, false, false, false, false, false, false] (by kernel_rfl) rfl rfl ?_ ?_
      · trivial
      intro hHeld
      refine pure_ (i := 0) (N := some 18) (v := ?_) (a' := ?_) #[true, false, false, false, false, false, false, false, false, false, false, false, false, false, false, false] rfl rfl (by kernel_rfl) (fun _ _ _ h => h) (Or.inl ⟨by rfl, ?_⟩) ?_ ?_
      rotate_left
      · intro w'
        go_simp
        with_reducible rfl
      rotate_left
      · simp only [Act.put, List.setIfInBounds_toArray, List.set_cons_zero, List.set_cons_succ, i64_w, i32_w]
        rfl
      refine pure_ (i := 1) (N := some 19) (v := ?_) (a' := ?_) #[true, true, false, false, false, false, false, false, false, false, false, false, false, false, false, false] rfl rfl (by kernel_rfl) (fun _ _ _ h => h) (Or.inl ⟨by rfl, ?_⟩) ?_ ?_
      rotate_left
      · intro w'
        go_simp
        with_reducible rfl
      rotate_left
      · simp only [Act.put, List.setIfInBounds_toArray, List.set_cons_zero, List.set_cons_succ, i64_w, i32_w]
        rfl
      refine pure_ (i := 2) (N := some 20) (v := ?_) (a' := ?_) #[true, true, true, false, false, false, false, false, false, false, false, false, false, false, false, false] rfl rfl (by kernel_rfl) (fun _ _ _ h => h) (Or.inl ⟨by rfl, ?_⟩) ?_ ?_
      rotate_left
      · intro w'
        go_simp
        with_reducible rfl
      rotate_left
      · simp only [Act.put, List.setIfInBounds_toArray, List.set_cons_zero, List.set_cons_succ, i64_w, i32_w]
        rfl
      refine pure_ (i := 3) (N := some 21) (v := ?_) (a' := ?_) #[true, true, true, true, false, false, false, false, false, false, false, false, false, false, false, false] rfl rfl (by kernel_rfl) (fun _ _ _ h => h) (Or.inl ⟨by rfl, ?_⟩) ?_ ?_
      rotate_left
      · intro w'
        go_simp
        with_reducible rfl
      rotate_left
      · simp only [Act.put, List.setIfInBounds_toArray, List.set_cons_zero, List.set_cons_succ, i64_w, i32_w]
        rfl
      refine pure_ (i := 4) (N := some 22) (v := ?_) (a' := ?_) #[true, true, true, true, true, false, false, false, false, false, false, false, false, false, false, false] rfl rfl (by kernel_rfl) (fun _ _ _ h => h) (Or.inl ⟨by rfl, ?_⟩) ?_ ?_
      rotate_left
      · intro w'
        go_simp
        with_reducible rfl
      rotate_left
      · simp only [Act.put, List.setIfInBounds_toArray, List.set_cons_zero, List.set_cons_succ, i64_w, i32_w]
        rfl
      refine pure_ (i := 5) (N := some 23) (v := ?_) (a' := ?_) #[true, true, true, true, true, true, false, false, false, false, false, false, false, false, false, false] rfl rfl (by kernel_rfl) (fun _ _ _ h => h) (Or.inl ⟨by rfl, ?_⟩) ?_ ?_
      rotate_left
      · intro w'
        go_simp
        with_reducible rfl
      rotate_left
      · simp only [Act.put, List.setIfInBounds_toArray, List.set_cons_zero, List.set_cons_succ, i64_w, i32_w]
        rfl
      refine pure_ (i := 6) (N := some 24) (v := undef) (a' := ?_) #[true, true, true, true, true, true, true, false, false, false, false, false, false, false, false, false] rfl rfl (by kernel_rfl) (fun _ _ _ h => h) (Or.inr ⟨by rfl, rfl⟩) ?_ ?_
      rotate_left
      · simp only [Act.put, List.setIfInBounds_toArray, List.set_cons_zero, List.set_cons_succ, i64_w, i32_w]
        rfl
      refine pure_ (i := 7) (N := some 25) (v := undef) (a' := ?_) #[true, true, true, true, true, true, true, true, false, false, false, false, false, false, false, false] rfl rfl (by kernel_rfl) (fun _ _ _ h => h) (Or.inr ⟨by rfl, rfl⟩) ?_ ?_
      rotate_left
      · simp only [Act.put, List.setIfInBounds_toArray, List.set_cons_zero, List.set_cons_succ, i64_w, i32_w]
        rfl
      refine pure_ (i := 8) (N := some 26) (v := undef) (a' := ?_) #[true, true, true, true, true, true, true, true, true, false, false, false, false, false, false, false] rfl rfl (by kernel_rfl) (fun _ _ _ h => h) (Or.inr ⟨by rfl, rfl⟩) ?_ ?_
      rotate_left
      · simp only [Act.put, List.setIfInBounds_toArray, List.set_cons_zero, List.set_cons_succ, i64_w, i32_w]
        rfl
      refine pure_ (i := 9) (N := some 27) (v := undef) (a' := ?_) #[true, true, true, true, true, true, true, true, true, true, false, false, false, false, false, false] rfl rfl (by kernel_rfl) (fun _ _ _ h => h) (Or.inr ⟨by rfl, rfl⟩) ?_ ?_
      rotate_left
      · simp only [Act.put, List.setIfInBounds_toArray, List.set_cons_zero, List.set_cons_succ, i64_w, i32_w]
        rfl
      refine pure_ (i := 10) (N := some 28) (v := undef) (a' := ?_) #[true, true, true, true, true, true, true, true, true, true, true, false, false, false, false, false] rfl rfl (by kernel_rfl) (fun _ _ _ h => h) (Or.inr ⟨by rfl, rfl⟩) ?_ ?_
      rotate_left
      · simp only [Act.put, List.setIfInBounds_toArray, List.set_cons_zero, List.set_cons_succ, i64_w, i32_w]
        rfl
      refine pure_ (i := 12) (N := some 30) (v := undef) (a' := ?_) #[true, true, true, true, true, true, true, true, true, true, true, false, true, false, false, false] rfl rfl (by kernel_rfl) (fun _ _ _ h => h) (Or.inr ⟨by rfl, rfl⟩) ?_ ?_
      rotate_left
      · simp only [Act.put, List.setIfInBounds_toArray, List.set_cons_zero, List.set_cons_succ, i64_w, i32_w]
        rfl
      refine pure_ (i := 11) (N := some 29) (v := undef) (a' := ?_) #[true, true, true, true, true, true, true, true, true, true, true, true, true, false, false, false] rfl rfl (by kernel_rfl) (fun _ _ _ h => h) (Or.inr ⟨by rfl, rfl⟩) ?_ ?_
      rotate_left
      · simp only [Act.put, List.setIfInBounds_toArray, List.set_cons_zero, List.set_cons_succ, i64_w, i32_w]
        rfl
      refine pure_ (i := 13) (N := some 31) (v := undef) (a' := ?_) #[true, true, true, true, true, true, true, true, true, true, true, true, true, true, false, false] rfl rfl (by kernel_rfl) (fun _ _ _ h => h) (Or.inr ⟨by rfl, rfl⟩) ?_ ?_
      rotate_left
      · simp only [Act.put, List.setIfInBounds_toArray, List.set_cons_zero, List.set_cons_succ, i64_w, i32_w]
        rfl
      refine pure_ (i := 14) (N := some 32) (v := undef) (a' := ?_) #[true, true, true, true, true, true, true, true, true, true, true, true, true, true, true, false] rfl rfl (by kernel_rfl) (fun _ _ _ h => h) (Or.inr ⟨by rfl, rfl⟩) ?_ ?_
      rotate_left
      · simp only [Act.put, List.setIfInBounds_toArray, List.set_cons_zero, List.set_cons_succ, i64_w, i32_w]
        rfl
      refine pure_ (i := 15) (N := some 33) (v := ?_) (a' := ?_) #[true, true, true, true, true, true, true, true, true, true, true, true, true, true, true, true] rfl rfl (by kernel_rfl) (fun _ _ _ h => h) (Or.inl ⟨by rfl, ?_⟩) ?_ ?_
      rotate_left
      · intro w'
        go_simp
        with_reducible rfl
      rotate_left
      · simp only [Act.put, List.setIfInBounds_toArray, List.set_cons_zero, List.set_cons_succ, i64_w, i32_w]
        rfl
      refine done_ (by kernel_rfl) ?_
      have H4 := Aside0.mk (H3.out.drew)
      have b40 : W3.drew.cell? ⟨gb, 0, none⟩ = some (.string x.f0) := b0
      have b41 : W3.drew.cell? ⟨gb, 1, none⟩ = some (.string x.f1) := b1
      obtain ⟨m40, m41, f40, f41⟩ := H4.out.cell m (by have := HMI.out; have := HIN.out; omega) z HZ.out
      generalize W3.drew = W4 at H4 b40 b41 m40 m41 f40 f41 ⊢
      clear b0 b1 m0 m1 f0 f1 H3 X3
      go_upto_region 9 with fail
      obtain ⟨W5, hW5⟩ : ∃ W5, put2 W4 g m x = W5 := ⟨_, rfl⟩
      unfold put2 at hW5
      rw [hW5]
      have H5 := Aside0.mk (show Rw w (some ⟨g, 0, none⟩) n c1 W5 (L.set m x) from hW5 ▸ H4.out.set m (by have := HMI.out; have := HIN.out; omega) x)
      clear hW5
      go_wp2_with fail
      go_roundg k1
      case measure => omega
      case rel =>
        refine ⟨i + 1, L.set m x, ?_, by rw [hw1]; rfl, ⟨by have := HI.out; omega⟩, ⟨?_⟩, H5⟩
        · rw [hw2]
          have e : dedT M (i + 1) = dedT M i ++ [rd_T45 M (i : Int)] := by
            show (if keepAt M i = true then _ else _) = _
            rw [if_pos HK.out]
          rw [e, List.length_append, HMM.out]
          rfl
        · have h := HH.out.step (by rw [HML.out]; exact HIN.out) HK.out
          rw [HMM.out, HX.out] at h; exact h
    · obtain ⟨y, hy⟩ : ∃ y, rd_T45 M ((i + 1 : Nat) : Int) = y := ⟨_, rfl⟩
      have hLi : L[i + 1]? = some y := by
        rw [HH.out.rest (i + 1) (by omega) (by rw [HML.out]; omega), List.getElem?_eq_getElem (by rw [HML.out]; omega), ← rd43_get M (i + 1) (by rw [HML.out]; omega), hy]
      obtain ⟨y0, _, _, _⟩ := H3.out.cell (i + 1) (by omega) y hLi
      have e1 : ((i : Int) + 1 == (n : Int)) = false := by rw [beq_eq_false_iff_ne]; omega
      have HKB := Aside0.mk (show keepAt M i = (y.f0.toList != x.f0.toList) from by
        unfold keepAt
        rw [HML.out, hy, HX.out, show (i + 1 == n) = false from by simp [hlast], Bool.false_or])
      have j0 : ((i : Int) + 1).toNat = i + 1 := by omega
      have j1 := eq_true (show (0 : Int) ≤ (i : Int) + 1 by omega)
      have j2 := eq_true (show (i : Int) + 1 < (n : Int) by omega)
      clear hlast hy hLi
      by_cases hb : y.f0.toList = x.f0.toList
      · have hb1 : (y.f0.toList == x.f0.toList) = true := by simp [hb]
        have hb2 : (y.f0.toList != x.f0.toList) = false := by simp [hb]
        have HK := Aside0.mk (show keepAt M i = false from HKB.out.trans hb2)
        clear hb
        refine start_ (n := 16) (S := (fun w' => w'.cell? ⟨g, (i + 1) * 2, none⟩ = some (.string y.f0) ∧ w'.cell? ⟨gb, 0, none⟩ = some (.string x.f0))) (ds := []) #[false, false, false, false, false, false, false, false, false, false, false, false, false, false, false, false] (by kernel_rfl) rfl rfl ?_ ?_
        · exact ⟨y0, b0⟩
        intro hHeld
        refine pure_ (i := 0) (N := some 18) (v := ?_) (a' := ?_) #[true, false, false, false, false, false, false, false, false, false, false, false, false, false, false, false] rfl rfl (by kernel_rfl) (fun _ _ _ h => h) (Or.inl ⟨by rfl, ?_⟩) ?_ ?_
        rotate_left
        · intro w'
          go_simp
          with_reducible rfl
        rotate_left
        · simp only [Act.put, List.setIfInBounds_toArray, List.set_cons_zero, List.set_cons_succ, i64_w, i32_w]
          rfl
        refine pure_ (i := 1) (N := some 19) (v := ?_) (a' := ?_) #[true, true, false, false, false, false, false, false, false, false, false, false, false, false, false, false] rfl rfl (by kernel_rfl) (fun _ _ _ h => h) (Or.inl ⟨by rfl, ?_⟩) ?_ ?_
        rotate_left
        · intro w'
          go_simp
          with_reducible rfl
        rotate_left
        · simp only [Act.put, List.setIfInBounds_toArray, List.set_cons_zero, List.set_cons_succ, i64_w, i32_w]
          rfl
        refine pure_ (i := 2) (N := some 20) (v := ?_) (a' := ?_) #[true, true, true, false, false, false, false, false, false, false, false, false, false, false, false, false] rfl rfl (by kernel_rfl) (fun _ _ _ h => h) (Or.inl ⟨by rfl, ?_⟩) ?_ ?_
        rotate_left
        · intro w'
          go_simp
          with_reducible rfl
        rotate_left
        · simp only [Act.put, List.setIfInBounds_toArray, List.set_cons_zero, List.set_cons_succ, i64_w, i32_w]
          rfl
        refine pure_ (i := 3) (N := some 21) (v := ?_) (a' := ?_) #[true, true, true, true, false, false, false, false, false, false, false, false, false, false, false, false] rfl rfl (by kernel_rfl) (fun _ _ _ h => h) (Or.inl ⟨by rfl, ?_⟩) ?_ ?_
        rotate_left
        · intro w'
          go_simp
          with_reducible rfl
        rotate_left
        · simp only [Act.put, List.setIfInBounds_toArray, List.set_cons_zero, List.set_cons_succ, i64_w, i32_w]
          rfl
        refine pure_ (i := 4) (N := some 22) (v := ?_) (a' := ?_) #[true, true, true, true, true, false, false, false, false, false, false, false, false, false, false, false] rfl rfl (by kernel_rfl) (fun _ _ _ h => h) (Or.inl ⟨by rfl, ?_⟩) ?_ ?_
        rotate_left
        · intro w'
          go_simp
          with_reducible rfl
        rotate_left
        · simp only [Act.put, List.setIfInBounds_toArray, List.set_cons_zero, List.set_cons_succ, i64_w, i32_w]
          rfl
        refine pure_ (i := 5) (N := some 23) (v := ?_) (a' := ?_) #[true, true, true, true, true, true, false, false, false, false, false, false, false, false, false, false] rfl rfl (by kernel_rfl) (fun _ _ _ h => h) (Or.inl ⟨by rfl, ?_⟩) ?_ ?_
        rotate_left
        · intro w'
          go_simp
          with_reducible rfl
        rotate_left
        · simp only [Act.put, List.setIfInBounds_toArray, List.set_cons_zero, List.set_cons_succ, i64_w, i32_w]
          rfl
        refine pure_ (i := 6) (N := some 24) (v := ?_) (a' := ?_) #[true, true, true, true, true, true, true, false, false, false, false, false, false, false, false, false] rfl rfl (by kernel_rfl) (fun _ _ _ h => h) (Or.inl ⟨by rfl, ?_⟩) ?_ ?_
        rotate_left
        · intro w'
          go_simp
          with_reducible rfl
        rotate_left
        · simp only [Act.put, List.setIfInBounds_toArray, List.set_cons_zero, List.set_cons_succ, i64_w, i32_w]
          rfl
        refine pure_ (i := 7) (N := some 25) (v := ?_) (a' := ?_) #[true, true, true, true, true, true, true, true, false, false, false, false, false, false, false, false] rfl rfl (by kernel_rfl) (fun _ _ _ h => h) (Or.inl ⟨by rfl, ?_⟩) ?_ ?_
        rotate_left
        · intro w'
          go_simp
          with_reducible rfl
        rotate_left
        · simp only [Act.put, List.setIfInBounds_toArray, List.set_cons_zero, List.set_cons_succ, i64_w, i32_w]
          rfl
        refine pure_ (i := 8) (N := some 26) (v := ?_) (a' := ?_) #[true, true, true, true, true, true, true, true, true, false, false, false, false, false, false, false] rfl rfl (by kernel_rfl) (fun _ _ _ h => h) (Or.inl ⟨by rfl, ?_⟩) ?_ ?_
        rotate_left
        · intro w'
          go_simp
          with_reducible rfl
        rotate_left
        · simp only [Act.put, List.setIfInBounds_toArray, List.set_cons_zero, List.set_cons_succ, i64_w, i32_w]
          rfl
        refine pure_ (i := 9) (N := some 27) (v := ?_) (a' := ?_) #[true, true, true, true, true, true, true, true, true, true, false, false, false, false, false, false] rfl rfl (by kernel_rfl) (fun _ _ _ h => h) (Or.inl ⟨by rfl, ?_⟩) ?_ ?_
        rotate_left
        · intro w'
          go_simp
          with_reducible rfl
        rotate_left
        · simp only [Act.put, List.setIfInBounds_toArray, List.set_cons_zero, List.set_cons_succ, i64_w, i32_w]
          rfl
        refine pure_ (i := 10) (N := some 28) (v := ?_) (a' := ?_) #[true, true, true, true, true, true, true, true, true, true, true, false, false, false, false, false] rfl rfl (by kernel_rfl) (fun _ _ _ h => h) (Or.inl ⟨by rfl, ?_⟩) ?_ ?_
        rotate_left
        · intro w'
          go_simp
          with_reducible rfl
        rotate_left
        · simp only [Act.put, List.setIfInBounds_toArray, List.set_cons_zero, List.set_cons_succ, i64_w, i32_w]
          rfl
        refine pure_ (i := 12) (N := some 30) (v := ?_) (a' := ?_) #[true, true, true, true, true, true, true, true, true, true, true, false, true, false, false, false] rfl rfl (by kernel_rfl) (fun _ _ _ h => h) (Or.inl ⟨by rfl, ?_⟩) ?_ ?_
        rotate_left
        · intro w'
          go_simp
          with_reducible rfl
        rotate_left
        · simp only [Act.put, List.setIfInBounds_toArray, List.set_cons_zero, List.set_cons_succ, i64_w, i32_w]
          rfl
        refine take_ (i := 11) (N := some 29) (v := ?_) (a' := ?_) #[true, true, true, true, true, true, true, true, true, true, true, true, true, false, false, false] rfl rfl (by kernel_rfl) (fun _ _ _ h => h) (Or.inl ⟨by rfl, ?_⟩) hHeld ?_ ?_
        rotate_left
        · rintro w' ⟨s0, s1⟩
          go_simp
          with_reducible rfl
        rotate_left
        · simp only [Act.put, List.setIfInBounds_toArray, List.set_cons_zero, List.set_cons_succ, i64_w, i32_w]
          rfl
        refine take_ (i := 13) (N := some 31) (v := ?_) (a' := ?_) #[true, true, true, true, true, true, true, true, true, true, true, true, true, true, false, false] rfl rfl (by kernel_rfl) (fun _ _ _ h => h) (Or.inl ⟨by rfl, ?_⟩) hHeld ?_ ?_
        rotate_left
        · rintro w' ⟨s0, s1⟩
          go_simp
          with_reducible rfl
        rotate_left
        · simp only [Act.put, List.setIfInBounds_toArray, List.set_cons_zero, List.set_cons_succ, i64_w, i32_w]
          rfl
        refine pure_ (i := 14) (N := some 32) (v := ?_) (a' := ?_) #[true, true, true, true, true, true, true, true, true, true, true, true, true, true, true, false] rfl rfl (by kernel_rfl) (fun _ _ _ h => h) (Or.inl ⟨by rfl, ?_⟩) ?_ ?_
        rotate_left
        · intro w'
          go_simp
          with_reducible rfl
        rotate_left
        · simp only [Act.put, List.setIfInBounds_toArray, List.set_cons_zero, List.set_cons_succ, i64_w, i32_w]
          rfl
        refine pure_ (i := 15) (N := some 33) (v := ?_) (a' := ?_) #[true, true, true, true, true, true, true, true, true, true, true, true, true, true, true, true] rfl rfl (by kernel_rfl) (fun _ _ _ h => h) (Or.inl ⟨by rfl, ?_⟩) ?_ ?_
        rotate_left
        · intro w'
          go_simp
          with_reducible rfl
        rotate_left
        · simp only [Act.put, List.setIfInBounds_toArray, List.set_cons_zero, List.set_cons_succ, i64_w, i32_w]
          rfl
        refine done_ (by kernel_rfl) ?_
        have H4 := Aside0.mk (H3.out.drew)
        generalize W3.drew = W4 at H4 ⊢
        clear b0 b1 m0 m1 f0 f1 H3 X3 y0
        go_wp2_with fail
        go_roundg k1
        case measure => omega
        case rel =>
          refine ⟨i + 1, L, ?_, by rw [hw1]; rfl, ⟨by have := HI.out; omega⟩, ⟨HH.out.skip HK.out⟩, H4⟩
          have e : dedT M (i + 1) = dedT M i := by
            show (if keepAt M i = true then _ else _) = _
            rw [if_neg (by rw [HK.out]; decide)]
          rw [e, HMM.out]
      · have hb1 : (y.f0.toList == x.f0.toList) = false := by simp [hb]
        have hb2 : (y.f0.toList != x.f0.toList) = true := by simp [hb]
        have HK := Aside0.mk (show keepAt M i = true from HKB.out.trans hb2)
        clear hb
        refine start_ (n := 16) (S := (fun w' => w'.cell? ⟨g, (i + 1) * 2, none⟩ = some (.string y.f0) ∧ w'.cell? ⟨gb, 0, none⟩ = some (.string x.f0))) (ds := []) #[false, false, false, false, false, false, false, false, false, false, false, false, false, false, false, false] (by kernel_rfl) rfl rfl ?_ ?_
        · exact ⟨y0, b0⟩
        intro hHeld
        refine pure_ (i := 0) (N := some 18) (v := ?_) (a' := ?_) #[true, false, false, false, false, false, false, false, false, false, false, false, false, false, false, false] rfl rfl (by kernel_rfl) (fun _ _ _ h => h) (Or.inl ⟨by rfl, ?_⟩) ?_ ?_
        rotate_left
        · intro w'
          go_simp
          with_reducible rfl
        rotate_left
        · simp only [Act.put, List.setIfInBounds_toArray, List.set_cons_zero, List.set_cons_succ, i64_w, i32_w]
          rfl
        refine pure_ (i := 1) (N := some 19) (v := ?_) (a' := ?_) #[true, true, false, false, false, false, false, false, false, false, false, false, false, false, false, false] rfl rfl (by kernel_rfl) (fun _ _ _ h => h) (Or.inl ⟨by rfl, ?_⟩) ?_ ?_
        rotate_left
        · intro w'
          go_simp
          with_reducible rfl
        rotate_left
        · simp only [Act.put, List.setIfInBounds_toArray, List.set_cons_zero, List.set_cons_succ, i64_w, i32_w]
          rfl
        refine pure_ (i := 2) (N := some 20) (v := ?_) (a' := ?_) #[true, true, true, false, false, false, false, false, false, false, false, false, false, false, false, false] rfl rfl (by kernel_rfl) (fun _ _ _ h => h) (Or.inl ⟨by rfl, ?_⟩) ?_ ?_
        rotate_left
        · intro w'
          go_simp
          with_reducible rfl
        rotate_left
        · simp only [Act.put, List.setIfInBounds_toArray, List.set_cons_zero, List.set_cons_succ, i64_w, i32_w]
          rfl
        refine pure_ (i := 3) (N := some 21) (v := ?_) (a' := ?_) #[true, true, true, true, false, false, false, false, false, false, false, false, false, false, false, false] rfl rfl (by kernel_rfl) (fun _ _ _ h => h) (Or.inl ⟨by rfl, ?_⟩) ?_ ?_
        rotate_left
        · intro w'
          go_simp
          with_reducible rfl
        rotate_left
        · simp only [Act.put, List.setIfInBounds_toArray, List.set_cons_zero, List.set_cons_succ, i64_w, i32_w]
          rfl
        refine pure_ (i := 4) (N := some 22) (v := ?_) (a' := ?_) #[true, true, true, true, true, false, false, false, false, false, false, false, false, false, false, false] rfl rfl (by kernel_rfl) (fun _ _ _ h => h) (Or.inl ⟨by rfl, ?_⟩) ?_ ?_
        rotate_left
        · intro w'
          go_simp
          with_reducible rfl
        rotate_left
        · simp only [Act.put, List.setIfInBounds_toArray, List.set_cons_zero, List.set_cons_succ, i64_w, i32_w]
          rfl
        refine pure_ (i := 5) (N := some 23) (v := ?_) (a' := ?_) #[true, true, true, true, true, true, false, false, false, false, false, false, false, false, false, false] rfl rfl (by kernel_rfl) (fun _ _ _ h => h) (Or.inl ⟨by rfl, ?_⟩) ?_ ?_
        rotate_left
        · intro w'
          go_simp
          with_reducible rfl
        rotate_left
        · simp only [Act.put, List.setIfInBounds_toArray, List.set_cons_zero, List.set_cons_succ, i64_w, i32_w]
          rfl
        refine pure_ (i := 6) (N := some 24) (v := ?_) (a' := ?_) #[true, true, true, true, true, true, true, false, false, false, false, false, false, false, false, false] rfl rfl (by kernel_rfl) (fun _ _ _ h => h) (Or.inl ⟨by rfl, ?_⟩) ?_ ?_
        rotate_left
        · intro w'
          go_simp
          with_reducible rfl
        rotate_left
        · simp only [Act.put, List.setIfInBounds_toArray, List.set_cons_zero, List.set_cons_succ, i64_w, i32_w]
          rfl
        refine pure_ (i := 7) (N := some 25) (v := ?_) (a' := ?_) #[true, true, true, true, true, true, true, true, false, false, false, false, false, false, false, false] rfl rfl (by kernel_rfl) (fun _ _ _ h => h) (Or.inl ⟨by rfl, ?_⟩) ?_ ?_
        rotate_left
        · intro w'
          go_simp
          with_reducible rfl
        rotate_left
        · simp only [Act.put, List.setIfInBounds_toArray, List.set_cons_zero, List.set_cons_succ, i64_w, i32_w]
          rfl
        refine pure_ (i := 8) (N := some 26) (v := ?_) (a' := ?_) #[true, true, true, true, true, true, true, true, true, false, false, false, false, false, false, false] rfl rfl (by kernel_rfl) (fun _ _ _ h => h) (Or.inl ⟨by rfl, ?_⟩) ?_ ?_
        rotate_left
        · intro w'
          go_simp
          with_reducible rfl
        rotate_left
        · simp only [Act.put, List.setIfInBounds_toArray, List.set_cons_zero, List.set_cons_succ, i64_w, i32_w]
          rfl
        refine pure_ (i := 9) (N := some 27) (v := ?_) (a' := ?_) #[true, true, true, true, true, true, true, true, true, true, false, false, false, false, false, false] rfl rfl (by kernel_rfl) (fun _ _ _ h => h) (Or.inl ⟨by rfl, ?_⟩) ?_ ?_
        rotate_left
        · intro w'
          go_simp
          with_reducible rfl
        rotate_left
        · simp only [Act.put, List.setIfInBounds_toArray, List.set_cons_zero, List.set_cons_succ, i64_w, i32_w]
          rfl
        refine pure_ (i := 10) (N := some 28) (v := ?_) (a' := ?_) #[true, true, true, true, true, true, true, true, true, true, true, false, false, false, false, false] rfl rfl (by kernel_rfl) (fun _ _ _ h => h) (Or.inl ⟨by rfl, ?_⟩) ?_ ?_
        rotate_left
        · intro w'
          go_simp
          with_reducible rfl
        rotate_left
        · simp only [Act.put, List.setIfInBounds_toArray, List.set_cons_zero, List.set_cons_succ, i64_w, i32_w]
          rfl
        refine pure_ (i := 12) (N := some 30) (v := ?_) (a' := ?_) #[true, true, true, true, true, true, true, true, true, true, true, false, true, false, false, false] rfl rfl (by kernel_rfl) (fun _ _ _ h => h) (Or.inl ⟨by rfl, ?_⟩) ?_ ?_
        rotate_left
        · intro w'
          go_simp
          with_reducible rfl
        rotate_left
        · simp only [Act.put, List.setIfInBounds_toArray, List.set_cons_zero, List.set_cons_succ, i64_w, i32_w]
          rfl
        refine take_ (i := 11) (N := some 29) (v := ?_) (a' := ?_) #[true, true, true, true, true, true, true, true, true, true, true, true, true, false, false, false] rfl rfl (by kernel_rfl) (fun _ _ _ h => h) (Or.inl ⟨by rfl, ?_⟩) hHeld ?_ ?_
        rotate_left
        · rintro w' ⟨s0, s1⟩
          go_simp
          with_reducible rfl
        rotate_left
        · simp only [Act.put, List.setIfInBounds_toArray, List.set_cons_zero, List.set_cons_succ, i64_w, i32_w]
          rfl
        refine take_ (i := 13) (N := some 31) (v := ?_) (a' := ?_) #[true, true, true, true, true, true, true, true, true, true, true, true, true, true, false, false] rfl rfl (by kernel_rfl) (fun _ _ _ h => h) (Or.inl ⟨by rfl, ?_⟩) hHeld ?_ ?_
        rotate_left
        · rintro w' ⟨s0, s1⟩
          go_simp
          with_reducible rfl
        rotate_left
        · simp only [Act.put, List.setIfInBounds_toArray, List.set_cons_zero, List.set_cons_succ, i64_w, i32_w]
          rfl
        refine pure_ (i := 14) (N := some 32) (v := ?_) (a' := ?_) #[true, true, true, true, true, true, true, true, true, true, true, true, true, true, true, false] rfl rfl (by kernel_rfl) (fun _ _ _ h => h) (Or.inl ⟨by rfl, ?_⟩) ?_ ?_
        rotate_left
        · intro w'
          go_simp
          with_reducible rfl
        rotate_left
        · simp only [Act.put, List.setIfInBounds_toArray, List.set_cons_zero, List.set_cons_succ, i64_w, i32_w]
          rfl
        refine pure_ (i := 15) (N := some 33) (v := ?_) (a' := ?_) #[true, true, true, true, true, true, true, true, true, true, true, true, true, true, true, true] rfl rfl (by kernel_rfl) (fun _ _ _ h => h) (Or.inl ⟨by rfl, ?_⟩) ?_ ?_
        rotate_left
        · intro w'
          go_simp
          with_reducible rfl
        rotate_left
        · simp only [Act.put, List.setIfInBounds_toArray, List.set_cons_zero, List.set_cons_succ, i64_w, i32_w]
          rfl
        refine done_ (by kernel_rfl) ?_
        have H4 := Aside0.mk (H3.out.drew)
        have b40 : W3.drew.cell? ⟨gb, 0, none⟩ = some (.string x.f0) := b0
        have b41 : W3.drew.cell? ⟨gb, 1, none⟩ = some (.string x.f1) := b1
        obtain ⟨m40, m41, f40, f41⟩ := H4.out.cell m (by have := HMI.out; have := HIN.out; omega) z HZ.out
        generalize W3.drew = W4 at H4 b40 b41 m40 m41 f40 f41 ⊢
        clear b0 b1 m0 m1 f0 f1 H3 X3 y0
        go_upto_region 9 with fail
        obtain ⟨W5, hW5⟩ : ∃ W5, put2 W4 g m x = W5 := ⟨_, rfl⟩
        unfold put2 at hW5
        rw [hW5]
        have H5 := Aside0.mk (show Rw w (some ⟨g, 0, none⟩) n c1 W5 (L.set m x) from hW5 ▸ H4.out.set m (by have := HMI.out; have := HIN.out; omega) x)
        clear hW5
        go_wp2_with fail
        go_roundg k1
        case measure => omega
        case rel =>
          refine ⟨i + 1, L.set m x, ?_, by rw [hw1]; rfl, ⟨by have := HI.out; omega⟩, ⟨?_⟩, H5⟩
          · rw [hw2]
            have e : dedT M (i + 1) = dedT M i ++ [rd_T45 M (i : Int)] := by
              show (if keepAt M i = true then _ else _) = _
              rw [if_pos HK.out]
            rw [e, List.length_append, HMM.out]
            rfl
          · have h := HH.out.step (by rw [HML.out]; exact HIN.out) HK.out
            rw [HMM.out, HX.out] at h; exact h
def attrs_Norm.f (l0 : List S45) : Option (List S45) := if l0.length ≤ 1000000 then some (normP l0) else none
theorem attrs_Norm.calls (A0 : Option Addr) (c0 : Nat) (l0 : List (S45)) (r : List S45) (w : World) (hr0 : Kd.C k45 w A0 l0.length l0) (hc0 : l0.length ≤ c0) (h : attrs_Norm.f l0 = some r) :
    Calls Try.prog 19 #[.slice A0 l0.length c0] w fun e w' => ∃ v0_ : Value, e = .returned (v0_) ∧ Kd.V k45 45 w' w.heap.size (fun k => w.heap.size ≤ k) v0_ r ∧ Below w.heap.size w w' := by
  unfold attrs_Norm.f at h; split at h
  case isFalse => cases h
  rename_i hl
  obtain rfl := Option.some.inj h; refine (norm_walk A0 c0 l0 w hr0 hc0 hl).mono ?_; rintro e w' ⟨A, rfl, hF, hb⟩; exact ⟨_, rfl, ⟨A, _, rfl, Nat.le_refl _, hF⟩, hb⟩
end Go.Proofs.Ytnellpilmjjbcaa.G
namespace Go.Proofs.Ytnellpilmjjbcaa.G
open Go.RowKit Go.Proofs.YtnellpilmjjbcaaW.PrintWords Go.Proofs.YtnellpilmjjbcaaW.PrintLast Go.Proofs.YtnellpilmjjbcaaW.PrintMore
attribute [local go_sem] max2_int min2_int max_two min_two max_three min_three max_four min_four
set_option linter.unusedVariables false
set_option linter.unusedSimpArgs false
attribute [local go_sem high] eqA45
def api_Attr_37.l0 : Nat → List (S45) → List (S45) → Int → Int → Option (Bool)
  | 0, _, _, _, _ => none
  | k + 1, x0, x1, x12, x13 => if x13 < x12 then (if 0 ≤ x13 then (if x13 < (x0.length : Int) then (if x13 < (x1.length : Int) then (if (!((((rd_T45 x0 x13).f0).toList) == (((rd_T45 x1 x13).f0).toList)) || (!((((rd_T45 x0 x13).f1).toList) == (((rd_T45 x1 x13).f1).toList)))) = true then (some false) else (api_Attr_37.l0 k x0 x1 x12 (wrap64 (x13 + 1)))) else (none)) else (none)) else (none)) else (some true)
def api_Attr_37.f (k : Nat) (l0 : List (S45)) (l1 : List (S45)) : Option (Bool) := if (l0.length : Int) = (l1.length : Int) then (api_Attr_37.l0 k l0 l1 (l0.length : Int) 0) else (some false)
set_option maxHeartbeats 8000000 in
set_option maxRecDepth 100000 in
theorem api_Attr_37.calls (k : Nat) (A0 : Option Addr) (c0 : Nat) (l0 : List (S45)) (A1 : Option Addr) (c1 : Nat) (l1 : List (S45)) (r : Bool) (w : World) (hr0 : Kd.C k45 w A0 l0.length l0) (hc0 : l0.length ≤ c0) (hr1 : Kd.C k45 w A1 l1.length l1) (hc1 : l1.length ≤ c1) (h : api_Attr_37.f k l0 l1 = some r) :
    Calls Try.prog 37 #[.slice A0 l0.length c0, .slice A1 l1.length c1] w fun e w' => e = .returned (.bool r) ∧ Drawn0 w w' := by
  have hu45 := Try.underlying45; have HR0 := zk hr0; have HC0 := zk hc0; clear hr0 hc0; have HR1 := zk hr1; have HC1 := zk hc1; clear hr1 hc1; have H : (if (l0.length : Int) = (l1.length : Int) then (api_Attr_37.l0 k l0 l1 (l0.length : Int) 0) else (some false)) = some r := h; clear h
  by_cases c3 : (l0.length : Int) = (l1.length : Int)
  · rw [if_pos c3] at H
    have c3b0 := beq_iff_eq.mpr c3
    have c3b1 := bne_eq_false_iff_eq.mpr c3
    have c3b2 : (l0.length == l1.length) = true := by first | simpa using c3 | (simp at c3 ⊢; omega)
    clear c3
    have H' := zk H
    clear H
    go_enter Try.func37, Try.ntmps37
    go_wp2
    repeat (go_quiet (fail); try go_wp2)
    go_loopg [13] k (fun kq v13 w' => ∃ (x13_1 : Int), v13 = .int .i64 x13_1 ∧ Aside0 (api_Attr_37.l0 kq l0 l1 (l0.length : Int) x13_1 = some r) ∧ Aside0 (kq ≤ k) ∧ Drawn0 w w')
    case atStart => exact ⟨(0), (by first | rfl | (simp; done) | (simp [*]; done)), H', ⟨Nat.le_refl _⟩, by repeat (first | exact Drawn0.refl _ | apply Drawn0.step)⟩
    case round =>
      clear H'; (try clear c1); (try clear p2); (try clear c3); (try clear c3b0); (try clear c3b1); (try clear c3b2); obtain ⟨x13_1, rfl, HA, HK1, ⟨m1, rfl⟩⟩ := hrel
      cases gk with
      | zero => exact absurd HA.out (by simp [api_Attr_37.l0])
      | succ k1 =>
        have H := HA.out; clear HA; simp only [api_Attr_37.l0] at H
        by_cases c4 : x13_1 < (l0.length : Int)
        · rw [if_pos c4] at H
          have c4b0 := decide_eq_true c4
          clear c4
          by_cases c5 : 0 ≤ x13_1
          · rw [if_pos c5] at H
            have c5b0 : decide (0 ≤ x13_1) = true := decide_eq_true c5
            clear c5
            by_cases c6 : x13_1 < (l0.length : Int)
            · rw [if_pos c6] at H
              have c6b0 := decide_eq_true c6
              clear c6
              by_cases c7 : x13_1 < (l1.length : Int)
              · rw [if_pos c7] at H
                have c7b0 := decide_eq_true c7
                clear c7
                by_cases c8 : (!((((rd_T45 l0 x13_1).f0).toList) == (((rd_T45 l1 x13_1).f0).toList)) || (!((((rd_T45 l0 x13_1).f1).toList) == (((rd_T45 l1 x13_1).f1).toList)))) = true
                · rw [if_pos c8] at H
                  have c8b0 : (!((((rd_T45 l0 x13_1).f0).toList) == (((rd_T45 l1 x13_1).f0).toList)) || (!((((rd_T45 l0 x13_1).f1).toList) == (((rd_T45 l1 x13_1).f1).toList)))) = true := c8
                  clear c8
                  obtain rfl := Option.some.inj H
                  have p186 : 0 ≤ (x13_1 : Int) := zo (by assumption)
                  have q186 : x13_1 < (l0.length : Int) := zo (by assumption)
                  obtain ⟨ad186, e186, hx186_0, hx186_1⟩ := at_T45 HR0.out x13_1 p186 q186
                  cases e186
                  replace p186 := eq_true p186
                  replace q186 := eq_true q186
                  have p187 : 0 ≤ (x13_1 : Int) := zo (by assumption)
                  have q187 : x13_1 < (l1.length : Int) := zo (by assumption)
                  obtain ⟨ad187, e187, hx187_0, hx187_1⟩ := at_T45 HR1.out x13_1 p187 q187
                  cases e187
                  replace p187 := eq_true p187
                  replace q187 := eq_true q187
                  go_wp2
                  repeat (go_quiet (fail); try go_wp2)
                  go_ret
                  exact ⟨by first | rfl | (simp; done) | (simp [*]; done), by repeat (first | exact Drawn0.refl _ | apply Drawn0.step)⟩
                · rw [if_neg c8] at H
                  have c8b0 : (!((((rd_T45 l0 x13_1).f0).toList) == (((rd_T45 l1 x13_1).f0).toList)) || (!((((rd_T45 l0 x13_1).f1).toList) == (((rd_T45 l1 x13_1).f1).toList)))) = false := by simpa using c8
                  clear c8
                  have H' := zk H
                  clear H
                  have p186 : 0 ≤ (x13_1 : Int) := zo (by assumption)
                  have q186 : x13_1 < (l0.length : Int) := zo (by assumption)
                  obtain ⟨ad186, e186, hx186_0, hx186_1⟩ := at_T45 HR0.out x13_1 p186 q186
                  cases e186
                  replace p186 := eq_true p186
                  replace q186 := eq_true q186
                  have p187 : 0 ≤ (x13_1 : Int) := zo (by assumption)
                  have q187 : x13_1 < (l1.length : Int) := zo (by assumption)
                  obtain ⟨ad187, e187, hx187_0, hx187_1⟩ := at_T45 HR1.out x13_1 p187 q187
                  cases e187
                  replace p187 := eq_true p187
                  replace q187 := eq_true q187
                  go_wp2
                  repeat (go_quiet (fail); try go_wp2)
                  go_roundg k1
                  case measure => have := HK1.out; omega
                  case rel => exact ⟨(wrap64 (x13_1 + 1)), (by first | rfl | (simp; done) | (simp [*]; done)), H', ⟨by have := HK1.out; omega⟩, by repeat (first | exact Drawn0.refl _ | apply Drawn0.step)⟩
              · rw [if_neg c7] at H
                exact absurd H (by simp)
            · rw [if_neg c6] at H
              exact absurd H (by simp)
          · rw [if_neg c5] at H
            exact absurd H (by simp)
        · rw [if_neg c4] at H
          have c4b0 := decide_eq_false c4
          clear c4
          obtain rfl := Option.some.inj H
          go_wp2
          repeat (go_quiet (fail); try go_wp2)
          go_ret
          exact ⟨by first | rfl | (simp; done) | (simp [*]; done), by repeat (first | exact Drawn0.refl _ | apply Drawn0.step)⟩
  · rw [if_neg c3] at H
    have c3b0 := beq_eq_false_iff_ne.mpr c3
    have c3b1 := bne_iff_ne.mpr c3
    have c3b2 : (l0.length == l1.length) = false := by first | simpa using c3 | (simp at c3 ⊢; omega)
    obtain rfl := Option.some.inj H
    go_enter Try.func37, Try.ntmps37
    go_wp2
    repeat (go_quiet (fail); try go_wp2)
    go_ret
    exact ⟨by first | rfl | (simp; done) | (simp [*]; done), by repeat (first | exact Drawn0.refl _ | apply Drawn0.step)⟩
def attrs_Same.f (k : Nat) (l0 : List (S45)) (l1 : List (S45)) : Option (Bool) := (api_Attr_37.f k l0 l1).bind fun t188 => (some t188)
set_option maxHeartbeats 8000000 in
set_option maxRecDepth 100000 in
theorem attrs_Same.calls (k : Nat) (A0 : Option Addr) (c0 : Nat) (l0 : List (S45)) (A1 : Option Addr) (c1 : Nat) (l1 : List (S45)) (r : Bool) (w : World) (hr0 : Kd.C k45 w A0 l0.length l0) (hc0 : l0.length ≤ c0) (hr1 : Kd.C k45 w A1 l1.length l1) (hc1 : l1.length ≤ c1) (h : attrs_Same.f k l0 l1 = some r) :
    Calls Try.prog 21 #[.slice A0 l0.length c0, .slice A1 l1.length c1] w fun e w' => e = .returned (.bool r) ∧ Drawn0 w w' := by
  have HR0 := zk hr0; have HC0 := zk hc0; clear hr0 hc0; have HR1 := zk hr1; have HC1 := zk hc1; clear hr1 hc1; have H : ((api_Attr_37.f k l0 l1).bind fun t188 => (some t188)) = some r := h; clear h; replace H := Option.bind_eq_some_iff.mp H; obtain ⟨t188, A30, H⟩ := H; replace H : (some t188) = some r := H; have A3 := zk A30; clear A30; obtain rfl := Option.some.inj H
  go_enter Try.func21, Try.ntmps21
  go_wp2_with (first | ((with_reducible refine zgk (f := 37) rfl ?_); refine zgl (some 7) rfl rfl Try.func37 (by kernel_rfl) rfl #[.slice A0 l0.length c0, .slice A1 l1.length c1] rfl (by (try simp only [List.map_toArray, List.map_cons, List.map_nil]); first | done | rfl | (simp only [List.length_drop, List.length_take]; rfl)) ?_; (with_reducible refine (api_Attr_37.calls k _ _ l0 _ _ l1 t188 _ ?side1 ?side2 ?side3 ?side4 A3.out).mono ?_); (case side1 => repeat (first | exact HR0.out | (with_reducible refine Kd.C_alloc ?_ _) | (with_reducible refine Kd.C_drewN ?_ _) | (with_reducible refine Kd.C_drew ?_))); (case side2 => exact HC0.out); (case side3 => repeat (first | exact HR1.out | (with_reducible refine Kd.C_alloc ?_ _) | (with_reducible refine Kd.C_drewN ?_ _) | (with_reducible refine Kd.C_drew ?_))); (case side4 => exact HC1.out); rintro e w' ⟨rfl, ⟨nd, rfl⟩⟩; refine ⟨_, rfl, ?_⟩))
  go_ret; exact ⟨by first | rfl | (simp; done) | (simp [*]; done), by repeat (first | exact Drawn0.refl _ | apply Drawn0.step)⟩
mutual
def lw_AttrsNorm.j0 : Nat → List (S45) → List (S45) → Bool → Option (Bool)
 | 0, _, _, _ => none
 | k + 1, x0, x1, x13 => if x13 = true then ((lw_same.f k).bind fun t191 => (some t191)) else ((attrs_Norm.f x0).bind fun t192 => ((r09_Norm.f k x0).bind fun t195 => ((pl_Attrs.f k t192 t195).bind fun t198 => (if t198 = true then ((attrs_Same.f k x0 x1).bind fun t199 => ((pl_Attrs.f k x0 x1).bind fun t200 => (if (t199 != t200) = true then (lw_AttrsNorm.j1 k x0 t192 true) else ((attrs_Same.f k t192 t192).bind fun t201 => (lw_AttrsNorm.j1 k x0 t192 (!t201)))))) else (lw_AttrsNorm.j1 k x0 t192 true)))))
def lw_AttrsNorm.j1 : Nat → List (S45) → List (S45) → Bool → Option (Bool)
 | 0, _, _, _ => none
 | k + 1, x0, x5, x36 => if x36 = true then (some false) else ((r09_Check.f k x0).bind fun bt202 => (if bt202.2 = 0 then ((attrs_Same.f k x5 x0).bind fun t204 => (if t204 = true then ((lw_same.f k).bind fun t205 => (some t205)) else (some false))) else ((lw_same.f k).bind fun t206 => (some t206))))
end
def lw_AttrsNorm.f (k : Nat) (l0 : List (S45)) (l1 : List (S45)) : Option (Bool) := (lw_heavy.f k l0).bind fun t189 => (if t189 = true then (lw_AttrsNorm.j0 k l0 l1 true) else ((lw_heavy.f k l1).bind fun t190 => (lw_AttrsNorm.j0 k l0 l1 t190)))
set_option maxHeartbeats 8000000 in
set_option maxRecDepth 100000 in
theorem lw_AttrsNorm.calls (k : Nat) (A0 : Option Addr) (c0 : Nat) (l0 : List (S45)) (A1 : Option Addr) (c1 : Nat) (l1 : List (S45)) (r : Bool) (w : World) (hr0 : Kd.C k45 w A0 l0.length l0) (hc0 : l0.length ≤ c0) (hr1 : Kd.C k45 w A1 l1.length l1) (hc1 : l1.length ≤ c1) (h : lw_AttrsNorm.f k l0 l1 = some r) :
  Calls Try.prog 6 #[.slice A0 l0.length c0, .slice A1 l1.length c1] w fun e w' => e = .returned (.bool r) ∧ Below w.heap.size w w' := by
 have HR0 := zk hr0
 have HC0 := zk hc0
 clear hr0 hc0
 have HR1 := zk hr1
 have HC1 := zk hc1
 clear hr1 hc1
 have HB := zk (Below.refl w.heap.size w)
 have H : ((lw_heavy.f k l0).bind fun t189 => (if t189 = true then (lw_AttrsNorm.j0 k l0 l1 true) else ((lw_heavy.f k l1).bind fun t190 => (lw_AttrsNorm.j0 k l0 l1 t190)))) = some r := h
 clear h
 have HC3 := zk H
 clear H
 go_enter Try.func6, Try.ntmps6
 go_upto_region 1 with (fail)
 go_cut [13] (fun v13 wc => ∃ (kq : Nat) (x13_2 : Bool), v13 = .bool x13_2 ∧ Aside0 (lw_AttrsNorm.j0 kq l0 l1 x13_2 = some r) ∧ Aside0 (kq ≤ k) ∧ Aside0 (Below w.heap.size w wc))
 case first =>
  have H := HC3.out; clear HC3; replace H := Option.bind_eq_some_iff.mp H; obtain ⟨t189, A40, H⟩ := H; replace H : (if t189 = true then (lw_AttrsNorm.j0 k l0 l1 true) else ((lw_heavy.f k l1).bind fun t190 => (lw_AttrsNorm.j0 k l0 l1 t190))) = some r := H; have A4 := zk A40; clear A40
  by_cases c5 : t189 = true
  ·
   subst c5
   have H1 : (lw_AttrsNorm.j0 k l0 l1 true) = some r := by rw [if_pos rfl] at H; exact H
   clear H; have H := H1; clear H1; have H' := zk H; clear H
   go_wp2_with (first | ((with_reducible refine zgk (f := 7) rfl ?_); refine zgl (some 9) rfl rfl Try.func7 (by kernel_rfl) rfl #[.slice A0 l0.length c0] rfl (by (try simp only [List.map_toArray, List.map_cons, List.map_nil]); first | done | rfl | (simp only [List.length_drop, List.length_take]; rfl)) ?_; (with_reducible refine (lw_heavy.calls k (fun k_ => k_ < w.heap.size) _ _ l0 true _ ?side1 A4.out).mono ?_); (case side1 => exact Kd.V_mk HC0.out (Kd.F_below (Kd.C_F k45_heap HR0.out) (by with_reducible repeat first | exact HB.out | apply zA | apply zN | apply zD))); rintro e w6 ⟨rfl, hb⟩; refine ⟨_, rfl, ?_⟩; have n0_ := zk (zs (by with_reducible repeat first | exact HB.out | apply zA | apply zN | apply zD) hb); clear HB; have HB := n0_; clear n0_; (try clear hb); (try clear hb2); (try clear hk); (try clear hi)))
   go_meet
   case rel => exact ⟨_, (true), (by first | rfl | (simp; done) | (simp [*]; done)), H', ⟨by first | omega | exact Nat.le_refl _⟩, ⟨by with_reducible repeat first | exact HB.out | apply zA | apply zN | apply zD⟩⟩
  ·
   replace c5 := Bool.eq_false_iff.mpr c5; subst c5
   have H1 : ((lw_heavy.f k l1).bind fun t190 => (lw_AttrsNorm.j0 k l0 l1 t190)) = some r := by rw [if_neg (show ¬ (false = true) by decide)] at H; exact H
   clear H; have H := H1; clear H1; replace H := Option.bind_eq_some_iff.mp H; obtain ⟨t190, A70, H⟩ := H; replace H : (lw_AttrsNorm.j0 k l0 l1 t190) = some r := H; have A7 := zk A70; clear A70; have H' := zk H; clear H
   go_wp2_with (first | ((with_reducible refine zgk (f := 7) rfl ?_); refine zgl (some 9) rfl rfl Try.func7 (by kernel_rfl) rfl #[.slice A0 l0.length c0] rfl (by (try simp only [List.map_toArray, List.map_cons, List.map_nil]); first | done | rfl | (simp only [List.length_drop, List.length_take]; rfl)) ?_; (with_reducible refine (lw_heavy.calls k (fun k_ => k_ < w.heap.size) _ _ l0 false _ ?side1 A4.out).mono ?_); (case side1 => exact Kd.V_mk HC0.out (Kd.F_below (Kd.C_F k45_heap HR0.out) (by with_reducible repeat first | exact HB.out | apply zA | apply zN | apply zD))); rintro e w8 ⟨rfl, hb⟩; refine ⟨_, rfl, ?_⟩; have n0_ := zk (zs (by with_reducible repeat first | exact HB.out | apply zA | apply zN | apply zD) hb); clear HB; have HB := n0_; clear n0_; (try clear hb); (try clear hb2); (try clear hk); (try clear hi)) | (go_at_call 7; (with_reducible refine (lw_heavy.calls k (fun k_ => k_ < w.heap.size) _ _ l1 t190 _ ?side1 A7.out).mono ?_); (case side1 => exact Kd.V_mk HC1.out (Kd.F_below (Kd.C_F k45_heap HR1.out) (by with_reducible repeat first | exact HB.out | apply zA | apply zN | apply zD))); rintro e w9 ⟨rfl, hb⟩; have n0_ := zk (zs (by with_reducible repeat first | exact HB.out | apply zA | apply zN | apply zD) hb); clear HB; have HB := n0_; clear n0_; (try clear hb); (try clear hb2); (try clear hk); (try clear hi)))
   go_meet
   case rel => exact ⟨_, (t190), (by first | rfl | (simp; done) | (simp [*]; done)), H', ⟨by first | omega | exact Nat.le_refl _⟩, ⟨by with_reducible repeat first | exact HB.out | apply zA | apply zN | apply zD⟩⟩
 case rest =>
  clear HC3; (try clear c1); (try clear p2); (try clear c5); (try clear c6); (try clear c7); obtain ⟨kq, x13_2, rfl, HA, HJ2, HB⟩ := hcut
  cases kq with
  | zero => exact absurd HA.out (by simp [lw_AttrsNorm.j0])
  | succ kj2 =>
   have H := HA.out; clear HA; simp only [lw_AttrsNorm.j0] at H
   by_cases c10 : x13_2 = true
   ·
    subst c10
    have H1 : ((lw_same.f kj2).bind fun t191 => (some t191)) = some r := by rw [if_pos rfl] at H; exact H
    clear H; have H := H1; clear H1; replace H := Option.bind_eq_some_iff.mp H; obtain ⟨t191, A110, H⟩ := H; replace H : (some t191) = some r := H; have A11 := zk A110; clear A110; obtain rfl := Option.some.inj H
    go_wp2_with (first | ((with_reducible refine zgk (f := 8) rfl ?_); refine zgl (some 14) rfl rfl Try.func8 (by kernel_rfl) rfl #[] rfl (by (try simp only [List.map_toArray, List.map_cons, List.map_nil]); first | done | rfl | (simp only [List.length_drop, List.length_take]; rfl)) ?_; (with_reducible refine (lw_same.calls kj2  t191 _ A11.out).mono ?_); rintro e w12 ⟨rfl, hb⟩; refine ⟨_, rfl, ?_⟩; have n0_ := zk (zs (by with_reducible repeat first | exact HB.out | apply zA | apply zN | apply zD) hb); clear HB; have HB := n0_; clear n0_; (try clear hb); (try clear hb2); (try clear hk); (try clear hi)))
    go_ret; exact ⟨by first | rfl | (simp [wN, wS] <;> rfl) | (simp [*, wN, wS] <;> rfl), by with_reducible repeat first | exact HB.out | apply zA | apply zN | apply zD⟩
   ·
    replace c10 := Bool.eq_false_iff.mpr c10; subst c10
    have H1 : ((attrs_Norm.f l0).bind fun t192 => ((r09_Norm.f kj2 l0).bind fun t195 => ((pl_Attrs.f kj2 t192 t195).bind fun t198 => (if t198 = true then ((attrs_Same.f kj2 l0 l1).bind fun t199 => ((pl_Attrs.f kj2 l0 l1).bind fun t200 => (if (t199 != t200) = true then (lw_AttrsNorm.j1 kj2 l0 t192 true) else ((attrs_Same.f kj2 t192 t192).bind fun t201 => (lw_AttrsNorm.j1 kj2 l0 t192 (!t201)))))) else (lw_AttrsNorm.j1 kj2 l0 t192 true))))) = some r := by rw [if_neg (show ¬ (false = true) by decide)] at H; exact H
    clear H; have H := H1; clear H1; replace H := Option.bind_eq_some_iff.mp H; obtain ⟨t192, A130, H⟩ := H; replace H : ((r09_Norm.f kj2 l0).bind fun t195 => ((pl_Attrs.f kj2 t192 t195).bind fun t198 => (if t198 = true then ((attrs_Same.f kj2 l0 l1).bind fun t199 => ((pl_Attrs.f kj2 l0 l1).bind fun t200 => (if (t199 != t200) = true then (lw_AttrsNorm.j1 kj2 l0 t192 true) else ((attrs_Same.f kj2 t192 t192).bind fun t201 => (lw_AttrsNorm.j1 kj2 l0 t192 (!t201)))))) else (lw_AttrsNorm.j1 kj2 l0 t192 true)))) = some r := H; have A13 := zk A130; clear A130; have HC14 := zk H; clear H
    go_upto_region 4 with (first | ((with_reducible refine zgk (f := 19) rfl ?_); refine zgl (some 16) rfl rfl Try.func19 (by kernel_rfl) rfl #[.slice A0 l0.length c0] rfl (by (try simp only [List.map_toArray, List.map_cons, List.map_nil]); first | done | rfl | (simp only [List.length_drop, List.length_take]; rfl)) ?_; (with_reducible refine (attrs_Norm.calls _ _ l0 t192 _ ?side1 ?side2 A13.out).mono ?_); (case side1 => repeat (first | exact (Kd.C_below HR0.out HB.out) | (with_reducible refine Kd.C_alloc ?_ _) | (with_reducible refine Kd.C_drewN ?_ _) | (with_reducible refine Kd.C_drew ?_))); (case side2 => exact HC0.out); rintro e w15 ⟨v193, rfl, ho0, hb⟩; refine ⟨_, rfl, ?_⟩; have n0_ := zk (Kd.V_lower (Kd.V_mono (ok' := fun k_ => True) ho0 (fun k_ hk_ => trivial)) (zq (by with_reducible repeat first | exact HB.out | apply zA | apply zN | apply zD))); have n1_ := zk (zs (by with_reducible repeat first | exact HB.out | apply zA | apply zN | apply zD) hb); clear HB; have HO194 := n0_; have HB := n1_; clear n0_ n1_; (try clear hb); (try clear hb2); (try clear hk); (try clear hi); (try clear ho0)))
    (try simp only [Act.put, List.setIfInBounds_toArray, List.set_cons_zero, List.set_cons_succ])
    go_cut [36] (fun v36 wc => ∃ (kq : Nat) (x36_13 : Bool), v36 = .bool x36_13 ∧ Aside0 (lw_AttrsNorm.j1 kq l0 t192 x36_13 = some r) ∧ Aside0 (kq ≤ kj2) ∧ Aside0 (Kd.V k45 45 wc w.heap.size (fun _ => True) v193 t192) ∧ Aside0 (Below w.heap.size w wc))
    case first =>
     have H := HC14.out; clear HC14; replace H := Option.bind_eq_some_iff.mp H; obtain ⟨t195, A160, H⟩ := H; replace H : ((pl_Attrs.f kj2 t192 t195).bind fun t198 => (if t198 = true then ((attrs_Same.f kj2 l0 l1).bind fun t199 => ((pl_Attrs.f kj2 l0 l1).bind fun t200 => (if (t199 != t200) = true then (lw_AttrsNorm.j1 kj2 l0 t192 true) else ((attrs_Same.f kj2 t192 t192).bind fun t201 => (lw_AttrsNorm.j1 kj2 l0 t192 (!t201)))))) else (lw_AttrsNorm.j1 kj2 l0 t192 true))) = some r := H; have A16 := zk A160; clear A160; replace H := Option.bind_eq_some_iff.mp H; obtain ⟨t198, A170, H⟩ := H; replace H : (if t198 = true then ((attrs_Same.f kj2 l0 l1).bind fun t199 => ((pl_Attrs.f kj2 l0 l1).bind fun t200 => (if (t199 != t200) = true then (lw_AttrsNorm.j1 kj2 l0 t192 true) else ((attrs_Same.f kj2 t192 t192).bind fun t201 => (lw_AttrsNorm.j1 kj2 l0 t192 (!t201)))))) else (lw_AttrsNorm.j1 kj2 l0 t192 true)) = some r := H; have A17 := zk A170; clear A170
     by_cases c18 : t198 = true
     ·
      subst c18
      have H1 : ((attrs_Same.f kj2 l0 l1).bind fun t199 => ((pl_Attrs.f kj2 l0 l1).bind fun t200 => (if (t199 != t200) = true then (lw_AttrsNorm.j1 kj2 l0 t192 true) else ((attrs_Same.f kj2 t192 t192).bind fun t201 => (lw_AttrsNorm.j1 kj2 l0 t192 (!t201)))))) = some r := by rw [if_pos rfl] at H; exact H
      clear H; have H := H1; clear H1; replace H := Option.bind_eq_some_iff.mp H; obtain ⟨t199, A190, H⟩ := H; replace H : ((pl_Attrs.f kj2 l0 l1).bind fun t200 => (if (t199 != t200) = true then (lw_AttrsNorm.j1 kj2 l0 t192 true) else ((attrs_Same.f kj2 t192 t192).bind fun t201 => (lw_AttrsNorm.j1 kj2 l0 t192 (!t201))))) = some r := H; have A19 := zk A190; clear A190; replace H := Option.bind_eq_some_iff.mp H; obtain ⟨t200, A200, H⟩ := H; replace H : (if (t199 != t200) = true then (lw_AttrsNorm.j1 kj2 l0 t192 true) else ((attrs_Same.f kj2 t192 t192).bind fun t201 => (lw_AttrsNorm.j1 kj2 l0 t192 (!t201)))) = some r := H; have A20 := zk A200; clear A200
      by_cases c21 : (t199 != t200) = true
      ·
       rw [if_pos c21] at H; have c21b0 : (t199 != t200) = true := c21
       (try (have c21b1 : decide (t199 = t200) = false := by simpa using c21))
       (try (have c21b2 : (t199 == t200) = false := by simpa using c21))
       (try (have c21b3 : ¬ (t199 = t200) := by simpa using c21))
       clear c21
       (first | rw [c21b0] | (simp only [i64_w, i32_w]; rw [c21b0]) | skip)
       have H' := zk H; clear H
       go_wp2_with (first | ((with_reducible refine zgk (f := 20) rfl ?_); refine zgl (some 19) rfl rfl Try.func20 (by kernel_rfl) rfl #[.slice A0 l0.length c0] rfl (by (try simp only [List.map_toArray, List.map_cons, List.map_nil]); first | done | rfl | (simp only [List.length_drop, List.length_take]; rfl)) ?_; (with_reducible refine (r09_Norm.calls kj2 _ _ l0 t195 _ ?side1 ?side2 A16.out).mono ?_); (case side1 => repeat (first | exact (Kd.C_below HR0.out HB.out) | (with_reducible refine Kd.C_alloc ?_ _) | (with_reducible refine Kd.C_drewN ?_ _) | (with_reducible refine Kd.C_drew ?_))); (case side2 => exact HC0.out); rintro e w22 ⟨v196, rfl, ho0, hb⟩; refine ⟨_, rfl, ?_⟩; have n0_ := zk (Kd.V_elder' (by (with_reducible repeat (first | apply Kd.V_alloc | apply Kd.V_drewN | apply Kd.V_drew)); exact HO194.out) (Kd.R_base ho0) hb); have n1_ := zk (Kd.R_lower ho0 (zq (by with_reducible repeat first | exact HB.out | apply zA | apply zN | apply zD))); have n2_ := zk (zs (by with_reducible repeat first | exact HB.out | apply zA | apply zN | apply zD) hb); clear HO194; clear HB; have HO194 := n0_; have HO197 := n1_; have HB := n2_; clear n0_ n1_ n2_; (try clear hb); (try clear hb2); (try clear hk); (try clear hi); (try clear ho0); obtain ⟨Ao23, co23, eo23⟩ := Kd.V_slice HO194.out; subst eo23; obtain ⟨Ao24, co24, eo24⟩ := Kd.R_slice HO197.out; subst eo24) | ((with_reducible refine zgk (f := 16) rfl ?_); refine zgl (some 20) rfl rfl Try.func16 (by kernel_rfl) rfl #[.slice Ao23 t192.length co23, .slice Ao24 t195.length co24] rfl (by (try simp only [List.map_toArray, List.map_cons, List.map_nil]); first | done | rfl | (simp only [List.length_drop, List.length_take]; rfl)) ?_; (with_reducible refine (pl_Attrs.calls kj2 _ _ t192 _ _ t195 true _ ?side1 ?side2 ?side3 ?side4 A17.out).mono ?_); (case side1 => repeat (first | exact (Kd.V_reads' HO194.out).2.2 | (with_reducible refine Kd.C_alloc ?_ _) | (with_reducible refine Kd.C_drewN ?_ _) | (with_reducible refine Kd.C_drew ?_))); (case side2 => exact (Kd.V_reads' HO194.out).2.1); (case side3 => repeat (first | exact (Kd.R_reads' HO197.out).2.2 | (with_reducible refine Kd.C_alloc ?_ _) | (with_reducible refine Kd.C_drewN ?_ _) | (with_reducible refine Kd.C_drew ?_))); (case side4 => exact (Kd.R_reads' HO197.out).2.1); rintro e w' ⟨rfl, ⟨nd, rfl⟩⟩; refine ⟨_, rfl, ?_⟩) | (go_at_call 21; (with_reducible refine (attrs_Same.calls kj2 _ _ l0 _ _ l1 t199 _ ?side1 ?side2 ?side3 ?side4 A19.out).mono ?_); (case side1 => repeat (first | exact (Kd.C_below HR0.out (by with_reducible repeat first | exact HB.out | apply zA | apply zN | apply zD)) | (with_reducible refine Kd.C_alloc ?_ _) | (with_reducible refine Kd.C_drewN ?_ _) | (with_reducible refine Kd.C_drew ?_))); (case side2 => exact HC0.out); (case side3 => repeat (first | exact (Kd.C_below HR1.out (by with_reducible repeat first | exact HB.out | apply zA | apply zN | apply zD)) | (with_reducible refine Kd.C_alloc ?_ _) | (with_reducible refine Kd.C_drewN ?_ _) | (with_reducible refine Kd.C_drew ?_))); (case side4 => exact HC1.out); rintro e w' ⟨rfl, ⟨nd, rfl⟩⟩) | (go_at_call 16; (with_reducible refine (pl_Attrs.calls kj2 _ _ l0 _ _ l1 t200 _ ?side1 ?side2 ?side3 ?side4 A20.out).mono ?_); (case side1 => repeat (first | exact (Kd.C_below HR0.out (by with_reducible repeat first | exact HB.out | apply zA | apply zN | apply zD)) | (with_reducible refine Kd.C_alloc ?_ _) | (with_reducible refine Kd.C_drewN ?_ _) | (with_reducible refine Kd.C_drew ?_))); (case side2 => exact HC0.out); (case side3 => repeat (first | exact (Kd.C_below HR1.out (by with_reducible repeat first | exact HB.out | apply zA | apply zN | apply zD)) | (with_reducible refine Kd.C_alloc ?_ _) | (with_reducible refine Kd.C_drewN ?_ _) | (with_reducible refine Kd.C_drew ?_))); (case side4 => exact HC1.out); rintro e w' ⟨rfl, ⟨nd, rfl⟩⟩))
       go_meet
       case rel => exact ⟨_, (true), (by first | rfl | (simp; done) | (simp [*]; done)), H', ⟨by have := HJ2.out; first | omega | exact Nat.le_refl _⟩, ⟨by (with_reducible repeat (first | apply Kd.V_alloc | apply Kd.V_drewN | apply Kd.V_drew)); exact Kd.V_mono HO194.out (fun _ hk => trivial)⟩, ⟨by with_reducible repeat first | exact HB.out | apply zA | apply zN | apply zD⟩⟩
      ·
       rw [if_neg c21] at H
       have c21b0 : (t199 != t200) = false := by simpa using c21
       (try (have c21b1 : decide (t199 = t200) = true := by simpa using c21))
       (try (have c21b2 : (t199 == t200) = true := by simpa using c21))
       clear c21
       (first | rw [c21b0] | (simp only [i64_w, i32_w]; rw [c21b0]) | skip)
       replace H := Option.bind_eq_some_iff.mp H; obtain ⟨t201, A250, H⟩ := H; replace H : (lw_AttrsNorm.j1 kj2 l0 t192 (!t201)) = some r := H; have A25 := zk A250; clear A250; have H' := zk H; clear H
       go_wp2_with (first | ((with_reducible refine zgk (f := 20) rfl ?_); refine zgl (some 19) rfl rfl Try.func20 (by kernel_rfl) rfl #[.slice A0 l0.length c0] rfl (by (try simp only [List.map_toArray, List.map_cons, List.map_nil]); first | done | rfl | (simp only [List.length_drop, List.length_take]; rfl)) ?_; (with_reducible refine (r09_Norm.calls kj2 _ _ l0 t195 _ ?side1 ?side2 A16.out).mono ?_); (case side1 => repeat (first | exact (Kd.C_below HR0.out HB.out) | (with_reducible refine Kd.C_alloc ?_ _) | (with_reducible refine Kd.C_drewN ?_ _) | (with_reducible refine Kd.C_drew ?_))); (case side2 => exact HC0.out); rintro e w26 ⟨v196, rfl, ho0, hb⟩; refine ⟨_, rfl, ?_⟩; have n0_ := zk (Kd.V_elder' (by (with_reducible repeat (first | apply Kd.V_alloc | apply Kd.V_drewN | apply Kd.V_drew)); exact HO194.out) (Kd.R_base ho0) hb); have n1_ := zk (Kd.R_lower ho0 (zq (by with_reducible repeat first | exact HB.out | apply zA | apply zN | apply zD))); have n2_ := zk (zs (by with_reducible repeat first | exact HB.out | apply zA | apply zN | apply zD) hb); clear HO194; clear HB; have HO194 := n0_; have HO197 := n1_; have HB := n2_; clear n0_ n1_ n2_; (try clear hb); (try clear hb2); (try clear hk); (try clear hi); (try clear ho0); obtain ⟨Ao27, co27, eo27⟩ := Kd.V_slice HO194.out; subst eo27; obtain ⟨Ao28, co28, eo28⟩ := Kd.R_slice HO197.out; subst eo28) | ((with_reducible refine zgk (f := 16) rfl ?_); refine zgl (some 20) rfl rfl Try.func16 (by kernel_rfl) rfl #[.slice Ao27 t192.length co27, .slice Ao28 t195.length co28] rfl (by (try simp only [List.map_toArray, List.map_cons, List.map_nil]); first | done | rfl | (simp only [List.length_drop, List.length_take]; rfl)) ?_; (with_reducible refine (pl_Attrs.calls kj2 _ _ t192 _ _ t195 true _ ?side1 ?side2 ?side3 ?side4 A17.out).mono ?_); (case side1 => repeat (first | exact (Kd.V_reads' HO194.out).2.2 | (with_reducible refine Kd.C_alloc ?_ _) | (with_reducible refine Kd.C_drewN ?_ _) | (with_reducible refine Kd.C_drew ?_))); (case side2 => exact (Kd.V_reads' HO194.out).2.1); (case side3 => repeat (first | exact (Kd.R_reads' HO197.out).2.2 | (with_reducible refine Kd.C_alloc ?_ _) | (with_reducible refine Kd.C_drewN ?_ _) | (with_reducible refine Kd.C_drew ?_))); (case side4 => exact (Kd.R_reads' HO197.out).2.1); rintro e w' ⟨rfl, ⟨nd, rfl⟩⟩; refine ⟨_, rfl, ?_⟩) | (go_at_call 21; (with_reducible refine (attrs_Same.calls kj2 _ _ l0 _ _ l1 t199 _ ?side1 ?side2 ?side3 ?side4 A19.out).mono ?_); (case side1 => repeat (first | exact (Kd.C_below HR0.out (by with_reducible repeat first | exact HB.out | apply zA | apply zN | apply zD)) | (with_reducible refine Kd.C_alloc ?_ _) | (with_reducible refine Kd.C_drewN ?_ _) | (with_reducible refine Kd.C_drew ?_))); (case side2 => exact HC0.out); (case side3 => repeat (first | exact (Kd.C_below HR1.out (by with_reducible repeat first | exact HB.out | apply zA | apply zN | apply zD)) | (with_reducible refine Kd.C_alloc ?_ _) | (with_reducible refine Kd.C_drewN ?_ _) | (with_reducible refine Kd.C_drew ?_))); (case side4 => exact HC1.out); rintro e w' ⟨rfl, ⟨nd, rfl⟩⟩) | (go_at_call 16; (with_reducible refine (pl_Attrs.calls kj2 _ _ l0 _ _ l1 t200 _ ?side1 ?side2 ?side3 ?side4 A20.out).mono ?_); (case side1 => repeat (first | exact (Kd.C_below HR0.out (by with_reducible repeat first | exact HB.out | apply zA | apply zN | apply zD)) | (with_reducible refine Kd.C_alloc ?_ _) | (with_reducible refine Kd.C_drewN ?_ _) | (with_reducible refine Kd.C_drew ?_))); (case side2 => exact HC0.out); (case side3 => repeat (first | exact (Kd.C_below HR1.out (by with_reducible repeat first | exact HB.out | apply zA | apply zN | apply zD)) | (with_reducible refine Kd.C_alloc ?_ _) | (with_reducible refine Kd.C_drewN ?_ _) | (with_reducible refine Kd.C_drew ?_))); (case side4 => exact HC1.out); rintro e w' ⟨rfl, ⟨nd, rfl⟩⟩) | (go_at_call 21; (with_reducible refine (attrs_Same.calls kj2 _ _ t192 _ _ t192 t201 _ ?side1 ?side2 ?side3 ?side4 A25.out).mono ?_); (case side1 => repeat (first | exact (Kd.V_reads' HO194.out).2.2 | (with_reducible refine Kd.C_alloc ?_ _) | (with_reducible refine Kd.C_drewN ?_ _) | (with_reducible refine Kd.C_drew ?_))); (case side2 => exact (Kd.V_reads' HO194.out).2.1); (case side3 => repeat (first | exact (Kd.V_reads' HO194.out).2.2 | (with_reducible refine Kd.C_alloc ?_ _) | (with_reducible refine Kd.C_drewN ?_ _) | (with_reducible refine Kd.C_drew ?_))); (case side4 => exact (Kd.V_reads' HO194.out).2.1); rintro e w' ⟨rfl, ⟨nd, rfl⟩⟩))
       go_meet
       case rel => exact ⟨_, (!t201), (by first | rfl | (simp; done) | (simp [*]; done)), H', ⟨by have := HJ2.out; first | omega | exact Nat.le_refl _⟩, ⟨by (with_reducible repeat (first | apply Kd.V_alloc | apply Kd.V_drewN | apply Kd.V_drew)); exact Kd.V_mono HO194.out (fun _ hk => trivial)⟩, ⟨by with_reducible repeat first | exact HB.out | apply zA | apply zN | apply zD⟩⟩
     ·
      replace c18 := Bool.eq_false_iff.mpr c18; subst c18
      have H1 : (lw_AttrsNorm.j1 kj2 l0 t192 true) = some r := by rw [if_neg (show ¬ (false = true) by decide)] at H; exact H
      clear H; have H := H1; clear H1; have H' := zk H; clear H
      go_wp2_with (first | ((with_reducible refine zgk (f := 20) rfl ?_); refine zgl (some 19) rfl rfl Try.func20 (by kernel_rfl) rfl #[.slice A0 l0.length c0] rfl (by (try simp only [List.map_toArray, List.map_cons, List.map_nil]); first | done | rfl | (simp only [List.length_drop, List.length_take]; rfl)) ?_; (with_reducible refine (r09_Norm.calls kj2 _ _ l0 t195 _ ?side1 ?side2 A16.out).mono ?_); (case side1 => repeat (first | exact (Kd.C_below HR0.out HB.out) | (with_reducible refine Kd.C_alloc ?_ _) | (with_reducible refine Kd.C_drewN ?_ _) | (with_reducible refine Kd.C_drew ?_))); (case side2 => exact HC0.out); rintro e w29 ⟨v196, rfl, ho0, hb⟩; refine ⟨_, rfl, ?_⟩; have n0_ := zk (Kd.V_elder' (by (with_reducible repeat (first | apply Kd.V_alloc | apply Kd.V_drewN | apply Kd.V_drew)); exact HO194.out) (Kd.R_base ho0) hb); have n1_ := zk (Kd.R_lower ho0 (zq (by with_reducible repeat first | exact HB.out | apply zA | apply zN | apply zD))); have n2_ := zk (zs (by with_reducible repeat first | exact HB.out | apply zA | apply zN | apply zD) hb); clear HO194; clear HB; have HO194 := n0_; have HO197 := n1_; have HB := n2_; clear n0_ n1_ n2_; (try clear hb); (try clear hb2); (try clear hk); (try clear hi); (try clear ho0); obtain ⟨Ao30, co30, eo30⟩ := Kd.V_slice HO194.out; subst eo30; obtain ⟨Ao31, co31, eo31⟩ := Kd.R_slice HO197.out; subst eo31) | ((with_reducible refine zgk (f := 16) rfl ?_); refine zgl (some 20) rfl rfl Try.func16 (by kernel_rfl) rfl #[.slice Ao30 t192.length co30, .slice Ao31 t195.length co31] rfl (by (try simp only [List.map_toArray, List.map_cons, List.map_nil]); first | done | rfl | (simp only [List.length_drop, List.length_take]; rfl)) ?_; (with_reducible refine (pl_Attrs.calls kj2 _ _ t192 _ _ t195 false _ ?side1 ?side2 ?side3 ?side4 A17.out).mono ?_); (case side1 => repeat (first | exact (Kd.V_reads' HO194.out).2.2 | (with_reducible refine Kd.C_alloc ?_ _) | (with_reducible refine Kd.C_drewN ?_ _) | (with_reducible refine Kd.C_drew ?_))); (case side2 => exact (Kd.V_reads' HO194.out).2.1); (case side3 => repeat (first | exact (Kd.R_reads' HO197.out).2.2 | (with_reducible refine Kd.C_alloc ?_ _) | (with_reducible refine Kd.C_drewN ?_ _) | (with_reducible refine Kd.C_drew ?_))); (case side4 => exact (Kd.R_reads' HO197.out).2.1); rintro e w' ⟨rfl, ⟨nd, rfl⟩⟩; refine ⟨_, rfl, ?_⟩))
      go_meet
      case rel => exact ⟨_, (true), (by first | rfl | (simp; done) | (simp [*]; done)), H', ⟨by have := HJ2.out; first | omega | exact Nat.le_refl _⟩, ⟨by (with_reducible repeat (first | apply Kd.V_alloc | apply Kd.V_drewN | apply Kd.V_drew)); exact Kd.V_mono HO194.out (fun _ hk => trivial)⟩, ⟨by with_reducible repeat first | exact HB.out | apply zA | apply zN | apply zD⟩⟩
    case rest =>
     clear HC14; (try clear c1); (try clear c2); (try clear p2); (try clear c5); (try clear c6); (try clear c7); (try clear c8); (try clear c10); (try clear c16); (try clear c18); (try clear c19); (try clear c20); (try clear c21); (try clear c21b0); (try clear c21b1); (try clear c21b2); (try clear p2); obtain ⟨kq, x36_13, rfl, HA, HJ13, HO_5, HB⟩ := hcut
     cases kq with
     | zero => exact absurd HA.out (by simp [lw_AttrsNorm.j1])
     | succ kj13 =>
      have H := HA.out; clear HA; simp only [lw_AttrsNorm.j1] at H
      by_cases c32 : x36_13 = true
      ·
       subst c32
       have H1 : (some false) = some r := by rw [if_pos rfl] at H; exact H
       clear H; have H := H1; clear H1; obtain rfl := Option.some.inj H; go_wp2; go_ret; exact ⟨by first | rfl | (simp [wN, wS] <;> rfl) | (simp [*, wN, wS] <;> rfl), by with_reducible repeat first | exact HB.out | apply zA | apply zN | apply zD⟩
      ·
       replace c32 := Bool.eq_false_iff.mpr c32; subst c32
       have H1 : ((r09_Check.f kj13 l0).bind fun bt202 => (if bt202.2 = 0 then ((attrs_Same.f kj13 t192 l0).bind fun t204 => (if t204 = true then ((lw_same.f kj13).bind fun t205 => (some t205)) else (some false))) else ((lw_same.f kj13).bind fun t206 => (some t206)))) = some r := by rw [if_neg (show ¬ (false = true) by decide)] at H; exact H
       clear H; have H := H1; clear H1; replace H := Option.bind_eq_some_iff.mp H; obtain ⟨⟨t202, t203⟩, A330, H⟩ := H; replace H : (if t203 = 0 then ((attrs_Same.f kj13 t192 l0).bind fun t204 => (if t204 = true then ((lw_same.f kj13).bind fun t205 => (some t205)) else (some false))) else ((lw_same.f kj13).bind fun t206 => (some t206))) = some r := H; have A33 := zk A330; clear A330
       by_cases c34 : t203 = 0
       ·
        rw [if_pos c34] at H; have c34b0 := beq_iff_eq.mpr c34; have c34b1 := bne_eq_false_iff_eq.mpr c34; clear c34; replace H := Option.bind_eq_some_iff.mp H; obtain ⟨t204, A350, H⟩ := H; replace H : (if t204 = true then ((lw_same.f kj13).bind fun t205 => (some t205)) else (some false)) = some r := H; have A35 := zk A350; clear A350
        by_cases c36 : t204 = true
        ·
         subst c36
         have H1 : ((lw_same.f kj13).bind fun t205 => (some t205)) = some r := by rw [if_pos rfl] at H; exact H
         clear H; have H := H1; clear H1; replace H := Option.bind_eq_some_iff.mp H; obtain ⟨t205, A370, H⟩ := H; replace H : (some t205) = some r := H; have A37 := zk A370; clear A370; obtain rfl := Option.some.inj H
         go_wp2_with (first | ((with_reducible refine zgk (f := 10) rfl ?_); refine zgl (some 39) rfl rfl Try.func10 (by kernel_rfl) rfl #[.slice A0 l0.length c0] rfl (by (try simp only [List.map_toArray, List.map_cons, List.map_nil]); first | done | rfl | (simp only [List.length_drop, List.length_take]; rfl)) ?_; (with_reducible refine (r09_Check.calls kj13 _ _ l0 t202 t203 _ ?side1 ?side2 A33.out).mono ?_); (case side1 => repeat (first | exact (Kd.C_below HR0.out HB.out) | (with_reducible refine Kd.C_alloc ?_ _) | (with_reducible refine Kd.C_drewN ?_ _) | (with_reducible refine Kd.C_drew ?_))); (case side2 => exact HC0.out); rintro e w' ⟨rfl, ⟨nd, rfl⟩⟩; refine ⟨_, rfl, ?_⟩; obtain ⟨Ao38, co38, eo38⟩ := Kd.V_slice HO_5.out; subst eo38) | (go_at_call 21; (with_reducible refine (attrs_Same.calls kj13 _ _ t192 _ _ l0 true _ ?side1 ?side2 ?side3 ?side4 A35.out).mono ?_); (case side1 => repeat (first | exact (Kd.V_reads' HO_5.out).2.2 | (with_reducible refine Kd.C_alloc ?_ _) | (with_reducible refine Kd.C_drewN ?_ _) | (with_reducible refine Kd.C_drew ?_))); (case side2 => exact (Kd.V_reads' HO_5.out).2.1); (case side3 => repeat (first | exact (Kd.C_below HR0.out (by with_reducible repeat first | exact HB.out | apply zA | apply zN | apply zD)) | (with_reducible refine Kd.C_alloc ?_ _) | (with_reducible refine Kd.C_drewN ?_ _) | (with_reducible refine Kd.C_drew ?_))); (case side4 => exact HC0.out); rintro e w' ⟨rfl, ⟨nd, rfl⟩⟩) | (go_at_call 8; (with_reducible refine (lw_same.calls kj13  t205 _ A37.out).mono ?_); rintro e w39 ⟨rfl, hb⟩; have n0_ := zk (Kd.V_below (by (with_reducible repeat (first | apply Kd.V_alloc | apply Kd.V_drewN | apply Kd.V_drew)); exact HO_5.out) hb); have n1_ := zk (zs (by with_reducible repeat first | exact HB.out | apply zA | apply zN | apply zD) hb); clear HO_5; clear HB; have HO_5 := n0_; have HB := n1_; clear n0_ n1_; (try clear hb); (try clear hb2); (try clear hk); (try clear hi)))
         go_ret; exact ⟨by first | rfl | (simp [wN, wS] <;> rfl) | (simp [*, wN, wS] <;> rfl), by with_reducible repeat first | exact HB.out | apply zA | apply zN | apply zD⟩
        ·
         replace c36 := Bool.eq_false_iff.mpr c36; subst c36
         have H1 : (some false) = some r := by rw [if_neg (show ¬ (false = true) by decide)] at H; exact H
         clear H; have H := H1; clear H1; obtain rfl := Option.some.inj H
         go_wp2_with (first | ((with_reducible refine zgk (f := 10) rfl ?_); refine zgl (some 39) rfl rfl Try.func10 (by kernel_rfl) rfl #[.slice A0 l0.length c0] rfl (by (try simp only [List.map_toArray, List.map_cons, List.map_nil]); first | done | rfl | (simp only [List.length_drop, List.length_take]; rfl)) ?_; (with_reducible refine (r09_Check.calls kj13 _ _ l0 t202 t203 _ ?side1 ?side2 A33.out).mono ?_); (case side1 => repeat (first | exact (Kd.C_below HR0.out HB.out) | (with_reducible refine Kd.C_alloc ?_ _) | (with_reducible refine Kd.C_drewN ?_ _) | (with_reducible refine Kd.C_drew ?_))); (case side2 => exact HC0.out); rintro e w' ⟨rfl, ⟨nd, rfl⟩⟩; refine ⟨_, rfl, ?_⟩; obtain ⟨Ao40, co40, eo40⟩ := Kd.V_slice HO_5.out; subst eo40) | (go_at_call 21; (with_reducible refine (attrs_Same.calls kj13 _ _ t192 _ _ l0 false _ ?side1 ?side2 ?side3 ?side4 A35.out).mono ?_); (case side1 => repeat (first | exact (Kd.V_reads' HO_5.out).2.2 | (with_reducible refine Kd.C_alloc ?_ _) | (with_reducible refine Kd.C_drewN ?_ _) | (with_reducible refine Kd.C_drew ?_))); (case side2 => exact (Kd.V_reads' HO_5.out).2.1); (case side3 => repeat (first | exact (Kd.C_below HR0.out (by with_reducible repeat first | exact HB.out | apply zA | apply zN | apply zD)) | (with_reducible refine Kd.C_alloc ?_ _) | (with_reducible refine Kd.C_drewN ?_ _) | (with_reducible refine Kd.C_drew ?_))); (case side4 => exact HC0.out); rintro e w' ⟨rfl, ⟨nd, rfl⟩⟩))
         go_ret; exact ⟨by first | rfl | (simp [wN, wS] <;> rfl) | (simp [*, wN, wS] <;> rfl), by with_reducible repeat first | exact HB.out | apply zA | apply zN | apply zD⟩
       ·
        rw [if_neg c34] at H; have c34b0 := beq_eq_false_iff_ne.mpr c34; have c34b1 := bne_iff_ne.mpr c34; replace H := Option.bind_eq_some_iff.mp H; obtain ⟨t206, A410, H⟩ := H; replace H : (some t206) = some r := H; have A41 := zk A410; clear A410; obtain rfl := Option.some.inj H
        go_wp2_with (first | ((with_reducible refine zgk (f := 10) rfl ?_); refine zgl (some 39) rfl rfl Try.func10 (by kernel_rfl) rfl #[.slice A0 l0.length c0] rfl (by (try simp only [List.map_toArray, List.map_cons, List.map_nil]); first | done | rfl | (simp only [List.length_drop, List.length_take]; rfl)) ?_; (with_reducible refine (r09_Check.calls kj13 _ _ l0 t202 t203 _ ?side1 ?side2 A33.out).mono ?_); (case side1 => repeat (first | exact (Kd.C_below HR0.out HB.out) | (with_reducible refine Kd.C_alloc ?_ _) | (with_reducible refine Kd.C_drewN ?_ _) | (with_reducible refine Kd.C_drew ?_))); (case side2 => exact HC0.out); rintro e w' ⟨rfl, ⟨nd, rfl⟩⟩; refine ⟨_, rfl, ?_⟩) | (go_at_call 8; (with_reducible refine (lw_same.calls kj13  t206 _ A41.out).mono ?_); rintro e w42 ⟨rfl, hb⟩; have n0_ := zk (Kd.V_below (by (with_reducible repeat (first | apply Kd.V_alloc | apply Kd.V_drewN | apply Kd.V_drew)); exact HO_5.out) hb); have n1_ := zk (zs (by with_reducible repeat first | exact HB.out | apply zA | apply zN | apply zD) hb); clear HO_5; clear HB; have HO_5 := n0_; have HB := n1_; clear n0_ n1_; (try clear hb); (try clear hb2); (try clear hk); (try clear hi)))
        go_ret; exact ⟨by first | rfl | (simp [wN, wS] <;> rfl) | (simp [*, wN, wS] <;> rfl), by with_reducible repeat first | exact HB.out | apply zA | apply zN | apply zD⟩
end Go.Proofs.Ytnellpilmjjbcaa.G
namespace Go.Proofs.Ytnellpilmjjbcaa.G
open Go.RowKit Go.Proofs.YtnellpilmjjbcaaW.PrintWords Go.Proofs.YtnellpilmjjbcaaW.PrintLast Go.Proofs.YtnellpilmjjbcaaW.PrintMore
attribute [local go_sem] max2_int min2_int max_two min_two max_three min_three max_four min_four
set_option linter.unusedVariables false
set_option linter.unusedSimpArgs false
end Go.Proofs.Ytnellpilmjjbcaa.G
namespace Go.Proofs.Ytnellpilmjjbcaa.Pure
open Go.RowKit Go.Proofs.Ytnellpilmjjbcaa.G Go.Proofs.YtnellpilmjjbcaaW.PrintWords Go.Proofs.YtnellpilmjjbcaaW.PrintLast
set_option linter.unusedVariables false
def Ev {α : Type} (f : Nat → Option α) (r : α) : Prop := ∃ k0, ∀ k, k0 ≤ k → f k = some r
theorem Ev.all {α : Type} {f : Nat → Option α} {r : α} (h : ∀ k, f k = some r) : Ev f r := ⟨0, fun k _ => h k⟩
theorem Ev.pure {α : Type} (r : α) : Ev (fun _ => some r) r := .all fun _ => rfl
theorem Ev.of {α : Type} {f : Nat → Option α} {r : α} (m : ∀ k, LeO (f k) (f (k + 1))) {k : Nat} (h : f k = some r) : Ev f r :=
  ⟨k, fun j hj => by
    obtain ⟨d, rfl⟩ : ∃ d, j = k + d := ⟨j - k, by omega⟩
    clear hj
    induction d with
    | zero => exact h
    | succ d ih => exact m _ _ ih⟩
theorem Ev.step {α : Type} {f g : Nat → Option α} {r : α} (hg : Ev g r) (h : ∀ k, f (k + 1) = g k) : Ev f r := by
  obtain ⟨k0, hk⟩ := hg; exact ⟨k0 + 1, fun k hk' => by obtain ⟨m, rfl⟩ : ∃ m, k = m + 1 := ⟨k - 1, by omega⟩; rw [h]; exact hk m (by omega)⟩
theorem Ev.eq {α : Type} {f g : Nat → Option α} {r : α} (hg : Ev g r) (h : ∀ k, f k = g k) : Ev f r := by
  obtain ⟨k0, hk⟩ := hg; exact ⟨k0, fun k hk' => by rw [h]; exact hk k hk'⟩
theorem Ev.bind {α β : Type} {f : Nat → Option α} {g : Nat → α → Option β} {a : α} {r : β} (hf : Ev f a) (hg : Ev (fun k => g k a) r) : Ev (fun k => (f k).bind (g k)) r := by
  obtain ⟨k0, h0⟩ := hf; obtain ⟨k1, h1⟩ := hg; exact ⟨max k0 k1, fun k hk => by show (f k).bind (g k) = some r; rw [h0 k (by omega)]; exact h1 k (by omega)⟩
theorem Ev.via {α β : Type} {f : Nat → Option α} {g F : Nat → Option β} {a : α} {r : β} (hf : Ev f a) (hg : Ev g r) (h : ∀ k, f k = some a → F (k + 1) = g k) : Ev F r := by
  obtain ⟨k0, h0⟩ := hf; obtain ⟨k1, h1⟩ := hg; exact ⟨max k0 k1 + 1, fun k hk => by obtain ⟨m, rfl⟩ : ∃ m, k = m + 1 := ⟨k - 1, by omega⟩; rw [h m (h0 m (by omega))]; exact h1 m (by omega)⟩
theorem Ev.via0 {α β : Type} {f : Nat → Option α} {g F : Nat → Option β} {a : α} {r : β} (hf : Ev f a) (hg : Ev g r) (h : ∀ k, f k = some a → F k = g k) : Ev F r := by
  obtain ⟨k0, h0⟩ := hf; obtain ⟨k1, h1⟩ := hg; exact ⟨max k0 k1, fun k hk => by rw [h k (h0 k (by omega))]; exact h1 k (by omega)⟩
theorem Ev.ex {α : Type} {f : Nat → Option α} {r : α} (h : Ev f r) : ∃ k, f k = some r := by
  obtain ⟨k0, hk⟩ := h; exact ⟨k0, hk k0 (Nat.le_refl _)⟩
theorem Ev.uniq {α : Type} {f : Nat → Option α} {r s : α} (h : Ev f r) (h' : Ev f s) : r = s := by
  obtain ⟨k0, h0⟩ := h; obtain ⟨k1, h1⟩ := h'; have := (h0 (max k0 k1) (by omega)).symm.trans (h1 (max k0 k1) (by omega)); injection this
theorem w1 {i : Int} (h0 : -1000000000000000000 ≤ i) (h : i ≤ 1000000000000000000) : wrap64 (i + 1) = i + 1 := by unfold wrap64; omega
theorem wm {i : Int} (h0 : -1000000000000000000 ≤ i) (h : i ≤ 1000000000000000000) : wrap64 (i - 1) = i - 1 := by unfold wrap64; omega
theorem ww {i : Int} (h0 : -9000000000000000000 ≤ i) (h : i ≤ 9000000000000000000) : wrap64 i = i := by unfold wrap64; omega
theorem bt_range (s : ByteArray) (i : Int) : 0 ≤ bt s i ∧ bt s i < 256 := by
  unfold bt; split; (have := UInt8.toNat_lt (s[i.toNat]'(by assumption)); constructor <;> omega); (omega)
/-- Is a byte one of a name's? -/
def inner (c : Int) (f : Bool) : Bool := (decide (97 ≤ c) && decide (c ≤ 122)) || (decide (48 ≤ c) && decide (c ≤ 57)) || (c == 45) || (f && ((c == 58) || (c == 46)))
def extra (f : Bool) : ByteArray := if f then ⟨#[45, 58, 46]⟩ else ⟨#[45]⟩
theorem inner_ref (c : Int) (f : Bool) : r02_inner.f c f = some (inner c f) := by
  unfold r02_inner.f inner
  by_cases h1 : 97 ≤ c <;> by_cases h2 : c ≤ 122 <;> by_cases h3 : 48 ≤ c <;> by_cases h4 : c ≤ 57 <;> by_cases h5 : c = 45 <;> by_cases h6 : c = 58 <;> by_cases h7 : c = 46 <;>
    first
      | (exfalso; omega)
      | (cases f <;> simp [h1, h2, h3, h4, h5, h6, h7, show (c == 45) = decide (c = 45) from rfl, show (c == 58) = decide (c = 58) from rfl, show (c == 46) = decide (c = 46) from rfl])
theorem index_extra (f : Bool) : ∀ n : Fin 256, (decide (Lib.indexByte (extra f).data.toList n.1.toUInt8 < 0)) = !((n.1 == 45) || (f && ((n.1 == 58) || (n.1 == 46)))) := by
  cases f <;> decide +kernel
theorem index_lt (c : Int) (h0 : 0 ≤ c) (h1 : c < 256) (f : Bool) : Lib.indexByte (extra f).data.toList c.toNat.toUInt8 < 0 ↔ ((c == 45) || (f && ((c == 58) || (c == 46)))) = false := by
  have := index_extra f ⟨c.toNat, by omega⟩; simp only at this; obtain ⟨n, rfl⟩ : ∃ n : Nat, c = n := ⟨c.toNat, by omega⟩; simp only [Int.toNat_natCast] at this ⊢
  have hd : (Lib.indexByte (extra f).data.toList n.toUInt8 < 0) ↔ decide (Lib.indexByte (extra f).data.toList n.toUInt8 < 0) = true := by simp
  rw [hd, this]
  have h (m : Nat) : ((n : Int) == (m : Int)) = (n == m) := by
    by_cases e : n = m
    · subst e; rw [beq_self_eq_true, beq_self_eq_true]
    · have : ¬ (n : Int) = (m : Int) := by omega
      rw [beq_eq_false_iff_ne.2 this, beq_eq_false_iff_ne.2 e]
  rw [show ((45 : Int) = ((45 : Nat) : Int)) from rfl, show ((58 : Int) = ((58 : Nat) : Int)) from rfl, show ((46 : Int) = ((46 : Nat) : Int)) from rfl, h, h, h]; cases f <;> simp
def NamedOK (s : ByteArray) (f : Bool) : Prop := 1 ≤ s.size ∧ s.size ≤ 32 ∧ 97 ≤ bt s 0 ∧ bt s 0 ≤ 122 ∧ ∀ i : Int, 0 ≤ i → i < s.size → inner (bt s i) f = true
theorem named_prog_l0 (s : ByteArray) (f : Bool) (hs : s.size ≤ 32) (d : Nat) : ∀ i : Int, 0 ≤ i → (s.size : Int) - i = d →
    ∃ b, Ev (fun k => chars_named.l0 k s (extra f) s.size i) b ∧ (b = true ↔ ∀ j : Int, i ≤ j → j < s.size → inner (bt s j) f = true) := by
  induction d with
  | zero =>
    intro i h0 hd; exact ⟨true, (Ev.pure true).step (fun k => by rw [chars_named.l0, if_neg (by omega)]), by simp; intro j h1 h2; omega⟩
  | succ d ih =>
    intro i h0 hd; obtain ⟨b, hb, hi⟩ := ih (i + 1) (by omega) (by omega); have hr := bt_range s i; have hw : wrap64 (i + 1) = i + 1 := w1 (by omega) (by omega)
    by_cases hc : inner (bt s i) f = true
    · refine ⟨b, hb.step (fun k => ?_), ?_⟩
      · rw [chars_named.l0, if_pos (by omega), if_pos h0, if_pos (by omega), hw]
        have hidx := index_lt (bt s i) hr.1 hr.2 f
        simp only [chars_small.f, strings_IndexByte.f]
        simp only [inner, Bool.or_eq_true, Bool.and_eq_true, decide_eq_true_eq, beq_iff_eq] at hc
        simp only [Bool.or_eq_false_iff, beq_eq_false_iff_ne] at hidx
        by_cases c1 : bt s i ≥ 97
        · by_cases c2 : bt s i ≤ 122
          · simp [c1, c2]
          · have hn : ¬ Lib.indexByte (extra f).data.toList (bt s i).toNat.toUInt8 < 0 := by
              rw [hidx]
              cases f <;> simp at hc ⊢ <;> omega
            simp [c1, c2, show ¬ bt s i < 48 by omega, show bt s i > 57 by omega, hn]
        · by_cases c2 : bt s i < 48
          · have hn : ¬ Lib.indexByte (extra f).data.toList (bt s i).toNat.toUInt8 < 0 := by
              rw [hidx]
              cases f <;> simp at hc ⊢ <;> omega
            simp [c1, c2, hn]
          · by_cases c3 : bt s i > 57
            · have hn : ¬ Lib.indexByte (extra f).data.toList (bt s i).toNat.toUInt8 < 0 := by
                rw [hidx]
                cases f <;> simp at hc ⊢ <;> omega
              simp [c1, c2, c3, hn]
            · simp [c1, c2, c3]
      · rw [hi]
        constructor
        · intro h j h1 h2
          by_cases e : j = i
          · subst e; exact hc
          · exact h j (by omega) h2
        · intro h j h1 h2
          exact h j (by omega) h2
    · refine ⟨false, (Ev.pure false).step (fun k => ?_), by simp; exact ⟨i, by omega, by omega, by simpa using hc⟩⟩
      rw [chars_named.l0, if_pos (by omega), if_pos h0, if_pos (by omega)]
      have hidx := index_lt (bt s i) hr.1 hr.2 f
      simp only [chars_small.f, strings_IndexByte.f]
      simp only [inner, Bool.not_eq_true, Bool.or_eq_false_iff, Bool.and_eq_false_iff, decide_eq_false_iff_not, beq_eq_false_iff_ne] at hc
      simp only [Bool.or_eq_false_iff, Bool.and_eq_false_iff, beq_eq_false_iff_ne] at hidx
      have hn : Lib.indexByte (extra f).data.toList (bt s i).toNat.toUInt8 < 0 := by
        rw [hidx]; exact ⟨hc.1.2, hc.2⟩
      by_cases c1 : bt s i ≥ 97
      · have c2 : ¬ bt s i ≤ 122 := by omega
        simp [c1, c2, show ¬ bt s i < 48 by omega, show bt s i > 57 by omega, hn]
      · by_cases c2 : bt s i < 48
        · simp [c1, c2, hn]
        · have c3 : bt s i > 57 := by omega
          simp [c1, c2, c3, hn]
theorem named_ref_l0 (s : ByteArray) (f : Bool) (hs : s.size ≤ 32) (d : Nat) : ∀ i : Int, 0 ≤ i → (s.size : Int) - i = d →
    ∃ b, Ev (fun k => r02_Named.l0 k s f i) b ∧ (b = true ↔ ∀ j : Int, i ≤ j → j < s.size → inner (bt s j) f = true) := by
  induction d with
  | zero =>
    intro i h0 hd; exact ⟨true, (Ev.pure true).step (fun k => by rw [r02_Named.l0, if_neg (by omega)]), by simp; intro j h1 h2; omega⟩
  | succ d ih =>
    intro i h0 hd; obtain ⟨b, hb, hi⟩ := ih (i + 1) (by omega) (by omega); have hw : wrap64 (i + 1) = i + 1 := w1 (by omega) (by omega)
    by_cases hc : inner (bt s i) f = true
    · refine ⟨b, hb.step (fun k => ?_), ?_⟩
      · rw [r02_Named.l0, if_pos (by omega), if_pos h0, hw, inner_ref, hc]
        simp
      · rw [hi]
        constructor
        · intro h j h1 h2
          by_cases e : j = i
          · subst e; exact hc
          · exact h j (by omega) h2
        · intro h j h1 h2
          exact h j (by omega) h2
    · refine ⟨false, (Ev.pure false).step (fun k => ?_), by simp; exact ⟨i, by omega, by omega, by simpa using hc⟩⟩
      rw [r02_Named.l0, if_pos (by omega), if_pos h0, inner_ref]; simp [hc]
theorem toList_nil {s : ByteArray} : s.toList = [] ↔ s.size = 0 := by
  rw [Lib.toList_data]; constructor; (intro h; have := congrArg List.length h; simpa using this); (intro h; exact List.eq_nil_of_length_eq_zero (by simpa using h))
/-- The names' test: both come to the same. -/
theorem named (s : ByteArray) (f : Bool) : ∃ b, Ev (fun k => chars_named.f k s (extra f)) b ∧ Ev (fun k => r02_Named.f k s f) b ∧ (b = true ↔ NamedOK s f) := by
  by_cases h0 : s.size = 0
  · refine ⟨false, (Ev.pure false).step (fun k => ?_), (Ev.pure false).step (fun k => ?_), by simp [NamedOK, h0]⟩
    · rw [chars_named.f, if_pos (toList_nil.2 h0), chars_named.j0, if_pos rfl]
    · rw [r02_Named.f, if_pos (by omega), r02_Named.j0, if_pos rfl]
  by_cases h1 : s.size ≤ 32
  · by_cases h2 : 97 ≤ bt s 0 ∧ bt s 0 ≤ 122
    · have hin : inner (bt s 0) f = true := by simp [inner, h2.1, h2.2]
      obtain ⟨b, hb, hi⟩ := named_prog_l0 s f h1 s.size 0 (by omega) (by omega)
      obtain ⟨b', hb', hi'⟩ := named_ref_l0 s f h1 (s.size - 1) 1 (by omega) (by omega)
      have e : b = b' := by
        rw [Bool.eq_iff_iff, hi, hi']; constructor; (intro h j h3 h4; exact h j (by omega) h4)
        · intro h j h3 h4
          by_cases e : j = 0
          · subst e; exact hin
          · exact h j (by omega) h4
      subst e
      refine ⟨b, hb.step (fun k => ?_), hb'.step (fun k => ?_), ?_⟩
      · rw [chars_named.f, if_neg (fun h => h0 (toList_nil.1 h)), if_neg (by omega), if_pos (by omega), chars_small.f, if_pos h2.1]
        simp only [Option.bind_some, h2.2, decide_true, Bool.not_true]
        rw [chars_named.j0, if_neg (by decide)]
      · rw [r02_Named.f, if_neg (by omega), if_neg (by omega), if_pos (by omega), if_neg (by omega), r02_Named.j0, if_neg (by simp; omega)]
      · rw [hi]
        exact ⟨fun h => ⟨by omega, h1, h2.1, h2.2, fun i h3 h4 => h i h3 h4⟩, fun h i h3 h4 => h.2.2.2.2 i h3 h4⟩
    · refine ⟨false, (Ev.pure false).step (fun k => ?_), (Ev.pure false).step (fun k => ?_), by simp [NamedOK]; intro _ _ h3 h4; exact absurd ⟨h3, h4⟩ h2⟩
      · rw [chars_named.f, if_neg (fun h => h0 (toList_nil.1 h)), if_neg (by omega), if_pos (by omega), chars_small.f]
        by_cases c : bt s 0 ≥ 97
        · rw [if_pos c]
          have : ¬ bt s 0 ≤ 122 := fun h => h2 ⟨c, h⟩
          simp [this, chars_named.j0]
        · rw [if_neg c]
          simp [chars_named.j0]
      · rw [r02_Named.f, if_neg (by omega), if_neg (by omega), if_pos (by omega)]
        by_cases c : bt s 0 < 97
        · rw [if_pos c]
          simp [r02_Named.j0]
        · rw [if_neg c, r02_Named.j0, if_pos (by simp; omega)]
  · refine ⟨false, (Ev.pure false).step (fun k => ?_), (Ev.pure false).step (fun k => ?_), by simp [NamedOK]; intro _ h; exact absurd h h1⟩
    · rw [chars_named.f, if_neg (fun h => h0 (toList_nil.1 h)), if_pos (by omega), chars_named.j0, if_pos rfl]
    · rw [r02_Named.f, if_neg (by omega), if_pos (by omega), r02_Named.j0, if_pos rfl]
theorem drop_bt (s : ByteArray) (i : Int) (h0 : 0 ≤ i) (h : i < s.size) : ∃ b : UInt8, (b.toNat : Int) = bt s i ∧ s.toList.drop i.toNat = b :: s.toList.drop (i + 1).toNat := by
  have hl : s.toList.length = s.size := by rw [Lib.toList_data]; simp
  refine ⟨s.toList[i.toNat]'(by omega), ?_, ?_⟩
  · unfold bt
    rw [dif_pos (by omega)]
    congr 1
    simp only [Lib.toList_data]
    rfl
  · rw [List.drop_eq_getElem_cons (by omega), show (i + 1).toNat = i.toNat + 1 by omega]
theorem compare_l0 (x y : ByteArray) (hx : x.size ≤ 140737488351232) (d : Nat) : ∀ i : Int, 0 ≤ i → i ≤ x.size → i ≤ y.size → (x.size : Int) - i = d →
    ∃ t, Ev (fun k => r02_Compare.l0 k x y i) t ∧ (t > 0 ↔ Op.bytesLess (y.toList.drop i.toNat) (x.toList.drop i.toNat) = true) := by
  have hlx : x.toList.length = x.size := by rw [Lib.toList_data]; simp
  have hly : y.toList.length = y.size := by rw [Lib.toList_data]; simp
  induction d with
  | zero =>
    intro i h0 hix hiy hd; have e : x.toList.drop i.toNat = [] := List.drop_eq_nil_of_le (by omega)
    by_cases c : (x.size : Int) < y.size
    (refine ⟨-1, ((Ev.pure (-1)).step (f := fun k => r02_Compare.j1 k x y i false) (fun k => by rw [r02_Compare.j1, if_neg (by decide), if_pos c])).step (fun k => by rw [r02_Compare.l0, if_neg (by omega)]), ?_⟩; rw [e]; cases y.toList.drop i.toNat <;> simp [Op.bytesLess]); (refine ⟨0, ((Ev.pure 0).step (f := fun k => r02_Compare.j1 k x y i false) (fun k => by rw [r02_Compare.j1, if_neg (by decide), if_neg c, if_neg (by omega)])).step (fun k => by rw [r02_Compare.l0, if_neg (by omega)]), ?_⟩; rw [e]; cases y.toList.drop i.toNat <;> simp [Op.bytesLess])
  | succ d ih =>
    intro i h0 hix hiy hd; obtain ⟨bx, ex, dx⟩ := drop_bt x i h0 (by omega)
    by_cases c : i < (y.size : Int)
    · obtain ⟨by', ey, dy⟩ := drop_bt y i h0 c
      have st (g : Nat → Option Int) (t : Int) (hg : Ev g t) (h : ∀ k, r02_Compare.j1 (k + 1) x y i true = g k) : Ev (fun k => r02_Compare.l0 k x y i) t :=
        (hg.step (f := fun k => r02_Compare.j1 k x y i true) h).step (fun k => by rw [r02_Compare.l0, if_pos (by omega), decide_eq_true c])
      rw [dx, dy]
      have lt {a b : UInt8} : a < b ↔ (a.toNat : Int) < b.toNat := by rw [UInt8.lt_iff_toNat_lt]; omega
      by_cases c1 : bt x i < bt y i
      · refine ⟨-1, st _ _ (Ev.pure (-1)) (fun k => by rw [r02_Compare.j1, if_pos rfl, if_pos h0, if_pos (by omega), if_pos c, if_pos c1]), ?_⟩
        have h1 : ¬ by' < bx := by rw [lt]; omega
        have h2 : ¬ by' = bx := by intro e; subst e; omega
        simp [Op.bytesLess, h1, h2]
      · by_cases c2 : bt x i > bt y i
        · refine ⟨1, st _ _ (Ev.pure 1) (fun k => by rw [r02_Compare.j1, if_pos rfl, if_pos h0, if_pos (by omega), if_pos c, if_neg c1, if_pos c2]), ?_⟩
          have h1 : by' < bx := by rw [lt]; omega
          simp [Op.bytesLess, h1]
        · obtain ⟨t, ht, hi⟩ := ih (i + 1) (by omega) (by omega) (by omega) (by omega)
          refine ⟨t, st _ _ ht (fun k => by rw [r02_Compare.j1, if_pos rfl, if_pos h0, if_pos (by omega), if_pos c, if_neg c1, if_neg c2, w1 (by omega) (by omega)]), ?_⟩
          rw [hi]
          have h2 : by' = bx := by apply UInt8.toNat_inj.1; omega
          subst h2
          have h1 : ¬ by' < by' := by rw [lt]; omega
          simp [Op.bytesLess, h1]
    · have e : y.toList.drop i.toNat = [] := List.drop_eq_nil_of_le (by omega)
      refine ⟨1, ((Ev.pure 1).step (f := fun k => r02_Compare.j1 k x y i false) (fun k => by rw [r02_Compare.j1, if_neg (by decide), if_neg (by omega), if_pos (by omega)])).step (fun k => by rw [r02_Compare.l0, if_pos (by omega), decide_eq_false c]), ?_⟩; rw [dx, e]; simp [Op.bytesLess]
theorem compare (x y : ByteArray) (hx : x.size ≤ 140737488351232) : ∃ t, Ev (fun k => r02_Compare.f k x y) t ∧ (t > 0 ↔ Op.bytesLess y.toList x.toList = true) := by
  obtain ⟨t, ht, hi⟩ := compare_l0 x y hx x.size 0 (by omega) (by omega) (by omega) (by omega); exact ⟨t, ht.eq (fun k => rfl), by simpa using hi⟩
def lessB (a b : ByteArray) : Bool := Op.bytesLess a.toList b.toList
theorem lessB_lt (a b : ByteArray) : lessB a b = true ↔ a.toList < b.toList := by
  unfold lessB; rw [bytesLess_eq]; simp
theorem less_irrefl (a : ByteArray) : ¬ lessB a a = true := by rw [lessB_lt]; exact List.lt_irrefl _
theorem less_trans {a b c : ByteArray} (h : lessB a b = true) (k : lessB b c = true) : lessB a c = true := by rw [lessB_lt] at *; exact List.lt_trans h k
theorem less_total (a b : ByteArray) : lessB a b = true ∨ a.toList = b.toList ∨ lessB b a = true := by
  rw [lessB_lt, lessB_lt]
  by_cases h : a.toList < b.toList
  · exact .inl h
  · by_cases k : b.toList < a.toList
    · exact .inr (.inr k)
    · exact .inr (.inl (List.le_antisymm (List.not_lt.1 k) (List.not_lt.1 h)))
theorem isN_iff (n : ByteArray) (x : S45) : isN n x = true ↔ x.f0.toList = n.toList := by unfold isN; simp
/-- The place of the first that is greater; behind all, if there is none. -/
def gtFrom (n : ByteArray) : List S45 → Int → Int
  | [], i => i
  | x :: xs, i => if lessB n x.f0 = true then i else gtFrom n xs (i + 1)
theorem gt_range (n : ByteArray) (l : List S45) : ∀ i : Int, i ≤ gtFrom n l i ∧ gtFrom n l i ≤ i + l.length := by
  induction l with
  | nil => intro i; simp [gtFrom]
  | cons x l ih =>
    intro i; rw [gtFrom]; split; (simp; omega); (have := ih (i + 1); simp; omega)
theorem gt_split (n : ByteArray) (l : List S45) : ∀ i : Int, (∀ x ∈ l.take (gtFrom n l i - i).toNat, ¬ lessB n x.f0 = true) ∧ (∀ x xs, l.drop (gtFrom n l i - i).toNat = x :: xs → lessB n x.f0 = true) := by
  induction l with
  | nil => intro i; simp [gtFrom]
  | cons x l ih =>
    intro i; rw [gtFrom]; split
    · next h => rw [Int.sub_self]; simp [h]
    · next h =>
      obtain ⟨a, b⟩ := ih (i + 1); have hr := gt_range n l (i + 1)
      have e : (gtFrom n l (i + 1) - i).toNat = (gtFrom n l (i + 1) - (i + 1)).toNat + 1 := by omega
      rw [e]; refine ⟨fun y hy => ?_, fun y ys hy => ?_⟩
      · rw [List.take_succ_cons] at hy
        rcases List.mem_cons.1 hy with rfl | hy
        · exact h
        · exact a y hy
      · rw [List.drop_succ_cons] at hy
        exact b y ys hy
theorem idx_all (n : ByteArray) (l : List S45) : ∀ i : Int, (∀ x ∈ l, ¬ isN n x = true) → idxFrom n l i = -1 := by
  induction l with
  | nil => intro i h; rfl
  | cons y l ih =>
    intro i h; rw [idxFrom, if_neg (h y (by simp)), ih _ (fun x hx => h x (by simp [hx]))]
theorem idx_at (n : ByteArray) (A : List S45) (x : S45) (B : List S45) (hx : isN n x = true) : ∀ i : Int, (∀ y ∈ A, ¬ isN n y = true) → idxFrom n (A ++ x :: B) i = i + A.length := by
  induction A with
  | nil => intro i h; simp [idxFrom, hx]
  | cons y A ih =>
    intro i h; rw [List.cons_append, idxFrom, if_neg (h y (by simp)), ih _ (fun z hz => h z (by simp [hz]))]; simp; omega
theorem refFind_l0 (l : List S45) (n : ByteArray) (hl : l.length ≤ 140737488351232) (d : Nat) : ∀ i : Int, 0 ≤ i → (l.length : Int) - i = d →
    Ev (fun k => r09_Find.l0 k l n l.length i) (idxFrom n (l.drop i.toNat) i) := by
  induction d with
  | zero =>
    intro i h0 hd; rw [List.drop_eq_nil_of_le (by omega), idxFrom]; exact (Ev.pure _).step (fun k => by rw [r09_Find.l0, if_neg (by omega)])
  | succ d ih =>
    intro i h0 hd
    have h1 : i < (l.length : Int) := by omega
    rw [drop_T45 l i h0 h1, idxFrom]
    by_cases c : isN n (rd_T45 l i) = true
    (rw [if_pos c]; exact (Ev.pure _).step (fun k => by rw [r09_Find.l0, if_pos h1, if_pos h0, if_pos h1, if_pos ((isN_iff _ _).1 c)])); (rw [if_neg c]; exact (ih (i + 1) (by omega) (by omega)).step (fun k => by rw [r09_Find.l0, if_pos h1, if_pos h0, if_pos h1, if_neg (fun e => c ((isN_iff _ _).2 e)), w1 (by omega) (by omega)]))
theorem refFind_ev (l : List S45) (n : ByteArray) (hl : l.length ≤ 140737488351232) : Ev (fun k => r09_Find.f k l n) (idxFrom n l 0) := by
  have := refFind_l0 l n hl l.length 0 (by omega) (by omega); simp only [Int.toNat_zero, List.drop_zero] at this; exact this.eq (fun k => rfl)
theorem rd_at (A : List S45) (x : S45) (B : List S45) : rd_T45 (A ++ x :: B) (A.length : Int) = x := by
  unfold rd_T45; simp [List.getD_eq_getElem?_getD]
theorem eta45 (x : S45) : (⟨x.f0, x.f1⟩ : S45) = x := by cases x; rfl
theorem rd_nat (l : List S45) (i : Nat) : rd_T45 l (i : Int) = (l[i]?).getD z45 := by
  unfold rd_T45; rw [List.getD_eq_getElem?_getD, Int.toNat_natCast]
/-- The place at which a name belongs. -/
def pl (n : ByteArray) (l : List S45) : Nat := (gtFrom n l 0).toNat
theorem pl_le (n : ByteArray) (l : List S45) : pl n l ≤ l.length := by
  have := gt_range n l 0; unfold pl; omega
theorem pl_eq (n : ByteArray) (l : List S45) : gtFrom n l 0 = (pl n l : Int) := by
  have := gt_range n l 0; unfold pl; omega
def ins (n v : ByteArray) (l : List S45) : List S45 := l.take (pl n l) ++ [⟨n, v⟩] ++ l.drop (pl n l)
theorem refWith_l0 (l : List S45) (hl : l.length ≤ 140737488351232) (hs : ∀ y ∈ l, Sm45 y) (n v : ByteArray) (at' : Int) (r : List S45) (h : Ev (fun k => r09_With.j1 k l n v at' (gtFrom n l 0)) r) (d : Nat) : ∀ i : Int, 0 ≤ i → (l.length : Int) - i = d → gtFrom n (l.drop i.toNat) i = gtFrom n l 0 →
    Ev (fun k => r09_With.l0 k l n v at' i) r := by
  induction d with
  | zero =>
    intro i h0 hd hg; rw [List.drop_eq_nil_of_le (by omega), gtFrom] at hg; rw [← hg] at h; exact h.step (fun k => by rw [r09_With.l0, if_neg (by omega)])
  | succ d ih =>
    intro i h0 hd hg
    have h1 : i < (l.length : Int) := by omega
    rw [drop_T45 l i h0 h1, gtFrom] at hg
    have hm : rd_T45 l i ∈ l := by
      unfold rd_T45; rw [List.getD_eq_getElem?_getD, List.getElem?_eq_getElem (by omega)]; exact List.getElem_mem _
    obtain ⟨t, ht, hti⟩ := compare (rd_T45 l i).f0 n (hs _ hm).h0
    by_cases c : lessB n (rd_T45 l i).f0 = true
    · rw [if_pos c] at hg
      have : ¬ t ≤ 0 := by have := hti.2 c; omega
      rw [← hg] at h
      exact ht.via h (fun k hk => by rw [r09_With.l0, if_pos h1, if_pos h0, hk, Option.bind_some, if_neg this])
    · rw [if_neg c] at hg
      have : t ≤ 0 := by
        by_cases h2 : t > 0
        (exact absurd (hti.1 h2) c); (omega)
      exact ht.via (ih (i + 1) (by omega) (by omega) hg) (fun k hk => by rw [r09_With.l0, if_pos h1, if_pos h0, hk, Option.bind_some, if_pos this, w1 (by omega) (by omega)])
theorem refWith_found_l1 (A : List S45) (x : S45) (B : List S45) (n v : ByteArray) (g : Int) (hl : (A ++ x :: B).length ≤ 4398046510976) (d : Nat) : ∀ i : Nat, (A ++ x :: B).length - i = d → i ≤ (A ++ x :: B).length →
    Ev (fun k => r09_With.l1 k (A ++ x :: B) n v A.length g ((A ++ ⟨x.f0, v⟩ :: B).take i) (A ++ x :: B).length i) (A ++ ⟨x.f0, v⟩ :: B) := by
  induction d with
  | zero =>
    intro i hd hi; have : (A ++ (⟨x.f0, v⟩ : S45) :: B).take i = A ++ ⟨x.f0, v⟩ :: B := List.take_of_length_le (by simp at *; omega); rw [this]; exact (Ev.pure _).step (fun k => by rw [r09_With.l1, if_neg (by omega), if_neg (by omega)])
  | succ d ih =>
    intro i hd hi
    have h1 : i < (A ++ x :: B).length := by omega
    have e := ih (i + 1) (by omega) (by omega)
    have hlt : ((A ++ (⟨x.f0, v⟩ : S45) :: B).take i).length < 4398046511104 := by rw [List.length_take]; omega
    have hi2 : i < (A ++ (⟨x.f0, v⟩ : S45) :: B).length := by simp at *; omega
    have tk : (A ++ (⟨x.f0, v⟩ : S45) :: B).take (i + 1) = (A ++ ⟨x.f0, v⟩ :: B).take i ++ [rd_T45 (A ++ ⟨x.f0, v⟩ :: B) i] := by
      have := take_T45 (A ++ (⟨x.f0, v⟩ : S45) :: B) i (by omega) (by omega); rwa [show ((i : Int) + 1).toNat = i + 1 by omega, Int.toNat_natCast] at this
    have rdR : rd_T45 (A ++ (⟨x.f0, v⟩ : S45) :: B) i = if (i : Int) = A.length then ⟨(rd_T45 (A ++ x :: B) i).f0, v⟩ else rd_T45 (A ++ x :: B) i := by
      rw [rd_nat, rd_nat]
      by_cases c : i = A.length
      · subst c; simp
      · rw [if_neg (by omega)]
        by_cases c2 : i < A.length
        · rw [List.getElem?_append_left c2, List.getElem?_append_left c2]
        · rw [List.getElem?_append_right (by omega), List.getElem?_append_right (by omega)]
          obtain ⟨q, hq⟩ : ∃ q, i - A.length = q + 1 := ⟨i - A.length - 1, by omega⟩
          rw [hq, List.getElem?_cons_succ, List.getElem?_cons_succ]
    rw [tk, rdR] at e
    have hw : wrap64 ((i : Int) + 1) = ((i + 1 : Nat) : Int) := by rw [w1 (by omega) (by omega)]; rfl
    refine (e.step (f := fun k => r09_With.j3 k (A ++ x :: B) n v A.length g ((A ++ ⟨x.f0, v⟩ :: B).take i) i (A ++ x :: B).length i false) (fun k => ?_)).step (fun k => by rw [r09_With.l1, if_pos (by omega), if_neg (by omega)]); rw [r09_With.j3, if_neg (by decide), if_pos (by omega), if_pos (by omega), if_pos hlt, if_pos hlt, hw]
    by_cases c : (i : Int) = A.length
    (rw [if_pos c, if_pos c]); (rw [if_neg c, if_neg c, eta45])
theorem refWith_found (A : List S45) (x : S45) (B : List S45) (n v : ByteArray) (hl : (A ++ x :: B).length ≤ 4398046510000) (hs : ∀ y ∈ A ++ x :: B, Sm45 y) (hA : ∀ y ∈ A, ¬ isN n y = true) (hx : isN n x = true) :
    Ev (fun k => r09_With.f k (A ++ x :: B) n v) (A ++ ⟨x.f0, v⟩ :: B) := by
  have f2 := refFind_ev (A ++ x :: B) n (by omega); rw [idx_at n A x B hx 0 hA, Int.zero_add] at f2; have e := refWith_found_l1 A x B n v (gtFrom n (A ++ x :: B) 0) (by omega) (A ++ x :: B).length 0 (by omega) (by omega); rw [List.take_zero] at e; have e1 := e.step (f := fun k => r09_With.j1 k (A ++ x :: B) n v A.length (gtFrom n (A ++ x :: B) 0)) (fun k => by rw [r09_With.j1]; rfl); exact f2.via0 (refWith_l0 (A ++ x :: B) (by omega) hs n v _ _ e1 (A ++ x :: B).length 0 (by omega) (by omega) (by simp)) (fun k hk => by rw [r09_With.f, hk]; rfl)
theorem ins_len (n v : ByteArray) (l : List S45) : (ins n v l).length = l.length + 1 := by
  have := pl_le n l; unfold ins; simp only [List.length_append, List.length_take, List.length_drop, List.length_cons, List.length_nil]; omega
theorem ins_rd (n v : ByteArray) (l : List S45) (i : Nat) : rd_T45 (ins n v l) i = if i < pl n l then rd_T45 l i else if i = pl n l then ⟨n, v⟩ else rd_T45 l ((i - 1 : Nat) : Int) := by
  have hp := pl_le n l
  have hA : (l.take (pl n l)).length = pl n l := by rw [List.length_take]; omega
  rw [rd_nat]; unfold ins; rw [List.append_assoc]
  by_cases c : i < pl n l
  · rw [if_pos c, List.getElem?_append_left (by omega), List.getElem?_take, if_pos c, rd_nat]
  · rw [if_neg c, List.getElem?_append_right (by omega), hA]
    by_cases c2 : i = pl n l
    · rw [if_pos c2, c2, Nat.sub_self]; rfl
    · rw [if_neg c2]
      obtain ⟨q, hq⟩ : ∃ q, i - pl n l = q + 1 := ⟨i - pl n l - 1, by omega⟩
      rw [hq, List.singleton_append, List.getElem?_cons_succ, List.getElem?_drop, rd_nat]
      congr 2
      omega
theorem take_nat (R : List S45) (i : Nat) (h : i < R.length) : R.take (i + 1) = R.take i ++ [rd_T45 R i] := by
  have := take_T45 R i (by omega) (by omega); rwa [show ((i : Int) + 1).toNat = i + 1 by omega, Int.toNat_natCast] at this
theorem refWith_none_l1 (l : List S45) (n v : ByteArray) (hl : l.length ≤ 4398046510976) (d : Nat) : ∀ i : Nat, l.length - i = d → i ≤ l.length →
    Ev (fun k => r09_With.l1 k l n v (-1) (pl n l) (if i ≤ pl n l then (ins n v l).take i else (ins n v l).take (i + 1)) l.length i) (ins n v l) := by
  have hp := pl_le n l; have hil := ins_len n v l
  induction d with
  | zero =>
    intro i hd hi
    have hie : i = l.length := by omega
    subst hie
    by_cases c : pl n l = l.length
    · rw [if_pos (by omega)]
      have e : (ins n v l).take l.length ++ [⟨n, v⟩] = ins n v l := by
        have h1 := take_nat (ins n v l) l.length (by omega); rw [ins_rd, if_neg (by omega), if_pos c.symm, List.take_of_length_le (by omega)] at h1; exact h1.symm
      refine (Ev.pure _).step (fun k => ?_)
      rw [r09_With.l1, if_neg (by omega), if_pos (by decide), if_pos (by omega), if_pos (by rw [List.length_take]; omega), e]
    · rw [if_neg (by omega), List.take_of_length_le (by omega)]
      refine (Ev.pure _).step (fun k => ?_); rw [r09_With.l1, if_neg (by omega), if_pos (by decide), if_neg (by omega)]
  | succ d ih =>
    intro i hd hi; have e := ih (i + 1) (by omega) (by omega)
    have hw : wrap64 ((i : Int) + 1) = ((i + 1 : Nat) : Int) := by rw [w1 (by omega) (by omega)]; rfl
    have hx7 : ¬ (i : Int) = -1 := by omega
    by_cases c : i = pl n l
    · rw [if_pos (by omega)]
      have r1 : rd_T45 (ins n v l) ((i + 1 : Nat) : Int) = rd_T45 l i := by rw [ins_rd, if_neg (by omega), if_neg (by omega), Nat.add_sub_cancel]
      have r0 : rd_T45 (ins n v l) (i : Int) = ⟨n, v⟩ := by rw [ins_rd, if_neg (by omega), if_pos c]
      rw [if_neg (by omega), take_nat _ (i + 1) (by omega), take_nat _ i (by omega), r1, r0] at e
      have hlt : ((ins n v l).take i).length < 4398046511104 := by rw [List.length_take]; omega
      have hlt2 : ((ins n v l).take i ++ [(⟨n, v⟩ : S45)]).length < 4398046511104 := by rw [List.length_append, List.length_take]; simp; omega
      refine (e.step (f := fun k => r09_With.j3 k l n v (-1) (pl n l) ((ins n v l).take i) i l.length i true) (fun k => ?_)).step (fun k => by rw [r09_With.l1, if_pos (by omega), if_pos (by decide)]; congr 1; simp [c])
      rw [r09_With.j3, if_pos rfl, if_pos hlt, Option.bind_some, if_pos (by omega), if_pos (by omega), if_neg hx7, if_pos hlt2, hw, eta45]
    · have hne : (((i : Int) == ((pl n l : Nat) : Int)) = false) := by simp; omega
      by_cases c2 : i < pl n l
      · rw [if_pos (by omega)]
        rw [if_pos (by omega), take_nat _ i (by omega), ins_rd, if_pos c2] at e
        have hlt : ((ins n v l).take i).length < 4398046511104 := by rw [List.length_take]; omega
        refine (e.step (f := fun k => r09_With.j3 k l n v (-1) (pl n l) ((ins n v l).take i) i l.length i false) (fun k => ?_)).step (fun k => by rw [r09_With.l1, if_pos (by omega), if_pos (by decide), hne])
        rw [r09_With.j3, if_neg (by decide), if_pos (by omega), if_pos (by omega), if_neg hx7, if_pos hlt, hw, eta45]
      · rw [if_neg (by omega)]
        rw [if_neg (by omega), take_nat _ (i + 1) (by omega), ins_rd, if_neg (by omega), if_neg (by omega), Nat.add_sub_cancel] at e
        have hlt : ((ins n v l).take (i + 1)).length < 4398046511104 := by rw [List.length_take]; omega
        refine (e.step (f := fun k => r09_With.j3 k l n v (-1) (pl n l) ((ins n v l).take (i + 1)) i l.length i false) (fun k => ?_)).step (fun k => by rw [r09_With.l1, if_pos (by omega), if_pos (by decide), hne])
        rw [r09_With.j3, if_neg (by decide), if_pos (by omega), if_pos (by omega), if_neg hx7, if_pos hlt, hw, eta45]
theorem refWith_none (l : List S45) (n v : ByteArray) (hl : l.length ≤ 4398046510000) (hs : ∀ y ∈ l, Sm45 y) (h : ∀ y ∈ l, ¬ isN n y = true) :
    Ev (fun k => r09_With.f k l n v) (ins n v l) := by
  have f2 := refFind_ev l n (by omega); rw [idx_all n l 0 h] at f2; have e := refWith_none_l1 l n v (by omega) l.length 0 (by omega) (by omega); rw [if_pos (by omega), List.take_zero] at e; have e1 := e.step (f := fun k => r09_With.j1 k l n v (-1) (gtFrom n l 0)) (fun k => by rw [r09_With.j1, pl_eq]; rfl); exact f2.via0 (refWith_l0 l (by omega) hs n v _ _ e1 l.length 0 (by omega) (by omega) (by simp)) (fun k hk => by rw [r09_With.f, hk]; rfl)
theorem same : ∃ k, lw_same.f k = some true := ⟨40, by decide +kernel⟩
theorem same_ev : Ev (fun k => lw_same.f k) true := by
  obtain ⟨k, hk⟩ := same; exact Ev.of (fun k => lw_same.mono k) hk
theorem few_l1 (x : S42) (hl : x.f5.length ≤ 140737488351232) (d : Nat) : ∀ (i x5 : Int), 0 ≤ i → (x.f5.length : Int) - i = d → ∃ b, Ev (fun k => pl_FewRows.l1 k [x] x5 0 1 0 x.f5.length i) b := by
  induction d with
  | zero =>
    intro i x5 h0 hd; refine ⟨_, ((Ev.pure (decide (x5 ≥ 0))).step (f := fun k => pl_FewRows.l0 k [x] x5 1 1) (fun k => by rw [pl_FewRows.l0, if_neg (by omega)])).step (fun k => ?_)⟩; rw [pl_FewRows.l1, if_neg (by omega), show wrap64 ((0 : Int) + 1) = 1 by rw [w1 (by omega) (by omega)]; rfl]
  | succ d ih =>
    intro i x5 h0 hd; obtain ⟨b, hb⟩ := ih (i + 1) (wrap64 (x5 - (wrap64 (Int.tdiv (wrap64 (((rd_T45 x.f5 i).f1.size : Int) + ((rd_T45 x.f5 i).f0.size : Int))) 4096)))) (by omega) (by omega); refine ⟨b, hb.step (fun k => ?_)⟩; have hr : rd_T42 [x] 0 = x := rfl; rw [pl_FewRows.l1, if_pos (by omega), if_pos (by omega), if_pos (by simp), if_pos h0, hr, if_pos (by omega), w1 (by omega) (by omega)]
theorem heavy_ev (l : List S45) (hl : l.length ≤ 140737488351232) : ∃ b, Ev (fun k => lw_heavy.f k l) b ∧ (b = false → l.length ≤ 299) := by
  have hr : rd_T42 [(⟨0, 0, ⟨#[]⟩, ⟨#[]⟩, ⟨#[]⟩, l⟩ : S42)] 0 = ⟨0, 0, ⟨#[]⟩, ⟨#[]⟩, ⟨#[]⟩, l⟩ := rfl
  have hz : wrap64 (Int.tdiv (wrap64 ((wrap64 (((⟨#[]⟩ : ByteArray).size : Int) + ((⟨#[]⟩ : ByteArray).size : Int))) + ((⟨#[]⟩ : ByteArray).size : Int))) 4096) = 0 := by decide +kernel
  have hc : (wrap64 ((wrap64 ((wrap64 (300 - 1)) - (l.length : Int))) - (0 : Int))) = 299 - l.length := by
    rw [wm (by omega) (by omega), ww (i := 300 - 1 - (l.length : Int)) (by omega) (by omega), ww (by omega) (by omega)]; omega
  by_cases h : (299 : Int) - l.length < 0
  · refine ⟨true, ?_, by simp⟩
    have e : Ev (fun k => pl_FewRows.f k [(⟨0, 0, ⟨#[]⟩, ⟨#[]⟩, ⟨#[]⟩, l⟩ : S42)] 300) false := by
      refine (Ev.pure false).step (f := fun k => pl_FewRows.l0 k [(⟨0, 0, ⟨#[]⟩, ⟨#[]⟩, ⟨#[]⟩, l⟩ : S42)] 300 1 0) (fun k => ?_) |>.eq (fun k => rfl)
      rw [pl_FewRows.l0, if_pos (by omega), if_pos (by omega), if_pos (by simp), hr]; dsimp only; rw [hz, hc, if_pos h]
    exact e.via0 (Ev.pure _) (fun k hk => by rw [lw_heavy.f, hk]; rfl)
  · obtain ⟨b, hb⟩ := few_l1 ⟨0, 0, ⟨#[]⟩, ⟨#[]⟩, ⟨#[]⟩, l⟩ hl l.length 0 (299 - l.length) (by omega) (by simp)
    have e : Ev (fun k => pl_FewRows.f k [(⟨0, 0, ⟨#[]⟩, ⟨#[]⟩, ⟨#[]⟩, l⟩ : S42)] 300) b := by
      refine hb.step (f := fun k => pl_FewRows.l0 k [(⟨0, 0, ⟨#[]⟩, ⟨#[]⟩, ⟨#[]⟩, l⟩ : S42)] 300 1 0) (fun k => ?_) |>.eq (fun k => rfl)
      rw [pl_FewRows.l0, if_pos (by omega), if_pos (by omega), if_pos (by simp), hr]; dsimp only; rw [hz, hc, if_neg h]
    exact ⟨!b, e.via0 (Ev.pure _) (fun k hk => by rw [lw_heavy.f, hk]; rfl), fun _ => by omega⟩
def okA (x : S45) : Prop := NamedOK x.f0 true ∧ (x.f1.size : Int) ≤ 65536
def VP : Option S45 → List S45 → Prop
  | _, [] => True
  | p, x :: xs => okA x ∧ (∀ q, p = some q → lessB q.f0 x.f0 = true) ∧ VP (some x) xs
def prev (l : List S45) (i : Int) : Option S45 := if i = 0 then none else some (rd_T45 l (i - 1))
theorem check_l0 (l : List S45) (hl : l.length ≤ 140737488351232) (d : Nat) : ∀ i : Int, 0 ≤ i → i ≤ 64 → (l.length : Int) - i = d →
    ∃ r, Ev (fun k => attrs_Check.l0 k l l l.length i) r ∧ (r.2 = 0 ↔ l.length ≤ 64 ∧ VP (prev l i) (l.drop i.toNat)) := by
  induction d with
  | zero =>
    intro i h0 h64 hd; refine ⟨(0, 0), (Ev.pure _).step (fun k => by rw [attrs_Check.l0, if_neg (by omega)]), ?_⟩; rw [List.drop_eq_nil_of_le (by omega), VP]; simp; omega
  | succ d ih =>
    intro i h0 h64 hd
    have hi : i < (l.length : Int) := by omega
    have hw : wrap64 (i + 1) = i + 1 := w1 (by omega) (by omega); have hv : wrap64 (i - 1) = i - 1 := wm (by omega) (by omega)
    by_cases c64 : i = 64
    (refine ⟨(i, 12), (Ev.pure _).step (fun k => by rw [attrs_Check.l0, if_pos hi, if_pos h0, if_pos hi, if_pos c64, if_neg (by decide)]), ?_⟩; simp; omega); obtain ⟨r, hp, hr⟩ := ih (i + 1) (by omega) (by omega) (by omega); rw [drop_T45 l i h0 hi, VP]
    have hpr : prev l (i + 1) = some (rd_T45 l i) := by unfold prev; rw [if_neg (by omega), Int.add_sub_cancel]
    rw [hpr] at hr; obtain ⟨b, nb, _, nbi⟩ := named (rd_T45 l i).f0 true; have nb : Ev (fun k => chars_Name.f k (rd_T45 l i).f0) b := (nb.bind (g := fun _ t => some t) (Ev.pure b)).eq (fun k => rfl)
    cases b with
    | false =>
      refine ⟨(i, 8), nb.via (Ev.pure _) (fun k hk => by rw [attrs_Check.l0, if_pos hi, if_pos h0, if_pos hi, if_neg c64, hk]; rfl), ?_⟩
      have : ¬ okA (rd_T45 l i) := fun h => by simpa using nbi.2 h.1
      simp [this]
    | true =>
    have hname := nbi.1 rfl
    by_cases cf : ((rd_T45 l i).f1.size : Int) ≤ 65536
    case neg =>
      refine ⟨(i, 3), nb.via (Ev.pure _) (fun k hk => ?_), ?_⟩; (rw [attrs_Check.l0, if_pos hi, if_pos h0, if_pos hi, if_neg c64, hk]; simp [chars_Fits.f, cf])
      · have : ¬ okA (rd_T45 l i) := fun h => cf h.2
        simp [this]
    have hok : okA (rd_T45 l i) := ⟨hname, cf⟩
    by_cases ci : i > 0
    case neg =>
      have p0 : Ev (fun k => attrs_Check.j2 k l i 0 l l.length i false) r := hp.step (fun k => by rw [attrs_Check.j2, if_neg (by decide), if_pos rfl, hw]); have p1 : Ev (fun k => attrs_Check.j1 k l i 0 l l.length i false (rd_T45 l i).f0 (rd_T45 l i).f1) r := p0.step (fun k => by rw [attrs_Check.j1, if_neg (by decide), if_neg ci]); refine ⟨r, nb.via p1 (fun k hk => ?_), ?_⟩; (rw [attrs_Check.l0, if_pos hi, if_pos h0, if_pos hi, if_neg c64, hk]; simp [chars_Fits.f, cf, show ¬ 0 < i by omega]); (rw [hr, show prev l i = none by unfold prev; rw [if_pos (by omega)]]; simp [hok])
    have hvi : 0 ≤ wrap64 (i - 1) ∧ wrap64 (i - 1) < (l.length : Int) := by rw [hv]; omega
    have hpi : prev l i = some (rd_T45 l (i - 1)) := by unfold prev; rw [if_neg (by omega)]
    rw [hpi]; obtain ⟨e, he⟩ : ∃ e, ((rd_T45 l (wrap64 (i - 1))).f0.toList == (rd_T45 l i).f0.toList) = e := ⟨_, rfl⟩
    have fin (r : Int × Int) (p1 : Ev (fun k => attrs_Check.j1 k l i 0 l l.length i e (rd_T45 l i).f0 (rd_T45 l i).f1) r) : Ev (fun k => attrs_Check.l0 k l l l.length i) r := by
      refine nb.via p1 (fun k hk => ?_); rw [attrs_Check.l0, if_pos hi, if_pos h0, if_pos hi, if_neg c64, hk]; rw [← he]; simp [chars_Fits.f, cf, show 0 < i by omega, hvi]
    cases e with
    | true =>
      refine ⟨(i, 10), fin _ ((Ev.pure _).step (fun k => by rw [attrs_Check.j1, if_pos rfl, if_neg (by decide)])), ?_⟩
      have e1 : (rd_T45 l (i - 1)).f0.toList = (rd_T45 l i).f0.toList := by rw [hv] at he; simpa using he
      have : ¬ lessB (rd_T45 l (i - 1)).f0 (rd_T45 l i).f0 = true := by rw [lessB, e1]; exact less_irrefl _
      simp [this]
    | false =>
      have e1 : ¬ (rd_T45 l (i - 1)).f0.toList = (rd_T45 l i).f0.toList := by rw [hv] at he; simpa using he
      obtain ⟨b, hb⟩ : ∃ b, Op.bytesLess (rd_T45 l i).f0.toList (rd_T45 l (wrap64 (i - 1))).f0.toList = b := ⟨_, rfl⟩
      have hb2 : lessB (rd_T45 l i).f0 (rd_T45 l (i - 1)).f0 = b := by rw [hv] at hb; exact hb
      cases b with
      | true =>
        refine ⟨(i, 9), fin _ (((Ev.pure (i, (9 : Int))).step (f := fun k => attrs_Check.j2 k l i 0 l l.length i true) (fun k => by rw [attrs_Check.j2, if_pos rfl, if_neg (by decide)])).step (fun k => by rw [attrs_Check.j1, if_neg (by decide), if_pos ci, if_pos hvi.1, if_pos hvi.2, hb])), ?_⟩
        have : ¬ lessB (rd_T45 l (i - 1)).f0 (rd_T45 l i).f0 = true := fun h => less_irrefl _ (less_trans h hb2)
        simp [this]
      | false =>
        refine ⟨r, fin r ((hp.step (f := fun k => attrs_Check.j2 k l i 0 l l.length i false) (fun k => by rw [attrs_Check.j2, if_neg (by decide), if_pos rfl, hw])).step (fun k => by rw [attrs_Check.j1, if_neg (by decide), if_pos ci, if_pos hvi.1, if_pos hvi.2, hb])), ?_⟩
        have : lessB (rd_T45 l (i - 1)).f0 (rd_T45 l i).f0 = true := by
          rcases less_total (rd_T45 l (i - 1)).f0 (rd_T45 l i).f0 with h | h | h
          (exact h); (exact absurd h e1); (rw [hb2] at h; cases h)
        rw [hr]; simp [hok, this]
def Rel (a b : ByteArray) : Prop := lessB a b = true
theorem VP_iff (l : List S45) : ∀ p, VP p l ↔ (∀ x ∈ l, okA x) ∧ (l.map (·.f0)).Pairwise Rel ∧ ∀ q, p = some q → ∀ x ∈ l, lessB q.f0 x.f0 = true := by
  induction l with
  | nil => intro p; simp [VP]
  | cons y l ih =>
    intro p; rw [VP, ih]; simp only [List.mem_cons, forall_eq_or_imp, List.map_cons, List.pairwise_cons, List.mem_map, forall_exists_index, and_imp, forall_apply_eq_imp_iff₂]; constructor; (rintro ⟨a, b, c, d, e⟩; exact ⟨⟨a, c⟩, ⟨fun x hx => e y rfl x hx, d⟩, fun q hq => ⟨b q hq, fun x hx => less_trans (b q hq) (e y rfl x hx)⟩⟩); (rintro ⟨⟨a, c⟩, ⟨e, d⟩, f⟩; refine ⟨a, fun q hq => (f q hq).1, c, d, fun q hq x hx => ?_⟩; cases hq; exact e x hx)
def Valid (l : List S45) : Prop := l.length ≤ 64 ∧ (∀ x ∈ l, okA x) ∧ (l.map (·.f0)).Pairwise Rel
theorem check_ev (l : List S45) (hl : l.length ≤ 140737488351232) : ∃ r, Ev (fun k => attrs_Check.f k l) r ∧ (r.2 = 0 ↔ Valid l) := by
  obtain ⟨r, h1, h2⟩ := check_l0 l hl l.length 0 (by omega) (by omega) (by omega); refine ⟨r, h1.eq (fun k => rfl), ?_⟩; rw [h2, Valid, show (0 : Int).toNat = 0 from rfl, List.drop_zero, VP_iff]; simp [prev]
theorem bytes_eq {a b : ByteArray} (h : a.toList = b.toList) : a = b := by
  rw [Lib.toList_data, Lib.toList_data] at h; cases a; cases b
  congr 1
  exact Array.toList_inj.1 h
end Go.Proofs.Ytnellpilmjjbcaa.Pure
