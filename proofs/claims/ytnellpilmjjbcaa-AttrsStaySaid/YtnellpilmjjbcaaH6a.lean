/- Rows of attributes, cell by cell: copy, and append(s, make(..)...), run; an element put between. -/
import Derived.Test.YtnellpilmjjbcaaGx0
import Derived.Laws.CopyRow
import Derived.Laws.CopyOwn
import Derived.WalkMore
import Derived.Lib.Bytealg
namespace Go.Proofs.Ytnellpilmjjbcaa.G
open Go.RowKit Go.Proofs.YtnellpilmjjbcaaW.PrintWords Go.Proofs.YtnellpilmjjbcaaW.PrintLast Go.Proofs.YtnellpilmjjbcaaW.PrintMore
set_option linter.unusedVariables false
set_option linter.unusedSimpArgs false

theorem ins_inplace {α : Type} (A B C X : List α) (hX : X.length = 2) (hC : 2 ≤ C.length) (L1 : List α) (hL : L1 = (A ++ B ++ C).take (A.length + 2) ++ B ++ (A ++ B ++ C).drop (A.length + 2 + B.length)) :
    L1.take A.length ++ X ++ L1.drop (A.length + 2) = A ++ X ++ B ++ C.drop 2 := by
  have h0 : ((A ++ B ++ C).take (A.length + 2)).length = A.length + 2 := by simp; omega
  have h1 : L1.take A.length = A := by
    rw [hL, List.append_assoc, List.take_append_of_le_length (by omega), List.take_take, Nat.min_eq_left (by omega), List.append_assoc, List.take_left]
  have h2 : L1.drop (A.length + 2) = B ++ C.drop 2 := by
    rw [hL, List.append_assoc]
    rw [List.drop_append, h0, Nat.sub_self, List.drop_zero, List.drop_eq_nil_of_le (by omega), List.nil_append]
    congr 1
    rw [List.drop_append]
    rw [List.drop_eq_nil_of_le (by first | (simp; done) | (simp; omega)), List.nil_append]
    congr 1
    first | done | (simp; omega) | (congr 1; omega)
  rw [h1, h2]
  simp

theorem run_copy2 {P : Program} (w : World) (dT sT ty elem : TypeId) (g o dLen dCap : Nat) (a : Addr) (sLen sCap : Nat) (cur : Array Value) (t : TypeId) (cs : List Value)
    (hu : P.underlying dT = some (.slice elem)) (hs : (P.info? elem).map (·.size) = some 2)
    (hg : w.heap[g]? = some (.cells cur t (0, 0))) (hn : cs.length = Nat.min sLen dLen * 2)
    (hsrc : ∀ j v, cs[j]? = some v → w.cell? (a.add j) = some v) (hfit : o + cs.length ≤ cur.size) (h1 : ∀ v ∈ cs, v.oneCell' = true) :
    (Builtin.copy_ #[dT, sT] ty #[.slice (some ⟨g, o, none⟩) dLen dCap, .slice (some a) sLen sCap]).run P w =
      .ok (goInt (Nat.min sLen dLen)) (w.setRow g (cur.toList.take o ++ cs ++ cur.toList.drop (o + cs.length)).toArray) := by
  have hl := run_loadCells_list (P := P) w a cs hsrc
  have hst := run_storeCells_at P g o t cs 0 cur w hg (by simpa using hfit) h1
  cases hq : P.info? elem with
  | none => simp [hq] at hs
  | some i =>
    have hi : i.size = 2 := by simpa [hq] using hs
    rw [hn] at hl
    simp [Builtin.copy_, run_underlying hu, Builtin.lenOf, Builtin.firstCells, sizeOf, typeInfo, hq, hi, hl, hst]

theorem wp_val {P : Program} {ops : Array Oper} {rest : List Oper} {o : Oper} {a : Act} {w w' : World} {v : Value} {Q : Exit → Act → World → Prop} (hgd : o.guard = none) (hrun : (execOp a.eval o).run P w = .ok (.value v) w')
    (h : wpList P ops Q rest (a.put o.dst v) w') : wpList P ops Q (o :: rest) a w :=
  wpList_plain hgd fun K hK => by unfold Oper.wp; rw [hrun]; exact hK _ _ h
theorem run_append_op {P : Program} {o : Oper} {a : Act} {w w' : World} {s x : Operand} {t t2 : TypeId} {vs vx v : Value} (ho : o.op = .call { callee := .builtin .append, args := #[s, x], argTypes := #[t, t2] }) (hs : a.eval s = vs) (hx : a.eval x = vx)
    (hrun : (Builtin.append_ #[t, t2] o.type #[vs, vx]).run P w = .ok v w') : (execOp a.eval o).run P w = .ok (.value v) w' := by
  unfold execOp
  simp only [ho, resolve, invoke, builtin, Sem.run_bind, Sem.run_pure, Result.andThen_ok, List.map_toArray, List.map_cons, List.map_nil, hs, hx, hrun]
theorem run_copy_op {P : Program} {o : Oper} {a : Act} {w w' : World} {s x : Operand} {t t2 : TypeId} {vs vx v : Value} (ho : o.op = .call { callee := .builtin .copy, args := #[s, x], argTypes := #[t, t2] }) (hs : a.eval s = vs) (hx : a.eval x = vx)
    (hrun : (Builtin.copy_ #[t, t2] o.type #[vs, vx]).run P w = .ok v w') : (execOp a.eval o).run P w = .ok (.value v) w' := by
  unfold execOp
  simp only [ho, resolve, invoke, builtin, Sem.run_bind, Sem.run_pure, Result.andThen_ok, List.map_toArray, List.map_cons, List.map_nil, hs, hx, hrun]

/-- append(s[:n], make(T, m)...), where it does not fit. -/
theorem run_append_make {P : Program} (w : World) (t ti ty e : TypeId) (i : TypeInfo) (z : Value) (size bytes : Nat) (ht : P.underlying t = some (.slice e)) {k : IntKind} (hti : P.underlying ti = some (.int k)) (hi : P.info? e = some i) (hz : i.zero = some z)
    (hsize : i.size = size) (hby : i.bytes = bytes) (hzs : z.cells.size = size) (hsz : 0 < size) (hb0 : 0 < bytes) (g n cap : Nat) (xs : List Value) (hlx : xs.length = n * size) (hxs : ∀ j v, xs[j]? = some v → w.cell? ((⟨g, 0, none⟩ : Addr).add j) = some v) (kx : IntKind) (m : Nat) (hm : 0 < m) (hcap : cap < n + m) (hbytes : (n + m) * bytes ≤ 140737488355328) :
    (Builtin.append_ #[t, ti] ty #[.slice (some ⟨g, 0, none⟩) n cap, .int kx m]).run P w =
      .ok (.slice (some ⟨w.heap.size, 0, none⟩) (n + m) (grownCap w (n + m) cap e)) (w.drew.alloc (.cells (xs.toArray ++ Builtin.zeroCells z.cells m ++ Builtin.zeroCells z.cells (grownCap w (n + m) cap e - (n + m))) e)) := by
  subst hsize
  subst hby
  have hle : n + m ≤ 140737488355328 := Nat.le_trans (Nat.le_mul_of_pos_right _ hb0) hbytes
  have hw : IntKind.i64.wrap (m : Int) = m := by rw [IntKind.wrap_i64]; omega
  have hneg : ¬ ((m : Int) < 0) := by omega
  have hmb : m * i.bytes ≤ 140737488355328 := Nat.le_trans (Nat.mul_le_mul_right _ (Nat.le_add_left m n)) hbytes
  have hbig : ¬ (281474976710656 < (m : Int) * (i.bytes : Int)) := by
    rw [← Int.natCast_mul]
    omega
  have hsn : i.size ≠ 0 := by omega
  have hn : ¬ (n + m ≤ cap) := by omega
  have h63' : ¬ (9223372036854775807 < ((n : Int) + (m : Int))) := by omega
  have hfit := growslice_fits hcap hbytes
  have h48' : ¬ (281474976710656 < Builtin.nextslicecap (n + m) cap * i.bytes) := by omega
  have hmz : ¬ (m * i.size = 0) := Nat.mul_ne_zero (by omega) hsn
  have hfo := run_firstCells_some (P := P) w.drew i.size n ⟨g, 0, none⟩ n cap xs hlx (by simpa using hxs)
  have hna : Builtin.zeroCells z.cells m = (Builtin.zeroCells z.cells m).toList.toArray := by simp
  simp [Builtin.append_, run_underlying ht, run_underlying hti, sizeOf, typeInfo, zeroValue, hi, hz, asInt, asIntOf, hw, hneg, hbig, hn, h63', h48', Question.forced, hfo, newRow, grownCap, hmz]
theorem run_overlaps (W : World) (gv g o la ca lb cb : Nat) (cv cg : Array Value) (hv : W.heap[gv]? = some (.cells cv 45 (0, 0))) (hg : W.heap[g]? = some (.cells cg 45 (0, 0))) (hne : gv ≠ g) :
    (Extern.SlicesOverlaps.overlaps #[22, 22] #[4] #[.slice (some ⟨gv, 0, none⟩) la ca, .slice (some ⟨g, o, none⟩) lb cb]).run Try.prog W = .ok (.bool false) W := by
  have hs : (sizeOf 45).run Try.prog W = .ok 2 W := by kernel_rfl
  have h22 : Try.prog.underlying 22 = some (.slice 45) := by kernel_rfl
  have hfa : (frozen ⟨gv, 0, none⟩).run Try.prog W = .ok false W := by simp [frozen, Sem.run, World.frozen?, hv]
  delta Extern.SlicesOverlaps.overlaps
  conv => lhs; arg 2; whnf
  simp only [Sem.run]
  simp only [Sem.bind]
  change Sem.run Try.prog (sizeOf 45 >>= _) W = _
  rw [Sem.run_bind, hs, Result.andThen_ok]
  have hsv : W.shape? gv = some (45, cv.size) := by simp [World.shape?, hv]
  have hsg : W.shape? g = some (45, cg.size) := by simp [World.shape?, hg]
  simp [frozen, noView, viewAt, mayBeOne, stringish, shape, Sem.run, World.frozen?, hv, hg, hne, hsv, hsg]
/-- The cells of a row. -/
def fl : List S45 → List Value
  | [] => []
  | x :: l => .string x.f0 :: .string x.f1 :: fl l
theorem fl_len (l : List S45) : (fl l).length = l.length * 2 := by
  induction l with
  | nil => rfl
  | cons x l ih => simp [fl, ih]; omega
theorem fl_append (l m : List S45) : fl (l ++ m) = fl l ++ fl m := by
  induction l with
  | nil => rfl
  | cons x l ih => simp [fl, ih]
theorem fl_take (l : List S45) : ∀ i : Nat, (fl l).take (i * 2) = fl (l.take i) := by
  induction l with
  | nil => intro i; simp [fl]
  | cons x l ih =>
    intro i
    cases i with
    | zero => simp [fl]
    | succ i =>
      rw [show (i + 1) * 2 = i * 2 + 1 + 1 by omega, fl, List.take_succ_cons, List.take_succ_cons, ih, List.take_succ_cons, fl]
theorem fl_drop (l : List S45) : ∀ i : Nat, (fl l).drop (i * 2) = fl (l.drop i) := by
  induction l with
  | nil => intro i; simp [fl]
  | cons x l ih =>
    intro i
    cases i with
    | zero => simp
    | succ i =>
      rw [show (i + 1) * 2 = i * 2 + 1 + 1 by omega, fl, List.drop_succ_cons, List.drop_succ_cons, ih, List.drop_succ_cons]
theorem fl_one (l : List S45) : ∀ u ∈ fl l, u.oneCell' = true := by
  induction l with
  | nil => intro u hu; cases hu
  | cons x l ih =>
    intro u hu
    simp only [fl, List.mem_cons] at hu
    rcases hu with rfl | rfl | hu
    · rfl
    · rfl
    · exact ih u hu
theorem reps_fl {R : S45 → List Value → Prop} (hR : ∀ x c, R x c → c = [.string x.f0, .string x.f1]) (l : List S45) : ∀ inner : List Value, Reps R 2 l inner → inner = fl l := by
  induction l with
  | nil =>
    intro inner h
    exact List.eq_nil_of_length_eq_zero (by simpa using h.1)
  | cons x l ih =>
    intro inner h
    have h0 := hR _ _ (h.2 0 x rfl)
    simp only [Nat.zero_mul, List.drop_zero] at h0
    have h1 : inner.drop 2 = fl l := by
      refine ih _ ⟨?_, fun j p hj => ?_⟩
      · have := h.1
        simp at this ⊢
        omega
      · have := h.2 (j + 1) p (by simpa using hj)
        rw [List.drop_drop]
        rwa [show 2 + j * 2 = (j + 1) * 2 by omega]
    rw [← List.take_append_drop 2 inner, h0, h1]
    rfl
theorem fl_reps {R : S45 → List Value → Prop} (hR : ∀ x, R x [.string x.f0, .string x.f1]) (l : List S45) : Reps R 2 l (fl l) := by
  refine ⟨fl_len l, fun j p hj => ?_⟩
  have hl : j < l.length := (List.getElem?_eq_some_iff.1 hj).1
  rw [fl_drop, List.drop_eq_getElem_cons hl]
  have : l[j] = p := (List.getElem?_eq_some_iff.1 hj).2
  rw [this]
  exact hR p
theorem R_raw {W : World} {base g c m : Nat} {l : List S45} {cur : Array Value} (hb : base ≤ g) (hg : W.heap[g]? = some (.cells cur 45 (0, 0))) (hm : m ≤ c) (hcm : c ≤ maxLen) (hcs : cur.size = c * 2) (htake : cur.toList.take (m * 2) = fl l) (hl : l.length = m) :
    k45.R 45 W base (fun _ => True) (.slice (some ⟨g, 0, none⟩) m c) l := by
  subst hl
  exact ⟨fun _ _ => trivial, fl l, ⟨fl_len l, .inr ⟨g, c, cur, rfl, hb, hg, hm, hcm, hcs, htake⟩⟩, fl_reps (fun x => k45_mkM _ _ _ x) l⟩
theorem ins_fl (l : List S45) (i : Nat) (x : S45) : fl (l.take i ++ [x] ++ l.drop i) = fl (l.take i) ++ [.string x.f0, .string x.f1] ++ fl (l.drop i) := by
  rw [fl_append, fl_append]
  rfl
theorem ins_take (cur L1 : List Value) (l : List S45) (i n : Nat) (x : S45) (hn : n = l.length) (hi : i ≤ n) (ht : cur.take (n * 2) = fl l) (hc : n * 2 + 2 ≤ cur.length) (hL : cur.take ((i + 1) * 2) ++ fl (l.drop i) ++ cur.drop ((i + 1) * 2 + (fl (l.drop i)).length) = L1) :
    (L1.take (i * 2) ++ [Value.string x.f0, Value.string x.f1] ++ L1.drop (i * 2 + 2)).length = cur.length ∧ (L1.take (i * 2) ++ [Value.string x.f0, Value.string x.f1] ++ L1.drop (i * 2 + 2)).take ((n + 1) * 2) = fl (l.take i ++ [x] ++ l.drop i) := by
  have hA : (fl (l.take i)).length = i * 2 := by rw [fl_len, List.length_take]; omega
  have hB : (fl (l.drop i)).length = (n - i) * 2 := by rw [fl_len, List.length_drop]; omega
  have hcur : cur = fl (l.take i) ++ fl (l.drop i) ++ cur.drop (n * 2) := by
    rw [← fl_append, List.take_append_drop, ← ht, List.take_append_drop]
  have hC : 2 ≤ (cur.drop (n * 2)).length := by rw [List.length_drop]; omega
  have h := ins_inplace (fl (l.take i)) (fl (l.drop i)) (cur.drop (n * 2)) [Value.string x.f0, Value.string x.f1] rfl hC L1 (by
    rw [← hL, ← hcur, hA, show (i + 1) * 2 = i * 2 + 2 by omega])
  rw [hA] at h
  rw [h]
  constructor
  · simp only [List.length_append, hA, hB, List.length_drop, List.length_cons, List.length_nil]
    omega
  · rw [ins_fl]
    refine List.take_left' ?_
    simp only [List.length_append, hA, hB, List.length_cons, List.length_nil]
    omega
theorem ins_grow (l : List S45) (i n : Nat) (x : S45) (hn : n = l.length) (hi : i ≤ n) (D Z L0 L2 : List Value) (hD : D = fl (l.take i) ++ Z) (hl : (n + 1) * 2 ≤ D.length) (h0 : D.take (i * 2) ++ [Value.string x.f0, Value.string x.f1] ++ D.drop (i * 2 + 2) = L0) (h2 : L0.take ((i + 1) * 2) ++ fl (l.drop i) ++ L0.drop ((i + 1) * 2 + (fl (l.drop i)).length) = L2) :
    L0.length = D.length ∧ L2.length = D.length ∧ L2.take ((n + 1) * 2) = fl (l.take i ++ [x] ++ l.drop i) := by
  have hA : (fl (l.take i)).length = i * 2 := by rw [fl_len, List.length_take]; omega
  have hB : (fl (l.drop i)).length = (n - i) * 2 := by rw [fl_len, List.length_drop]; omega
  have hL0 : L0.length = D.length := by
    rw [← h0]
    simp only [List.length_append, List.length_take, List.length_drop, List.length_cons, List.length_nil]
    omega
  have ht : D.take (i * 2) = fl (l.take i) := by rw [hD, ← hA]; exact List.take_left
  have ht0 : L0.take ((i + 1) * 2) = fl (l.take i) ++ [Value.string x.f0, Value.string x.f1] := by
    rw [← h0, ht]
    refine List.take_left' ?_
    simp only [List.length_append, hA, List.length_cons, List.length_nil]
    omega
  refine ⟨hL0, ?_, ?_⟩
  · rw [← h2, hB]
    simp only [List.length_append, List.length_take, List.length_drop, hB, hL0]
    omega
  · rw [← h2, ht0, ins_fl]
    refine List.take_left' ?_
    simp only [List.length_append, hA, hB, List.length_cons, List.length_nil]
    omega
end Go.Proofs.Ytnellpilmjjbcaa.G
