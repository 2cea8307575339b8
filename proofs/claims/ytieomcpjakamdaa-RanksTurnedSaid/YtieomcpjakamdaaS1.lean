/- The row under the stable sort (numbers), and slices.swapRangeCmpFunc, rotateCmpFunc: their walks. -/
import Derived.Test.YtieomcpjakamdaaSrt
import Derived.Test.YtieomcpjakamdaaGx0
import Derived.Laws.EntriesVeiled
namespace Go.Proofs.Ytieomcpjakamdaa.G
open Go.RowKit Go.Proofs.YtieomcpjakamdaaW.PrintWords Go.Proofs.YtieomcpjakamdaaW.PrintLast Go.Proofs.YtieomcpjakamdaaW.PrintMore Go.Proofs.Ytieomcpjakamdaa.Srt
set_option linter.unusedVariables false
set_option linter.unusedSimpArgs false

/-- The row at A of n numbers (room c): L. -/
structure Rw (w0 : World) (A : Option Addr) (n c : Nat) (W : World) (L : List Int) : Prop where
  ln : L.length = n
  r : Kd.R (Kd.int .i64) 3 W w0.heap.size (fun _ => True) (.slice A n c) L
  b : Below w0.heap.size w0 W
theorem Rw.below {w0 : World} {A : Option Addr} {n c : Nat} {W W' : World} {L : List Int} (h : Rw w0 A n c W L) (hb : Below W.heap.size W W') : Rw w0 A n c W' L :=
  ⟨h.ln, Kd.R_below h.r hb, h.b.trans (hb.mono h.b.size)⟩
theorem Rw.drew {w0 : World} {A : Option Addr} {n c : Nat} {W : World} {L : List Int} (h : Rw w0 A n c W L) : Rw w0 A n c W.drew L := h.below (below_drew (Below.refl _ _))
theorem Rw.form {w0 : World} {A : Option Addr} {n c : Nat} {W : World} {L : List Int} (h : Rw w0 A n c W L) (hp : 0 < n) : ∃ g, A = some ⟨g, 0, none⟩ ∧ w0.heap.size ≤ g := by
  have hp' : 0 < L.length := by rw [h.ln]; exact hp
  obtain ⟨g, cap, e, hb, _⟩ := Kd.R_form h.r hp'
  injection e with e1 e2 e3
  exact ⟨g, e1, hb⟩
theorem Rw.cell {w0 : World} {g n c : Nat} {W : World} {L : List Int} (h : Rw w0 (some ⟨g, 0, none⟩) n c W L) (i : Nat) (hi : i < n) (x : Int) (hx : L[i]? = some x) :
    W.cell? ⟨g, i, none⟩ = some (.int .i64 x) ∧ W.frozen? ⟨g, i, none⟩ = false := by
  have := Kd.R_celln (enc := fun x => Value.int .i64 x) (0 : Int) h.r (i : Int) (by omega) (by omega)
  have e : rdOf (0 : Int) L (i : Int) = x := by
    unfold rdOf
    simp [List.getD_eq_getElem?_getD, hx]
  rw [e] at this
  exact this
theorem Rw.set {w0 : World} {g n c : Nat} {W : World} {L : List Int} (h : Rw w0 (some ⟨g, 0, none⟩) n c W L) (hp : 0 < n) (i : Nat) (v : Int) : Rw w0 (some ⟨g, 0, none⟩) n c (W.setCell ⟨g, i, none⟩ (.int .i64 v)) (L.set i v) := by
  obtain ⟨g', e, hb⟩ := h.form hp
  injection e with e
  injection e with e
  subst e
  exact ⟨by rw [List.length_set, h.ln], (Kd.R_putg h.r (i : Int) v).1, below_set h.b hb⟩

theorem set_mid {α : Type} (A B : List α) (u v : α) (i : Nat) (hi : i = A.length) : (A ++ u :: B).set i v = A ++ v :: B := by
  subst hi
  simp
theorem get_mid {α : Type} (A B : List α) (u : α) (i : Nat) (hi : i = A.length) : (A ++ u :: B)[i]? = some u := by
  subst hi
  simp
/-- Two that change places. -/
theorem Rw.swap {w0 : World} {g n c : Nat} {W : World} {A B C : List Int} {x z : Int} (h : Rw w0 (some ⟨g, 0, none⟩) n c W (A ++ x :: (B ++ z :: C))) (p q : Nat) (hp : p = A.length) (hq : q = A.length + 1 + B.length) :
    Rw w0 (some ⟨g, 0, none⟩) n c ((W.setCell ⟨g, p, none⟩ (.int .i64 z)).setCell ⟨g, q, none⟩ (.int .i64 x)) (A ++ z :: (B ++ x :: C)) := by
  have hn : 0 < n := by
    have := h.ln
    simp at this
    omega
  have h1 := (h.set hn p z).set hn q x
  rw [set_mid _ _ _ _ p hp] at h1
  have e : (A ++ z :: (B ++ z :: C)) = (A ++ z :: B) ++ z :: C := by simp
  rw [e, set_mid _ _ _ _ q (by simp; omega)] at h1
  have e2 : (A ++ z :: B) ++ x :: C = A ++ z :: (B ++ x :: C) := by simp
  rw [e2] at h1
  exact h1
theorem Rw.swap' {w0 : World} {g n c : Nat} {W : World} {A B C : List Int} {x z : Int} (h : Rw w0 (some ⟨g, 0, none⟩) n c W (A ++ x :: (B ++ z :: C))) (p q : Nat) (hp : p = A.length) (hq : q = A.length + 1 + B.length) :
    Rw w0 (some ⟨g, 0, none⟩) n c ((W.setCell ⟨g, q, none⟩ (.int .i64 x)).setCell ⟨g, p, none⟩ (.int .i64 z)) (A ++ z :: (B ++ x :: C)) := by
  have hn : 0 < n := by
    have := h.ln
    simp at this
    omega
  have h1 := (h.set hn q x).set hn p z
  rw [List.set_comm _ _ (by omega), set_mid _ _ _ _ p hp] at h1
  have e : (A ++ z :: (B ++ z :: C)) = (A ++ z :: B) ++ z :: C := by simp
  rw [e, set_mid _ _ _ _ q (by simp; omega)] at h1
  have e2 : (A ++ z :: B) ++ x :: C = A ++ z :: (B ++ x :: C) := by simp
  rw [e2] at h1
  exact h1
theorem Rw.two {w0 : World} {g n c : Nat} {W : World} {A B C : List Int} {x z : Int} (h : Rw w0 (some ⟨g, 0, none⟩) n c W (A ++ x :: (B ++ z :: C))) (p q : Nat) (hp : p = A.length) (hq : q = A.length + 1 + B.length) :
    q < n ∧ W.cell? ⟨g, p, none⟩ = some (.int .i64 x) ∧ W.frozen? ⟨g, p, none⟩ = false ∧ W.cell? ⟨g, q, none⟩ = some (.int .i64 z) ∧
      (∀ v, (W.setCell ⟨g, p, none⟩ (.int .i64 v)).cell? ⟨g, q, none⟩ = some (.int .i64 z) ∧ (W.setCell ⟨g, p, none⟩ (.int .i64 v)).frozen? ⟨g, q, none⟩ = false) ∧
      (∀ v, (W.setCell ⟨g, q, none⟩ (.int .i64 v)).cell? ⟨g, p, none⟩ = some (.int .i64 x) ∧ (W.setCell ⟨g, q, none⟩ (.int .i64 v)).frozen? ⟨g, p, none⟩ = false) ∧ W.frozen? ⟨g, q, none⟩ = false := by
  have hl := h.ln
  simp at hl
  have h1 := h.cell p (by omega) x (get_mid _ _ _ p hp)
  have e : (A ++ x :: (B ++ z :: C)) = (A ++ x :: B) ++ z :: C := by simp
  have h2 := h.cell q (by omega) z (by rw [e]; exact get_mid _ _ _ q (by simp; omega))
  refine ⟨by omega, h1.1, h1.2, h2.1, fun v => (h.set (by omega) p v).cell q (by omega) z ?_, fun v => (h.set (by omega) q v).cell p (by omega) x ?_, h2.2⟩
  · rw [List.getElem?_set_ne (by omega), e]
    exact get_mid _ _ _ q (by simp; omega)
  · rw [List.getElem?_set_ne (by omega)]
    exact get_mid _ _ _ p hp

/-- What swapRange has come to behind k of m. -/
def swk (P X Y Z Q : List Int) (k : Nat) : List Int := P ++ (Z.take k ++ X.drop k) ++ Y ++ (X.take k ++ Z.drop k) ++ Q
theorem drop_get {α : Type} {X : List α} {k : Nat} {x : α} (h : X[k]? = some x) : X.drop k = x :: X.drop (k + 1) := by
  obtain ⟨hk, e⟩ := List.getElem?_eq_some_iff.1 h
  rw [List.drop_eq_getElem_cons hk, e]
theorem take_get {α : Type} {X : List α} {k : Nat} {x : α} (h : X[k]? = some x) : X.take (k + 1) = X.take k ++ [x] := by
  rw [List.take_add_one, h]
  rfl
theorem swk_open (P X Y Z Q : List Int) (k : Nat) (x z : Int) (hX : X[k]? = some x) (hZ : Z[k]? = some z) :
    swk P X Y Z Q k = (P ++ Z.take k) ++ x :: ((X.drop (k + 1) ++ Y ++ X.take k) ++ z :: (Z.drop (k + 1) ++ Q)) := by
  unfold swk
  rw [drop_get hX, drop_get hZ]
  simp only [List.append_assoc, List.cons_append]
theorem swk_shut (P X Y Z Q : List Int) (k : Nat) (x z : Int) (hX : X[k]? = some x) (hZ : Z[k]? = some z) :
    (P ++ Z.take k) ++ z :: ((X.drop (k + 1) ++ Y ++ X.take k) ++ x :: (Z.drop (k + 1) ++ Q)) = swk P X Y Z Q (k + 1) := by
  unfold swk
  rw [take_get hX, take_get hZ]
  simp only [List.append_assoc, List.cons_append, List.nil_append]

set_option maxHeartbeats 4000000 in
set_option maxRecDepth 100000 in
theorem swapRange (w0 : World) (A : Option Addr) (n c : Nat) (hn : n ≤ 140737488351232) (cv : Value) (P X Y Z Q : List Int) (m : Nat) (hX : X.length = m) (hZ : Z.length = m) (W : World) (h : Rw w0 A n c W (P ++ X ++ Y ++ Z ++ Q))
    (a b mi : Int) (ha : a = P.length) (hb : b = P.length + m + Y.length) (hmi : mi = m) :
    Calls Try.prog 30 #[.slice A n c, .int .i64 a, .int .i64 b, .int .i64 mi, cv] W fun e w' => e = .returned (.tuple #[]) ∧ Rw w0 A n c w' (P ++ Z ++ Y ++ X ++ Q) := by
  have H := Aside0.mk (show Rw w0 A n c W (swk P X Y Z Q 0) by unfold swk; simpa using h)
  have HN := Aside0.mk hn
  have HA := Aside0.mk ha
  have HBB := Aside0.mk hb
  have HL := Aside0.mk (And.intro hX hZ)
  have HMI := Aside0.mk hmi
  have HLN := Aside0.mk (show P.length + m + Y.length + m ≤ n by
    have := h.ln
    simp at this
    omega)
  clear h hn ha hb hX hZ hmi
  go_enter Try.func30, Try.ntmps30
  go_wp2_with fail
  go_loopg [10] m (fun kq v10 W' => ∃ (i : Int) (k : Nat), v10 = .int .i64 i ∧ Aside0 (i = k) ∧ Aside0 (k + kq = m) ∧ Aside0 (Rw w0 A n c W' (swk P X Y Z Q k)))
  case atStart => exact ⟨0, 0, rfl, ⟨rfl⟩, ⟨by omega⟩, H⟩
  case round =>
  clear H
  obtain ⟨i, k, rfl, HI, HK, H⟩ := hrel
  cases gk with
  | zero =>
    have hib : decide (i < mi) = false := decide_eq_false (by have := HMI.out; have := HI.out; have := HK.out; omega)
    go_wp2_with fail
    refine bodyPost_end (results_none rfl _ _ _) rfl ?_
    refine ⟨rfl, ?_⟩
    have hk : k = m := by have := HK.out; omega
    have h := H.out
    unfold swk at h
    rw [List.take_of_length_le (by have := HL.out; omega), List.take_of_length_le (by have := HL.out; omega), List.drop_eq_nil_of_le (by have := HL.out; omega), List.drop_eq_nil_of_le (by have := HL.out; omega)] at h
    simpa using h
  | succ k1 =>
    have hib : decide (i < mi) = true := decide_eq_true (by have := HMI.out; have := HI.out; have := HK.out; omega)
    have hkX : k < X.length := by have := HK.out; have := HL.out; omega
    have hkZ : k < Z.length := by have := HK.out; have := HL.out; omega
    have HKK := Aside0.mk (And.intro hkX hkZ)
    obtain ⟨g, rfl, hg⟩ := H.out.form (by have := HLN.out; have := HL.out; omega)
    obtain ⟨p, hp⟩ : ∃ p : Nat, p = P.length + k := ⟨_, rfl⟩
    obtain ⟨q, hq⟩ : ∃ q : Nat, q = P.length + m + Y.length + k := ⟨_, rfl⟩
    obtain ⟨x, hx⟩ : ∃ x, X[k]? = some x := ⟨_, List.getElem?_eq_getElem hkX⟩
    obtain ⟨z, hz⟩ : ∃ z, Z[k]? = some z := ⟨_, List.getElem?_eq_getElem hkZ⟩
    have HX := Aside0.mk (And.intro hx hz)
    have H2 := Aside0.mk (swk_open P X Y Z Q k x z hx hz ▸ H.out)
    have hpA : p = (P ++ Z.take k).length := by rw [List.length_append, List.length_take]; omega
    have hqA : q = (P ++ Z.take k).length + 1 + (X.drop (k + 1) ++ Y ++ X.take k).length := by
      simp only [List.length_append, List.length_take, List.length_drop]
      have := HL.out
      omega
    have HPQ := Aside0.mk (And.intro hpA hqA)
    obtain ⟨hqn, cp, fp, cq, c2, _, _⟩ := H2.out.two p q hpA hqA
    obtain ⟨cq2, fq2⟩ := c2 z
    have hpn : p < n := by omega
    have w1 : IntKind.i64.wrap (a + i) = (p : Int) := by rw [IntWalk.i64_in _ (by have := HA.out; have := HI.out; have := HN.out; omega)]; have := HA.out; have := HI.out; omega
    have w2 : IntKind.i64.wrap (b + i) = (q : Int) := by rw [IntWalk.i64_in _ (by have := HBB.out; have := HI.out; have := HN.out; omega)]; have := HBB.out; have := HI.out; omega
    have hi1 : IntKind.i64.wrap (i + 1) = i + 1 := IntWalk.i64_in _ (by have := HI.out; have := HN.out; omega)
    have p0 : decide ((0 : Int) ≤ (p : Int)) = true := decide_eq_true (by omega)
    have q0 : decide ((0 : Int) ≤ (q : Int)) = true := decide_eq_true (by omega)
    have p1 := eq_true hpn
    have q1 := eq_true hqn
    clear hx hz hpn hqn hp hq hpA hqA hg hkX hkZ c2
    go_upto_region 3 with fail
    refine start_ (n := 24) (S := (fun w' => w'.cell? ⟨g, p, none⟩ = some (.int .i64 x) ∧ w'.cell? ⟨g, q, none⟩ = some (.int .i64 z))) (ds := [21, 23]) #[false, false, false, false, false, false, false, false, false, false, false, false, false, false, false, false, false, false, false, false, false, false, false, false] (by kernel_rfl) rfl rfl ?_ ?_
    · exact ⟨cp, cq⟩
    intro hHeld
    refine pure_ (i := 0) (N := some 16) (v := ?_) (a' := ?_) #[true, false, false, false, false, false, false, false, false, false, false, false, false, false, false, false, false, false, false, false, false, false, false, false] rfl rfl (by kernel_rfl) (fun _ _ _ h => h) (Or.inl ⟨by rfl, ?_⟩) ?_ ?_
    rotate_left
    · intro w'
      go_simp
      with_reducible rfl
    rotate_left
    · simp only [Act.put, List.setIfInBounds_toArray, List.set_cons_zero, List.set_cons_succ, i64_w, i32_w]
      rfl
    refine pure_ (i := 1) (N := some 17) (v := ?_) (a' := ?_) #[true, true, false, false, false, false, false, false, false, false, false, false, false, false, false, false, false, false, false, false, false, false, false, false] rfl rfl (by kernel_rfl) (fun _ _ _ h => h) (Or.inl ⟨by rfl, ?_⟩) ?_ ?_
    rotate_left
    · intro w'
      go_simp
      with_reducible rfl
    rotate_left
    · simp only [Act.put, List.setIfInBounds_toArray, List.set_cons_zero, List.set_cons_succ, i64_w, i32_w]
      rfl
    refine pure_ (i := 2) (N := some 18) (v := ?_) (a' := ?_) #[true, true, true, false, false, false, false, false, false, false, false, false, false, false, false, false, false, false, false, false, false, false, false, false] rfl rfl (by kernel_rfl) (fun _ _ _ h => h) (Or.inl ⟨by rfl, ?_⟩) ?_ ?_
    rotate_left
    · intro w'
      go_simp
      with_reducible rfl
    rotate_left
    · simp only [Act.put, List.setIfInBounds_toArray, List.set_cons_zero, List.set_cons_succ, i64_w, i32_w]
      rfl
    refine pure_ (i := 3) (N := some 19) (v := ?_) (a' := ?_) #[true, true, true, true, false, false, false, false, false, false, false, false, false, false, false, false, false, false, false, false, false, false, false, false] rfl rfl (by kernel_rfl) (fun _ _ _ h => h) (Or.inl ⟨by rfl, ?_⟩) ?_ ?_
    rotate_left
    · intro w'
      go_simp
      with_reducible rfl
    rotate_left
    · simp only [Act.put, List.setIfInBounds_toArray, List.set_cons_zero, List.set_cons_succ, i64_w, i32_w]
      rfl
    refine pure_ (i := 4) (N := some 20) (v := ?_) (a' := ?_) #[true, true, true, true, true, false, false, false, false, false, false, false, false, false, false, false, false, false, false, false, false, false, false, false] rfl rfl (by kernel_rfl) (fun _ _ _ h => h) (Or.inl ⟨by rfl, ?_⟩) ?_ ?_
    rotate_left
    · intro w'
      go_simp
      with_reducible rfl
    rotate_left
    · simp only [Act.put, List.setIfInBounds_toArray, List.set_cons_zero, List.set_cons_succ, i64_w, i32_w]
      rfl
    refine pure_ (i := 5) (N := some 21) (v := ?_) (a' := ?_) #[true, true, true, true, true, true, false, false, false, false, false, false, false, false, false, false, false, false, false, false, false, false, false, false] rfl rfl (by kernel_rfl) (fun _ _ _ h => h) (Or.inl ⟨by rfl, ?_⟩) ?_ ?_
    rotate_left
    · intro w'
      go_simp
      with_reducible rfl
    rotate_left
    · simp only [Act.put, List.setIfInBounds_toArray, List.set_cons_zero, List.set_cons_succ, i64_w, i32_w]
      rfl
    refine pure_ (i := 6) (N := some 22) (v := ?_) (a' := ?_) #[true, true, true, true, true, true, true, false, false, false, false, false, false, false, false, false, false, false, false, false, false, false, false, false] rfl rfl (by kernel_rfl) (fun _ _ _ h => h) (Or.inl ⟨by rfl, ?_⟩) ?_ ?_
    rotate_left
    · intro w'
      go_simp
      with_reducible rfl
    rotate_left
    · simp only [Act.put, List.setIfInBounds_toArray, List.set_cons_zero, List.set_cons_succ, i64_w, i32_w]
      rfl
    refine pure_ (i := 7) (N := some 23) (v := ?_) (a' := ?_) #[true, true, true, true, true, true, true, true, false, false, false, false, false, false, false, false, false, false, false, false, false, false, false, false] rfl rfl (by kernel_rfl) (fun _ _ _ h => h) (Or.inl ⟨by rfl, ?_⟩) ?_ ?_
    rotate_left
    · intro w'
      go_simp
      with_reducible rfl
    rotate_left
    · simp only [Act.put, List.setIfInBounds_toArray, List.set_cons_zero, List.set_cons_succ, i64_w, i32_w]
      rfl
    refine pure_ (i := 8) (N := some 24) (v := ?_) (a' := ?_) #[true, true, true, true, true, true, true, true, true, false, false, false, false, false, false, false, false, false, false, false, false, false, false, false] rfl rfl (by kernel_rfl) (fun _ _ _ h => h) (Or.inl ⟨by rfl, ?_⟩) ?_ ?_
    rotate_left
    · intro w'
      go_simp
      with_reducible rfl
    rotate_left
    · simp only [Act.put, List.setIfInBounds_toArray, List.set_cons_zero, List.set_cons_succ, i64_w, i32_w]
      rfl
    refine pure_ (i := 9) (N := some 25) (v := ?_) (a' := ?_) #[true, true, true, true, true, true, true, true, true, true, false, false, false, false, false, false, false, false, false, false, false, false, false, false] rfl rfl (by kernel_rfl) (fun _ _ _ h => h) (Or.inl ⟨by rfl, ?_⟩) ?_ ?_
    rotate_left
    · intro w'
      go_simp
      with_reducible rfl
    rotate_left
    · simp only [Act.put, List.setIfInBounds_toArray, List.set_cons_zero, List.set_cons_succ, i64_w, i32_w]
      rfl
    refine pure_ (i := 10) (N := some 26) (v := ?_) (a' := ?_) #[true, true, true, true, true, true, true, true, true, true, true, false, false, false, false, false, false, false, false, false, false, false, false, false] rfl rfl (by kernel_rfl) (fun _ _ _ h => h) (Or.inl ⟨by rfl, ?_⟩) ?_ ?_
    rotate_left
    · intro w'
      go_simp
      with_reducible rfl
    rotate_left
    · simp only [Act.put, List.setIfInBounds_toArray, List.set_cons_zero, List.set_cons_succ, i64_w, i32_w]
      rfl
    refine pure_ (i := 11) (N := some 27) (v := ?_) (a' := ?_) #[true, true, true, true, true, true, true, true, true, true, true, true, false, false, false, false, false, false, false, false, false, false, false, false] rfl rfl (by kernel_rfl) (fun _ _ _ h => h) (Or.inl ⟨by rfl, ?_⟩) ?_ ?_
    rotate_left
    · intro w'
      go_simp
      with_reducible rfl
    rotate_left
    · simp only [Act.put, List.setIfInBounds_toArray, List.set_cons_zero, List.set_cons_succ, i64_w, i32_w]
      rfl
    refine pure_ (i := 12) (N := some 28) (v := ?_) (a' := ?_) #[true, true, true, true, true, true, true, true, true, true, true, true, true, false, false, false, false, false, false, false, false, false, false, false] rfl rfl (by kernel_rfl) (fun _ _ _ h => h) (Or.inl ⟨by rfl, ?_⟩) ?_ ?_
    rotate_left
    · intro w'
      go_simp
      with_reducible rfl
    rotate_left
    · simp only [Act.put, List.setIfInBounds_toArray, List.set_cons_zero, List.set_cons_succ, i64_w, i32_w]
      rfl
    refine pure_ (i := 14) (N := some 30) (v := ?_) (a' := ?_) #[true, true, true, true, true, true, true, true, true, true, true, true, true, false, true, false, false, false, false, false, false, false, false, false] rfl rfl (by kernel_rfl) (fun _ _ _ h => h) (Or.inl ⟨by rfl, ?_⟩) ?_ ?_
    rotate_left
    · intro w'
      go_simp
      with_reducible rfl
    rotate_left
    · simp only [Act.put, List.setIfInBounds_toArray, List.set_cons_zero, List.set_cons_succ, i64_w, i32_w]
      rfl
    refine pure_ (i := 15) (N := some 31) (v := ?_) (a' := ?_) #[true, true, true, true, true, true, true, true, true, true, true, true, true, false, true, true, false, false, false, false, false, false, false, false] rfl rfl (by kernel_rfl) (fun _ _ _ h => h) (Or.inl ⟨by rfl, ?_⟩) ?_ ?_
    rotate_left
    · intro w'
      go_simp
      with_reducible rfl
    rotate_left
    · simp only [Act.put, List.setIfInBounds_toArray, List.set_cons_zero, List.set_cons_succ, i64_w, i32_w]
      rfl
    refine pure_ (i := 16) (N := some 32) (v := ?_) (a' := ?_) #[true, true, true, true, true, true, true, true, true, true, true, true, true, false, true, true, true, false, false, false, false, false, false, false] rfl rfl (by kernel_rfl) (fun _ _ _ h => h) (Or.inl ⟨by rfl, ?_⟩) ?_ ?_
    rotate_left
    · intro w'
      go_simp
      with_reducible rfl
    rotate_left
    · simp only [Act.put, List.setIfInBounds_toArray, List.set_cons_zero, List.set_cons_succ, i64_w, i32_w]
      rfl
    refine pure_ (i := 17) (N := some 33) (v := ?_) (a' := ?_) #[true, true, true, true, true, true, true, true, true, true, true, true, true, false, true, true, true, true, false, false, false, false, false, false] rfl rfl (by kernel_rfl) (fun _ _ _ h => h) (Or.inl ⟨by rfl, ?_⟩) ?_ ?_
    rotate_left
    · intro w'
      go_simp
      with_reducible rfl
    rotate_left
    · simp only [Act.put, List.setIfInBounds_toArray, List.set_cons_zero, List.set_cons_succ, i64_w, i32_w]
      rfl
    refine pure_ (i := 18) (N := some 34) (v := ?_) (a' := ?_) #[true, true, true, true, true, true, true, true, true, true, true, true, true, false, true, true, true, true, true, false, false, false, false, false] rfl rfl (by kernel_rfl) (fun _ _ _ h => h) (Or.inl ⟨by rfl, ?_⟩) ?_ ?_
    rotate_left
    · intro w'
      go_simp
      with_reducible rfl
    rotate_left
    · simp only [Act.put, List.setIfInBounds_toArray, List.set_cons_zero, List.set_cons_succ, i64_w, i32_w]
      rfl
    refine take_ (i := 13) (N := some 29) (v := ?_) (a' := ?_) #[true, true, true, true, true, true, true, true, true, true, true, true, true, true, true, true, true, true, true, false, false, false, false, false] rfl rfl (by kernel_rfl) (fun _ _ _ h => h) (Or.inl ⟨by rfl, ?_⟩) hHeld ?_ ?_
    rotate_left
    · rintro w' ⟨s0, s1⟩
      go_simp
      with_reducible rfl
    rotate_left
    · simp only [Act.put, List.setIfInBounds_toArray, List.set_cons_zero, List.set_cons_succ, i64_w, i32_w]
      rfl
    refine take_ (i := 19) (N := some 35) (v := ?_) (a' := ?_) #[true, true, true, true, true, true, true, true, true, true, true, true, true, true, true, true, true, true, true, true, false, false, false, false] rfl rfl (by kernel_rfl) (fun _ _ _ h => h) (Or.inl ⟨by rfl, ?_⟩) hHeld ?_ ?_
    rotate_left
    · rintro w' ⟨s0, s1⟩
      go_simp
      with_reducible rfl
    rotate_left
    · simp only [Act.put, List.setIfInBounds_toArray, List.set_cons_zero, List.set_cons_succ, i64_w, i32_w]
      rfl
    refine pure_ (i := 20) (N := some 36) (v := ?_) (a' := ?_) #[true, true, true, true, true, true, true, true, true, true, true, true, true, true, true, true, true, true, true, true, true, false, false, false] rfl rfl (by kernel_rfl) (fun _ _ _ h => h) (Or.inl ⟨by rfl, ?_⟩) ?_ ?_
    rotate_left
    · intro w'
      go_simp
      with_reducible rfl
    rotate_left
    · simp only [Act.put, List.setIfInBounds_toArray, List.set_cons_zero, List.set_cons_succ, i64_w, i32_w]
      rfl
    refine last_ (i := 21) (N := none) #[true, true, true, true, true, true, true, true, true, true, true, true, true, true, true, true, true, true, true, true, true, true, false, false] rfl rfl (by kernel_rfl) (by decide) (fun K hK => ?_)
    refine skip_ (w1 := wr.drew.setCell ⟨g, p, none⟩ (.int .i64 z)) (by rfl) rfl ?_ ?_
    · first | (go_simp; done) | (go_simp; rfl)
    refine hK.out _ _ ?_
    clear hK K
    refine pure_ (i := 22) (N := some 37) (v := ?_) (a' := ?_) #[true, true, true, true, true, true, true, true, true, true, true, true, true, true, true, true, true, true, true, true, true, true, true, false] rfl rfl (by kernel_rfl) (fun _ _ _ h => h) (Or.inl ⟨by rfl, ?_⟩) ?_ ?_
    rotate_left
    · intro w'
      go_simp
      with_reducible rfl
    rotate_left
    · simp only [Act.put, List.setIfInBounds_toArray, List.set_cons_zero, List.set_cons_succ, i64_w, i32_w]
      rfl
    refine last_ (i := 23) (N := none) #[true, true, true, true, true, true, true, true, true, true, true, true, true, true, true, true, true, true, true, true, true, true, true, true] rfl rfl (by kernel_rfl) (by decide) (fun K hK => ?_)
    refine skip_ (w1 := (wr.drew.setCell ⟨g, p, none⟩ (.int .i64 z)).setCell ⟨g, q, none⟩ (.int .i64 x)) (by rfl) rfl ?_ ?_
    · first | (go_simp; done) | (go_simp; rfl)
    refine hK.out _ _ ?_
    clear hK K
    refine done_ (by kernel_rfl) ?_
    clear cp cq fp fq2 cq2
    have H3 := Aside0.mk (show Rw w0 (some ⟨g, 0, none⟩) n c ((wr.drew.setCell ⟨g, p, none⟩ (.int .i64 z)).setCell ⟨g, q, none⟩ (.int .i64 x)) (swk P X Y Z Q (k + 1)) by
      have := H2.out.drew.swap p q HPQ.out.1 HPQ.out.2
      rw [swk_shut P X Y Z Q k x z HX.out.1 HX.out.2] at this
      exact this)
    obtain ⟨W3, hW3⟩ : ∃ W3, (wr.drew.setCell ⟨g, p, none⟩ (.int .i64 z)).setCell ⟨g, q, none⟩ (.int .i64 x) = W3 := ⟨_, rfl⟩
    rw [hW3] at H3 ⊢
    clear hW3
    go_wp2_with fail
    go_roundg k1
    case measure => omega
    case rel => exact ⟨i + 1, k + 1, rfl, ⟨by have := HI.out; omega⟩, ⟨by have := HK.out; omega⟩, H3⟩
end Go.Proofs.Ytieomcpjakamdaa.G
