import Derived.Test.YtahjlbbliihgpaaH1
namespace Go.Proofs.Ytahjlbbliihgpaa.G
open Go.RowKit Go.Proofs.YtahjlbbliihgpaaW.PrintWords Go.Proofs.YtahjlbbliihgpaaW.PrintLast Go.Proofs.YtahjlbbliihgpaaW.PrintMore
set_option linter.unusedVariables false
set_option linter.unusedSimpArgs false

theorem hinfo3 : (Try.prog.info? 3).map (fun i => (i.zero, i.size, i.bytes)) = some (some (.int .i64 0), 1, 8) := by kernel_rfl
theorem hinfo22 : (Try.prog.info? 22).map (fun i => (i.zero, i.size, i.bytes)) = some (some (.slice none 0 0), 1, 24) := by kernel_rfl

theorem Rint_at {k : IntKind} {e g n cap base : Nat} {W : World} {ok : Nat → Prop} {xs : List Int} (h : (Kd.int k).R e W base ok (.slice (some ⟨g, 0, none⟩) n cap) xs) (i : Nat) (hi : i < n) :
    W.cell? ⟨g, i, none⟩ = some (.int k (xs.getD i 0)) ∧ W.frozen? ⟨g, i, none⟩ = false := by
  have hn := (Kd.R_reads' h).1
  obtain ⟨c, hcl, hM, hcc, hf⟩ := Kd.R_elem h 0 (i : Int) (by omega) (by omega)
  have hM : c = [.int k (xs.getD i 0)] := hM
  subst hM
  have h1 := hcc 0 _ rfl
  have h2 := hf 0
  have e1 : (i : Int).toNat * (Kd.int k).sz + 0 = i := by show (i : Int).toNat * 1 + 0 = i; omega
  rw [e1] at h1 h2
  exact ⟨h1, h2⟩
theorem Rint_store {k : IntKind} {e g n cap base : Nat} {W : World} {ok : Nat → Prop} {xs : List Int} (h : (Kd.int k).R e W base ok (.slice (some ⟨g, 0, none⟩) n cap) xs) (i : Nat) (x : Int) :
    (Kd.int k).R e (W.setCell ⟨g, i, none⟩ (.int k x)) base ok (.slice (some ⟨g, 0, none⟩) n cap) (xs.set i x) ∧ W.grownBy (W.setCell ⟨g, i, none⟩ (.int k x)) (some g) := by
  have hn := (Kd.R_reads' h).1
  subst hn
  have ho := Kd.own_of_R h
  obtain ⟨a, b⟩ := own_store_of (enc := Value.int k) ho (i : Int) x
  rw [Int.toNat_natCast] at a b
  refine ⟨Kd.R_of_own (by rw [List.length_set]; exact a) (fun j hj => h.1 j hj), b⟩

section
variable {P : Program} {ops : Array Oper} {rest : List Oper} {o : Oper} {a : Act} {Q : Exit → Act → World → Prop}
/-- make([]T, n) of whole numbers, n a natural number: the slice written out. -/
theorem make_ints {w0 W : World} (base e : Nat) (k : IntKind) (bytes : Nat) (hgd : o.guard = none) {N : Tmp} (hd : o.dst = some N) (t : TypeId) (x y : Operand) (ho : o.op = .makeSlice t x y) (n : Nat) (hx : a.eval x = .int .i64 n) (hy : a.eval y = .int .i64 n)
    (ht : P.underlying t = some (.slice e)) (hinfo : (P.info? e).map (fun i => (i.zero, i.size, i.bytes)) = some (some (.int k 0), 1, bytes)) (hb0 : 0 < bytes) (hl : n * bytes ≤ 281474976710656) (HB : Below base w0 W) (hbase : base ≤ W.heap.size)
    (h : ∀ g c w1, Kd.R (Kd.int k) e w1 base (fun _ => True) (.slice (some ⟨g, 0, none⟩) n c) (List.replicate n 0) → W.heap.size ≤ g → g < w1.heap.size → Below W.heap.size W w1 → Below base w0 w1 → wpList P ops Q rest (a.put o.dst (.slice (some ⟨g, 0, none⟩) n c)) w1) : wpList P ops Q (o :: rest) a W := by
  refine Kd.R_make (Kd.int k) (w0 := w0) base e hgd hd t x y ho (n : Int) hx hy ht (.int k 0) bytes hinfo rfl (by show 0 < 1; omega) hb0 0 (ok := fun _ => True) (okp := fun _ => True) rfl (fun _ _ => trivial) trivial (by omega) (by rw [Int.toNat_natCast]; exact hl) HB hbase ?_
  intro v1 w1 hR hB hg hb
  rw [Int.toNat_natCast] at hR
  obtain ⟨A, c, rfl⟩ := Kd.R_slice hR
  obtain ⟨b, hb1, hb2⟩ := hb
  obtain ⟨ad, rfl⟩ : ∃ ad, A = some ad := by cases A with
    | none => simp [Value.ownBlock] at hb1
    | some ad => exact ⟨ad, rfl⟩
  obtain ⟨g, rfl⟩ := Kd.R_head hR
  obtain rfl : g = b := by simpa [Value.ownBlock] using hb1
  have hlt := Kd.R_lt hR g (by simp [Value.ownBlock])
  rw [List.length_replicate] at hR ⊢
  exact h g c w1 hR hb2 hlt ⟨hg.os, hg.tape, hg.output, hg.size, fun k hk => hg.block k hk (by simp)⟩ hB
end

/-- One place is laid. -/
def playStep (l : List Int) (st : List (List Int) × List Int) (i : Nat) : List (List Int) × List Int :=
  if rd l i < 0 then st else
    let k := findL st.1.length l st.1 (rd l i) 0 st.1.length
    let ps := if k = st.1.length then st.1 ++ [[]] else st.1
    (ps.set k.toNat (ps.getD k.toNat [] ++ [(i : Int)]), st.2.set i (topAt st.1 (k - 1)))
def playN (l : List Int) : Nat → List (List Int) × List Int
  | 0 => ([], List.replicate l.length 0)
  | i + 1 => playStep l (playN l i) i

/-- What is known of the piles behind i places. -/
structure PInv (l : List Int) (i : Nat) (ps : List (List Int)) (ah : List Int) : Prop where
  ahl : ah.length = l.length
  psl : ps.length ≤ i
  pile : ∀ p ∈ ps, 0 < p.length ∧ p.length ≤ i ∧ ∀ x ∈ p, 0 ≤ x ∧ x < i

theorem findL_range (l : List Int) (ps : List (List Int)) (n : Int) : ∀ (k : Nat) (lo hi : Int), lo ≤ hi → lo ≤ findL k l ps n lo hi ∧ findL k l ps n lo hi ≤ hi
  | 0, lo, hi, h => by simp [findL, h]
  | k + 1, lo, hi, h => by
    rw [findL]
    split
    · split
      · have := findL_range l ps n k lo ((lo + hi) / 2) (by omega); omega
      · have := findL_range l ps n k ((lo + hi) / 2 + 1) hi (by omega); omega
    · omega

theorem PInv.at_ {l : List Int} {i : Nat} {ps : List (List Int)} {ah : List Int} (h : PInv l i ps ah) (hi : i ≤ l.length) (j : Int) (h0 : 0 ≤ j) (h1 : j < ps.length) :
    0 < (rd_L1 ps j).length ∧ ((rd_L1 ps j).length : Int) ≤ i ∧ 0 ≤ topOf ps j ∧ topOf ps j < l.length := by
  have hm : rd_L1 ps j ∈ ps := by
    unfold rd_L1
    rw [List.getD_eq_getElem?_getD, List.getElem?_eq_getElem (by omega)]
    exact List.getElem_mem _
  obtain ⟨a, b, c⟩ := h.pile _ hm
  have ht : topOf ps j ∈ rd_L1 ps j := by
    unfold topOf rd
    rw [List.getD_eq_getElem?_getD, List.getElem?_eq_getElem (by omega)]
    exact List.getElem_mem _
  have := c _ ht
  exact ⟨a, by omega, this.1, by omega⟩

theorem PInv.step {l : List Int} {i : Nat} {st : List (List Int) × List Int} (h : PInv l i st.1 st.2) (hi : i < l.length) : PInv l (i + 1) (playStep l st i).1 (playStep l st i).2 := by
  unfold playStep
  split
  · exact ⟨h.ahl, by have := h.psl; omega, fun p hp => by obtain ⟨a, b, c⟩ := h.pile p hp; exact ⟨a, by omega, fun x hx => by have := c x hx; omega⟩⟩
  · have hk := findL_range l st.1 (rd l i) st.1.length 0 st.1.length (by omega)
    generalize findL st.1.length l st.1 (rd l i) 0 st.1.length = k at hk
    refine ⟨by simp [h.ahl], ?_, ?_⟩
    · have := h.psl
      simp only [List.length_set]
      split <;> (try simp only [List.length_append, List.length_cons, List.length_nil]) <;> omega
    · intro p hp
      simp only at hp
      have hq : ∀ q ∈ (if k = (st.1.length : Int) then st.1 ++ [[]] else st.1), q.length ≤ i ∧ ∀ x ∈ q, 0 ≤ x ∧ x < i := by
        intro q hq
        split at hq
        · rcases List.mem_append.1 hq with hq | hq
          · exact ⟨(h.pile q hq).2.1, (h.pile q hq).2.2⟩
          · simp at hq; subst hq; simp
        · exact ⟨(h.pile q hq).2.1, (h.pile q hq).2.2⟩
      have hlen : k.toNat < (if k = (st.1.length : Int) then st.1 ++ [[]] else st.1).length := by split <;> (try simp only [List.length_append, List.length_cons, List.length_nil]) <;> omega
      rcases List.mem_or_eq_of_mem_set hp with hp' | rfl
      · -- an elder pile: not the new empty one, as that was written
        obtain ⟨j, hj, rfl⟩ := List.getElem_of_mem hp
        rw [List.getElem_set] at hp' ⊢
        split
        · obtain ⟨a, b⟩ := hq ((if k = (st.1.length : Int) then st.1 ++ [[]] else st.1).getD k.toNat []) (by rw [List.getD_eq_getElem?_getD, List.getElem?_eq_getElem hlen]; exact List.getElem_mem _)
          exact ⟨by simp, by simp only [List.length_append, List.length_cons, List.length_nil]; omega, fun x hx => by
            rcases List.mem_append.1 hx with hx | hx
            · have := b x hx; omega
            · simp at hx; omega⟩
        · rename_i hne
          have hjs : j < st.1.length := by
            rw [List.length_set] at hj
            split at hj
            · rename_i he; simp at hj; omega
            · exact hj
          have : (if k = (st.1.length : Int) then st.1 ++ [[]] else st.1)[j]'(by rw [List.length_set] at hj; exact hj) = st.1[j] := by
            split <;> simp [hjs]
          rw [this]
          obtain ⟨a, b, c⟩ := h.pile _ (List.getElem_mem hjs)
          exact ⟨a, by omega, fun x hx => by have := c x hx; omega⟩
      · obtain ⟨a, b⟩ := hq ((if k = (st.1.length : Int) then st.1 ++ [[]] else st.1).getD k.toNat []) (by rw [List.getD_eq_getElem?_getD, List.getElem?_eq_getElem hlen]; exact List.getElem_mem _)
        exact ⟨by simp, by simp only [List.length_append, List.length_cons, List.length_nil]; omega, fun x hx => by
          rcases List.mem_append.1 hx with hx | hx
          · have := b x hx; omega
          · simp at hx; omega⟩

theorem playN_inv (l : List Int) : ∀ i, i ≤ l.length → PInv l i (playN l i).1 (playN l i).2
  | 0, _ => ⟨by simp [playN], by simp [playN], by simp [playN]⟩
  | i + 1, h => (playN_inv l i (by omega)).step (by omega)
end Go.Proofs.Ytahjlbbliihgpaa.G
