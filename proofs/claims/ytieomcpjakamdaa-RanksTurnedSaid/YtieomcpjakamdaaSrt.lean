/- Stable sorting, in plain Lean: what is sorted and stable, and the steps by which the library's stable sort comes there. -/
namespace Go.Proofs.Ytieomcpjakamdaa.Srt
set_option linter.unusedVariables false

structure Swo {α : Type} (lt : α → α → Bool) : Prop where
  irr : ∀ x, lt x x = false
  nt : ∀ x y z, lt x y = false → lt y z = false → lt x z = false
  as : ∀ x y, lt x y = true → lt y x = false

def eqv {α : Type} (lt : α → α → Bool) (z x : α) : Bool := !lt z x && !lt x z
def Srt {α : Type} (lt : α → α → Bool) (l : List α) : Prop := l.Pairwise (fun a b => lt b a = false)
structure Stb {α : Type} (lt : α → α → Bool) (l r : List α) : Prop where
  len : r.length = l.length
  fl : ∀ z, r.filter (eqv lt z) = l.filter (eqv lt z)

theorem eqv_self {α : Type} {lt : α → α → Bool} (h : Swo lt) (x : α) : eqv lt x x = true := by
  unfold eqv
  rw [h.irr]
  rfl
theorem Stb.refl {α : Type} (lt : α → α → Bool) (l : List α) : Stb lt l l := ⟨rfl, fun _ => rfl⟩
theorem Stb.trans {α : Type} {lt : α → α → Bool} {a b c : List α} (h : Stb lt a b) (g : Stb lt b c) : Stb lt a c := ⟨g.len.trans h.len, fun z => (g.fl z).trans (h.fl z)⟩
theorem Stb.app {α : Type} {lt : α → α → Bool} {a b c d : List α} (h : Stb lt a b) (g : Stb lt c d) : Stb lt (a ++ c) (b ++ d) :=
  ⟨by rw [List.length_append, List.length_append, h.len, g.len], fun z => by rw [List.filter_append, List.filter_append, h.fl, g.fl]⟩
theorem Stb.mem {α : Type} {lt : α → α → Bool} (w : Swo lt) {a b : List α} (h : Stb lt a b) (x : α) : x ∈ b ↔ x ∈ a := by
  have key : x ∈ b.filter (eqv lt x) ↔ x ∈ a.filter (eqv lt x) := by rw [h.fl]
  rw [List.mem_filter, List.mem_filter, eqv_self w] at key
  simpa using key
theorem Stb.swap {α : Type} {lt : α → α → Bool} (w : Swo lt) (u v : List α) (h : ∀ a ∈ u, ∀ b ∈ v, lt b a = true) : Stb lt (u ++ v) (v ++ u) := by
  refine ⟨by rw [List.length_append, List.length_append, Nat.add_comm], fun z => ?_⟩
  rw [List.filter_append, List.filter_append]
  by_cases hu : u.filter (eqv lt z) = []
  · rw [hu, List.append_nil, List.nil_append]
  · by_cases hv : v.filter (eqv lt z) = []
    · rw [hv, List.append_nil, List.nil_append]
    · obtain ⟨a, ha⟩ := List.exists_mem_of_ne_nil _ hu
      obtain ⟨b, hb⟩ := List.exists_mem_of_ne_nil _ hv
      rw [List.mem_filter] at ha hb
      have h1 := h a ha.1 b hb.1
      have h2 := ha.2
      have h3 := hb.2
      unfold eqv at h2 h3
      simp only [Bool.and_eq_true, Bool.not_eq_true'] at h2 h3
      rw [w.nt b z a h3.2 h2.1] at h1
      cases h1

/-- Two sorted runs, x ++ u and v ++ y: v and u change places, then each half is sorted by itself. -/
theorem merged {α : Type} {lt : α → α → Bool} (w : Swo lt) {x u v y M1 M2 : List α} (hX : Srt lt (x ++ u)) (hY : Srt lt (v ++ y))
    (hvu : ∀ a ∈ u, ∀ b ∈ v, lt b a = true) (hxy : ∀ a ∈ x, ∀ b ∈ y, lt b a = false)
    (h1 : Srt lt M1) (s1 : Stb lt (x ++ v) M1) (h2 : Srt lt M2) (s2 : Stb lt (u ++ y) M2) : Srt lt (M1 ++ M2) ∧ Stb lt ((x ++ u) ++ (v ++ y)) (M1 ++ M2) := by
  have hX' := List.pairwise_append.1 hX
  have hY' := List.pairwise_append.1 hY
  refine ⟨List.pairwise_append.2 ⟨h1, h2, fun a ha b hb => ?_⟩, ?_⟩
  · rw [s1.mem w, List.mem_append] at ha
    rw [s2.mem w, List.mem_append] at hb
    rcases ha with ha | ha <;> rcases hb with hb | hb
    · exact hX'.2.2 a ha b hb
    · exact hxy a ha b hb
    · exact w.as _ _ (hvu b hb a ha)
    · exact hY'.2.2 a ha b hb
  · have e1 : (x ++ u) ++ (v ++ y) = x ++ (u ++ v) ++ y := by simp only [List.append_assoc]
    have e2 : (x ++ v) ++ (u ++ y) = x ++ (v ++ u) ++ y := by simp only [List.append_assoc]
    have e3 := (((Stb.refl lt x).app (Stb.swap w u v hvu)).app (Stb.refl lt y)).trans (e2 ▸ s1.app s2)
    rw [e1]
    exact e3
/-- All of v below all of u, by the two that meet. -/
theorem all_lt {α : Type} {lt : α → α → Bool} (w : Swo lt) {u v : List α} (hu : Srt lt u) (hv : Srt lt v) (h : u = [] ∨ v = [] ∨ ∃ u0 u' v' v0, u = u0 :: u' ∧ v = v' ++ [v0] ∧ lt v0 u0 = true) : ∀ a ∈ u, ∀ b ∈ v, lt b a = true := by
  rcases h with rfl | rfl | ⟨u0, u', v', v0, rfl, rfl, h⟩
  · intro a ha; cases ha
  · intro a _ b hb; cases hb
  · intro a ha b hb
    have hu' := List.pairwise_cons.1 hu
    have hv' := List.pairwise_append.1 hv
    have h1 : lt a u0 = false := by
      rcases List.mem_cons.1 ha with rfl | ha
      · exact w.irr _
      · exact hu'.1 a ha
    have h2 : lt v0 b = false := by
      rcases List.mem_append.1 hb with hb | hb
      · exact hv'.2.2 b hb v0 (by simp)
      · rw [List.mem_singleton.1 hb]; exact w.irr _
    cases h3 : lt b a with
    | true => rfl
    | false => rw [w.nt v0 a u0 (w.nt v0 b a h2 h3) h1] at h; cases h
/-- None of y below any of x, by the two that meet. -/
theorem all_ge {α : Type} {lt : α → α → Bool} (w : Swo lt) {x y : List α} (hx : Srt lt x) (hy : Srt lt y) (h : x = [] ∨ y = [] ∨ ∃ x' x0 y0 y', x = x' ++ [x0] ∧ y = y0 :: y' ∧ lt y0 x0 = false) : ∀ a ∈ x, ∀ b ∈ y, lt b a = false := by
  rcases h with rfl | rfl | ⟨x', x0, y0, y', rfl, rfl, h⟩
  · intro a ha; cases ha
  · intro a _ b hb; cases hb
  · intro a ha b hb
    have hx' := List.pairwise_append.1 hx
    have hy' := List.pairwise_cons.1 hy
    have h1 : lt b y0 = false := by
      rcases List.mem_cons.1 hb with rfl | hb
      · exact w.irr _
      · exact hy'.1 b hb
    have h2 : lt x0 a = false := by
      rcases List.mem_append.1 ha with ha | ha
      · exact hx'.2.2 a ha x0 (by simp)
      · rw [List.mem_singleton.1 ha]; exact w.irr _
    exact w.nt b x0 a (w.nt b y0 x0 h1 h) h2

/-- One more, put into its place in what is sorted. -/
theorem inserted {α : Type} {lt : α → α → Bool} (w : Swo lt) {A B : List α} {x : α} (h : Srt lt (A ++ B)) (hB : ∀ b ∈ B, lt x b = true) (hA : ∀ a ∈ A, lt x a = false) :
    Srt lt (A ++ x :: B) ∧ Stb lt ((A ++ B) ++ [x]) (A ++ x :: B) := by
  have h' := List.pairwise_append.1 h
  refine ⟨List.pairwise_append.2 ⟨h'.1, List.pairwise_cons.2 ⟨fun b hb => w.as _ _ (hB b hb), h'.2.1⟩, fun a ha b hb => ?_⟩, ?_⟩
  · rcases List.mem_cons.1 hb with rfl | hb
    · exact hA a ha
    · exact h'.2.2 a ha b hb
  · have := (Stb.refl lt A).app (Stb.swap w B [x] (fun a ha b hb => by rw [List.mem_singleton.1 hb]; exact hB a ha))
    rw [← List.append_assoc] at this
    exact this
theorem srt_last {α : Type} {lt : α → α → Bool} (w : Swo lt) {A : List α} {c x : α} (h : Srt lt (A ++ [c])) (hc : lt x c = false) : ∀ a ∈ A ++ [c], lt x a = false := by
  intro a ha
  have h' := List.pairwise_append.1 h
  rcases List.mem_append.1 ha with ha | ha
  · exact w.nt x c a hc (h'.2.2 a ha c (by simp))
  · rw [List.mem_singleton.1 ha]; exact hc

/-- Full blocks, each sorted. -/
def Full {α : Type} (lt : α → α → Bool) (bs : Nat) (cs : List (List α)) : Prop := ∀ c ∈ cs, c.length = bs ∧ Srt lt c
theorem full_len {α : Type} {lt : α → α → Bool} {bs : Nat} : ∀ {cs : List (List α)}, Full lt bs cs → cs.flatten.length = cs.length * bs
  | [], _ => by simp
  | c :: cs, h => by
    rw [List.flatten_cons, List.length_append, (h c (by simp)).1, full_len (fun d hd => h d (by simp [hd])), List.length_cons, Nat.add_mul]
    omega
theorem full_snoc {α : Type} {lt : α → α → Bool} {bs : Nat} {cs : List (List α)} {c : List α} (h : Full lt bs cs) (hl : c.length = bs) (hc : Srt lt c) : Full lt bs (cs ++ [c]) := by
  intro d hd
  rcases List.mem_append.1 hd with hd | hd
  · exact h d hd
  · rw [List.mem_singleton.1 hd]; exact ⟨hl, hc⟩

/-- One list is at most one stable sorting of another. -/
theorem uniq {α : Type} {lt : α → α → Bool} (w : Swo lt) : ∀ {a b : List α}, Srt lt a → Srt lt b → (∀ z, a.filter (eqv lt z) = b.filter (eqv lt z)) → a = b
  | [], [], _, _, _ => rfl
  | [], y :: b, _, _, h => by
    have := h y
    rw [List.filter_cons, if_pos (eqv_self w y)] at this
    cases this
  | x :: a, [], _, _, h => by
    have := h x
    rw [List.filter_cons, if_pos (eqv_self w x)] at this
    cases this
  | x :: a, y :: b, ha, hb, h => by
    have ha' := List.pairwise_cons.1 ha
    have hb' := List.pairwise_cons.1 hb
    have hxy : lt y x = false := by
      have : y ∈ (x :: a).filter (eqv lt y) := by rw [h y, List.filter_cons, if_pos (eqv_self w y)]; simp
      have := (List.mem_filter.1 this).1
      rcases List.mem_cons.1 this with rfl | h1
      · exact w.irr _
      · exact ha'.1 y h1
    have hyx : lt x y = false := by
      have : x ∈ (y :: b).filter (eqv lt x) := by rw [← h x, List.filter_cons, if_pos (eqv_self w x)]; simp
      have := (List.mem_filter.1 this).1
      rcases List.mem_cons.1 this with rfl | h1
      · exact w.irr _
      · exact hb'.1 x h1
    have e : x = y := by
      have := h x
      rw [List.filter_cons, if_pos (eqv_self w x), List.filter_cons, if_pos (by unfold eqv; rw [hxy, hyx]; rfl)] at this
      exact (List.cons.inj this).1
    subst e
    rw [uniq w ha'.2 hb'.2 (fun z => by
      have := h z
      rw [List.filter_cons, List.filter_cons] at this
      split at this
      · exact (List.cons.inj this).2
      · exact this)]
end Go.Proofs.Ytieomcpjakamdaa.Srt
