import Derived.Test.YtcebfldagnjddaaWMore
import Derived.Deep.Slices
import Derived.ChangeArms
import Derived.SizedLaws
/-! What comes in, opened: data of a type that can be read is data of its kind (Kd), and no longer than its weights allow. -/
namespace Go.Proofs.Ytcebfldagnjddaa.Opn
open Go.RowKit Go.Proofs.YtcebfldagnjddaaW.PrintWords
set_option linter.unusedVariables false
/-- At fuel n: what is read as type T is a value of kind d, and small. -/
def At {α : Type} (P : Program) (n : Nat) (T : TypeId) (d : Kd α) (Sm : α → Prop) : Prop :=
  ∀ ⦃H : Type⦄ (enc : TypeId × Value → H) (W : World) (base : Nat) (spare : Nat → Bool) (held : Bool) (cs : List Value) (x : DataW H × List MemPlace),
    DataW.trod enc P W base spare held n T cs = some x → (x.1.weights P T).all (· ≤ reachBytes) = true → ∃ a, d.K W a cs ∧ Sm a
theorem at_string {P : Program} {n : Nat} {T : TypeId} (ht : P.underlying T = some .string) : At P n T Kd.string (fun s => s.size ≤ 140737488351232) := by
  intro H enc W base spare held cs x h hw
  obtain ⟨s, rfl, rfl, _⟩ := DataW.trod_string ht h
  refine ⟨s, rfl, ?_⟩
  simp only [DataW.weights, List.all_cons, List.all_nil, Bool.and_true, decide_eq_true_eq, Array.length_toList] at hw
  exact hw
theorem weightsAll_mem {H : Type} {P : Program} {e : TypeId} {q : Nat → Bool} : ∀ {l : List (DataW H)}, (DataW.weightsAll P e l).all q = true → ∀ d ∈ l, (d.weights P e).all q = true
  | [], _, d, hd => by cases hd
  | c :: l, h, d, hd => by
    simp only [DataW.weightsAll, List.all_append, Bool.and_eq_true] at h
    rcases List.mem_cons.1 hd with rfl | hd
    · exact h.1
    · exact weightsAll_mem h.2 d hd
theorem choose_list {α : Type} (p : Nat → α → Prop) : ∀ n, (∀ i, i < n → ∃ a, p i a) → ∃ xs : List α, xs.length = n ∧ ∀ i a, xs[i]? = some a → p i a
  | 0, _ => ⟨[], rfl, fun i a h => by simp at h⟩
  | n + 1, h => by
    obtain ⟨xs, hl, hx⟩ := choose_list p n (fun i hi => h i (by omega))
    obtain ⟨a, ha⟩ := h n (by omega)
    refine ⟨xs ++ [a], by simp [hl], fun i b hb => ?_⟩
    rcases Nat.lt_or_ge i n with hi | hi
    · rw [List.getElem?_append_left (by omega)] at hb
      exact hx i b hb
    · rw [List.getElem?_append_right (by omega)] at hb
      have h0 : i - xs.length = 0 := by
        rcases Nat.eq_zero_or_pos (i - xs.length) with h | h
        · exact h
        · rw [List.getElem?_eq_none (by simp; omega)] at hb; cases hb
      rw [h0] at hb
      injection hb with hb
      subst hb
      have : i = n := by omega
      subst this
      exact ha
/-- A slice: its elements at one fuel less. -/
theorem at_slice {α : Type} {P : Program} {n : Nat} {T e : TypeId} {d : Kd α} {Sm : α → Prop} (ht : P.underlying T = some (.slice e)) (hc : P.cellsOf e = d.sz) (hd : ∀ m, m < n → At P m e d Sm) :
    At P n T (Kd.slice e d) (fun xs => xs.length * P.bytesOf e ≤ 140737488351232 ∧ ∀ x ∈ xs, Sm x) := by
  intro H enc W base spare held cs x h hw
  rcases DataW.trod_slice ht h with ⟨rfl, rfl⟩ | ⟨a, len, cap, elems, rest, m, rfl, rfl, rfl, hb, hl, hm, hlen, hel, _, _⟩
  · exact ⟨[], ⟨none, 0, rfl, Nat.le_refl _, rfl, by simp, fun h => by simp at h⟩, by simp, fun x hx => by cases hx⟩
  · simp only [DataW.weights, ht, List.all_cons, Bool.and_eq_true, List.all_append, decide_eq_true_eq, List.length_map] at hw
    obtain ⟨hw1, hw2, _⟩ := hw
    obtain ⟨xs, hxl, hx⟩ := choose_list (fun i y => ∃ c, c.length = d.sz ∧ d.K W y c ∧ Sm y ∧ ∀ j u, c[j]? = some u → W.cell? (a.add (i * d.sz + j)) = some u) len (fun i hi => by
      have he := hel i hi
      have hei : elems[i]? = some elems[i] := List.getElem?_eq_getElem (by omega)
      rw [hei] at he
      obtain ⟨c, hc1, hc2⟩ := Option.bind_eq_some_iff.1 he
      obtain ⟨_, hcl, hcc⟩ := World.cells?_some hc1
      obtain ⟨y, hy1, hy2⟩ := hd m (by omega) enc W base spare held c _ hc2 (weightsAll_mem hw2 _ (List.mem_map_of_mem (List.getElem_mem _)))
      refine ⟨y, c, by rw [hcl, hc], hy1, hy2, fun j u hu => ?_⟩
      have hjl : j < P.cellsOf e := by rw [← hcl]; exact (List.getElem?_eq_some_iff.1 hu).1
      rw [← hu, ← hcc j hjl, hc, Deep.add_add])
    refine ⟨xs, ⟨some a, cap, by rw [hxl], by omega, by rw [hxl], by rw [hxl]; have : maxLen = 9223372036854775807 := rfl; omega, fun _ => ⟨a, rfl, fun j p hj => ?_⟩⟩, ?_, fun y hy => ?_⟩
    · obtain ⟨c, c1, c2, _, c4⟩ := hx j p hj
      exact ⟨c, c1, c2, c4⟩
    · have := Nat.mul_le_mul_right (P.bytesOf e) (show xs.length ≤ elems.length + rest.length by omega)
      have hr : reachBytes = 140737488351232 := rfl
      omega
    · obtain ⟨j, hj, rfl⟩ := List.getElem_of_mem hy
      obtain ⟨_, _, _, c3, _⟩ := hx j _ (List.getElem?_eq_getElem hj)
      exact c3
/-- The fields of a struct, from cell 'off' on, at fuel n. -/
def Fields {α : Type} (P : Program) (n off : Nat) (fs : List Field) (d : Kd α) (Sm : α → Prop) : Prop :=
  ∀ ⦃H : Type⦄ (enc : TypeId × Value → H) (W : World) (base : Nat) (spare : Nat → Bool) (held : Bool) (cs : List Value) (xs : List (DataW H × List MemPlace)),
    cs.length = off + d.sz → xs.length = fs.length → (∀ (i : Nat) (f : Field), fs[i]? = some f → DataW.trod enc P W base spare held n f.type ((cs.drop f.offset).take (P.cellsOf f.type)) = xs[i]?) →
    (DataW.weightsEach P (fs.map (·.type)) (xs.map (·.1))).all (· ≤ reachBytes) = true → ∃ a, d.K W a (cs.drop off) ∧ Sm a
theorem fields_one {α : Type} {P : Program} {n off : Nat} {f : Field} {d : Kd α} {Sm : α → Prop} (ho : f.offset = off) (hc : P.cellsOf f.type = d.sz) (h : At P n f.type d Sm) : Fields P n off [f] d Sm := by
  intro H enc W base spare held cs xs hl hx ht hw
  match xs, hx with
  | [x], _ =>
    have h0 := ht 0 f rfl
    simp only [DataW.weightsEach, List.map_cons, List.map_nil, List.append_nil] at hw
    obtain ⟨a, h1, h2⟩ := h enc W base spare held _ x h0 hw
    rw [ho, hc, List.take_of_length_le (by rw [List.length_drop]; omega)] at h1
    exact ⟨a, h1, h2⟩
theorem fields_cons {α β : Type} {P : Program} {n off : Nat} {f : Field} {fs : List Field} {d : Kd α} {d2 : Kd β} {Sm : α → Prop} {Sm2 : β → Prop} (ho : f.offset = off) (hc : P.cellsOf f.type = d.sz)
    (h : At P n f.type d Sm) (hs : Fields P n (off + d.sz) fs d2 Sm2) : Fields P n off (f :: fs) (Kd.pair d d2) (fun x => Sm x.1 ∧ Sm2 x.2) := by
  intro H enc W base spare held cs xs hl hx ht hw
  match xs, hx with
  | x :: xs, hx =>
    have h0 := ht 0 f rfl
    simp only [DataW.weightsEach, List.map_cons, List.all_append, Bool.and_eq_true] at hw
    obtain ⟨a, h1, h2⟩ := h enc W base spare held _ x h0 hw.1
    obtain ⟨b, h3, h4⟩ := hs enc W base spare held cs xs (by rw [hl]; show off + (d.sz + d2.sz) = _; omega) (by simpa using hx) (fun i g hg => by have := ht (i + 1) g (by simpa using hg); simpa using this) hw.2
    rw [ho, hc] at h1
    refine ⟨(a, b), ⟨(cs.drop off).take d.sz, cs.drop (off + d.sz), ?_, h1, h3⟩, h2, h4⟩
    rw [← List.drop_drop, List.take_append_drop]
theorem at_struct {α : Type} {P : Program} {n : Nat} {T : TypeId} {fs : Array Field} {d : Kd α} {Sm : α → Prop} (ht : P.underlying T = some (.struct fs)) (hc : P.cellsOf T = d.sz) (h : ∀ m, m < n → Fields P m 0 fs.toList d Sm) : At P n T d Sm := by
  intro H enc W base spare held cs x hx hw
  obtain ⟨xs, m, rfl, rfl, hl, hxl, hf⟩ := DataW.trod_struct ht hx
  simp only [DataW.weights, ht] at hw
  obtain ⟨a, h1, h2⟩ := h m (by omega) enc W base spare held cs xs (by omega) (by simpa using hxl) (fun i f hi => hf i f (by simpa using hi)) hw
  exact ⟨a, by simpa using h1, h2⟩
theorem at_iso {α β : Type} {P : Program} {n : Nat} {T : TypeId} {d : Kd α} {Sm : α → Prop} (f : β → α) (g : α → β) (hfg : ∀ a, f (g a) = a) (h : At P n T d Sm) : At P n T (Kd.iso d f) (fun b => Sm (f b)) := by
  intro H enc W base spare held cs x hx hw
  obtain ⟨a, h1, h2⟩ := h enc W base spare held cs x hx hw
  exact ⟨g a, by show d.K W (f (g a)) cs; rw [hfg]; exact h1, by show Sm (f (g a)); rw [hfg]; exact h2⟩
theorem at_imp {α : Type} {P : Program} {n : Nat} {T : TypeId} {d d' : Kd α} {Sm Sm' : α → Prop} (h : At P n T d Sm) (hd : ∀ w a cs, d.K w a cs → d'.K w a cs) (hs : ∀ a, Sm a → Sm' a) : At P n T d' Sm' := by
  intro H enc W base spare held cs x hx hw
  obtain ⟨a, h1, h2⟩ := h enc W base spare held cs x hx hw
  exact ⟨a, hd _ _ _ h1, hs a h2⟩
end Go.Proofs.Ytcebfldagnjddaa.Opn
