/- slices.SortFunc at a slice of labels with keys.compare: laid off the shelf, and what it leaves of a row of the call's own. -/
import Derived.Test.YtmndedahkodibaaH15
import Derived.Shelf.SlSortCmp.WholeK
import Derived.Shelf.SlSortCmp.NoneTotal
namespace Go.Proofs.Ytmndedahkodibaa.G
open Go.RowKit Go.Proofs.YtmndedahkodibaaW.PrintWords Go.Proofs.YtmndedahkodibaaW.PrintLast Go.Proofs.YtmndedahkodibaaW.PrintMore
open Go.Proofs.Ytmndedahkodibaa.Pure (lt Lt Lt_tri Lt_irrefl Lt_trans less_prog less_ref)
set_option linter.unusedVariables false
set_option linter.unusedSimpArgs false

def sortL_ren : Go.Shelf.Ren := ⟨fun | 6 => 27 | 15 => 35 | 14 => 34 | 28 => 47 | 29 => 48 | 20 => 39 | 21 => 40 | 22 => 41 | 23 => 42 | 24 => 43 | 25 => 44 | 26 => 45 | 27 => 46 | 46 => 50 | 47 => 51 | 48 => 52 | 49 => 53 | 50 => 54 | 57 => 55 | n => n, fun | 22 => 34 | 24 => 28 | 25 => 58 | 3 => 3 | 39 => 68 | 0 => 0 | 53 => 83 | 55 => 69 | 4 => 4 | 46 => 77 | 45 => 76 | 50 => 30 | 5 => 5 | 9 => 9 | 66 => 86 | 70 => 90 | 76 => 92 | 77 => 93 | n => n, fun | n => n⟩
theorem sortL : SlLaysF0.n6 Try.prog sortL_ren := {
  mixed := by kernel_rfl
  f6 := ⟨Try.f27.name, by decide, Try.func27.trans (congrArg some (by kernel_rfl))⟩
  f14 := ⟨Try.f34.name, by decide, Try.func34.trans (congrArg some (by kernel_rfl))⟩
  f15 := Try.func35.trans (congrArg some (by kernel_rfl))
  f20 := ⟨Try.f39.name, by decide, Try.func39.trans (congrArg some (by kernel_rfl))⟩
  f21 := ⟨Try.f40.name, by decide, Try.func40.trans (congrArg some (by kernel_rfl))⟩
  f22 := ⟨Try.f41.name, by decide, Try.func41.trans (congrArg some (by kernel_rfl))⟩
  f23 := ⟨Try.f42.name, by decide, Try.func42.trans (congrArg some (by kernel_rfl))⟩
  f24 := ⟨Try.f43.name, by decide, Try.func43.trans (congrArg some (by kernel_rfl))⟩
  f25 := ⟨Try.f44.name, by decide, Try.func44.trans (congrArg some (by kernel_rfl))⟩
  f26 := ⟨Try.f45.name, by decide, Try.func45.trans (congrArg some (by kernel_rfl))⟩
  f27 := ⟨Try.f46.name, by decide, Try.func46.trans (congrArg some (by kernel_rfl))⟩
  f28 := Try.func47.trans (congrArg some (by kernel_rfl))
  f29 := Try.func48.trans (congrArg some (by kernel_rfl))
  f46 := ⟨Try.f50.name, by decide, Try.func50.trans (congrArg some (by kernel_rfl))⟩
  f47 := Try.func51.trans (congrArg some (by kernel_rfl))
  f48 := Try.func52.trans (congrArg some (by kernel_rfl))
  f49 := ⟨Try.f53.name, by decide, Try.func53.trans (congrArg some (by kernel_rfl))⟩
  f50 := ⟨Try.f54.name, by decide, Try.func54.trans (congrArg some (by kernel_rfl))⟩
  f57 := ⟨Try.f55.name, by decide, Try.func55.trans (congrArg some (by kernel_rfl))⟩
  t0 := Try.underlying0
  a0 := Try.isAgg0
  z0 := Try.sizeOf0
  v0 := Try.zeroValue0
  t3 := Try.underlying3
  a3 := Try.isAgg3
  z3 := Try.sizeOf3
  v3 := Try.zeroValue3
  t4 := Try.underlying4
  a4 := Try.isAgg4
  z4 := Try.sizeOf4
  v4 := Try.zeroValue4
  t5 := Try.underlying5
  a5 := Try.isAgg5
  z5 := Try.sizeOf5
  v5 := Try.zeroValue5
  t9 := Try.underlying9
  a9 := Try.isAgg9
  z9 := Try.sizeOf9
  v9 := Try.zeroValue9
  t22 := Try.underlying34
  a22 := Try.isAgg34
  z22 := Try.sizeOf34
  v22 := Try.zeroValue34
  t25 := Try.underlying58
  a25 := Try.isAgg58
  z25 := Try.sizeOf58
  v25 := Try.zeroValue58
  t39 := Try.underlying68
  a39 := Try.isAgg68
  z39 := Try.sizeOf68
  v39 := Try.zeroValue68
  t45 := Try.underlying76
  a45 := Try.isAgg76
  z45 := Try.sizeOf76
  v45 := Try.zeroValue76
  t46 := Try.underlying77
  a46 := Try.isAgg77
  z46 := Try.sizeOf77
  v46 := Try.zeroValue77
  t50 := Try.underlying30
  a50 := Try.isAgg30
  z50 := Try.sizeOf30
  v50 := Try.zeroValue30
  t53 := Try.underlying83
  a53 := Try.isAgg83
  z53 := Try.sizeOf83
  v53 := Try.zeroValue83
  t55 := Try.underlying69
  a55 := Try.isAgg69
  z55 := Try.sizeOf69
  v55 := Try.zeroValue69
  t66 := Try.underlying86
  a66 := Try.isAgg86
  z66 := Try.sizeOf86
  v66 := Try.zeroValue86
  t70 := Try.underlying90
  a70 := Try.isAgg90
  z70 := Try.sizeOf90
  v70 := Try.zeroValue90
  t76 := Try.underlying92
  a76 := Try.isAgg92
  z76 := Try.sizeOf92
  v76 := Try.zeroValue92
  t77 := Try.underlying93
  a77 := Try.isAgg93
  z77 := Try.sizeOf93
  v77 := Try.zeroValue93
}
instance : Inhabited S28 := ⟨z28⟩
def enc28 (x : S28) : List Value := [.string x.f0, .string x.f1, .int .i64 x.f2]
theorem enc28_one (x : S28) : ∀ v ∈ enc28 x, v.oneCell' = true := by
  intro v hv
  simp [enc28] at hv
  rcases hv with rfl | rfl | rfl <;> rfl
theorem enc28_get (x : S28) (j : Nat) (hj : j < 3) : (enc28 x)[j]? = some (enc28 x)[j]! := by
  match j, hj with
  | 0, _ => rfl
  | 1, _ => rfl
  | 2, _ => rfl
theorem holds_of (w : World) (g : Nat) (L : List S28) (cur : Array Value) (hg : w.heap[g]? = some (.cells cur 28 (0, 0))) (hC : Kd.C k28 w (some ⟨g, 0, none⟩) L.length L) : Go.Sort.HoldsK enc28 3 w g 0 L.toArray := by
  intro j hj
  rw [Go.Sort.size_flatK] at hj
  have hj' : j < L.length * 3 := by simpa using hj
  rw [Go.Sort.get_flatK _ _ _ _ hj]
  have hd : j / 3 < L.length := by omega
  obtain ⟨_, _, h⟩ := hC
  obtain ⟨ad, had, h⟩ := h (by omega)
  obtain rfl := Option.some.inj had
  obtain ⟨c, hl, hk, hc⟩ := h (j / 3) L[j / 3] (List.getElem?_eq_getElem hd)
  obtain rfl := k28_open hk
  refine ⟨?_, ?_⟩
  · have h2 := hc (j % 3) _ (enc28_get _ (j % 3) (Nat.mod_lt _ (by decide)))
    have e : j / 3 * k28.sz + j % 3 = j := Nat.div_add_mod' j 3
    rw [Addr.add_lit, e] at h2
    have e2 : L.toArray[j / 3]! = L[j / 3] := by simp [hd]
    rw [e2]
    exact h2
  · exact blk_frozen hg (0 + j)
theorem C_holds (w : World) (g : Nat) (d : Array S28) (hs : d.size ≤ 1073741824) (h : Go.Sort.HoldsK enc28 3 w g 0 d) : Kd.C k28 w (some ⟨g, 0, none⟩) d.size d.toList := by
  refine ⟨by simp, by omega, fun _ => ⟨_, rfl, fun j p hj => ⟨enc28 p, rfl, k28_mk w p, fun i u hi => ?_⟩⟩⟩
  have hjd : j < d.toList.length := (List.getElem?_eq_some_iff.1 hj).1
  have hjd' : j < d.size := by simpa using hjd
  have hi3 : i < 3 := (List.getElem?_eq_some_iff.1 hi).1
  have h2 := (Go.Sort.HoldsK.cell h hjd' hi3).1
  have e2 : d[j]! = p := by
    have := (List.getElem?_eq_some_iff.1 hj).2
    simp at this
    simp [hjd', this]
  rw [e2] at h2
  rw [Addr.add_lit]
  have e3 : 0 + j * 3 + i = 0 + (j * k28.sz + i) := by show _ = 0 + (j * 3 + i); omega
  rw [e3] at h2
  rw [h2, ← enc28_get p i hi3, hi]
theorem lt_iff (a b : S28) : lt a b = true ↔ Lt a b := by unfold lt; simp
theorem ltOf_cmpV (a b : S28) : ltOf cmpV a b = lt a b := cmpV_lt a b
theorem swo28 : Go.Sort.SWO (ltOf cmpV) where
  irrefl x := by
    rw [ltOf_cmpV]
    cases q : lt x x with
    | false => rfl
    | true => exact absurd ((lt_iff _ _).1 q) (Lt_irrefl _)
  trans x y z h1 h2 := by
    rw [ltOf_cmpV] at *
    exact (lt_iff _ _).2 (Lt_trans ((lt_iff _ _).1 h1) ((lt_iff _ _).1 h2))
  ntrans x y z h1 h2 := by
    rw [ltOf_cmpV] at *
    cases q : lt x z with
    | false => rfl
    | true =>
      have q := (lt_iff _ _).1 q
      have n1 : ¬ Lt x y := fun k => by rw [(lt_iff _ _).2 k] at h1; cases h1
      have n2 : ¬ Lt y z := fun k => by rw [(lt_iff _ _).2 k] at h2; cases h2
      rcases Lt_tri x y with k | k | k
      · exact absurd k n1
      · subst k; exact absurd q n2
      · exact absurd (Lt_trans k q) n2
theorem cmp_lays (g size : Nat) (w : World) : CmpLays Try.prog 26 #[] enc28 3 cmpV g 0 size w := by
  intro m os dk hs x y
  exact (cmp_walk x y _).mono fun _ _ ⟨he, q, os', hw⟩ => ⟨he, q, os', hw⟩
theorem below_sort (w : World) (base g n : Nat) (d : Array S28) (os : Array Obj) (hb : base ≤ g) (hg : g < w.heap.size) : Below base w (sortWorldK enc28 3 w g 0 n d os) := by
  refine ⟨rfl, rfl, rfl, ?_, ?_⟩
  · unfold sortWorldK
    rw [Go.Sort.size_grow, Go.Sort.size_putRowK]
    exact Nat.le_add_right _ _
  · intro k hk
    unfold sortWorldK
    rw [Go.Sort.heap_grow_old _ _ (by rw [Go.Sort.size_putRowK]; show k < w.heap.size; omega)]
    show (w.heap.modify g _)[k]? = w.heap[k]?
    rw [Array.getElem?_modify, if_neg (by omega)]
theorem sort27 (w : World) (base : Nat) (v : Value) (L : List S28) (hn : L.length ≤ 1073741824) (h : Kd.R k28 28 w base (fun _ => True) v L) :
    Calls Try.prog 27 #[v, .func (.func 26) #[] #[]] w fun e w' => ∃ A c L', e = .returned (.tuple #[]) ∧ v = .slice A L.length c ∧ L'.length = L.length ∧ Below base w w' ∧ Kd.C k28 w' A L.length L' ∧ L'.Perm L ∧ L'.Pairwise (fun a b => ¬ Lt b a) := by
  obtain ⟨inner, _, hown⟩ := Kd.R_own h
  rcases hown with ⟨rfl, h0⟩ | ⟨g, cap, cur, rfl, hbg, hcell, hnc, hcm, hsz, hin⟩
  · have hL : L = [] := List.length_eq_zero_iff.1 h0
    subst hL
    refine (AnyF.slices_SortFunc_none (P := Try.prog) (ρ := sortL_ren) sortL none 0 (.func (.func 26) #[] #[]) w).mono ?_
    rintro e w' ⟨rfl, rfl⟩
    exact ⟨none, 0, [], rfl, rfl, rfl, Below.refl _ _, ⟨rfl, by decide, fun h => absurd h (by decide)⟩, List.Perm.refl _, List.Pairwise.nil⟩
  · have hC := (Kd.R_reads' h).2.2
    have hH := holds_of w g L cur hcell hC
    have eg : ∀ args w, (callFunc 26 args).run Try.prog w = .ok (.enter 26 args) w := enters_of Try.func26 (by kernel_rfl) rfl
    have hlt := blk_lt hcell
    have hcon := AnyQ.slices_SortFunc (P := Try.prog) (ρ := sortL_ren) sortL 3 Try.isAgg28 Try.sizeOf28 enc28 (fun _ => rfl) enc28_one cmpV swo28 26 #[] g 0 cap L.toArray w eg (cmp_lays g _ w) hH hlt (by simp; omega)
    change Calls Try.prog 27 #[.slice (some ⟨g, 0, none⟩) L.toArray.size cap, .func (.func 26) #[] #[]] w _ at hcon
    have hs : L.toArray.size = L.length := by simp
    rw [hs] at hcon
    refine hcon.mono ?_
    rintro e w' ⟨rfl, d', n, os, hp, hso, rfl⟩
    have hd : d'.size = L.length := by rw [hp.1, hs]
    have hpm : d'.toList.Perm L := by
      have := hp.2.2
      rw [show d'.extract 0 L.length = d' from by rw [← hd]; exact Array.extract_size, show L.toArray.extract 0 L.length = L.toArray from by rw [← hs]; exact Array.extract_size] at this
      simpa using this
    refine ⟨_, cap, d'.toList, rfl, rfl, by simpa using hd, below_sort w base g n d' os hbg hlt, ?_, hpm, ?_⟩
    · have := C_holds (sortWorldK enc28 3 w g 0 n d' os) g d' (by omega) (holdsK_sortWorldK enc28 3 w g 0 n L.toArray d' os hlt hH (by rw [hp.1]))
      rw [hd] at this
      exact this
    · rw [List.pairwise_iff_getElem]
      intro i j hi hj hij hc
      have hi' : i < d'.size := by simpa using hi
      have hj' : j < d'.size := by simpa using hj
      have := hso i j (Nat.zero_le _) hij (by omega)
      rw [ltOf_cmpV] at this
      have e1 : d'[j]! = d'.toList[j] := by simp [hj']
      have e2 : d'[i]! = d'.toList[i] := by simp [hi']
      rw [e1, e2, (lt_iff _ _).2 hc] at this
      cases this
end Go.Proofs.Ytmndedahkodibaa.G
