/- What the library functions DeleteFunc, SortFunc and Compact are in this program: the tables of numbers that the library's contracts ask for. The plain law of lit.Sort: sorted, struck and compacted it is the list that the document builds by insertion. lit.Sort: strikes the noughts, sorts, and keeps each literal once. lit.Sort as a whole: the document's list. -/
import Derived.Shelf.SlicesE.DeleteFunc
import Derived.Shelf.SlicesE.Compact
import Derived.Shelf.SlSortCmp.Whole1
import Derived.Test.YthalgemkblkhgaaGreatProg
import Derived.Lib.SlicesCompact
import Derived.Sort.Statements
import Derived.Shelf.SlSortCmp.Insertion
import Derived.Test.YthalgemkblkhgaaGreatQML
import Derived.Test.YthalgemkblkhgaaGreatQMB
namespace Go.Proofs.YthalgemkblkhgaaGreat
open Go.Proofs Go.Shelf
def delInt_ren : Go.Shelf.Ren := ⟨fun | 10 => 43 | 6 => 72 | n => n, fun | 22 => 22 | 23 => 3 | 25 => 83 | 3 => 3 | 4 => 4 | 0 => 0 | n => n, fun | n => n⟩
theorem delInt : Go.Proofs.SlLaysH.n10 Tryz.prog delInt_ren := {
  mixed := by kernel_rfl
  f6 := ⟨Tryz.f72.name, by decide, Tryz.func72.trans (congrArg some (by kernel_rfl))⟩
  f10 := ⟨Tryz.f43.name, by decide, Tryz.func43.trans (congrArg some (by kernel_rfl))⟩
  t0 := Tryz.underlying0
  a0 := Tryz.isAgg0
  z0 := Tryz.sizeOf0
  v0 := Tryz.zeroValue0
  t3 := Tryz.underlying3
  a3 := Tryz.isAgg3
  z3 := Tryz.sizeOf3
  v3 := Tryz.zeroValue3
  t4 := Tryz.underlying4
  a4 := Tryz.isAgg4
  z4 := Tryz.sizeOf4
  v4 := Tryz.zeroValue4
  t22 := Tryz.underlying22
  a22 := Tryz.isAgg22
  z22 := Tryz.sizeOf22
  v22 := Tryz.zeroValue22
  a23 := Tryz.isAgg3
  z23 := Tryz.sizeOf3
  t25 := Tryz.underlying83
  a25 := Tryz.isAgg83
  z25 := Tryz.sizeOf83
  v25 := Tryz.zeroValue83 }
def sortInt_ren : Go.Shelf.Ren := ⟨fun | 6 => 46 | 15 => 74 | 14 => 73 | 28 => 123 | 29 => 124 | 20 => 115 | 21 => 116 | 22 => 117 | 23 => 118 | 24 => 119 | 25 => 120 | 26 => 121 | 27 => 122 | 46 => 167 | 47 => 168 | 48 => 169 | 49 => 170 | 50 => 171 | 57 => 196 | n => n, fun | 22 => 22 | 24 => 3 | 25 => 54 | 3 => 3 | 39 => 87 | 0 => 0 | 53 => 115 | 55 => 89 | 4 => 4 | 46 => 171 | 45 => 170 | 50 => 175 | 5 => 5 | 9 => 9 | 66 => 215 | 70 => 101 | 76 => 233 | 77 => 74 | n => n, fun | n => n⟩
theorem sortInt : Go.Proofs.SlLaysF.n6 Tryz.prog sortInt_ren := {
  mixed := by kernel_rfl
  f6 := ⟨Tryz.f46.name, by decide, Tryz.func46.trans (congrArg some (by kernel_rfl))⟩
  f14 := ⟨Tryz.f73.name, by decide, Tryz.func73.trans (congrArg some (by kernel_rfl))⟩
  f15 := Tryz.func74.trans (congrArg some (by kernel_rfl))
  f20 := ⟨Tryz.f115.name, by decide, Tryz.func115.trans (congrArg some (by kernel_rfl))⟩
  f21 := ⟨Tryz.f116.name, by decide, Tryz.func116.trans (congrArg some (by kernel_rfl))⟩
  f22 := ⟨Tryz.f117.name, by decide, Tryz.func117.trans (congrArg some (by kernel_rfl))⟩
  f23 := ⟨Tryz.f118.name, by decide, Tryz.func118.trans (congrArg some (by kernel_rfl))⟩
  f24 := ⟨Tryz.f119.name, by decide, Tryz.func119.trans (congrArg some (by kernel_rfl))⟩
  f25 := ⟨Tryz.f120.name, by decide, Tryz.func120.trans (congrArg some (by kernel_rfl))⟩
  f26 := ⟨Tryz.f121.name, by decide, Tryz.func121.trans (congrArg some (by kernel_rfl))⟩
  f27 := ⟨Tryz.f122.name, by decide, Tryz.func122.trans (congrArg some (by kernel_rfl))⟩
  f28 := Tryz.func123.trans (congrArg some (by kernel_rfl))
  f29 := Tryz.func124.trans (congrArg some (by kernel_rfl))
  f46 := ⟨Tryz.f167.name, by decide, Tryz.func167.trans (congrArg some (by kernel_rfl))⟩
  f47 := Tryz.func168.trans (congrArg some (by kernel_rfl))
  f48 := Tryz.func169.trans (congrArg some (by kernel_rfl))
  f49 := ⟨Tryz.f170.name, by decide, Tryz.func170.trans (congrArg some (by kernel_rfl))⟩
  f50 := ⟨Tryz.f171.name, by decide, Tryz.func171.trans (congrArg some (by kernel_rfl))⟩
  f57 := ⟨Tryz.f196.name, by decide, Tryz.func196.trans (congrArg some (by kernel_rfl))⟩
  t0 := Tryz.underlying0
  a0 := Tryz.isAgg0
  z0 := Tryz.sizeOf0
  v0 := Tryz.zeroValue0
  t3 := Tryz.underlying3
  a3 := Tryz.isAgg3
  z3 := Tryz.sizeOf3
  v3 := Tryz.zeroValue3
  t4 := Tryz.underlying4
  a4 := Tryz.isAgg4
  z4 := Tryz.sizeOf4
  v4 := Tryz.zeroValue4
  t5 := Tryz.underlying5
  a5 := Tryz.isAgg5
  z5 := Tryz.sizeOf5
  v5 := Tryz.zeroValue5
  t9 := Tryz.underlying9
  a9 := Tryz.isAgg9
  z9 := Tryz.sizeOf9
  v9 := Tryz.zeroValue9
  t22 := Tryz.underlying22
  a22 := Tryz.isAgg22
  z22 := Tryz.sizeOf22
  v22 := Tryz.zeroValue22
  a24 := Tryz.isAgg3
  z24 := Tryz.sizeOf3
  t25 := Tryz.underlying54
  a25 := Tryz.isAgg54
  z25 := Tryz.sizeOf54
  v25 := Tryz.zeroValue54
  t39 := Tryz.underlying87
  a39 := Tryz.isAgg87
  z39 := Tryz.sizeOf87
  v39 := Tryz.zeroValue87
  t45 := Tryz.underlying170
  a45 := Tryz.isAgg170
  z45 := Tryz.sizeOf170
  v45 := Tryz.zeroValue170
  t46 := Tryz.underlying171
  a46 := Tryz.isAgg171
  z46 := Tryz.sizeOf171
  v46 := Tryz.zeroValue171
  t50 := Tryz.underlying175
  a50 := Tryz.isAgg175
  z50 := Tryz.sizeOf175
  v50 := Tryz.zeroValue175
  t53 := Tryz.underlying115
  a53 := Tryz.isAgg115
  z53 := Tryz.sizeOf115
  v53 := Tryz.zeroValue115
  t55 := Tryz.underlying89
  a55 := Tryz.isAgg89
  z55 := Tryz.sizeOf89
  v55 := Tryz.zeroValue89
  t66 := Tryz.underlying215
  a66 := Tryz.isAgg215
  z66 := Tryz.sizeOf215
  v66 := Tryz.zeroValue215
  t70 := Tryz.underlying101
  a70 := Tryz.isAgg101
  z70 := Tryz.sizeOf101
  v70 := Tryz.zeroValue101
  t76 := Tryz.underlying233
  a76 := Tryz.isAgg233
  z76 := Tryz.sizeOf233
  v76 := Tryz.zeroValue233
  t77 := Tryz.underlying74
  a77 := Tryz.isAgg74
  z77 := Tryz.sizeOf74
  v77 := Tryz.zeroValue74 }
def compInt_ren : Go.Shelf.Ren := ⟨fun | 43 => 52 | n => n, fun | 22 => 22 | 23 => 3 | 3 => 3 | 4 => 4 | 0 => 0 | n => n, fun | n => n⟩
theorem compInt : Go.Proofs.SlLaysE.n43 Tryz.prog compInt_ren := {
  mixed := by kernel_rfl
  f43 := ⟨Tryz.f52.name, by decide, Tryz.func52.trans (congrArg some (by kernel_rfl))⟩
  t0 := Tryz.underlying0
  a0 := Tryz.isAgg0
  z0 := Tryz.sizeOf0
  v0 := Tryz.zeroValue0
  t3 := Tryz.underlying3
  a3 := Tryz.isAgg3
  z3 := Tryz.sizeOf3
  v3 := Tryz.zeroValue3
  t4 := Tryz.underlying4
  a4 := Tryz.isAgg4
  z4 := Tryz.sizeOf4
  v4 := Tryz.zeroValue4
  t22 := Tryz.underlying22
  a22 := Tryz.isAgg22
  z22 := Tryz.sizeOf22
  v22 := Tryz.zeroValue22
  a23 := Tryz.isAgg3
  z23 := Tryz.sizeOf3 }
end Go.Proofs.YthalgemkblkhgaaGreat
namespace Go.Proofs.YthalgemkblkhgaaGreat
open Go.Proofs Go.Sort Go.Lib
set_option linter.unusedVariables false
set_option linter.unusedSimpArgs false

/-- Does a literal stand ahead of another one? -/
def ahead (a b : Int) : Bool := decide (a.natAbs < b.natAbs) || (decide (a.natAbs = b.natAbs) && decide (a < b))
theorem ahead_iff (a b : Int) : ahead a b = true ↔ (a.natAbs < b.natAbs ∨ (a.natAbs = b.natAbs ∧ a < b)) := by simp [ahead]
theorem ahead_irrefl (a : Int) : ahead a a = false := by simp [ahead]
theorem ahead_trans {a b c : Int} (h1 : ahead a b = true) (h2 : ahead b c = true) : ahead a c = true := by
  rw [ahead_iff] at *; omega
theorem ahead_total {a b : Int} (h : a ≠ b) : ahead a b = true ∨ ahead b a = true := by
  rw [ahead_iff, ahead_iff]; omega
theorem ahead_asymm {a b : Int} (h1 : ahead a b = true) (h2 : ahead b a = true) : False := by
  rw [ahead_iff] at *; omega

def Rises (l : List Int) : Prop := l.Pairwise (fun a b => ahead a b = true)
/-- Two rising lists of the same members are the same. -/
theorem rises_ext : ∀ {a b : List Int}, Rises a → Rises b → (∀ x, x ∈ a ↔ x ∈ b) → a = b
  | [], [], _, _, _ => rfl
  | [], y :: b, _, _, h => absurd ((h y).2 List.mem_cons_self) (by simp)
  | x :: a, [], _, _, h => absurd ((h x).1 List.mem_cons_self) (by simp)
  | x :: a, y :: b, ha, hb, h => by
    obtain ⟨h1, h2⟩ := List.pairwise_cons.1 ha
    obtain ⟨h3, h4⟩ := List.pairwise_cons.1 hb
    have e : x = y := by
      rcases List.mem_cons.1 ((h x).1 List.mem_cons_self) with e | hx
      · exact e
      rcases List.mem_cons.1 ((h y).2 List.mem_cons_self) with e | hy
      · exact e.symm
      exact absurd (h1 y hy) (fun q => ahead_asymm q (h3 x hx))
    subst e
    have : a = b := rises_ext h2 h4 (fun z => by
      constructor
      · intro hz
        rcases List.mem_cons.1 ((h z).1 (List.mem_cons_of_mem _ hz)) with e | q
        · subst e; exact absurd (h1 z hz) (by simp [ahead_irrefl])
        · exact q
      · intro hz
        rcases List.mem_cons.1 ((h z).2 (List.mem_cons_of_mem _ hz)) with e | q
        · subst e; exact absurd (h3 z hz) (by simp [ahead_irrefl])
        · exact q)
    rw [this]

def insA (x : Int) (out : List Int) : List Int := out.takeWhile (fun y => ahead y x) ++ x :: out.dropWhile (fun y => ahead y x)
def stepA (out : List Int) (x : Int) : List Int := if x = 0 ∨ x ∈ out then out else insA x out
/-- The document's sort. -/
def sortA (l : List Int) : List Int := l.foldl stepA []
theorem mem_insA (x y : Int) (out : List Int) : y ∈ insA x out ↔ y = x ∨ y ∈ out := by
  have := List.takeWhile_append_dropWhile (p := fun y => ahead y x) (l := out)
  have h : y ∈ out ↔ y ∈ out.takeWhile (fun y => ahead y x) ∨ y ∈ out.dropWhile (fun y => ahead y x) := by rw [← List.mem_append, this]
  rw [insA, List.mem_append, List.mem_cons, h]
  constructor <;> (intro h; rcases h with h | h | h <;> simp [h])
theorem dropWhile_rises {x : Int} : ∀ {l : List Int}, Rises l → x ∉ l → ∀ y ∈ l.dropWhile (fun y => ahead y x), ahead x y = true
  | [], _, _ => by simp
  | a :: l, h, hx => by
    obtain ⟨h1, h2⟩ := List.pairwise_cons.1 h
    rw [List.dropWhile_cons]
    split
    · exact dropWhile_rises h2 (fun q => hx (List.mem_cons_of_mem _ q))
    · rename_i hf
      have hxa : ahead x a = true := by
        rcases ahead_total (a := x) (b := a) (fun e => hx (e ▸ List.mem_cons_self)) with q | q
        · exact q
        · exact absurd q hf
      intro y hy
      rcases List.mem_cons.1 hy with e | q
      · subst e; exact hxa
      · exact ahead_trans hxa (h1 y q)
theorem takeWhile_all {p : Int → Bool} : ∀ {l : List Int} {y : Int}, y ∈ l.takeWhile p → p y = true
  | [], _, h => by simp at h
  | a :: l, y, h => by
    rw [List.takeWhile_cons] at h
    split at h
    · rename_i ha
      rcases List.mem_cons.1 h with e | q
      · subst e; exact ha
      · exact takeWhile_all q
    · simp at h
theorem insA_rises {x : Int} {out : List Int} (h : Rises out) (hx : x ∉ out) : Rises (insA x out) := by
  have hd := dropWhile_rises (x := x) h hx
  have ht : ∀ y ∈ out.takeWhile (fun y => ahead y x), ahead y x = true := fun y hy => takeWhile_all (p := fun y => ahead y x) hy
  refine List.pairwise_append.2 ⟨h.sublist (List.takeWhile_sublist _), List.pairwise_cons.2 ⟨hd, h.sublist (List.dropWhile_sublist _)⟩, fun a ha b hb => ?_⟩
  rcases List.mem_cons.1 hb with e | q
  · subst e; exact ht a ha
  · exact ahead_trans (ht a ha) (hd b q)
theorem foldA : ∀ (l out : List Int), Rises out → (∀ y ∈ out, y ≠ 0) → Rises (l.foldl stepA out) ∧ ∀ y, y ∈ l.foldl stepA out ↔ y ∈ out ∨ (y ∈ l ∧ y ≠ 0)
  | [], out, h, h0 => ⟨h, fun y => by simp⟩
  | x :: l, out, h, h0 => by
    rw [List.foldl_cons]
    by_cases hx : x = 0 ∨ x ∈ out
    · have e : stepA out x = out := by rw [stepA, if_pos hx]
      rw [e]
      obtain ⟨h1, h2⟩ := foldA l out h h0
      refine ⟨h1, fun y => ?_⟩
      rw [h2 y, List.mem_cons]
      constructor
      · rintro (q | ⟨q, r⟩)
        · exact .inl q
        · exact .inr ⟨.inr q, r⟩
      · rintro (q | ⟨q | q, r⟩)
        · exact .inl q
        · subst q
          rcases hx with hx | hx
          · exact absurd hx r
          · exact .inl hx
        · exact .inr ⟨q, r⟩
    · have e : stepA out x = insA x out := by rw [stepA, if_neg hx]
      rw [e]
      have hx0 : x ≠ 0 := fun q => hx (.inl q)
      have hxo : x ∉ out := fun q => hx (.inr q)
      obtain ⟨h1, h2⟩ := foldA l (insA x out) (insA_rises h hxo) (fun y hy => by
        rcases (mem_insA x y out).1 hy with q | q
        · subst q; exact hx0
        · exact h0 y q)
      refine ⟨h1, fun y => ?_⟩
      rw [h2 y, mem_insA, List.mem_cons]
      constructor
      · rintro ((q | q) | ⟨q, r⟩)
        · subst q; exact .inr ⟨.inl rfl, hx0⟩
        · exact .inl q
        · exact .inr ⟨.inr q, r⟩
      · rintro (q | ⟨q | q, r⟩)
        · exact .inl (.inr q)
        · exact .inl (.inl q)
        · exact .inr ⟨q, r⟩
theorem sortA_rises (l : List Int) : Rises (sortA l) := (foldA l [] List.Pairwise.nil (by simp)).1
theorem mem_sortA (l : List Int) (y : Int) : y ∈ sortA l ↔ (y ∈ l ∧ y ≠ 0) := by
  have := (foldA l [] List.Pairwise.nil (by simp)).2 y
  simpa [sortA] using this
theorem sortA_eq {l s : List Int} (h : Rises s) (hm : ∀ y, y ∈ s ↔ (y ∈ l ∧ y ≠ 0)) : s = sortA l :=
  rises_ext h (sortA_rises l) (fun y => by rw [hm, mem_sortA])
theorem sortA_self {l s : List Int} (h : s = sortA l) : sortA s = s := by
  subst h
  exact (sortA_eq (sortA_rises l) (fun y => by
    rw [mem_sortA]
    constructor
    · rintro q; exact ⟨q, q.2⟩
    · rintro q; exact q.1)).symm
theorem length_stepA (out : List Int) (x : Int) : (stepA out x).length ≤ out.length + 1 := by
  unfold stepA
  split
  · omega
  · have := congrArg List.length (List.takeWhile_append_dropWhile (p := fun y => ahead y x) (l := out))
    rw [List.length_append] at this
    simp only [insA, List.length_append, List.length_cons]
    omega
theorem length_foldA : ∀ (l out : List Int), (l.foldl stepA out).length ≤ out.length + l.length
  | [], out => by simp
  | x :: l, out => by
    have h1 := length_foldA l (stepA out x)
    have h2 := length_stepA out x
    rw [List.foldl_cons, List.length_cons]
    omega
theorem length_sortA (l : List Int) : (sortA l).length ≤ l.length := by simpa [sortA] using length_foldA l []

/-! What the library's three steps leave -/
abbrev W64 := { x : Int // -9223372036854775808 ≤ x ∧ x ≤ 9223372036854775807 }
instance : Inhabited W64 := ⟨⟨0, by omega⟩⟩
theorem compact_mem (d : Array W64) : ∀ m, m ≤ d.size → ∀ y, y ∈ compactUpTo d m ↔ ∃ j, j < m ∧ d[j]! = y
  | 0, _, y => by simp [compactUpTo]
  | m + 1, h, y => by
    rw [compactUpTo_succ, List.mem_append, compact_mem d m (by omega) y]
    by_cases hk : keeps d m = true
    · rw [if_pos hk]
      constructor
      · rintro (⟨j, hj, e⟩ | q)
        · exact ⟨j, by omega, e⟩
        · rw [List.mem_singleton] at q; exact ⟨m, by omega, q.symm⟩
      · rintro ⟨j, hj, e⟩
        by_cases hjm : j = m
        · subst hjm; right; rw [List.mem_singleton]; exact e.symm
        · left; exact ⟨j, by omega, e⟩
    · rw [if_neg hk]
      have hm : 0 < m ∧ d[m]! = d[m - 1]! := by
        simp only [keeps, decide_eq_true_eq, not_or, Decidable.not_not] at hk
        exact ⟨by omega, hk.2⟩
      constructor
      · rintro (⟨j, hj, e⟩ | q)
        · exact ⟨j, by omega, e⟩
        · cases q
      · rintro ⟨j, hj, e⟩
        left
        by_cases hjm : j = m
        · subst hjm; exact ⟨j - 1, by omega, by rw [← hm.2]; exact e⟩
        · exact ⟨j, by omega, e⟩
theorem compact_rises (d : Array W64) (h : ∀ i j, i < j → j < d.size → ahead d[j]!.val d[i]!.val = false) : ∀ m, m ≤ d.size → Rises ((compactUpTo d m).map (·.val))
  | 0, _ => by simp [compactUpTo, Rises]
  | m + 1, hm => by
    rw [compactUpTo_succ]
    have ih := compact_rises d h m (by omega)
    by_cases hk : keeps d m = true
    · rw [if_pos hk, List.map_append]
      refine List.pairwise_append.2 ⟨ih, by simp, fun a ha b hb => ?_⟩
      simp only [List.map_cons, List.map_nil, List.mem_singleton] at hb
      subst hb
      obtain ⟨a', ha', rfl⟩ := List.mem_map.1 ha
      obtain ⟨j, hj, rfl⟩ := (compact_mem d m (by omega) a').1 ha'
      have hne : d[m]! ≠ d[m - 1]! := by
        simp only [keeps, decide_eq_true_eq] at hk
        rcases hk with q | q
        · omega
        · exact q
      have h1 := h (m - 1) m (by omega) (by omega)
      have h2 : ahead d[m - 1]!.val d[m]!.val = true := by
        rcases ahead_total (a := d[m - 1]!.val) (b := d[m]!.val) (fun e => hne (Subtype.ext e).symm) with q | q
        · exact q
        · rw [h1] at q; cases q
      by_cases hj2 : j = m - 1
      · subst hj2; exact h2
      · have h3 := h j (m - 1) (by omega) (by omega)
        by_cases e : d[j]!.val = d[m - 1]!.val
        · show ahead d[j]!.val d[m]!.val = true
          rw [e]; exact h2
        · rcases ahead_total e with q | q
          · exact ahead_trans q h2
          · rw [h3] at q; cases q
    · rw [if_neg hk, List.append_nil]; exact ih
def cfA (a b : Int) : Int := if ahead a b then -1 else if ahead b a then 1 else 0
def cfW (a b : W64) : Int := cfA a.val b.val
theorem ltA (x y : W64) : ltOf cfW x y = ahead x.val y.val := by
  unfold ltOf cfW cfA
  cases h : ahead x.val y.val
  · cases h2 : ahead y.val x.val <;> simp
  · simp
theorem swoA : SWO (ltOf cfW) where
  irrefl x := by rw [ltA]; exact ahead_irrefl x.val
  trans x y z h1 h2 := by rw [ltA] at *; exact ahead_trans h1 h2
  ntrans x y z h1 h2 := by
    rw [ltA] at *
    have h3 : ¬ (ahead x.val y.val = true) := by simp [h1]
    have h4 : ¬ (ahead y.val z.val = true) := by simp [h2]
    rw [ahead_iff] at h3 h4
    have : ¬ (ahead x.val z.val = true) := by rw [ahead_iff]; omega
    simpa using this
theorem perm_mem {d d' : Array W64} (h : PermIn 0 d.size d d') (y : W64) : y ∈ d'.toList ↔ y ∈ d.toList := by
  obtain ⟨h1, _, h3⟩ := h
  have e1 : d'.extract 0 d.size = d' := by rw [← h1]; simp
  have e2 : d.extract 0 d.size = d := by simp
  rw [e1, e2] at h3
  exact h3.mem_iff
def nz (x : W64) : Bool := !decide (x.val = 0)
theorem sort_plain (l : List W64) (d' : Array W64) (hp : PermIn 0 (l.filter nz).toArray.size (l.filter nz).toArray d') (hs : SortedIn (ltOf cfW) 0 (l.filter nz).toArray.size d') :
    (compactUpTo d' d'.size).map (·.val) = sortA (l.map (·.val)) := by
  have hsz : d'.size = (l.filter nz).toArray.size := hp.1
  refine sortA_eq (compact_rises d' (fun i j hij hj => ?_) _ (Nat.le_refl _)) (fun y => ?_)
  · have := hs i j (Nat.zero_le _) hij (by omega)
    rwa [ltA] at this
  · have h1 : ∀ z : W64, (∃ j, j < d'.size ∧ d'[j]! = z) ↔ z ∈ d'.toList := by
      intro z
      rw [List.mem_iff_getElem]
      constructor
      · rintro ⟨j, hj, e⟩; exact ⟨j, by simpa using hj, by rw [← e]; simp [hj]⟩
      · rintro ⟨j, hj, e⟩; exact ⟨j, by simpa using hj, by rw [← e]; simp at hj; simp [hj]⟩
    rw [List.mem_map]
    constructor
    · rintro ⟨z, hz, rfl⟩
      rw [compact_mem d' _ (Nat.le_refl _), h1, perm_mem hp] at hz
      have hz2 : z ∈ l ∧ nz z = true := by simpa using hz
      exact ⟨List.mem_map.2 ⟨z, hz2.1, rfl⟩, by have := hz2.2; simpa [nz] using this⟩
    · rintro ⟨hy, h0⟩
      obtain ⟨z, hz, rfl⟩ := List.mem_map.1 hy
      refine ⟨z, ?_, rfl⟩
      rw [compact_mem d' _ (Nat.le_refl _), h1, perm_mem hp]
      simp [hz, nz, h0]
end Go.Proofs.YthalgemkblkhgaaGreat
namespace Go.Proofs.YthalgemkblkhgaaGreat
open Go.Proofs Go.Shelf Go.RowKit Go.Lib Go.Sort Go.Proofs.YthalgemkblkhgaaGreatW.PrintWords Go.Proofs.YthalgemkblkhgaaGreatW.PrintLast
set_option linter.unusedVariables false
set_option linter.unusedSimpArgs false

def encW (a : W64) : Value := .int .i64 a.val
theorem wf64 (a : W64) : wfInt .i64 a.val := i64_wf a.2
set_option maxHeartbeats 400000 in
theorem zero_calls (x : Int) (w : World) : Calls Tryz.prog 45 #[.int .i64 x] w fun e w' => e = .returned (.bool (decide (x = 0))) ∧ w = w' := by
  go_enter Tryz.func45, Tryz.ntmps45
  go_wp2
  go_ret
  exact ⟨ret_bool (by first | rfl | simp [beq_dec]), rfl⟩
set_option maxHeartbeats 400000 in
theorem nan_int (x : Int) (w : World) : Calls Tryz.prog 76 #[.int .i64 x] w fun e w' => e = .returned (.bool false) ∧ w = w' := by
  go_enter Tryz.func76, Tryz.ntmps76
  go_wp2
  go_ret
  exact ⟨ret_bool (by first | rfl | simp), rfl⟩
set_option maxHeartbeats 1000000 in
theorem cmp_int (x y r : Int) (h : (if x < y then -1 else if y < x then 1 else 0) = r) (w : World) : Calls Tryz.prog 51 #[.int .i64 x, .int .i64 y] w fun e w' => e = .returned (.int .i64 r) ∧ w = w' := by
  subst h
  by_cases h1 : x < y
  · rw [if_pos h1]
    go_enter Tryz.func51, Tryz.ntmps51
    go_wp2_with fail
    (refine (nan_int x _).mono ?_; rintro e w' ⟨rfl, rfl⟩; go_wp2_with fail)
    (refine (nan_int y _).mono ?_; rintro e w' ⟨rfl, rfl⟩; go_wp2_with fail)
    go_ret
    exact ⟨rfl, rfl⟩
  rw [if_neg h1]
  by_cases h2 : y < x
  · rw [if_pos h2]
    go_enter Tryz.func51, Tryz.ntmps51
    go_wp2_with fail
    (refine (nan_int x _).mono ?_; rintro e w' ⟨rfl, rfl⟩; go_wp2_with fail)
    (refine (nan_int y _).mono ?_; rintro e w' ⟨rfl, rfl⟩; go_wp2_with fail)
    go_ret
    exact ⟨rfl, rfl⟩
  · rw [if_neg h2]
    go_enter Tryz.func51, Tryz.ntmps51
    go_wp2_with fail
    (refine (nan_int x _).mono ?_; rintro e w' ⟨rfl, rfl⟩; go_wp2_with fail)
    (refine (nan_int y _).mono ?_; rintro e w' ⟨rfl, rfl⟩; go_wp2_with fail)
    go_ret
    exact ⟨rfl, rfl⟩
set_option maxHeartbeats 400000 in
theorem nan_uint (x : Int) (w : World) : Calls Tryz.prog 75 #[.int .u64 x] w fun e w' => e = .returned (.bool false) ∧ w = w' := by
  go_enter Tryz.func75, Tryz.ntmps75
  go_wp2
  go_ret
  exact ⟨ret_bool (by first | rfl | simp), rfl⟩
set_option maxHeartbeats 1000000 in
theorem cmp_uint (x y r : Int) (h : (if x < y then -1 else if y < x then 1 else 0) = r) (w : World) : Calls Tryz.prog 49 #[.int .u64 x, .int .u64 y] w fun e w' => e = .returned (.int .i64 r) ∧ w = w' := by
  subst h
  by_cases h1 : x < y
  · rw [if_pos h1]
    go_enter Tryz.func49, Tryz.ntmps49
    go_wp2_with fail
    (refine (nan_uint x _).mono ?_; rintro e w' ⟨rfl, rfl⟩; go_wp2_with fail)
    (refine (nan_uint y _).mono ?_; rintro e w' ⟨rfl, rfl⟩; go_wp2_with fail)
    go_ret
    exact ⟨rfl, rfl⟩
  rw [if_neg h1]
  by_cases h2 : y < x
  · rw [if_pos h2]
    go_enter Tryz.func49, Tryz.ntmps49
    go_wp2_with fail
    (refine (nan_uint x _).mono ?_; rintro e w' ⟨rfl, rfl⟩; go_wp2_with fail)
    (refine (nan_uint y _).mono ?_; rintro e w' ⟨rfl, rfl⟩; go_wp2_with fail)
    go_ret
    exact ⟨rfl, rfl⟩
  · rw [if_neg h2]
    go_enter Tryz.func49, Tryz.ntmps49
    go_wp2_with fail
    (refine (nan_uint x _).mono ?_; rintro e w' ⟨rfl, rfl⟩; go_wp2_with fail)
    (refine (nan_uint y _).mono ?_; rintro e w' ⟨rfl, rfl⟩; go_wp2_with fail)
    go_ret
    exact ⟨rfl, rfl⟩
set_option maxHeartbeats 1000000 in
theorem or_calls (a b r : Int) (h : (if a = 0 then b else a) = r) (B : Nat) (w : World) (h0 : w.cell? ⟨B, 0, none⟩ = some (.int .i64 a)) (h1 : w.cell? ⟨B, 1, none⟩ = some (.int .i64 b)) :
    Calls Tryz.prog 48 #[.slice (some ⟨B, 0, none⟩) 2 2] w fun e w' => e = .returned (.int .i64 r) ∧ w = w' := by
  subst h
  go_enter Tryz.func48, Tryz.ntmps48
  go_wp2_with fail
  go_loopw [8] (fun v wr => ∃ k : Nat, v = .int .i64 k ∧ k ≤ 2 ∧ Aside0 ((1 ≤ k → a = 0) ∧ (2 ≤ k → b = 0)) ∧ Aside0 (wr = w)) (fun v _ => 2 - (intOf v).toNat)
  case atStart => exact ⟨0, rfl, by omega, ⟨fun h => by omega, fun h => by omega⟩, ⟨rfl⟩⟩
  case round =>
    obtain ⟨k, rfl, hk, hz, hw⟩ := hrel
    obtain rfl := hw.out
    rcases (by omega : k = 0 ∨ k = 1 ∨ k = 2) with rfl | rfl | rfl
    · by_cases ha : a = 0
      · subst ha
        go_wp2_with fail
        go_roundw
        case rel => exact ⟨1, rfl, by omega, ⟨by simp⟩, ⟨by first | rfl | trivial⟩⟩
        case measure => simp [intOf]
      · have hd : (a != 0) = true := bne_iff_ne.2 ha
        go_wp2_with fail
        all_goals
          go_ret
          exact ⟨ret_i64 (by simp_all), rfl⟩
    · obtain rfl := hz.out.1 (by omega)
      by_cases hb : b = 0
      · subst hb
        go_wp2_with fail
        go_roundw
        case rel => exact ⟨2, rfl, by omega, ⟨by simp⟩, ⟨by first | rfl | trivial⟩⟩
        case measure => simp [intOf]
      · have hd : (b != 0) = true := bne_iff_ne.2 hb
        go_wp2_with fail
        all_goals
          go_ret
          exact ⟨ret_i64 (by simp_all), rfl⟩
    · obtain rfl := hz.out.1 (by omega)
      obtain rfl := hz.out.2 (by omega)
      go_wp2_with fail
      go_ret
      exact ⟨ret_i64 (by simp), rfl⟩
theorem or_cfA (a b : Int) : (if (if (a.natAbs : Int) < b.natAbs then (-1 : Int) else if (b.natAbs : Int) < a.natAbs then 1 else 0) = 0 then (if a < b then (-1 : Int) else if b < a then 1 else 0) else (if (a.natAbs : Int) < b.natAbs then (-1 : Int) else if (b.natAbs : Int) < a.natAbs then 1 else 0)) = cfA a b := by
  unfold cfA
  cases h1 : ahead a b
  · have n1 : ¬ (ahead a b = true) := by simp [h1]
    rw [ahead_iff] at n1
    cases h2 : ahead b a
    · have n2 : ¬ (ahead b a = true) := by simp [h2]
      rw [ahead_iff] at n2
      simp only [Bool.false_eq_true, if_false]
      repeat' split
      all_goals omega
    · rw [ahead_iff] at h2
      simp only [Bool.false_eq_true, if_false, if_true]
      repeat' split
      all_goals omega
  · rw [ahead_iff] at h1
    simp only [if_true]
    repeat' split
    all_goals omega
theorem alloc_grow (w : World) (o : Obj) : w.alloc o = grow w #[o] := by unfold World.alloc grow; congr 1
set_option maxHeartbeats 1000000 in
theorem less_calls (a b : W64) (w : World) : Calls Tryz.prog 47 #[encW a, encW b] w fun e w' => e = .returned (.int .i64 (cfW a b)) ∧ ∃ q os', w' = grow (w.drewN q) os' := by
  have hab := or_cfA a.val b.val
  unfold encW
  generalize hx : (if (a.val.natAbs : Int) < b.val.natAbs then (-1 : Int) else if (b.val.natAbs : Int) < a.val.natAbs then 1 else 0) = x at hab
  generalize hy : (if a.val < b.val then (-1 : Int) else if b.val < a.val then 1 else 0) = y at hab
  have HA := Aside0.mk hab
  have HX := Aside0.mk hx
  have HY := Aside0.mk hy
  clear hab hx hy
  go_enter Tryz.func47, Tryz.ntmps47
  go_wp2_with fail
  (refine (size_calls a.val (wf64 a) _ rfl _).mono ?_; rintro e w' ⟨rfl, rfl⟩; go_wp2_with fail)
  (refine (size_calls b.val (wf64 b) _ rfl _).mono ?_; rintro e w' ⟨rfl, rfl⟩; go_wp2_with fail)
  (refine (cmp_uint _ _ x HX.out _).mono ?_; rintro e w' ⟨rfl, rfl⟩; go_wp2_with fail)
  (refine (cmp_int _ _ y HY.out _).mono ?_; rintro e w' ⟨rfl, rfl⟩; go_wp2_with fail)
  refine (or_calls x y (cfW a b) HA.out w.heap.size _ (blk_cell (blk_new w _) 0) (blk_cell (blk_new w _) 1)).mono ?_
  rintro e w' ⟨rfl, rfl⟩
  go_wp2_with fail
  go_ret
  exact ⟨rfl, 0, _, alloc_grow w _⟩
end Go.Proofs.YthalgemkblkhgaaGreat
namespace Go.Proofs.YthalgemkblkhgaaGreat
open Go.Proofs Go.Shelf Go.RowKit Go.Lib Go.Sort Go.Proofs.YthalgemkblkhgaaGreatW.PrintWords Go.Proofs.YthalgemkblkhgaaGreatW.PrintLast
set_option linter.unusedVariables false
set_option linter.unusedSimpArgs false

/-- The blocks below blk stay; blk is there. -/
structure Keeps (blk : Nat) (w w' : World) : Prop where
  below : Go.RowKit.Below blk w w'
  lt : blk < w'.heap.size
theorem keeps_put (enc : W64 → Value) (w : World) (blk q : Nat) (d : Array W64) (h : blk < w.heap.size) : Keeps blk w (putRow enc (Sort.ahead w q) blk 0 d) := by
  refine ⟨⟨rfl, rfl, rfl, ?_, fun k hk => ?_⟩, ?_⟩
  · rw [Sort.size_putRow]; exact Nat.le_refl _
  · show ((Sort.ahead w q).heap.modify blk _)[k]? = _
    rw [Array.getElem?_modify, if_neg (by omega)]
    rfl
  · rw [Sort.size_putRow]; exact h
theorem keeps_sort (enc : W64 → Value) (w : World) (blk q : Nat) (d : Array W64) (os : Array Obj) (h : blk < w.heap.size) : Keeps blk w (sortWorld enc w blk 0 q d os) := by
  have k := keeps_put enc w blk q d h
  unfold sortWorld
  refine ⟨⟨k.below.os, k.below.tape, k.below.output, ?_, fun i hi => ?_⟩, ?_⟩
  · show w.heap.size ≤ (_ ++ os : Array Obj).size
    rw [Array.size_append]
    have := k.below.size
    omega
  · rw [heap_grow_old _ _ (by have := k.lt; omega)]
    exact k.below.block i hi
  · show blk < (_ ++ os : Array Obj).size
    rw [Array.size_append]
    have := k.lt
    omega
theorem holds_pre {w : World} {blk : Nat} {a b : List W64} (h : Holds encW w blk 0 (a ++ b).toArray) : Holds encW w blk 0 a.toArray := by
  intro j hj
  have hj' : j < a.length := by simpa using hj
  have := h j (by simp; omega)
  have e : (a ++ b).toArray[j]! = a.toArray[j]! := by
    rw [getElem!_pos (a ++ b).toArray j (by simp; omega), getElem!_pos a.toArray j hj]
    simp [List.getElem_append_left hj']
  rwa [e] at this
theorem zr_ok : ∀ w, (zeroValue 3).run Tryz.prog w = .ok (encW ⟨0, by omega⟩) w := Tryz.zeroValue3
theorem del_calls (l : List W64) (blk cap : Nat) (w : World) (hH : Holds encW w blk 0 l.toArray) (hblk : blk < w.heap.size) (hn : l.length ≤ 1000000000) (hcap : l.length ≤ cap) :
    Calls Tryz.prog 43 #[.slice (some ⟨blk, 0, none⟩) l.length cap, .func (.func 45) #[] #[]] w fun e w' => (e = .returned (.slice (some ⟨blk, 0, none⟩) (l.filter nz).length cap) ∧ Holds encW w' blk 0 (l.filter nz).toArray) ∧ Keeps blk w w' := by
  have eg : ∀ args w, (callFunc 45 args).run Tryz.prog w = .ok (.enter 45 args) w := enters_of Tryz.func45 (by kernel_rfl) rfl
  have hz : ∀ (x : W64) (W : World), FnGives Tryz.prog 45 #[] #[encW x] (.bool (decide (x.val = 0))) W := fun x W => (zero_calls x.val W).mono (fun e w' ⟨he, hw⟩ => ⟨he, 0, hw.symm⟩)
  have h := AnyE.slices_DeleteFunc delInt encW (fun _ => rfl) (fun x => decide (x.val = 0)) 45 #[] eg ⟨0, by omega⟩ zr_ok blk 0 cap l.toArray w (fun W x _ => hz x W) (fun n os dk x _ => hz x _) hH (by simp; omega) (by simpa using hcap)
  have h2 := h.mono (R' := fun e w' => (e = .returned (.slice (some ⟨blk, 0, none⟩) (l.filter nz).length cap) ∧ Holds encW w' blk 0 (l.filter nz).toArray) ∧ Keeps blk w w') (fun e w' ⟨he, q, hw⟩ => by
    subst hw
    refine ⟨⟨he, holds_pre (b := List.replicate (l.toArray.size - (l.filter nz).length) ⟨0, by omega⟩) ?_⟩, keeps_put _ _ _ _ _ hblk⟩
    refine holds_putRow encW _ blk 0 l.toArray _ (holds_ahead encW w q blk 0 l.toArray hH) ?_
    have := List.length_filter_le nz l
    rw [List.size_toArray, List.length_append, List.length_replicate]
    show (l.filter nz).length + (l.length - (l.filter nz).length) = l.length
    omega)
  exact h2
theorem sortf_calls (l : List W64) (blk cap : Nat) (w : World) (hH : Holds encW w blk 0 l.toArray) (hblk : blk < w.heap.size) (hn : l.length ≤ 1000000000) :
    Calls Tryz.prog 46 #[.slice (some ⟨blk, 0, none⟩) l.length cap, .func (.func 47) #[] #[]] w fun e w' => (e = .returned (.tuple #[]) ∧ ∃ d', PermIn 0 l.toArray.size l.toArray d' ∧ SortedIn (ltOf cfW) 0 l.toArray.size d' ∧ Holds encW w' blk 0 d') ∧ Keeps blk w w' := by
  have eg : ∀ args w, (callFunc 47 args).run Tryz.prog w = .ok (.enter 47 args) w := enters_of Tryz.func47 (by kernel_rfl) rfl
  have h := Any.slices_SortFunc sortInt encW (fun _ => rfl) cfW swoA 47 #[] blk 0 cap l.toArray w eg (fun m os dk _ x y => less_calls x y _) hH hblk (by simp; omega)
  have h2 := h.mono (R' := fun e w' => (e = .returned (.tuple #[]) ∧ ∃ d', PermIn 0 l.toArray.size l.toArray d' ∧ SortedIn (ltOf cfW) 0 l.toArray.size d' ∧ Holds encW w' blk 0 d') ∧ Keeps blk w w') (fun e w' ⟨he, d', n, os, hp, hs, hw⟩ => by
    subst hw
    exact ⟨⟨he, d', hp, hs, (show SW encW w blk 0 d' _ from ⟨n, os, rfl⟩).holds hblk hH hp.1⟩, keeps_sort _ _ _ _ _ _ hblk⟩)
  exact h2
theorem comp_calls (d : Array W64) (blk cap : Nat) (w : World) (hH : Holds encW w blk 0 d) (hblk : blk < w.heap.size) (hn : d.size ≤ 1000000000) (hcap : d.size ≤ cap) :
    Calls Tryz.prog 52 #[.slice (some ⟨blk, 0, none⟩) d.size cap] w fun e w' => (e = .returned (.slice (some ⟨blk, 0, none⟩) (compactUpTo d d.size).length cap) ∧ Holds encW w' blk 0 (compactUpTo d d.size).toArray) ∧ Keeps blk w w' := by
  have heq : EqlAt Tryz.prog 3 encW (fun x y => decide (x = y)) := ⟨fun x y w => by
    have := (EqlAt.intD Tryz.prog 3 .i64).1 x.val y.val w
    show _ = Result.ok (Value.bool (decide (x = y))) w
    rw [show decide (x = y) = decide (x.val = y.val) from decide_eq_decide.2 Subtype.ext_iff]
    exact this, fun o a b x y w => (EqlAt.intD Tryz.prog 3 .i64).2 o a b x.val y.val w⟩
  have hne : NeqAt Tryz.prog 3 encW (fun x y => decide (x = y)) := ⟨fun x y w => by
    have := (NeqAt.intD Tryz.prog 3 .i64).1 x.val y.val w
    show _ = Result.ok (Value.bool (!decide (x = y))) w
    rw [show decide (x = y) = decide (x.val = y.val) from decide_eq_decide.2 Subtype.ext_iff]
    exact this, fun o a b x y w => (NeqAt.intD Tryz.prog 3 .i64).2 o a b x.val y.val w⟩
  have h := AnyE.slices_Compact compInt encW (fun _ => rfl) heq hne ⟨0, by omega⟩ zr_ok blk 0 cap d w hH (by omega) hcap
  have h2 := h.mono (R' := fun e w' => (e = .returned (.slice (some ⟨blk, 0, none⟩) (compactUpTo d d.size).length cap) ∧ Holds encW w' blk 0 (compactUpTo d d.size).toArray) ∧ Keeps blk w w') (fun e w' ⟨he, q, hw⟩ => by
    subst hw
    refine ⟨⟨he, holds_pre (b := List.replicate (d.size - (compactUpTo d d.size).length) ⟨0, by omega⟩) ?_⟩, keeps_put _ _ _ _ _ hblk⟩
    refine holds_putRow encW _ blk 0 d _ (holds_ahead encW w q blk 0 d hH) ?_
    have : (compactUpTo d d.size).length ≤ d.size := by
      unfold compactUpTo
      rw [List.length_map]
      exact Nat.le_trans (List.length_filter_le _ _) (by rw [List.length_range]; exact Nat.le_refl _)
    rw [List.size_toArray, List.length_append, List.length_replicate]
    omega)
  exact h2

/-! At no element -/
set_option maxHeartbeats 400000 in
theorem index0 (A : Option Addr) (c : Nat) (fv : Value) (w : World) : Calls Tryz.prog 72 #[.slice A 0 c, fv] w fun e w' => e = .returned (.int .i64 (-1)) ∧ w = w' := by
  go_enter Tryz.func72, Tryz.ntmps72
  go_wp2_with fail
  refine wp_loop_rounds 1 ?_
  rw [rounds_succ]
  go_wp2_with fail
  go_ret
  exact ⟨rfl, rfl⟩
set_option maxHeartbeats 400000 in
theorem del0 (A : Option Addr) (c : Nat) (fv : Value) (w : World) : Calls Tryz.prog 43 #[.slice A 0 c, fv] w fun e w' => e = .returned (.slice A 0 c) ∧ w = w' := by
  go_enter Tryz.func43, Tryz.ntmps43
  go_wp2_with fail
  (refine (index0 A c fv _).mono ?_; rintro e w' ⟨rfl, rfl⟩; go_wp2_with fail)
  go_ret
  exact ⟨rfl, rfl⟩
set_option maxHeartbeats 1000000 in
theorem ins0 (A : Option Addr) (c : Nat) (fv : Value) (w : World) : Calls Tryz.prog 115 #[.slice A 0 c, .int .i64 0, .int .i64 0, fv] w fun e w' => e = .returned (.tuple #[]) ∧ w = w' := by
  go_enter Tryz.func115, Tryz.ntmps115
  go_wp2_with fail
  refine wp_loop_rounds 1 ?_
  rw [rounds_succ]
  go_wp2_with fail
  go_end0
  exact ⟨rfl, rfl⟩
set_option maxHeartbeats 1000000 in
theorem pdq0 (A : Option Addr) (c : Nat) (lim : Int) (fv : Value) (w : World) : Calls Tryz.prog 73 #[.slice A 0 c, .int .i64 0, .int .i64 0, .int .i64 lim, fv] w fun e w' => e = .returned (.tuple #[]) ∧ w = w' := by
  go_enter Tryz.func73, Tryz.ntmps73
  go_wp2_with fail
  refine wp_loop_rounds 1 ?_
  rw [rounds_succ]
  go_wp2_with fail
  (refine (ins0 A c fv _).mono ?_; rintro e w' ⟨rfl, rfl⟩; go_wp2_with fail)
  (try simp only [Exit.inBlock, Exit.then]); refine bodyPost_ret (results_none rfl _ _ _) rfl ?_
  exact ⟨rfl, rfl⟩
set_option maxHeartbeats 1000000 in
theorem sortf0 (A : Option Addr) (c : Nat) (fv : Value) (w : World) : Calls Tryz.prog 46 #[.slice A 0 c, fv] w fun e w' => e = .returned (.tuple #[]) ∧ w = w' := by
  have hl : ∀ W, Calls Tryz.prog 74 #[.int .u64 0] W fun e w' => e = .returned (.int .i64 (Lib.bitLen 0 : Nat)) ∧ w' = W := fun W => Any.bits_Len (SlLaysF0.n15.bits (P := Tryz.prog) (ρ := sortInt_ren) { sortInt with }) 0 W (by omega) (by omega)
  go_enter Tryz.func46, Tryz.ntmps46
  go_wp2_with fail
  refine (hl _).mono ?_
  rintro e w' ⟨rfl, rfl⟩
  go_wp2_with fail
  (refine (pdq0 A c _ fv _).mono ?_; rintro e w' ⟨rfl, rfl⟩; go_wp2_with fail)
  go_end0
  exact ⟨rfl, rfl⟩
set_option maxHeartbeats 400000 in
theorem comp0 (A : Option Addr) (c : Nat) (w : World) : Calls Tryz.prog 52 #[.slice A 0 c] w fun e w' => e = .returned (.slice A 0 c) ∧ w = w' := by
  go_enter Tryz.func52, Tryz.ntmps52
  go_wp2_with fail
  go_ret
  exact ⟨rfl, rfl⟩
theorem lift64 : ∀ (l : List Int), (∀ x ∈ l, wfInt .i64 x) → ∃ l64 : List W64, l64.map (·.val) = l
  | [], _ => ⟨[], rfl⟩
  | x :: l, h => by
    obtain ⟨t, ht⟩ := lift64 l (fun y hy => h y (List.mem_cons_of_mem _ hy))
    exact ⟨⟨x, wf_i64 (h x List.mem_cons_self)⟩ :: t, by rw [List.map_cons, ht]⟩
theorem holds_C {w : World} {blk : Nat} {l : List W64} (h : Holds encW w blk 0 l.toArray) (hn : l.length ≤ 1000000000) : (Kd.int .i64).C w (some ⟨blk, 0, none⟩) (l.map (·.val)).length (l.map (·.val)) := by
  refine ⟨rfl, by rw [List.length_map]; omega, fun hp => ⟨_, rfl, fun j x hj => ?_⟩⟩
  rw [List.getElem?_map] at hj
  cases hx : l[j]? with
  | none => rw [hx] at hj; cases hj
  | some y =>
    rw [hx] at hj
    cases hj
    have hlt : j < l.length := (List.getElem?_eq_some_iff.1 hx).1
    have h2 := (h j (by simpa using hlt)).1
    have e : l.toArray[j]! = y := by
      rw [getElem!_pos l.toArray j (by simpa using hlt)]
      have := (List.getElem?_eq_some_iff.1 hx).2
      simpa using this
    rw [e, Nat.zero_add] at h2
    refine ⟨[encW y], rfl, rfl, fun i u hu => ?_⟩
    cases i with
    | zero =>
      simp only [List.getElem?_cons_zero, Option.some.injEq] at hu
      subst hu
      rw [add_plain]
      rw [show j * (Kd.int .i64).sz + 0 = j from Nat.mul_one j]
      exact h2
    | succ i => simp at hu
set_option maxRecDepth 100000 in
set_option maxHeartbeats 2000000 in
theorem sort_calls (l : List Int) (hl : ∀ x ∈ l, wfInt .i64 x) (hn : l.length ≤ 1000000000) (A : Option Addr) (c : Nat) (w : World) (hA : (Kd.int .i64).C w A l.length l) :
    Calls Tryz.prog 11 #[.slice A l.length c] w fun e w' => (∃ A' c', e = .returned (.slice A' (sortA l).length c') ∧ (Kd.int .i64).C w' A' (sortA l).length (sortA l)) ∧ Go.RowKit.Below w.heap.size w w' := by
  have HL := Aside0.mk hl
  have HC := Aside0.mk hA
  clear hl hA
  go_enter Tryz.func11, Tryz.ntmps11
  go_wp2_with fail
  refine (clone_int ((Kd.int .i64).K w) kint_one l A c w (rows_old HC.out (Go.RowKit.Below.refl _ _)) (by omega)).mono ?_
  rintro e w1 ⟨⟨v, rfl, ho⟩, hb1⟩
  rcases Nat.eq_zero_or_pos l.length with h0 | hp
  · obtain rfl : l = [] := List.eq_nil_of_length_eq_zero h0
    obtain ⟨A', c', rfl, hc'⟩ := ownAt_none (d := Kd.int .i64) ho
    clear ho
    go_wp2_with fail
    (refine (del0 A' c' _ _).mono ?_; rintro e w' ⟨rfl, rfl⟩; go_wp2_with fail)
    (refine (sortf0 A' c' _ _).mono ?_; rintro e w' ⟨rfl, rfl⟩; go_wp2_with fail)
    (refine (comp0 A' c' _).mono ?_; rintro e w' ⟨rfl, rfl⟩; go_wp2_with fail)
    go_ret
    exact ⟨⟨A', c', rfl, show (Kd.int .i64).C _ A' 0 [] from (st_nil (S := fun _ => False) A').now⟩, hb1⟩
  obtain ⟨B, c', rfl, hc', hB, hO⟩ := ownAt_new (d := Kd.int .i64) (S := fun _ => False) ho hp (fun _ _ _ x cs h => kint_st x cs h)
  obtain ⟨l64, hl64⟩ := lift64 l HL.out
  have hlen : l64.length = l.length := by rw [← hl64, List.length_map]
  have hblk := hO.lt
  have hH : Holds encW w1 B 0 l64.toArray := fun j hj => by
    have hj' : j < l64.length := by simpa using hj
    have hx : l[j]? = some (l64[j].val) := by rw [← hl64, List.getElem?_map, List.getElem?_eq_getElem hj']; rfl
    obtain ⟨cs, h1, h2, h3⟩ := hO.open_ hx
    have hcs : cs = [.int .i64 l64[j].val] := h3.now
    subst hcs
    have e : l64.toArray[j]! = l64[j] := by
      rw [getElem!_pos l64.toArray j hj]
      simp
    rw [e, Nat.zero_add]
    refine ⟨?_, h2 j⟩
    have h4 := h1 0 _ rfl
    rw [show j * (Kd.int .i64).sz + 0 = j from Nat.mul_one j] at h4
    exact h4
  have HH := Aside0.mk hH
  have hb1 := Aside0.mk hb1
  have hn64 : l64.length ≤ 1000000000 := by omega
  have hcap : l64.length ≤ c' := by omega
  have hfl := List.length_filter_le nz l64
  have hd := del_calls l64 B c' w1 HH.out hblk hn64 hcap
  rw [hlen] at hd
  have hd := Aside0.mk hd
  have hlen' := Aside0.mk hlen
  clear ho hO hH hlen
  go_wp2_with fail
  refine hd.out.mono ?_
  rintro e w2 ⟨⟨rfl, hH2⟩, hk2⟩
  go_wp2_with fail
  refine (sortf_calls (l64.filter nz) B c' w2 hH2 hk2.lt (by omega)).mono ?_
  rintro e w3 ⟨⟨rfl, d', hp', hs', hH3⟩, hk3⟩
  have hsz : d'.size = (l64.filter nz).length := by simpa using hp'.1
  have hplain := sort_plain l64 d' hp' hs'
  rw [hl64] at hplain
  have hp3 := Aside0.mk hplain
  clear hp' hs' hplain
  have hcc := comp_calls d' B c' w3 hH3 hk3.lt (by omega) (by omega)
  rw [hsz] at hcc
  replace hcc := Aside0.mk hcc
  have hp4 : (compactUpTo d' (l64.filter nz).length).map (·.val) = sortA l := by rw [← hsz]; exact hp3.out
  replace hp4 := Aside0.mk hp4
  clear hsz
  go_wp2_with fail
  refine hcc.out.mono ?_
  rintro e w4 ⟨⟨rfl, hH4⟩, hk4⟩
  go_wp2_with fail
  go_ret
  have hlc : (compactUpTo d' (l64.filter nz).length).length = (sortA l).length := by rw [← hp4.out, List.length_map]
  have hsl := length_sortA l
  refine ⟨⟨some ⟨B, 0, none⟩, c', by rw [hlc]; rfl, ?_⟩, ?_⟩
  · have := holds_C hH4 (by omega)
    rw [hp4.out] at this
    exact this
  · exact ((hb1.out.trans (hk2.below.mono hB)).trans (hk3.below.mono hB)).trans (hk4.below.mono hB)
end Go.Proofs.YthalgemkblkhgaaGreat
