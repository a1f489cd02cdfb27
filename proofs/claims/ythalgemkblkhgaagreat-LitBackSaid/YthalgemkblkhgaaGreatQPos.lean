/- Where a choice stands in the list of all: the plain law of Of, Time and Place. -/
import Derived.Test.YthalgemkblkhgaaGreatQAllP
namespace Go.Proofs.YthalgemkblkhgaaGreat
open Go.RowKit Go.Proofs.YthalgemkblkhgaaGreatW.PrintWords Go.Proofs.YthalgemkblkhgaaGreatW.PrintLast
set_option linter.unusedVariables false
set_option linter.unusedSimpArgs false

def posIn (l : List Choice) (y : Choice) : Option Nat := l.findIdx? (fun x => eqCh x y)
theorem firstFrom_pos (l : List Choice) (y : Choice) : ∀ (k s : Nat), s + k = l.length → firstFrom (isCh l y) k s = (posIn (l.drop s) y).map (· + s)
  | 0, s, h => by
    rw [List.drop_eq_nil_of_le (by omega)]
    rfl
  | k + 1, s, h => by
    have hx : l[s]? = some l[s] := List.getElem?_eq_getElem (by omega)
    rw [List.drop_eq_getElem_cons (by omega : s < l.length)]
    unfold firstFrom posIn
    rw [List.findIdx?_cons]
    have e : isCh l y s = eqCh l[s] y := by simp only [isCh, hx]
    rw [e]
    cases hq : eqCh l[s] y
    · have h1 := firstFrom_pos l y k (s + 1) (by omega)
      unfold posIn at h1
      simp only [Bool.false_eq_true, if_false]
      rw [h1, Option.map_map]
      congr 1
      funext a
      show a + (s + 1) = a + 1 + s
      omega
    · simp
theorem ofIn_pos (l : List Choice) (y : Choice) : ofIn l y = numIn (posIn l y) := by
  unfold ofIn firstBad
  rw [firstFrom_pos l y l.length 0 (by omega)]
  rw [List.drop_zero]
  congr 1
  cases posIn l y <;> rfl
theorem pos_append (a b : List Choice) (y : Choice) : posIn (a ++ b) y = (posIn a y).or ((posIn b y).map (· + a.length)) := List.findIdx?_append ..
theorem pos_none {l : List Choice} {y : Choice} (h : ∀ x ∈ l, eqCh x y = false) : posIn l y = none := by
  unfold posIn
  rw [List.findIdx?_eq_none_iff]
  intro x hx
  rw [h x hx]
theorem pos_range (c : Nat) (b : Bool) (y : Choice) (h0 : y.f0 = c) (h1 : y.f1 = b) : ∀ n : Nat, posIn ((List.range n).map (fun (i : Nat) => Choice.mk c b i)) y = if 0 ≤ y.f2 ∧ y.f2 < n then some y.f2.toNat else none
  | 0 => by
    rw [if_neg (by omega)]
    rfl
  | n + 1 => by
    rw [List.range_succ, List.map_append, pos_append, pos_range c b y h0 h1 n]
    by_cases h : 0 ≤ y.f2 ∧ y.f2 < n
    · rw [if_pos h, if_pos (by omega)]
      rfl
    · rw [if_neg h]
      by_cases hn : y.f2 = n
      · rw [if_pos (by omega)]
        have : eqCh (Choice.mk c b n) y = true := by simp [eqCh, h0, h1, hn]
        simp [posIn, this, List.findIdx?_cons]
        omega
      · rw [if_neg (by omega)]
        have : eqCh (Choice.mk c b n) y = false := by
          simp only [eqCh, Bool.and_eq_false_iff, beq_eq_false_iff_ne]
          exact .inr (.inr (fun q => hn q.symm))
        simp [posIn, this, List.findIdx?_cons]
def inBlock (x : Class) (y : Choice) : Option Nat := if y.f1 = true then (if 0 ≤ y.f2 ∧ y.f2 < x.f5.length then some (x.f4.length + y.f2.toNat) else none) else (if 0 ≤ y.f2 ∧ y.f2 < x.f4.length then some y.f2.toNat else none)
theorem not_range (c : Nat) (b : Bool) (y : Choice) (h : y.f0 ≠ c ∨ y.f1 ≠ b) (n : Nat) : posIn ((List.range n).map (fun (i : Nat) => Choice.mk c b i)) y = none := by
  refine pos_none (fun x hx => ?_)
  obtain ⟨i, _, rfl⟩ := List.mem_map.1 hx
  simp only [eqCh, Bool.and_eq_false_iff, beq_eq_false_iff_ne]
  rcases h with h | h
  · exact .inl (fun q => h q.symm)
  · exact .inr (.inl (fun q => h q.symm))
theorem pos_block (c : Nat) (x : Class) (y : Choice) (h0 : y.f0 = c) : posIn (blockOf c x) y = inBlock x y := by
  unfold blockOf inBlock
  rw [pos_append, List.length_map, List.length_range]
  cases hb : y.f1
  · rw [if_neg (by simp), pos_range c false y h0 hb, not_range c true y (.inr (by rw [hb]; simp))]
    simp
  · rw [if_pos rfl, not_range c false y (.inr (by rw [hb]; simp)), pos_range c true y h0 hb]
    split
    · simp [Nat.add_comm]
    · simp
theorem pos_other (l : List Class) (k : Nat) (y : Choice) (h : y.f0 ≠ k) : posIn (blockAt l k) y = none := by
  unfold blockAt
  split
  · unfold blockOf
    rw [pos_append, not_range k false y (.inl h), not_range k true y (.inl h)]
    rfl
  · rfl
theorem pos_choices (l : List Class) (y : Choice) : ∀ k : Nat, posIn (choicesTo l k) y = if 0 ≤ y.f0 ∧ y.f0 < k then (posIn (blockAt l y.f0.toNat) y).map (· + (choicesTo l y.f0.toNat).length) else none
  | 0 => by
    rw [if_neg (by omega)]
    rfl
  | k + 1 => by
    rw [choicesTo_succ, pos_append, pos_choices l y k]
    by_cases h : 0 ≤ y.f0 ∧ y.f0 < k
    · rw [if_pos h, if_pos (by omega), pos_other l k y (by omega)]
      cases (posIn (blockAt l y.f0.toNat) y) <;> rfl
    · rw [if_neg h]
      by_cases hk : y.f0 = k
      · rw [if_pos (by omega)]
        have : y.f0.toNat = k := by omega
        rw [this]
        rfl
      · rw [if_neg (by omega), pos_other l k y hk]
        rfl
theorem of_choices (l : List Class) (y : Choice) : ofIn (choices l) y = if y.f0 < 0 then 0 else match l[y.f0.toNat]? with | some x => numIn ((inBlock x y).map (· + (choicesTo l y.f0.toNat).length)) | none => 0 := by
  rw [ofIn_pos, choices, pos_choices]
  by_cases h0 : y.f0 < 0
  · rw [if_neg (by omega), if_pos h0]
    rfl
  rw [if_neg h0]
  cases hx : l[y.f0.toNat]? with
  | none =>
    have := List.getElem?_eq_none_iff.1 hx
    rw [if_neg (by omega)]
    rfl
  | some x =>
    have := (List.getElem?_eq_some_iff.1 hx).1
    rw [if_pos (by omega), blockAt_some hx, pos_block _ _ _ (by omega)]
theorem time_law (p : Problem) (c i : Int) : ofIn (choices p.f5) ⟨c, false, i⟩ = timeOf (mapOf p) c i := by
  rw [of_choices]
  unfold timeOf
  show (if c < 0 then _ else _) = _
  by_cases h0 : c < 0
  · rw [if_pos h0, if_pos h0]
  rw [if_neg h0, if_neg h0]
  show _ = (match ((List.range p.f5.length).map (timesAt p.f5))[c.toNat]?, p.f5[c.toNat]? with | some x, some k => numberOf x i k.f4.length | _, _ => 0)
  show (match p.f5[c.toNat]? with | some x => numIn ((inBlock x ⟨c, false, i⟩).map (· + (choicesTo p.f5 c.toNat).length)) | none => 0) = _
  cases hx : p.f5[c.toNat]? with
  | none =>
    cases ((List.range p.f5.length).map (timesAt p.f5))[c.toNat]? <;> rfl
  | some x =>
    have hl := (List.getElem?_eq_some_iff.1 hx).1
    rw [List.getElem?_map, List.getElem?_range hl]
    simp only [Option.map_some]
    unfold inBlock numberOf timesAt
    simp only [Bool.false_eq_true, if_false]
    by_cases h : 0 ≤ i ∧ i < x.f4.length
    · rw [if_pos h, if_neg (by omega)]
      simp only [Option.map_some, numIn]
      omega
    · rw [if_neg h, if_pos (by omega)]
      rfl
theorem place_law (p : Problem) (c i : Int) : ofIn (choices p.f5) ⟨c, true, i⟩ = placeOf (mapOf p) c i := by
  rw [of_choices]
  unfold placeOf
  show (if c < 0 then _ else _) = _
  by_cases h0 : c < 0
  · rw [if_pos h0, if_pos h0]
  rw [if_neg h0, if_neg h0]
  show _ = (match ((List.range p.f5.length).map (placesAt p.f5))[c.toNat]?, p.f5[c.toNat]? with | some x, some k => numberOf x i k.f5.length | _, _ => 0)
  show (match p.f5[c.toNat]? with | some x => numIn ((inBlock x ⟨c, true, i⟩).map (· + (choicesTo p.f5 c.toNat).length)) | none => 0) = _
  cases hx : p.f5[c.toNat]? with
  | none =>
    cases ((List.range p.f5.length).map (placesAt p.f5))[c.toNat]? <;> rfl
  | some x =>
    have hl := (List.getElem?_eq_some_iff.1 hx).1
    rw [List.getElem?_map, List.getElem?_range hl]
    simp only [Option.map_some]
    unfold inBlock numberOf placesAt
    rw [hx]
    simp only [if_true]
    by_cases h : 0 ≤ i ∧ i < x.f5.length
    · rw [if_pos h, if_neg (by omega)]
      simp only [Option.map_some, numIn]
      omega
    · rw [if_neg h, if_pos (by omega)]
      rfl
theorem of_law (p : Problem) (y : Choice) : ofIn (choices p.f5) y = if y.f1 = true then placeOf (mapOf p) y.f0 y.f2 else timeOf (mapOf p) y.f0 y.f2 := by
  obtain ⟨c, b, i⟩ := y
  cases b
  · exact time_law p c i
  · exact place_law p c i
end Go.Proofs.YthalgemkblkhgaaGreat
