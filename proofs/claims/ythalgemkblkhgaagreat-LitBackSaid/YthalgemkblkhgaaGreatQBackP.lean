/- What a plan of literals has fixed are these literals, sorted: the plain law. -/
import Derived.Test.YthalgemkblkhgaaGreatQFixP
import Derived.Test.YthalgemkblkhgaaGreatQMS
namespace Go.Proofs.YthalgemkblkhgaaGreat
open Go.RowKit Go.Proofs.YthalgemkblkhgaaGreatW.PrintWords Go.Proofs.YthalgemkblkhgaaGreatW.PrintLast
set_option linter.unusedVariables false
set_option linter.unusedSimpArgs false

def ownOf (m : Nat) (l : List Int) : List Int := l.filter (fun x => decide (1 ≤ x) && decide (x ≤ m))
theorem mem_own (m : Nat) (l : List Int) (x : Int) : x ∈ ownOf m l ↔ x ∈ l ∧ 1 ≤ x ∧ x ≤ m := by
  simp [ownOf]
/-- Does one choice's slot stand ahead of another one's? -/
def slotLt (x y : Choice) : Prop := x.f0 < y.f0 ∨ (x.f0 = y.f0 ∧ x.f1 = false ∧ y.f1 = true)
theorem slot_blockOf (c : Nat) (x : Class) : (blockOf c x).Pairwise (fun a b => ¬ slotLt b a) := by
  unfold blockOf
  rw [List.pairwise_append]
  refine ⟨?_, ?_, ?_⟩
  · rw [List.pairwise_map]
    exact List.pairwise_iff_getElem.2 (fun i j hi hj _ h => by unfold slotLt at h; simp at h)
  · rw [List.pairwise_map]
    exact List.pairwise_iff_getElem.2 (fun i j hi hj _ h => by unfold slotLt at h; simp at h)
  · intro a ha b hb h
    obtain ⟨i, _, rfl⟩ := List.mem_map.1 ha
    obtain ⟨j, _, rfl⟩ := List.mem_map.1 hb
    unfold slotLt at h
    simp at h
theorem slot_choicesTo (l : List Class) : ∀ k, (choicesTo l k).Pairwise (fun a b => ¬ slotLt b a)
  | 0 => by simp [choicesTo]
  | k + 1 => by
    rw [choicesTo_succ, List.pairwise_append]
    refine ⟨slot_choicesTo l k, ?_, fun a ha b hb h => ?_⟩
    · unfold blockAt
      split
      · exact slot_blockOf _ _
      · exact List.Pairwise.nil
    · have h1 := mem_choicesTo ha
      unfold blockAt at hb
      split at hb
      · have h2 := mem_blockOf hb
        unfold slotLt at h
        omega
      · cases hb
theorem mem_choices_in {l : List Class} {y : Choice} : ∀ {k : Nat}, y ∈ choicesTo l k → ∃ x, l[y.f0.toNat]? = some x ∧ y.f2 < (if y.f1 = true then x.f5.length else x.f4.length)
  | 0, h => by simp [choicesTo] at h
  | k + 1, h => by
    rw [choicesTo_succ] at h
    rcases List.mem_append.1 h with h | h
    · exact mem_choices_in h
    · unfold blockAt at h
      cases hx : l[k]? with
      | none => rw [hx] at h; cases h
      | some x =>
        rw [hx] at h
        unfold blockOf at h
        rcases List.mem_append.1 h with h | h
        all_goals
          obtain ⟨i, hi, rfl⟩ := List.mem_map.1 h
          have := List.mem_range.1 hi
          refine ⟨x, by show l[(k : Int).toNat]? = some x; rw [Int.toNat_natCast]; exact hx, ?_⟩
          simp
          omega
theorem slot_pos {l : List Class} {x y : Choice} (h : slotLt x y) (hx : 0 < ofIn (choices l) x) (hy : 0 < ofIn (choices l) y) : ofIn (choices l) x < ofIn (choices l) y := by
  obtain ⟨ex, lx⟩ := ofIn_back hx
  obtain ⟨ey, ly⟩ := ofIn_back hy
  apply Classical.byContradiction
  intro hn
  by_cases e : (ofIn (choices l) x).toNat - 1 = (ofIn (choices l) y).toNat - 1
  · rw [e, ey] at ex
    injection ex with ex
    subst ex
    unfold slotLt at h
    rcases h with h | ⟨_, h1, h2⟩
    · omega
    · rw [h1] at h2; cases h2
  · obtain ⟨h1, e1⟩ := List.getElem?_eq_some_iff.1 ex
    obtain ⟨h2, e2⟩ := List.getElem?_eq_some_iff.1 ey
    have hp : (choices l).Pairwise (fun a b => ¬ slotLt b a) := slot_choicesTo l l.length
    have h3 := List.pairwise_iff_getElem.1 hp _ _ h2 h1 (by omega)
    rw [e1, e2] at h3
    exact h3 h
section
variable {p : Problem} {s : List Seat} {l : List Int} {J : List Choice}
theorem mem_fixAt {L : List Choice} {c : Nat} {t : Seat} {n : Int} (h : n ∈ fixAt L c t) : 0 < n ∧ ∃ b v, n = ofIn L ⟨c, b, v⟩ := by
  unfold fixAt at h
  rcases List.mem_append.1 h with h | h
  · obtain ⟨e, h⟩ := (mem_pos1 _ _).1 h; exact ⟨by omega, _, _, e⟩
  · obtain ⟨e, h⟩ := (mem_pos1 _ _).1 h; exact ⟨by omega, _, _, e⟩
theorem mem_eachTo {L : List Choice} {n : Int} {k : Nat} (h : n ∈ eachTo (fixAt L) s k) : 0 < n ∧ ∃ (c : Nat) (b : Bool) (v : Int), c < k ∧ n = ofIn L ⟨c, b, v⟩ := by
  unfold eachTo at h
  obtain ⟨c, hc, h⟩ := List.mem_flatMap.1 h
  cases ht : s[c]? with
  | none => rw [ht] at h; cases h
  | some t =>
    rw [ht] at h
    obtain ⟨h0, b, v, e⟩ := mem_fixAt h
    exact ⟨h0, c, b, v, List.mem_range.1 hc, e⟩
theorem ahead_pos {a b : Int} (ha : 0 < a) (h : a < b) : ahead a b = true := by
  rw [ahead_iff]
  omega
theorem rises_pos1 (v : Int) : Rises (pos1 v) := by
  unfold pos1 Rises
  split <;> simp
theorem rises_each (cl : List Class) (s : List Seat) : ∀ k, Rises (eachTo (fixAt (choices cl)) s k)
  | 0 => by simp [eachTo, Rises]
  | k + 1 => by
    have ih := rises_each cl s k
    cases ht : s[k]? with
    | none =>
      have : eachTo (fixAt (choices cl)) s (k + 1) = eachTo (fixAt (choices cl)) s k := by simp [eachTo, List.range_succ, ht]
      rw [this]
      exact ih
    | some t =>
      rw [eachTo_succ ht]
      refine List.pairwise_append.2 ⟨ih, ?_, fun a ha b hb => ?_⟩
      · unfold fixAt
        refine List.pairwise_append.2 ⟨rises_pos1 _, rises_pos1 _, fun a ha b hb => ?_⟩
        obtain ⟨ea, pa⟩ := (mem_pos1 _ _).1 ha
        obtain ⟨eb, pb⟩ := (mem_pos1 _ _).1 hb
        subst ea eb
        exact ahead_pos pa (slot_pos (.inr ⟨rfl, rfl, rfl⟩) pa pb)
      · obtain ⟨h0, c, b1, v, hc, ea⟩ := mem_eachTo ha
        obtain ⟨h1, b2, v2, eb⟩ := mem_fixAt hb
        subst ea eb
        exact ahead_pos h0 (slot_pos (.inl (by show (c : Int) < k; omega)) h0 h1)
theorem given_ok (hok : problemOk p = true) (h : Tells p.f5.length J s) (hJ : ∀ y ∈ J, y ∈ choices p.f5) : planOk p s = true := by
  unfold planOk
  rw [hok, decide_eq_true h.len, Bool.true_and, Bool.true_and]
  unfold allB
  rw [List.all_eq_true]
  intro c hc
  have hc := List.mem_range.1 hc
  unfold seatOkAt
  cases hx : p.f5[c]? with
  | none => rfl
  | some x =>
    cases ht : s[c]? with
    | none => rfl
    | some t =>
      show seatIn x t = true
      rw [seatIn_iff]
      have key : ∀ b : Bool, -1 ≤ seatAt t b ∧ seatAt t b < (if b = true then x.f5.length else x.f4.length) := by
        intro b
        have e := hasAt_some (acc := s) (y := ⟨c, b, 0⟩) (s := t) (by show s[(c : Int).toNat]? = some t; rw [Int.toNat_natCast]; exact ht)
        have e' : hasAt s ⟨c, b, 0⟩ = seatAt t b := e
        by_cases h0 : 0 ≤ hasAt s ⟨c, b, 0⟩
        · obtain ⟨z, hz, z0, z1, z2⟩ := h.was (y := ⟨c, b, 0⟩) ⟨by show (0 : Int) ≤ c; omega, by show (c : Int) < _; have := h.len; omega⟩ h0
          obtain ⟨x', hx', hlt⟩ := mem_choices_in (hJ z hz)
          have z0' : z.f0 = c := z0
          have z1' : z.f1 = b := z1
          rw [z0', Int.toNat_natCast, hx] at hx'
          injection hx' with hx'
          subst hx'
          rw [z1', ← z2, e'] at hlt
          rw [e'] at h0
          exact ⟨by omega, hlt⟩
        · have h1 : hasAt s ⟨c, b, 0⟩ = -1 := by
            apply Classical.byContradiction
            intro hne
            have h2 : ∃ z ∈ J, z.f0 = (c : Int) ∧ z.f1 = b := by
              apply Classical.byContradiction
              intro hc'
              exact hne (h.no ⟨c, b, 0⟩ (by show (0 : Int) ≤ c; omega) (by show (c : Int) < _; have := h.len; omega) (fun z hz q => hc' ⟨z, hz, q.1, q.2⟩))
            obtain ⟨z, hz, z0, z1⟩ := h2
            have h3 := h.has z hz
            have h4 := (mem_choicesTo (hJ z hz)).2.2.2
            have h5 : hasAt s z = hasAt s ⟨c, b, 0⟩ := hasAt_slot (by rw [z0]) (by rw [z1])
            omega
          rw [e'] at h1
          rw [h1]
          refine ⟨by omega, ?_⟩
          cases b <;> simp <;> omega
      have k0 := key false
      have k1 := key true
      simp only [seatAt, Bool.false_eq_true, if_false, if_true] at k0 k1
      exact ⟨k0, k1⟩
theorem back_law (hok : problemOk p = true) (hs : seatsFrom (choices p.f5) (List.replicate p.f5.length noSeat) l = some s) : planOk p s = true ∧ fixedOf p s = sortA (ownOf (choices p.f5).length l) := by
  have hf := fair_choices p.f5
  have hc := seatsFrom_comes hf l _ [] (Tells.empty p.f5.length) (fun x hx => by cases hx)
  rw [hs] at hc
  obtain ⟨J, hT, hJ⟩ := hc
  have hJL : ∀ y ∈ J, y ∈ choices p.f5 := by
    intro y hy
    rcases (hJ y).1 hy with h | ⟨n, hn, hw, h0⟩
    · cases h
    · have := whatIn_mem (L := choices p.f5) (n := n) (by rw [hw])
      rwa [hw] at this
  have hpl := given_ok hok hT hJL
  refine ⟨hpl, sortA_eq ?_ ?_⟩
  · unfold fixedOf
    rw [if_pos hpl, allOf_ok hok]
    exact rises_each _ _ _
  · intro n
    rw [mem_own]
    have hin : ∀ m : Int, 1 ≤ m → m ≤ (choices p.f5).length → ∃ y, whatIn (choices p.f5) m = (y, true) := by
      intro m h1 h2
      obtain ⟨i, rfl⟩ : ∃ i : Nat, m = (i : Int) + 1 := ⟨m.toNat - 1, by omega⟩
      obtain ⟨y, hy⟩ : ∃ y, (choices p.f5)[i]? = some y := ⟨_, List.getElem?_eq_getElem (by omega)⟩
      exact ⟨y, whatIn_at hy⟩
    have hmf : ∀ m : Int, 1 ≤ m → ∀ y, whatIn (choices p.f5) m = (y, true) → (m ∈ fixedOf p s ↔ hasAt s y = y.f2) := by
      intro m h1 y hy
      have h := made_fixed hpl (n := m) (by rw [allOf_ok hok, hy])
      rw [allOf_ok hok, hy, show (m.natAbs : Int) = m from by omega] at h
      unfold madeOf at h
      exact decide_eq_decide.1 h
    constructor
    · intro hn
      have hn' := hn
      unfold fixedOf at hn'
      rw [if_pos hpl, allOf_ok hok] at hn'
      obtain ⟨h0, c, b, v, hc, e⟩ := mem_eachTo hn'
      obtain ⟨_, h2⟩ := ofIn_back (L := choices p.f5) (y := ⟨c, b, v⟩) (by omega)
      rw [← e] at h2
      obtain ⟨y, hy⟩ := hin n (by omega) (by omega)
      have hh := (hmf n (by omega) y hy).1 hn
      have hyL := whatIn_mem (L := choices p.f5) (n := n) (by rw [hy])
      rw [hy] at hyL
      have hya := hf.at_ y hyL
      obtain ⟨z, hz, z0, z1, z2⟩ := hT.was (y := y) ⟨hya.1, hya.2.1⟩ (by rw [hh]; exact hya.2.2)
      have hzy : z = y := by
        cases z; cases y
        simp only at z0 z1 z2 hh
        rw [hh] at z2
        subst z0 z1 z2
        rfl
      subst hzy
      rcases (hJ z).1 hz with h | ⟨m, hm, hw, h0'⟩
      · cases h
      · obtain ⟨q1, q2, q3⟩ := whatIn_true (L := choices p.f5) (n := m) (by rw [hw])
        obtain ⟨r1, r2, r3⟩ := whatIn_true (L := choices p.f5) (n := n) (by rw [hy])
        rw [hw] at q3
        rw [hy] at r3
        have e1 := ofIn_at hf.nd q3
        have e2 := ofIn_at hf.nd r3
        have : m = n := by omega
        subst this
        exact ⟨⟨hm, by omega, by omega⟩, by omega⟩
    · rintro ⟨⟨hm, h1, h2⟩, h0⟩
      obtain ⟨y, hy⟩ := hin n h1 h2
      exact (hmf n h1 y hy).2 (hT.has y ((hJ y).2 (.inr ⟨n, hm, hy, by omega⟩)))
end
end Go.Proofs.YthalgemkblkhgaaGreat
