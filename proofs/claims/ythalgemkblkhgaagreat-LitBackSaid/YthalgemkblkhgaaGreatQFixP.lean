/- Which literals a plan has fixed, and which hold in it: the program's way and the document's come to the same. -/
import Derived.Test.YthalgemkblkhgaaGreatQSeatOk
import Derived.Test.YthalgemkblkhgaaGreatQSeatsP
namespace Go.Proofs.YthalgemkblkhgaaGreat
open Go.RowKit Go.Proofs.YthalgemkblkhgaaGreatW.PrintWords Go.Proofs.YthalgemkblkhgaaGreatW.PrintLast
set_option linter.unusedVariables false
set_option linter.unusedSimpArgs false

theorem eqCh_iff (x y : Choice) : eqCh x y = true ↔ x = y := by
  obtain ⟨a, b, c⟩ := x
  obtain ⟨d, e, f⟩ := y
  simp [eqCh]
theorem ofIn_at {L : List Choice} {k : Nat} {y : Choice} (nd : L.Nodup) (h : L[k]? = some y) : ofIn L y = (k : Int) + 1 := by
  rw [ofIn_pos]
  obtain ⟨hk, hy⟩ := List.getElem?_eq_some_iff.1 h
  have : posIn L y = some k := by
    unfold posIn
    rw [List.findIdx?_eq_some_iff_getElem]
    refine ⟨hk, (eqCh_iff _ _).2 hy, fun j hj e => ?_⟩
    have e2 := (eqCh_iff _ _).1 e
    rw [← hy] at e2
    have := (List.getElem_inj nd).1 e2
    omega
  rw [this]
  rfl
theorem ofIn_back {L : List Choice} {y : Choice} (h : 0 < ofIn L y) : L[(ofIn L y).toNat - 1]? = some y ∧ (ofIn L y).toNat ≤ L.length := by
  rw [ofIn_pos] at h ⊢
  cases hp : posIn L y with
  | none => rw [hp] at h; exact absurd h (by decide)
  | some i =>
    unfold posIn at hp
    rw [List.findIdx?_eq_some_iff_getElem] at hp
    obtain ⟨hi, h1, _⟩ := hp
    have e : (numIn (some i)).toNat - 1 = i := by
      show ((i : Int) + 1).toNat - 1 = i
      omega
    refine ⟨?_, ?_⟩
    · rw [e, List.getElem?_eq_getElem hi, (eqCh_iff _ _).1 h1]
    · show ((i : Int) + 1).toNat ≤ L.length
      omega
theorem ofIn_nonneg (L : List Choice) (y : Choice) : 0 ≤ ofIn L y := by
  rw [ofIn_pos]
  cases posIn L y with
  | none => exact Int.le_refl 0
  | some i => show (0 : Int) ≤ (i : Int) + 1; omega
def pos1 (v : Int) : List Int := if 0 < v then [v] else []
def fixAt (L : List Choice) (c : Nat) (s : Seat) : List Int := pos1 (ofIn L ⟨c, false, s.f0⟩) ++ pos1 (ofIn L ⟨c, true, s.f1⟩)
def refAt (L : List Choice) (c : Nat) (s : Seat) : List Int := (if 0 ≤ s.f0 then [ofIn L ⟨c, false, s.f0⟩] else []) ++ (if 0 ≤ s.f1 then [ofIn L ⟨c, true, s.f1⟩] else [])
def eachTo (f : Nat → Seat → List Int) (l : List Seat) (k : Nat) : List Int := (List.range k).flatMap (fun c => match l[c]? with | some s => f c s | none => [])
theorem eachTo_succ {f : Nat → Seat → List Int} {l : List Seat} {k : Nat} {s : Seat} (h : l[k]? = some s) : eachTo f l (k + 1) = eachTo f l k ++ f k s := by simp [eachTo, List.range_succ, h]
theorem length_eachTo {f : Nat → Seat → List Int} (hf : ∀ c s, (f c s).length ≤ 2) (l : List Seat) : ∀ k, (eachTo f l k).length ≤ 2 * k
  | 0 => by simp [eachTo]
  | k + 1 => by
    have h1 := length_eachTo hf l k
    unfold eachTo at h1 ⊢
    rw [List.range_succ, List.flatMap_append, List.length_append]
    have : ((List.flatMap (fun c => match l[c]? with | some s => f c s | none => []) [k])).length ≤ 2 := by
      simp only [List.flatMap_cons, List.flatMap_nil, List.append_nil]
      cases l[k]? with
      | none => simp
      | some s => exact hf k s
    omega
theorem length_fixAt (L : List Choice) (c : Nat) (s : Seat) : (fixAt L c s).length ≤ 2 := by
  unfold fixAt pos1
  split <;> split <;> simp
theorem length_refAt (L : List Choice) (c : Nat) (s : Seat) : (refAt L c s).length ≤ 2 := by
  unfold refAt
  split <;> split <;> simp
def fixedOf (p : Problem) (l : List Seat) : List Int := if planOk p l = true then eachTo (fixAt (allOf p)) l l.length else []
def fixedRef (p : Problem) (l : List Seat) : List Int := if planOk p l = true then eachTo (refAt (allOf p)) l l.length else []
theorem planOk_iff {p : Problem} {l : List Seat} (h : planOk p l = true) : problemOk p = true ∧ l.length = p.f5.length ∧ ∀ (c : Nat) (s : Seat) (x : Class), l[c]? = some s → p.f5[c]? = some x → seatIn x s = true := by
  unfold planOk at h
  simp only [Bool.and_eq_true, decide_eq_true_eq] at h
  refine ⟨h.1, h.2.1, fun c s x hs hx => ?_⟩
  have h3 := h.2.2
  unfold allB at h3
  rw [List.all_eq_true] at h3
  have := h3 c (List.mem_range.2 (List.getElem?_eq_some_iff.1 hs).1)
  simpa only [seatOkAt, hs, hx] using this
theorem of_sign {l : List Class} {c : Nat} {x : Class} (h : l[c]? = some x) (b : Bool) (v : Int) (hv : v < (if b = true then x.f5.length else x.f4.length)) : (0 ≤ v → 0 < ofIn (choices l) ⟨c, b, v⟩) ∧ (¬ 0 ≤ v → ofIn (choices l) ⟨c, b, v⟩ = 0) := by
  rw [of_choices]
  show _ ∧ _
  have e : ((Choice.mk (c : Int) b v).f0).toNat = c := Int.toNat_natCast c
  have e0 : ¬ ((Choice.mk (c : Int) b v).f0 < 0) := by show ¬ ((c : Int) < 0); omega
  rw [if_neg e0, e, h]
  unfold inBlock
  cases b
  · simp only [Bool.false_eq_true, if_false] at hv ⊢
    constructor
    · intro h0
      rw [if_pos ⟨h0, hv⟩]
      show (0 : Int) < _
      simp only [Option.map_some, numIn]
      omega
    · intro h0
      rw [if_neg (fun q => h0 q.1)]
      rfl
  · simp only [if_true] at hv ⊢
    constructor
    · intro h0
      rw [if_pos ⟨h0, hv⟩]
      show (0 : Int) < _
      simp only [Option.map_some, numIn]
      omega
    · intro h0
      rw [if_neg (fun q => h0 q.1)]
      rfl
theorem seatIn_iff (x : Class) (s : Seat) : seatIn x s = true ↔ (-1 ≤ s.f0 ∧ s.f0 < x.f4.length) ∧ (-1 ≤ s.f1 ∧ s.f1 < x.f5.length) := by
  simp [seatIn, and_assoc]
theorem fixed_law (p : Problem) (l : List Seat) : fixedRef p l = fixedOf p l := by
  unfold fixedRef fixedOf
  by_cases h : planOk p l = true
  · rw [if_pos h, if_pos h]
    obtain ⟨hok, hlen, hall⟩ := planOk_iff h
    rw [allOf_ok hok]
    unfold eachTo
    congr 1
    funext c
    cases hs : l[c]? with
    | none => rfl
    | some s =>
      obtain ⟨x, hx⟩ : ∃ x, p.f5[c]? = some x := ⟨_, List.getElem?_eq_getElem (by have := (List.getElem?_eq_some_iff.1 hs).1; omega)⟩
      have h1 := (seatIn_iff x s).1 (hall c s x hs hx)
      have t := of_sign hx false s.f0 (by simpa using h1.1.2)
      have q := of_sign hx true s.f1 (by simpa using h1.2.2)
      show refAt _ c s = fixAt _ c s
      unfold refAt fixAt pos1
      congr 1
      · by_cases h0 : 0 ≤ s.f0
        · rw [if_pos h0, if_pos (t.1 h0)]
        · rw [if_neg h0, t.2 h0, if_neg (by omega)]
      · by_cases h0 : 0 ≤ s.f1
        · rw [if_pos h0, if_pos (q.1 h0)]
        · rw [if_neg h0, q.2 h0, if_neg (by omega)]
  · rw [if_neg h, if_neg h]
def madeOf (l : List Seat) (y : Choice) : Bool := decide (hasAt l y = y.f2)
def trueOf (p : Problem) (l : List Seat) (n : Int) : Bool := planOk p l && ((whatIn (allOf p) n).2 && (madeOf l (whatIn (allOf p) n).1 == decide (0 < n)))
def trueRef (p : Problem) (l : List Seat) (n : Int) : Bool := (whatIn (allOf p) n).2 && (planOk p l && (if n < 0 then !decide (-n ∈ fixedOf p l) else decide (n ∈ fixedOf p l)))
theorem mem_pos1 (v n : Int) : n ∈ pos1 v ↔ n = v ∧ 0 < v := by
  unfold pos1
  split
  · simp only [List.mem_singleton]; exact ⟨fun h => ⟨h, by assumption⟩, fun h => h.1⟩
  · simp only [List.not_mem_nil, false_iff]; exact fun h => by omega
theorem mem_fixed {p : Problem} {l : List Seat} (h : planOk p l = true) (n : Int) : n ∈ fixedOf p l ↔ ∃ (c : Nat) (s : Seat), l[c]? = some s ∧ ((n = ofIn (allOf p) ⟨c, false, s.f0⟩ ∧ 0 < n) ∨ (n = ofIn (allOf p) ⟨c, true, s.f1⟩ ∧ 0 < n)) := by
  unfold fixedOf eachTo
  rw [if_pos h, List.mem_flatMap]
  constructor
  · rintro ⟨c, hc, hm⟩
    cases hs : l[c]? with
    | none => rw [hs] at hm; cases hm
    | some s =>
      rw [hs] at hm
      refine ⟨c, s, hs, ?_⟩
      unfold fixAt at hm
      rcases List.mem_append.1 hm with hm | hm
      · have := (mem_pos1 _ _).1 hm
        exact .inl ⟨this.1, by omega⟩
      · have := (mem_pos1 _ _).1 hm
        exact .inr ⟨this.1, by omega⟩
  · rintro ⟨c, s, hs, hm⟩
    refine ⟨c, List.mem_range.2 (List.getElem?_eq_some_iff.1 hs).1, ?_⟩
    rw [hs]
    unfold fixAt
    rcases hm with hm | hm
    · exact List.mem_append_left _ ((mem_pos1 _ _).2 ⟨hm.1, by omega⟩)
    · exact List.mem_append_right _ ((mem_pos1 _ _).2 ⟨hm.1, by omega⟩)
theorem made_fixed {p : Problem} {l : List Seat} (h : planOk p l = true) {n : Int} (hn : (whatIn (allOf p) n).2 = true) : decide ((n.natAbs : Int) ∈ fixedOf p l) = madeOf l (whatIn (allOf p) n).1 := by
  obtain ⟨hok, hlen, hall⟩ := planOk_iff h
  obtain ⟨h0, h1, h2⟩ := whatIn_true hn
  have hy := whatIn_mem hn
  revert h2 hy
  generalize (whatIn (allOf p) n).1 = y
  intro h2 hy
  rw [allOf_ok hok] at h1 h2 hy
  have hf := fair_choices p.f5
  have hyf := hf.at_ y hy
  have hof := ofIn_at hf.nd h2
  unfold madeOf
  refine decide_eq_decide.2 ?_
  rw [mem_fixed h, allOf_ok hok]
  have key : ∀ (c : Nat) (b : Bool) (v : Int), (n.natAbs : Int) = ofIn (choices p.f5) ⟨c, b, v⟩ → (0 : Int) < n.natAbs → y = ⟨c, b, v⟩ := by
    intro c b v e hp
    have hb := ofIn_back (L := choices p.f5) (y := ⟨c, b, v⟩) (by omega)
    rw [← e, Int.toNat_natCast, h2] at hb
    injection hb.1
  constructor
  · rintro ⟨c, s, hs, ⟨e, hp⟩ | ⟨e, hp⟩⟩
    · obtain rfl := key c false s.f0 e hp
      exact hasAt_some (y := ⟨c, false, s.f0⟩) (by show l[(c : Int).toNat]? = some s; rw [Int.toNat_natCast]; exact hs)
    · obtain rfl := key c true s.f1 e hp
      exact hasAt_some (y := ⟨c, true, s.f1⟩) (by show l[(c : Int).toNat]? = some s; rw [Int.toNat_natCast]; exact hs)
  · intro hm
    obtain ⟨y0, y1, y2⟩ := y
    simp only at hyf
    obtain ⟨c, rfl⟩ : ∃ c : Nat, y0 = c := ⟨y0.toNat, by omega⟩
    obtain ⟨s, hs⟩ : ∃ s, l[c]? = some s := ⟨_, List.getElem?_eq_getElem (by omega)⟩
    have e := hasAt_some (acc := l) (y := ⟨c, y1, y2⟩) (s := s) (by show l[(c : Int).toNat]? = some s; rw [Int.toNat_natCast]; exact hs)
    rw [hm] at e
    have e' : y2 = seatAt s y1 := e
    refine ⟨c, s, hs, ?_⟩
    cases y1
    · have e2 : y2 = s.f0 := e'
      subst e2
      exact .inl ⟨by omega, by omega⟩
    · have e2 : y2 = s.f1 := e'
      subst e2
      exact .inr ⟨by omega, by omega⟩
theorem true_law (p : Problem) (l : List Seat) (n : Int) : trueRef p l n = trueOf p l n := by
  unfold trueRef trueOf
  cases h : planOk p l
  · simp
  cases hn : (whatIn (allOf p) n).2
  · simp
  have hm := made_fixed h hn
  have h0 := (whatIn_true hn).1
  simp only [Bool.true_and]
  by_cases hneg : n < 0
  · rw [if_pos hneg, show -n = (n.natAbs : Int) from by omega, hm, decide_eq_false (by omega : ¬ 0 < n)]
    cases madeOf l (whatIn (allOf p) n).1 <;> rfl
  · have e : n = (n.natAbs : Int) := by omega
    rw [if_neg hneg, decide_eq_true (by omega : 0 < n)]
    have e2 : decide (n ∈ fixedOf p l) = decide ((n.natAbs : Int) ∈ fixedOf p l) := by rw [← e]
    rw [e2, hm]
    cases madeOf l (whatIn (allOf p) n).1 <;> rfl
end Go.Proofs.YthalgemkblkhgaaGreat
