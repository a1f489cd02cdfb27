/- Which plan literals are of: the program's way (literal by literal) and the document's (choice by choice) come to the same. -/
import Derived.Test.YthalgemkblkhgaaGreatQPos
namespace Go.Proofs.YthalgemkblkhgaaGreat
open Go.RowKit Go.Proofs.YthalgemkblkhgaaGreatW.PrintWords Go.Proofs.YthalgemkblkhgaaGreatW.PrintLast
set_option linter.unusedVariables false
set_option linter.unusedSimpArgs false

def seatAt (s : Seat) (b : Bool) : Int := if b = true then s.f1 else s.f0
def seatPut (s : Seat) (b : Bool) (v : Int) : Seat := if b = true then ⟨s.f0, v⟩ else ⟨v, s.f1⟩
def noSeat : Seat := ⟨-1, -1⟩
def hasAt (l : List Seat) (y : Choice) : Int := match l[y.f0.toNat]? with | some s => seatAt s y.f1 | none => -1
def give (l : List Seat) (y : Choice) : List Seat := match l[y.f0.toNat]? with | some s => l.set y.f0.toNat (seatPut s y.f1 y.f2) | none => l
/-- The program's way. -/
def seatsFrom (L : List Choice) : List Seat → List Int → Option (List Seat)
  | acc, [] => some acc
  | acc, n :: ns => if (whatIn L n).2 = true ∧ 0 ≤ n then (if 0 ≤ hasAt acc (whatIn L n).1 ∧ hasAt acc (whatIn L n).1 ≠ (whatIn L n).1.f2 then none else seatsFrom L (give acc (whatIn L n).1) ns) else seatsFrom L acc ns
/-- The document's way. -/
def seatsRef (lits : List Int) : List Seat → Nat → List Choice → Option (List Seat)
  | acc, _, [] => some acc
  | acc, i, y :: ys => if ((i : Int) + 1) ∈ lits then (if 0 ≤ hasAt acc y then none else seatsRef lits (give acc y) (i + 1) ys) else seatsRef lits acc (i + 1) ys

theorem mem_blockOf {c : Nat} {x : Class} {y : Choice} (h : y ∈ blockOf c x) : y.f0 = c ∧ 0 ≤ y.f2 := by
  unfold blockOf at h
  rcases List.mem_append.1 h with h | h
  all_goals
    obtain ⟨i, _, rfl⟩ := List.mem_map.1 h
    exact ⟨rfl, by show (0 : Int) ≤ i; omega⟩
theorem mem_choicesTo {l : List Class} {y : Choice} : ∀ {k : Nat}, y ∈ choicesTo l k → 0 ≤ y.f0 ∧ y.f0 < k ∧ y.f0 < l.length ∧ 0 ≤ y.f2
  | 0, h => by simp [choicesTo] at h
  | k + 1, h => by
    rw [choicesTo_succ] at h
    rcases List.mem_append.1 h with h | h
    · have := mem_choicesTo h
      omega
    · unfold blockAt at h
      cases hx : l[k]? with
      | none => rw [hx] at h; cases h
      | some x =>
        rw [hx] at h
        have h1 := mem_blockOf h
        have h2 := (List.getElem?_eq_some_iff.1 hx).1
        omega
theorem nodup_map_range {f : Nat → Choice} (hf : ∀ i j, f i = f j → i = j) (n : Nat) : ((List.range n).map f).Nodup := by
  rw [List.Nodup, List.pairwise_map]
  exact List.nodup_range.imp (fun h e => h (hf _ _ e))
theorem nodup_blockOf (c : Nat) (x : Class) : (blockOf c x).Nodup := by
  unfold blockOf
  rw [List.nodup_append]
  refine ⟨nodup_map_range (fun i j h => ?_) _, nodup_map_range (fun i j h => ?_) _, fun a ha b hb e => ?_⟩
  · have := congrArg Choice.f2 h
    simp at this
    omega
  · have := congrArg Choice.f2 h
    simp at this
    omega
  · obtain ⟨i, _, rfl⟩ := List.mem_map.1 ha
    obtain ⟨j, _, rfl⟩ := List.mem_map.1 hb
    have := congrArg Choice.f1 e
    simp at this
theorem nodup_choicesTo (l : List Class) : ∀ k, (choicesTo l k).Nodup
  | 0 => by simp [choicesTo]
  | k + 1 => by
    rw [choicesTo_succ, List.nodup_append]
    refine ⟨nodup_choicesTo l k, ?_, fun a ha b hb e => ?_⟩
    · unfold blockAt
      split
      · exact nodup_blockOf _ _
      · exact List.nodup_nil
    · subst e
      have h1 := mem_choicesTo ha
      unfold blockAt at hb
      split at hb
      · have := mem_blockOf hb
        omega
      · cases hb
/-- What is so of the list of choices. -/
structure Fair (N : Nat) (L : List Choice) : Prop where
  nd : L.Nodup
  at_ : ∀ y ∈ L, 0 ≤ y.f0 ∧ y.f0 < N ∧ 0 ≤ y.f2
theorem fair_choices (l : List Class) : Fair l.length (choices l) := ⟨nodup_choicesTo l _, fun y hy => by have := mem_choicesTo hy; omega⟩

/-- The row tells the choices J, and no other. -/
structure Tells (N : Nat) (J : List Choice) (acc : List Seat) : Prop where
  len : acc.length = N
  has : ∀ y ∈ J, hasAt acc y = y.f2
  no : ∀ (y : Choice), 0 ≤ y.f0 → y.f0 < N → (∀ z ∈ J, ¬ (z.f0 = y.f0 ∧ z.f1 = y.f1)) → hasAt acc y = -1
section
variable {N : Nat} {L J J' : List Choice} {acc acc' : List Seat} {y z : Choice} {lits : List Int}
theorem hasAt_some {s : Seat} (h : acc[y.f0.toNat]? = some s) : hasAt acc y = seatAt s y.f1 := by rw [hasAt, h]
theorem Tells.empty (N : Nat) : Tells N [] (List.replicate N noSeat) := by
  refine ⟨List.length_replicate, fun y hy => (by cases hy), fun y h0 h1 _ => ?_⟩
  rw [hasAt, List.getElem?_replicate, if_pos (by omega)]
  cases y.f1 <;> rfl
theorem seatAt_put (s : Seat) (b c : Bool) (v : Int) : seatAt (seatPut s b v) c = if b = c then v else seatAt s c := by
  cases b <;> cases c <;> simp [seatAt, seatPut]
theorem hasAt_give (h : acc.length = N) (y0 : 0 ≤ y.f0) (y1 : y.f0 < N) (z0 : 0 ≤ z.f0) (z1 : z.f0 < N) : hasAt (give acc y) z = if y.f0 = z.f0 ∧ y.f1 = z.f1 then y.f2 else hasAt acc z := by
  obtain ⟨s, hs⟩ : ∃ s, acc[y.f0.toNat]? = some s := ⟨_, List.getElem?_eq_getElem (by omega)⟩
  obtain ⟨u, hu⟩ : ∃ u, acc[z.f0.toNat]? = some u := ⟨_, List.getElem?_eq_getElem (by omega)⟩
  have e : give acc y = acc.set y.f0.toNat (seatPut s y.f1 y.f2) := by rw [give, hs]
  rw [e]
  by_cases h0 : y.f0 = z.f0
  · have h2 : (acc.set y.f0.toNat (seatPut s y.f1 y.f2))[z.f0.toNat]? = some (seatPut s y.f1 y.f2) := by
      rw [← h0, List.getElem?_set_self (by omega)]
    rw [hasAt_some h2, seatAt_put, hasAt_some hu]
    rw [h0, hu] at hs
    cases hs
    by_cases h1 : y.f1 = z.f1
    · rw [if_pos h1, if_pos ⟨h0, h1⟩]
    · rw [if_neg h1, if_neg (fun q => h1 q.2)]
  · have h2 : (acc.set y.f0.toNat (seatPut s y.f1 y.f2))[z.f0.toNat]? = some u := by
      rw [List.getElem?_set_ne (by omega)]
      exact hu
    rw [hasAt_some h2, if_neg (fun q => h0 q.1), hasAt_some hu]
theorem length_give (acc : List Seat) (y : Choice) : (give acc y).length = acc.length := by
  unfold give
  split
  · rw [List.length_set]
  · rfl
theorem hasAt_slot (h0 : y.f0 = z.f0) (h1 : y.f1 = z.f1) : hasAt acc y = hasAt acc z := by rw [hasAt, hasAt, h0, h1]
theorem Tells.give (h : Tells N J acc) (hJ : ∀ x ∈ J, 0 ≤ x.f0 ∧ x.f0 < N ∧ 0 ≤ x.f2) (hy : 0 ≤ y.f0 ∧ y.f0 < N ∧ 0 ≤ y.f2) (hh : ¬ (0 ≤ hasAt acc y ∧ hasAt acc y ≠ y.f2)) : Tells N (y :: J) (give acc y) := by
  refine ⟨(length_give _ _).trans h.len, fun z hz => ?_, fun z z0 z1 hn => ?_⟩
  · rcases List.mem_cons.1 hz with rfl | hz
    · rw [hasAt_give h.len hy.1 hy.2.1 hy.1 hy.2.1, if_pos ⟨rfl, rfl⟩]
    · have h1 := hJ z hz
      rw [hasAt_give h.len hy.1 hy.2.1 h1.1 h1.2.1]
      by_cases q : y.f0 = z.f0 ∧ y.f1 = z.f1
      · rw [if_pos q]
        have h2 := h.has z hz
        rw [hasAt_slot q.1 q.2, h2] at hh
        have := h1.2.2
        omega
      · rw [if_neg q]
        exact h.has z hz
  · rw [hasAt_give h.len hy.1 hy.2.1 z0 z1, if_neg (fun q => hn y (List.mem_cons_self) q)]
    exact h.no z z0 z1 (fun x hx => hn x (List.mem_cons_of_mem _ hx))
/-- What stands at a taken place was given. -/
theorem Tells.was (h : Tells N J acc) (hy : 0 ≤ y.f0 ∧ y.f0 < N) (hh : 0 ≤ hasAt acc y) : ∃ x ∈ J, x.f0 = y.f0 ∧ x.f1 = y.f1 ∧ hasAt acc y = x.f2 := by
  apply Classical.byContradiction
  intro hc
  have h1 := h.no y hy.1 hy.2 (fun z hz q => hc ⟨z, hz, q.1, q.2, by rw [← h.has z hz]; exact hasAt_slot q.1.symm q.2.symm⟩)
  omega
theorem Tells.eq (h : Tells N J acc) (h' : Tells N J' acc') (e : ∀ y, y ∈ J ↔ y ∈ J') : acc = acc' := by
  refine List.ext_getElem (h.len.trans h'.len.symm) (fun i h1 h2 => ?_)
  have hN : i < N := by rw [← h.len]; exact h1
  have key : ∀ b, seatAt acc[i] b = seatAt acc'[i] b := by
    intro b
    have e1 : hasAt acc ⟨i, b, 0⟩ = seatAt acc[i] b := hasAt_some (List.getElem?_eq_getElem h1)
    have e2 : hasAt acc' ⟨i, b, 0⟩ = seatAt acc'[i] b := hasAt_some (List.getElem?_eq_getElem h2)
    rw [← e1, ← e2]
    by_cases hx : ∃ x ∈ J, x.f0 = (i : Int) ∧ x.f1 = b
    · obtain ⟨x, hx, x0, x1⟩ := hx
      rw [← hasAt_slot (acc := acc) (y := x) (z := ⟨i, b, 0⟩) x0 x1, ← hasAt_slot (acc := acc') (y := x) (z := ⟨i, b, 0⟩) x0 x1, h.has x hx, h'.has x ((e x).1 hx)]
    · rw [h.no ⟨i, b, 0⟩ (by show (0 : Int) ≤ i; omega) (by show (i : Int) < N; omega) (fun z hz q => hx ⟨z, hz, q⟩), h'.no ⟨i, b, 0⟩ (by show (0 : Int) ≤ i; omega) (by show (i : Int) < N; omega) (fun z hz q => hx ⟨z, (e z).2 hz, q⟩)]
  have k0 : acc[i].f0 = acc'[i].f0 := key false
  have k1 : acc[i].f1 = acc'[i].f1 := key true
  revert k0 k1
  generalize acc[i] = s
  generalize acc'[i] = s'
  cases s; cases s'
  rintro rfl rfl
  rfl
/-- Two choices that do not go together. -/
def Clash (G : Choice → Prop) : Prop := ∃ x y, G x ∧ G y ∧ x.f0 = y.f0 ∧ x.f1 = y.f1 ∧ x.f2 ≠ y.f2
def Comes (N : Nat) (G : Choice → Prop) (o : Option (List Seat)) : Prop := match o with | some a => ∃ J', Tells N J' a ∧ ∀ y, y ∈ J' ↔ G y | none => Clash G
theorem Comes.eq {G : Choice → Prop} {o o' : Option (List Seat)} (h : Comes N G o) (h' : Comes N G o') : o = o' := by
  have no : ∀ {a : List Seat} {J : List Choice}, Tells N J a → (∀ y, y ∈ J ↔ G y) → Clash G → False := by
    rintro a J h1 h2 ⟨x, y, hx, hy, e0, e1, e2⟩
    have q1 := h1.has x ((h2 x).2 hx)
    have q2 := h1.has y ((h2 y).2 hy)
    rw [hasAt_slot e0 e1] at q1
    exact e2 (q1.symm.trans q2)
  cases o with
  | none =>
    cases o' with
    | none => rfl
    | some a => obtain ⟨J, h1, h2⟩ := h'; exact (no h1 h2 h).elim
  | some a =>
    obtain ⟨J, h1, h2⟩ := h
    cases o' with
    | none => exact (no h1 h2 h').elim
    | some a' =>
      obtain ⟨J2, h3, h4⟩ := h'
      rw [h1.eq h3 (fun y => (h2 y).trans (h4 y).symm)]
theorem whatIn_true {n : Int} (h : (whatIn L n).2 = true) : n ≠ 0 ∧ n.natAbs ≤ L.length ∧ L[n.natAbs - 1]? = some (whatIn L n).1 := by
  unfold whatIn at h ⊢
  by_cases q : n = 0 ∨ L.length < n.natAbs
  · rw [if_pos q] at h; cases h
  · rw [if_neg q] at h ⊢
    cases hx : L[n.natAbs - 1]? with
    | none => rw [hx] at h; cases h
    | some x => exact ⟨fun e => q (.inl e), by omega, rfl⟩
theorem whatIn_mem {n : Int} (h : (whatIn L n).2 = true) : (whatIn L n).1 ∈ L := List.mem_of_getElem? (whatIn_true h).2.2
theorem whatIn_at {i : Nat} (h : L[i]? = some y) : whatIn L ((i : Int) + 1) = (y, true) := by
  have hl := (List.getElem?_eq_some_iff.1 h).1
  unfold whatIn
  rw [if_neg (by omega), show ((i : Int) + 1).natAbs - 1 = i from by omega, h]
/-- The choices that literals give. -/
def Gives (L : List Choice) (ns : List Int) (y : Choice) : Prop := ∃ n ∈ ns, whatIn L n = (y, true) ∧ 0 ≤ n
theorem seatsFrom_comes (hL : Fair N L) : ∀ (ns : List Int) (acc : List Seat) (J : List Choice), Tells N J acc → (∀ x ∈ J, x ∈ L) → Comes N (fun y => y ∈ J ∨ Gives L ns y) (seatsFrom L acc ns)
  | [], acc, J, h, hJ => ⟨J, h, fun y => ⟨.inl, fun q => q.elim id (fun ⟨n, hn, _⟩ => by cases hn)⟩⟩
  | n :: ns, acc, J, h, hJ => by
    have hJL : ∀ x ∈ J, 0 ≤ x.f0 ∧ x.f0 < N ∧ 0 ≤ x.f2 := fun x hx => hL.at_ x (hJ x hx)
    unfold seatsFrom
    by_cases hq : (whatIn L n).2 = true ∧ 0 ≤ n
    · rw [if_pos hq]
      have hm := whatIn_mem hq.1
      have hw : whatIn L n = ((whatIn L n).1, true) := Prod.ext rfl hq.1
      revert hm hw
      generalize (whatIn L n).1 = y
      intro hm hw
      have hy := hL.at_ y hm
      by_cases hh : 0 ≤ hasAt acc y ∧ hasAt acc y ≠ y.f2
      · rw [if_pos hh]
        obtain ⟨x, hx, x0, x1, x2⟩ := h.was ⟨hy.1, hy.2.1⟩ hh.1
        exact ⟨x, y, .inl hx, .inr ⟨n, List.mem_cons_self, hw, hq.2⟩, x0, x1, fun e => hh.2 (x2.trans e)⟩
      · rw [if_neg hh]
        have h2 := seatsFrom_comes hL ns (give acc y) (y :: J) (h.give hJL hy hh) (fun x hx => by
          rcases List.mem_cons.1 hx with rfl | hx
          · exact hm
          · exact hJ x hx)
        have e : (fun z => z ∈ y :: J ∨ Gives L ns z) = (fun z => z ∈ J ∨ Gives L (n :: ns) z) := by
          funext z
          refine propext ⟨fun q => ?_, fun q => ?_⟩
          · rcases q with q | ⟨m, hm, q⟩
            · rcases List.mem_cons.1 q with rfl | q
              · exact .inr ⟨n, List.mem_cons_self, hw, hq.2⟩
              · exact .inl q
            · exact .inr ⟨m, List.mem_cons_of_mem _ hm, q⟩
          · rcases q with q | ⟨m, hm, q⟩
            · exact .inl (List.mem_cons_of_mem _ q)
            · rcases List.mem_cons.1 hm with rfl | hm
              · rw [hw] at q
                injection q.1 with q1 _
                subst q1
                exact .inl List.mem_cons_self
              · exact .inr ⟨m, hm, q⟩
        rw [e] at h2
        exact h2
    · rw [if_neg hq]
      have h2 := seatsFrom_comes hL ns acc J h hJ
      have e : (fun z => z ∈ J ∨ Gives L ns z) = (fun z => z ∈ J ∨ Gives L (n :: ns) z) := by
        funext z
        refine propext ⟨fun q => ?_, fun q => ?_⟩
        · rcases q with q | ⟨m, hm, q⟩
          · exact .inl q
          · exact .inr ⟨m, List.mem_cons_of_mem _ hm, q⟩
        · rcases q with q | ⟨m, hm, q⟩
          · exact .inl q
          · rcases List.mem_cons.1 hm with rfl | hm
            · exact (hq ⟨by rw [q.1], q.2⟩).elim
            · exact .inr ⟨m, hm, q⟩
      rw [e] at h2
      exact h2
/-- The choices from number i on that stand in a row of literals. -/
def Named (lits : List Int) (i : Nat) (ys : List Choice) (y : Choice) : Prop := ∃ j : Nat, ys[j]? = some y ∧ ((i : Int) + j + 1) ∈ lits
theorem named_succ {i : Nat} {ys : List Choice} (x : Choice) : Named lits i (x :: ys) y ↔ (y = x ∧ ((i : Int) + 1) ∈ lits) ∨ Named lits (i + 1) ys y := by
  constructor
  · rintro ⟨j, h1, h2⟩
    cases j with
    | zero => simp at h1; exact .inl ⟨h1.symm, by simpa using h2⟩
    | succ j => exact .inr ⟨j, by simpa using h1, by rwa [show ((i + 1 : Nat) : Int) + j + 1 = (i : Int) + ((j + 1 : Nat) : Int) + 1 from by omega]⟩
  · rintro (⟨rfl, h⟩ | ⟨j, h1, h2⟩)
    · exact ⟨0, rfl, by simpa using h⟩
    · exact ⟨j + 1, by simpa using h1, by rwa [show (i : Int) + ((j + 1 : Nat) : Int) + 1 = ((i + 1 : Nat) : Int) + j + 1 from by omega]⟩
theorem seatsRef_comes : ∀ (ys : List Choice) (i : Nat) (acc : List Seat) (J : List Choice), (∀ y ∈ ys, 0 ≤ y.f0 ∧ y.f0 < N ∧ 0 ≤ y.f2) → ys.Nodup → (∀ x ∈ J, (0 ≤ x.f0 ∧ x.f0 < N ∧ 0 ≤ x.f2) ∧ x ∉ ys) → Tells N J acc → Comes N (fun y => y ∈ J ∨ Named lits i ys y) (seatsRef lits acc i ys)
  | [], i, acc, J, _, _, hJ, h => ⟨J, h, fun y => ⟨.inl, fun q => q.elim id (fun ⟨j, hj, _⟩ => by simp at hj)⟩⟩
  | x :: ys, i, acc, J, hy, hd, hJ, h => by
    have hx := hy x List.mem_cons_self
    have hd2 := List.nodup_cons.1 hd
    unfold seatsRef
    by_cases hq : ((i : Int) + 1) ∈ lits
    · rw [if_pos hq]
      by_cases hh : 0 ≤ hasAt acc x
      · rw [if_pos hh]
        obtain ⟨z, hz, z0, z1, z2⟩ := h.was ⟨hx.1, hx.2.1⟩ hh
        refine ⟨z, x, .inl hz, .inr ((named_succ x).2 (.inl ⟨rfl, hq⟩)), z0, z1, fun e => (hJ z hz).2 ?_⟩
        have : z = x := by
          cases z; cases x
          simp only at z0 z1 e
          subst z0 z1 e
          rfl
        rw [this]
        exact List.mem_cons_self
      · rw [if_neg hh]
        have h2 := seatsRef_comes ys (i + 1) (give acc x) (x :: J) (fun y q => hy y (List.mem_cons_of_mem _ q)) hd2.2 (fun z hz => by
          rcases List.mem_cons.1 hz with rfl | hz
          · exact ⟨hx, hd2.1⟩
          · exact ⟨(hJ z hz).1, fun q => (hJ z hz).2 (List.mem_cons_of_mem _ q)⟩) (h.give (fun z hz => (hJ z hz).1) hx (fun q => hh q.1))
        have e : (fun y => y ∈ x :: J ∨ Named lits (i + 1) ys y) = (fun y => y ∈ J ∨ Named lits i (x :: ys) y) := by
          funext y
          refine propext ⟨fun q => ?_, fun q => ?_⟩
          · rcases q with q | q
            · rcases List.mem_cons.1 q with rfl | q
              · exact .inr ((named_succ _).2 (.inl ⟨rfl, hq⟩))
              · exact .inl q
            · exact .inr ((named_succ _).2 (.inr q))
          · rcases q with q | q
            · exact .inl (List.mem_cons_of_mem _ q)
            · rcases (named_succ _).1 q with q | q
              · rw [q.1]; exact .inl List.mem_cons_self
              · exact .inr q
        rw [e] at h2
        exact h2
    · rw [if_neg hq]
      have h2 := seatsRef_comes ys (i + 1) acc J (fun y q => hy y (List.mem_cons_of_mem _ q)) hd2.2 (fun z hz => ⟨(hJ z hz).1, fun q => (hJ z hz).2 (List.mem_cons_of_mem _ q)⟩) h
      have e : (fun y => y ∈ J ∨ Named lits (i + 1) ys y) = (fun y => y ∈ J ∨ Named lits i (x :: ys) y) := by
        funext y
        refine propext ⟨fun q => q.imp id (fun q => (named_succ _).2 (.inr q)), fun q => q.imp id (fun q => ?_)⟩
        rcases (named_succ _).1 q with q | q
        · exact (hq q.2).elim
        · exact q
      rw [e] at h2
      exact h2
theorem seats_law (hL : Fair N L) (lits : List Int) : seatsRef lits (List.replicate N noSeat) 0 L = seatsFrom L (List.replicate N noSeat) lits := by
  have h1 := seatsRef_comes (N := N) (lits := lits) L 0 _ [] hL.at_ hL.nd (fun x hx => by cases hx) (Tells.empty N)
  have h2 := seatsFrom_comes hL lits _ [] (Tells.empty N) (fun x hx => by cases hx)
  have e : (fun y => y ∈ ([] : List Choice) ∨ Named lits 0 L y) = (fun y => y ∈ ([] : List Choice) ∨ Gives L lits y) := by
    funext y
    refine propext ⟨fun q => q.imp id ?_, fun q => q.imp id ?_⟩
    · rintro ⟨j, h1, h2⟩
      exact ⟨(j : Int) + 1, by simpa using h2, whatIn_at h1, by omega⟩
    · rintro ⟨n, hn, hw, h0⟩
      obtain ⟨q1, q2, q3⟩ := whatIn_true (L := L) (n := n) (by rw [hw])
      rw [hw] at q3
      exact ⟨n.natAbs - 1, q3, by rwa [show ((0 : Nat) : Int) + ((n.natAbs - 1 : Nat) : Int) + 1 = n from by omega]⟩
  rw [e] at h1
  exact h1.eq h2
end
end Go.Proofs.YthalgemkblkhgaaGreat
