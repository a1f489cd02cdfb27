/- A problem that may be is small. -/
import Derived.Test.YthalgemkblkhgaaGreatQNew
namespace Go.Proofs.YthalgemkblkhgaaGreat
open Go.RowKit Go.Proofs.YthalgemkblkhgaaGreatW.PrintWords Go.Proofs.YthalgemkblkhgaaGreatW.PrintLast
set_option linter.unusedVariables false
set_option linter.unusedSimpArgs false

theorem orNot_zero {b : Bool} {e i : Int} {r : Int × Int} (h : (orNot b e i r).1 = 0) (he : e ≠ 0) : b = true ∧ r.1 = 0 := by
  cases b
  · exact absurd h he
  · exact ⟨rfl, h⟩
theorem orBad_zero {o : Option Nat} {e : Int} {r : Int × Int} (h : (orBad e o r).1 = 0) (he : e ≠ 0) : o = none ∧ r.1 = 0 := by
  cases o
  · exact ⟨rfl, h⟩
  · exact absurd h he
theorem firstFrom_no {P : Nat → Bool} : ∀ (k s : Nat), firstFrom P k s = none → ∀ j, s ≤ j → j < s + k → P j = false
  | 0, s, _, j, h1, h2 => by omega
  | k + 1, s, h, j, h1, h2 => by
    unfold firstFrom at h
    by_cases hp : P s = true
    · rw [if_pos hp] at h
      cases h
    · rw [if_neg hp] at h
      by_cases e : s = j
      · subst e
        simpa using hp
      · exact firstFrom_no k (s + 1) h j (by omega) (by omega)
theorem classes_of (p : Problem) (h : problemOk p = true) : p.f5.length ≤ 40 ∧ ∀ x ∈ p.f5, classOk p.f1 p.f2.length p.f4.length p.f5.length x = true := by
  have h0 : (checkOf p).1 = 0 := of_decide_eq_true h
  unfold checkOf at h0
  have h1 := (orNot_zero h0 (by decide)).2
  have h2 := (orNot_zero h1 (by decide)).2
  have h3 := (orBad_zero h2 (by decide)).2
  have h4 := (orNot_zero h3 (by decide)).2
  have h5 := (orBad_zero h4 (by decide)).2
  have h6 := (orBad_zero h5 (by decide)).1
  have h7 := firstFrom_no _ _ h6
  have key : ∀ i, i < p.f5.length → badIn Class.f0 (classOk p.f1 p.f2.length p.f4.length p.f5.length) 40 p.f5 i = false := fun i hi => h7 i (Nat.zero_le _) (by omega)
  refine ⟨?_, fun x hx => ?_⟩
  · rcases Nat.lt_or_ge 40 p.f5.length with q | q
    · have h8 := key 40 q
      have hx : p.f5[40]? = some p.f5[40] := List.getElem?_eq_getElem q
      simp [badIn, hx] at h8
    · exact q
  · obtain ⟨i, hi, rfl⟩ := List.getElem_of_mem hx
    have h8 := key i hi
    have hx : p.f5[i]? = some p.f5[i] := List.getElem?_eq_getElem hi
    simp only [badIn, hx, Bool.or_eq_false_iff] at h8
    simpa using h8.2.1
theorem small_of (p : Problem) (h : problemOk p = true) : Small p := by
  obtain ⟨h1, h2⟩ := classes_of p h
  refine ⟨by omega, fun x hx => ?_⟩
  have h3 := h2 x hx
  unfold classOk at h3
  simp only [Bool.and_eq_true] at h3
  obtain ⟨_, _, _, _, _, _, _, h4, h5⟩ := h3
  unfold timesOk at h4
  unfold placesOk at h5
  simp only [Bool.and_eq_true, decide_eq_true_eq] at h4 h5
  obtain ⟨_, _, h4⟩ := h4
  obtain ⟨_, h5⟩ := h5
  exact ⟨by omega, by omega⟩
end Go.Proofs.YthalgemkblkhgaaGreat
