/- lit.Map.Seats at whatever problem. -/
import Derived.Test.YthalgemkblkhgaaGreatQAns
import Derived.Test.YthalgemkblkhgaaGreatQSeats
namespace Go.Proofs.YthalgemkblkhgaaGreat
open Go.Proofs Go.RowKit Go.Proofs.YthalgemkblkhgaaGreatW.PrintWords Go.Proofs.YthalgemkblkhgaaGreatW.PrintLast
set_option linter.unusedVariables false
set_option linter.unusedSimpArgs false

section
variable {p : Problem} {mv : Value} {w w1 : World}
/-- The plan that literals are of. -/
def seatsOf (p : Problem) (l : List Int) : Option (List Seat) := if problemOk p = true then seatsFrom (choices p.f5) (List.replicate p.f5.length noSeat) l else none
theorem ans_seats (hp : wfProblem p) (h : Ans p mv w) (l : List Int) (hl : ∀ x ∈ l, wfInt .i64 x) (A : Option Addr) (c : Nat) (hA : (Kd.int .i64).C w A l.length l) :
    Calls Tryz.prog 29 #[mv, .slice A l.length c] w fun e w' => SeatsEnd (seatsOf p l) w.heap.size e w' ∧ Below w.heap.size w w' := by
  rcases h with ⟨rfl, h⟩ | ⟨h, b, rfl, hM⟩
  · rw [seatsOf, if_neg (by rw [h]; simp)]
    exact (seats_nil A l.length c w).mono (fun e w' ⟨h1, h2⟩ => ⟨⟨fun _ => h1, fun a q => by cases q⟩, by rw [← h2]; exact Below.refl _ _⟩)
  · rw [seatsOf, if_pos h]
    exact seats_calls p hp h (small_of p h) (mok_p h) b w hM l hl A c hA
end
/-- A plan and a yes or no. -/
def PlanEnd (a : List Seat) (k : Bool) (base : Nat) (e : Ending) (w' : World) : Prop := ∃ A c, e = .returned (.tuple #[.slice A a.length c, .bool k]) ∧ SeatR w' base (.slice A a.length c) a
def planOf (p : Problem) (l : List Int) : List Seat × Bool := match seatsOf p l with | some a => (a, true) | none => ([], false)
theorem SeatsEnd.plan {p : Problem} {l : List Int} {base : Nat} {e : Ending} {w' : World} (h : SeatsEnd (seatsOf p l) base e w') : PlanEnd (planOf p l).1 (planOf p l).2 base e w' := by
  unfold planOf
  cases hs : seatsOf p l with
  | none => exact ⟨none, 0, h.1 hs, Kd.R_nil _ _ _ _ _⟩
  | some a => exact h.2 a hs
end Go.Proofs.YthalgemkblkhgaaGreat
