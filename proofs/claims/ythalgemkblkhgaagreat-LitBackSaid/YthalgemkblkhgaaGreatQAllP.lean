/- The list of all choices, a place in it, and what stands at a place: the plain words. -/
import Derived.Test.YthalgemkblkhgaaGreatQNew
import Derived.Test.YthalgemkblkhgaaGreatQML
import Derived.Test.YthalgemkblkhgaaGreatQRefS
namespace Go.Proofs.YthalgemkblkhgaaGreat
open Go.RowKit Go.Proofs.YthalgemkblkhgaaGreatW.PrintWords Go.Proofs.YthalgemkblkhgaaGreatW.PrintLast
set_option linter.unusedVariables false
set_option linter.unusedSimpArgs false

def allOf (p : Problem) : List Choice := if problemOk p = true then choices p.f5 else []
theorem eqA_Choice (d : Nat) (w : World) (x0 y0 : Int) (x1 y1 : Bool) (x2 y2 : Int) :
    (Op.equalIn (d + 2) 42 (.agg #[.int .i64 x0, .bool x1, .int .i64 x2]) (.agg #[.int .i64 y0, .bool y1, .int .i64 y2])).run Tryz.prog w = .ok (x0 == y0 && (x1 == y1 && (x2 == y2))) w := by
  refine eqA_of Tryz.underlying42 (by kernel_rfl) ?_
  refine eqf_cons (by rfl) (by go_simp; rfl) (by go_simp; rfl) (by go_simp) ?_
  refine eqf_cons (by rfl) (by go_simp; rfl) (by go_simp; rfl) (by go_simp) ?_
  exact eqf_last (by rfl) (by go_simp; rfl) (by go_simp; rfl) (by go_simp)
def eqCh (x y : Choice) : Bool := x.f0 == y.f0 && (x.f1 == y.f1 && (x.f2 == y.f2))
def isCh (l : List Choice) (y : Choice) (i : Nat) : Bool := match l[i]? with | some x => eqCh x y | none => false
def numIn (o : Option Nat) : Int := match o with | some i => (i : Int) + 1 | none => 0
def ofIn (l : List Choice) (y : Choice) : Int := numIn (firstBad l.length (isCh l y))
def whatIn (l : List Choice) (n : Int) : Choice × Bool := if n = 0 ∨ l.length < n.natAbs then (noChoice, false) else match l[n.natAbs - 1]? with | some c => (c, true) | none => (noChoice, false)
theorem length_allOf (p : Problem) (hsm : problemOk p = true → Small p) : (allOf p).length ≤ 2000000 := by
  unfold allOf
  by_cases h : problemOk p = true
  · rw [if_pos h]
    have h1 := length_choicesTo p.f5 (hsm h).all p.f5.length
    have h2 := (hsm h).n
    unfold choices
    omega
  · rw [if_neg h]
    simp
end Go.Proofs.YthalgemkblkhgaaGreat
