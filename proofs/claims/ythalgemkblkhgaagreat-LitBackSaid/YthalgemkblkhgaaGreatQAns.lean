/- What New has made answers as the document says: a Map's methods at whatever problem. -/
import Derived.Test.YthalgemkblkhgaaGreatQEnv
namespace Go.Proofs.YthalgemkblkhgaaGreat
open Go.Proofs Go.RowKit Go.Proofs.YthalgemkblkhgaaGreatW.PrintWords Go.Proofs.YthalgemkblkhgaaGreatW.PrintLast
set_option linter.unusedVariables false
set_option linter.unusedSimpArgs false

/-- mv is what New makes of p: nil, or a Map. -/
def Ans (p : Problem) (mv : Value) (w : World) : Prop := (mv = .pointer none ∧ problemOk p = false) ∨ (problemOk p = true ∧ ∃ b, mv = .pointer (some ⟨b, 0, none⟩) ∧ MBox w b (mapOf p))
section
variable {p : Problem} {mv : Value} {w w1 : World}
theorem Ans.below (h : Ans p mv w) (hb : Below w.heap.size w w1) : Ans p mv w1 := by
  rcases h with h | ⟨h, b, h1, h2⟩
  · exact .inl h
  · exact .inr ⟨h, b, h1, h2.below hb⟩
theorem mok_p (h : problemOk p = true) : MOk (mapOf p) := mok_of p (small_of p h)
theorem new_ans (p : Problem) (hp : wfProblem p) (pcs : List Value) (w : World) (hP : kProblem.K w p pcs) :
    Calls Tryz.prog 17 #[.agg pcs.toArray] w fun e w' => (∃ mv, e = .returned mv ∧ Ans p mv w') ∧ Below w.heap.size w w' := by
  refine (new_calls p hp (small_of p) pcs w hP _ rfl).mono ?_
  rintro e w' ⟨⟨h0, h1⟩, hb⟩
  cases hok : problemOk p
  · exact ⟨⟨_, h0 hok, .inl ⟨rfl, hok⟩⟩, hb⟩
  · obtain ⟨b, he, hM⟩ := h1 hok
    exact ⟨⟨_, he, .inr ⟨hok, b, rfl, hM⟩⟩, hb⟩
theorem ans_what (h : Ans p mv w) (n : Int) (hn : wfInt .i64 n) (r : Choice × Bool) (hr : whatIn (allOf p) n = r) :
    Calls Tryz.prog 18 #[mv, .int .i64 n] w fun e w' => e = retChoice r ∧ Below w.heap.size w w' := by
  subst hr
  rcases h with ⟨rfl, h⟩ | ⟨h, b, rfl, hM⟩
  · rw [what_no h]
    exact what_nil n hn w
  · exact what_calls (mapOf p) (mok_p h) b w hM n hn _ (what_law h n).symm
theorem ans_len (h : Ans p mv w) (r : Int) (hr : ((allOf p).length : Int) = r) :
    Calls Tryz.prog 20 #[mv] w fun e w' => e = .returned (.int .i64 r) ∧ w = w' := by
  subst hr
  rcases h with ⟨rfl, h⟩ | ⟨h, b, rfl, hM⟩
  · rw [allOf_no h]
    exact litlen_nil w
  · rw [allOf_ok h]
    exact litlen_calls (mapOf p) b w hM _ rfl
theorem ans_time (h : Ans p mv w) (c i : Int) (r : Int) (hr : ofIn (allOf p) ⟨c, false, i⟩ = r) :
    Calls Tryz.prog 25 #[mv, .int .i64 c, .int .i64 i] w fun e w' => e = .returned (.int .i64 r) ∧ Below w.heap.size w w' := by
  subst hr
  rcases h with ⟨rfl, h⟩ | ⟨h, b, rfl, hM⟩
  · rw [of_no h]
    exact (time_nil c i w).mono (fun e w' ⟨h1, h2⟩ => ⟨h1, by rw [← h2]; exact Below.refl _ _⟩)
  · rw [allOf_ok h, time_law]
    exact time_calls (mapOf p) (mok_p h) b w hM c i _ rfl
theorem ans_place (h : Ans p mv w) (c i : Int) (r : Int) (hr : ofIn (allOf p) ⟨c, true, i⟩ = r) :
    Calls Tryz.prog 27 #[mv, .int .i64 c, .int .i64 i] w fun e w' => e = .returned (.int .i64 r) ∧ Below w.heap.size w w' := by
  subst hr
  rcases h with ⟨rfl, h⟩ | ⟨h, b, rfl, hM⟩
  · rw [of_no h]
    exact (place_nil c i w).mono (fun e w' ⟨h1, h2⟩ => ⟨h1, by rw [← h2]; exact Below.refl _ _⟩)
  · rw [allOf_ok h, place_law]
    exact place_calls (mapOf p) (mok_p h) b w hM c i _ rfl
theorem ans_of (h : Ans p mv w) (y : Choice) (r : Int) (hr : ofIn (allOf p) y = r) :
    Calls Tryz.prog 23 #[mv, .agg #[.int .i64 y.f0, .bool y.f1, .int .i64 y.f2]] w fun e w' => e = .returned (.int .i64 r) ∧ Below w.heap.size w w' := by
  subst hr
  rcases h with ⟨rfl, h⟩ | ⟨h, b, rfl, hM⟩
  · rw [of_no h]
    exact of_nil y.f0 y.f1 y.f2 w
  · rw [allOf_ok h, of_law]
    exact of_calls (mapOf p) (mok_p h) b w hM y.f0 y.f1 y.f2 _ rfl
theorem eqn1 {oi : Oper} {a : Act} {i : Tmp} (ho : oi.op = .binOp .eql 44 (.tmp i) (.const (.pointer none)) 44) (hx : a.tmps[i]?.getD undef = .pointer none) (W : World) :
    (execOp a.eval oi).run Tryz.prog W = .ok (.value (.bool true)) W := by
  unfold execOp
  simp only [ho]
  go_simp
theorem eqn2 {oi : Oper} {a : Act} {i : Tmp} (b : Nat) (ho : oi.op = .binOp .eql 44 (.tmp i) (.const (.pointer none)) 44) (hx : a.tmps[i]?.getD undef = .pointer (some ⟨b, 0, none⟩)) (W : World) :
    (execOp a.eval oi).run Tryz.prog W = .ok (.value (.bool false)) W := by
  unfold execOp
  simp only [ho]
  go_simp
/-- Is it nil? -/
theorem Ans.eq_nil (h : Ans p mv w) {oi : Oper} {a : Act} {i : Tmp} (ho : oi.op = .binOp .eql 44 (.tmp i) (.const (.pointer none)) 44) (hx : a.tmps[i]?.getD undef = mv) (W : World) :
    (execOp a.eval oi).run Tryz.prog W = .ok (.value (.bool (!problemOk p))) W := by
  rcases h with ⟨rfl, h⟩ | ⟨h, b, rfl, hM⟩
  · rw [h]
    exact eqn1 ho hx W
  · rw [h]
    exact eqn2 b ho hx W
theorem run_load_op {P : Program} {oi : Oper} {a : Act} {W : World} (t : TypeId) (p : Operand) (ho : oi.op = .load t p) (g : Nat) (T : TypeId) (cs : Array Value) (d : TypeDesc) (hp : a.eval p = .pointer (some ⟨g, 0, none⟩))
    (hg : W.heap[g]? = some (.cells cs T (0, 0))) (hu : P.underlying t = some d) (hd : (match d with | .struct _ | .array _ _ => true | _ => false) = true) (hi : (P.info? t).map (·.size) = some cs.size) :
    (execOp a.eval oi).run P W = .ok (.value (.agg cs)) W := by
  have hr := run_loadVar_row W g T t cs (0, 0) d hg hu hd hi
  unfold execOp
  simp only [ho, hp, Instr.loadAt, Instr.sureAddr, Sem.run_bind, Sem.run_pure, Result.andThen_ok, hr]
end
end Go.Proofs.YthalgemkblkhgaaGreat
