/- The boxes of a law that takes a problem, as the walk goes on; guarded loads. -/
import Derived.Test.YthalgemkblkhgaaGreatQMN
import Derived.Test.YthalgemkblkhgaaGreatQPos
import Derived.Test.YthalgemkblkhgaaGreatQFew
import Derived.Test.YthalgemkblkhgaaGreatQSmall
namespace Go.Proofs.YthalgemkblkhgaaGreat
open Go.Proofs Go.RowKit Go.Proofs.YthalgemkblkhgaaGreatW.PrintWords Go.Proofs.YthalgemkblkhgaaGreatW.PrintLast
set_option linter.unusedVariables false
set_option linter.unusedSimpArgs false

/-- A load of a whole struct under a guard that holds. -/
theorem load_evg {P : Program} {ops : Array Oper} {rest : List Oper} {o : Oper} {a : Act} {Q : Exit → Act → World → Prop} {W : World} (hgd : Region.wanted o (yielded ops a.tmps) = true) (t : TypeId) (p : Operand) (ho : o.op = .load t p) (g : Nat) (T : TypeId) (cs : Array Value) (d : TypeDesc) (hp : a.eval p = .pointer (some ⟨g, 0, none⟩))
    (hg : W.heap[g]? = some (.cells cs T (0, 0))) (hu : P.underlying t = some d) (hd : (match d with | .struct _ | .array _ _ => true | _ => false) = true) (hi : (P.info? t).map (·.size) = some cs.size)
    (h : wpList P ops Q rest (a.put o.dst (.agg cs)) W) : wpList P ops Q (o :: rest) a W := by
  refine wpList_step fun K hK => ?_
  rw [if_pos hgd]
  have hr := run_loadVar_row W g T t cs (0, 0) d hg hu hd hi
  unfold Oper.wp execOp
  simp only [ho, hp, Instr.loadAt, Instr.sureAddr, Sem.run_bind, Sem.run_pure, Result.andThen_ok, hr]
  exact hK _ _ h
theorem loadVar_cells {P : Program} (w : World) (g : Nat) (ty : TypeId) (cs : List Value) (d : TypeDesc) (hc : ∀ j v, cs[j]? = some v → w.cell? ⟨g, j, none⟩ = some v)
    (hu : P.underlying ty = some d) (hd : (match d with | .struct _ | .array _ _ => true | _ => false) = true) (hi : (P.info? ty).map (·.size) = some cs.length) :
    (loadVar ty ⟨g, 0, none⟩).run P w = .ok (.agg cs.toArray) w := by
  have hl : (loadCells ⟨g, 0, none⟩ cs.length).run P w = .ok cs.toArray w :=
    run_loadCells_list (P := P) w ⟨g, 0, none⟩ cs (fun j v hv => by rw [add_plain]; exact hc j v hv)
  cases hq : P.info? ty with
  | none => simp [hq] at hi
  | some i =>
    have hs : i.size = cs.length := by simpa [hq] using hi
    have hagg : (isAgg ty).run P w = .ok true w := by
      unfold isAgg
      rw [Sem.run_bind, run_underlying hu w]
      cases d <;> simp_all
    simp [loadVar, Sem.run_bind, hagg, sizeOf, typeInfo, hq, hs, hl]
/-- A struct that lies at the head of a box, loaded. -/
theorem load_ev2 {P : Program} {ops : Array Oper} {rest : List Oper} {o : Oper} {a : Act} {Q : Exit → Act → World → Prop} {W : World} (hgd : Region.wanted o (yielded ops a.tmps) = true) (t : TypeId) (p : Operand) (ho : o.op = .load t p) (g : Nat) (cs : List Value) (d : TypeDesc) (hp : a.eval p = .pointer (some ⟨g, 0, none⟩))
    (hg : ∀ j v, cs[j]? = some v → W.cell? ⟨g, j, none⟩ = some v) (hu : P.underlying t = some d) (hd : (match d with | .struct _ | .array _ _ => true | _ => false) = true) (hi : (P.info? t).map (·.size) = some cs.length)
    (h : wpList P ops Q rest (a.put o.dst (.agg cs.toArray)) W) : wpList P ops Q (o :: rest) a W := by
  refine wpList_step fun K hK => ?_
  rw [if_pos hgd]
  have hr := loadVar_cells W g t cs d hg hu hd hi
  unfold Oper.wp execOp
  simp only [ho, hp, Instr.loadAt, Instr.sureAddr, Sem.run_bind, Sem.run_pure, Result.andThen_ok, hr]
  exact hK _ _ h
theorem infoProblem : (Tryz.prog.info? 40).map (·.size) = some 15 := by kernel_rfl
/-- The problem in a Map's box. -/
theorem MBox.problem {w : World} {b : Nat} {m : Map} (h : MBox w b m) : ∃ pcs, kProblem.K w m.f0 pcs ∧ pcs.length = 15 ∧ ∀ j v, pcs[j]? = some v → w.cell? ⟨b, j, none⟩ = some v := by
  obtain ⟨cs, ⟨c0, c1, rfl, h0, _⟩, h2⟩ := h
  refine ⟨c0, h0, kProblem.K_len h0, fun j v hj => ?_⟩
  rw [blk_cell h2 j]
  have hlt := (List.getElem?_eq_some_iff.1 hj).1
  simpa [List.getElem?_append_left hlt] using hj
/-- The law's box of the problem (block n), and the world since. -/
structure Stage (w W : World) (n : Nat) (X : Array Value) : Prop where
  box : W.heap[n]? = some (.cells X 40 (0, 0))
  below : Below w.heap.size w W
theorem Stage.on {w W W1 : World} {n : Nat} {X : Array Value} (h : Stage w W n X) (hb : Below W.heap.size W W1) : Stage w W1 n X :=
  ⟨(hb.block _ (blk_lt h.box)).trans h.box, bthen h.below hb (Nat.le_refl _)⟩
theorem Stage.more {w W : World} {n : Nat} {X : Array Value} (h : Stage w W n X) (o : Obj) : Stage w (W.alloc o) n X := h.on (below_alloc (Below.refl _ _) _)
theorem blk_on {W W1 : World} {n : Nat} {o : Obj} (h : W.heap[n]? = some o) (hb : Below W.heap.size W W1) : W1.heap[n]? = some o := (hb.block _ (Array.getElem?_eq_some_iff.1 h).1).trans h
theorem allOf_ok {p : Problem} (h : problemOk p = true) : allOf p = choices p.f5 := by rw [allOf, if_pos h]
theorem allOf_no {p : Problem} (h : problemOk p = false) : allOf p = [] := by rw [allOf, if_neg (by rw [h]; simp)]
theorem what_law {p : Problem} (h : problemOk p = true) (n : Int) : whatIn (allOf p) n = whatOf (mapOf p) n := by rw [allOf_ok h]; rfl
theorem what_no {p : Problem} (h : problemOk p = false) (n : Int) : whatIn (allOf p) n = (noChoice, false) := by
  rw [allOf_no h]
  unfold whatIn
  rw [if_pos]
  simp only [List.length_nil]
  omega
theorem of_no {p : Problem} (h : problemOk p = false) (y : Choice) : ofIn (allOf p) y = 0 := by rw [allOf_no h]; rfl
def FewEnd (n : Nat) (e : Ending) : Prop := ∃ b, e = .returned (.bool b) ∧ (b = true → n ≤ 40)
set_option maxRecDepth 100000 in
set_option maxHeartbeats 2000000 in
theorem few27_calls (p : Problem) (pcs : List Value) (w : World) (hP : kProblem.K w p pcs) (A : Option Addr) (n c : Nat) (hn : n ≤ 9223372036854775807) :
    Calls Tryz.prog 16 #[.agg pcs.toArray, .slice A n c] w fun e w' => FewEnd n e ∧ Below w.heap.size w w' := by
  have HP := Aside0.mk hP
  obtain ⟨A4, c4, A5, c5, A6, c6, A7, c7, A8, c8, A9, c9, A10, c10, rfl, l4, g4, l5, g5, l6, g6, l7, g7, l8, g8, l9, g9, l10, g10⟩ := kProblem_open hP
  clear hP g4 g5 g6 g7 g8 g9 g10
  have hu1 := Tryz.underlying40
  have hbx := Aside0.mk (blk_new w (.cells #[.string p.f0, .int .i64 p.f1.f0, .int .i64 p.f1.f1, .int .i64 p.f1.f2, .slice A4 p.f2.length c4, .slice A5 p.f3.length c5, .slice A6 p.f4.length c6, .slice A7 p.f5.length c7, .slice A8 p.f6.length c8, .slice A9 p.f7.length c9, .slice A10 p.f8.length c10, .int .i64 p.f9.f0, .int .i64 p.f9.f1, .int .i64 p.f9.f2, .int .i64 p.f9.f3] 40))
  go_enter Tryz.func16, Tryz.ntmps16
  go_wp2_with (refine gate_ (.load 40 (.tmp 2)) rfl ?_; refine load_ev rfl _ _ rfl _ _ _ _ rfl hbx.out hu1 rfl rfl ?_)
  refine (few_ref p _ _ (kProblem.K_below (below_alloc (Below.refl _ _) _) HP.out)).mono ?_
  rintro e w1 ⟨⟨b, rfl⟩, hb⟩
  have hb := Aside0.mk (below1 hb)
  cases b
  · go_wp2_with fail
    go_ret
    exact ⟨⟨_, rfl, fun h => by cases h⟩, hb.out⟩
  · by_cases h : n ≤ 40
    · have hd : decide ((n : Int) ≤ 40) = true := decide_eq_true (by omega)
      go_wp2_with fail
      go_ret
      exact ⟨⟨_, rfl, fun _ => h⟩, hb.out⟩
    · have hd : decide ((n : Int) ≤ 40) = false := decide_eq_false (by omega)
      go_wp2_with fail
      go_ret
      exact ⟨⟨_, rfl, fun q => by first | exact absurd q (by simp) | cases q⟩, hb.out⟩
end Go.Proofs.YthalgemkblkhgaaGreat
