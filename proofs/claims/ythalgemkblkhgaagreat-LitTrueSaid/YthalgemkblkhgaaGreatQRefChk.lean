/- What the reference's Check and Right of chapter 17 come to. -/
import Derived.Test.YthalgemkblkhgaaGreatQRefC
import Derived.Test.YthalgemkblkhgaaGreatQRefG
import Derived.Test.YthalgemkblkhgaaGreatQRefI0
import Derived.Test.YthalgemkblkhgaaGreatQRefI1
import Derived.Test.YthalgemkblkhgaaGreatQRefI2
import Derived.Test.YthalgemkblkhgaaGreatQRefI3
import Derived.Test.YthalgemkblkhgaaGreatQRefRules
import Derived.Test.YthalgemkblkhgaaGreatQCopy
namespace Go.Proofs.YthalgemkblkhgaaGreat
open Go.RowKit Go.Proofs.YthalgemkblkhgaaGreatW.PrintWords Go.Proofs.YthalgemkblkhgaaGreatW.PrintLast
set_option linter.unusedVariables false
set_option linter.unusedSimpArgs false

set_option maxRecDepth 100000 in
set_option maxHeartbeats 8000000 in
theorem check_ref (p : Problem) (hp : wfProblem p) (pcs : List Value) (w : World) (hP : kProblem.K w p pcs) (r : Int × Int) (h : checkOf p = r) :
    Calls Tryz.prog 58 #[.agg pcs.toArray] w fun e w' => e = retE r ∧ Below w.heap.size w w' := by
  subst h
  have HP := Aside0.mk hP
  obtain ⟨A4, c4, A5, c5, A6, c6, A7, c7, A8, c8, A9, c9, A10, c10, rfl, l4, g4, l5, g5, l6, g6, l7, g7, l8, g8, l9, g9, l10, g10⟩ := kProblem_open hP
  have hm4 := Kd.C_max g4
  have G5 := Aside0.mk g5
  clear hP g4 g5 g6 g7 g8 g9 g10
  have hu1 := Tryz.underlying40
  have hu3 := Tryz.underlying29
  have hu4 := Tryz.underlying38
  have hsp := Aside0.mk (checkOf.eq_1 p)
  go_enter Tryz.func58, Tryz.ntmps58
  go_wp2_with fail
  cases h1 : nameOk p.f0
  · replace h1 := Aside0.mk h1
    (refine (name_ref _ _ h1.out _).mono ?_; rintro e w' ⟨rfl, rfl⟩; go_wp2_with fail)
    go_ret2
    exact ⟨by rw [checkOf, h1.out]; rfl, below1 (Below.refl _ _)⟩
  replace hsp := Aside0.mk (hsp.out.trans (by rw [h1, orNot_true]))
  replace h1 := Aside0.mk h1
  (refine (name_ref _ _ h1.out _).mono ?_; rintro e w' ⟨rfl, rfl⟩; go_wp2_with fail)
  cases h2 : gridOk p.f1
  · replace h2 := Aside0.mk h2
    refine (gridOk_ref _ _ h2.out _).mono ?_
    rintro e w1 ⟨rfl, hb⟩
    go_wp2_with fail
    go_ret2
    exact ⟨by rw [hsp.out, h2.out]; rfl, below1 hb⟩
  replace hsp := Aside0.mk (hsp.out.trans (by rw [h2, orNot_true]))
  replace h2 := Aside0.mk h2
  refine (gridOk_ref _ _ h2.out _).mono ?_
  rintro e w1 ⟨rfl, hb⟩
  have hbx := Aside0.mk ((hb.block w.heap.size (by simp)).trans (blk_new w _))
  have hB := Aside0.mk (below1 hb)
  clear hb h1 h2
  rcases ho : roomsBad p with _ | i
  rotate_left
  · replace ho := Aside0.mk ho
    go_wp2_with (refine gate_ (.load 40 (.tmp 1)) rfl ?_; refine load_ev rfl _ _ rfl _ _ _ _ rfl hbx.out hu1 rfl rfl ?_)
    refine (rooms_ref p hp _ _ (kProblem.K_below hB.out HP.out) (i : Nat) (by rw [ho.out]; rfl)).mono ?_
    rintro e w2 ⟨rfl, hb2⟩
    go_wp2_with fail
    go_ret2
    exact ⟨by rw [hsp.out, ho.out]; rfl, bthen hB.out hb2 (Nat.le_refl _)⟩
  replace hsp := Aside0.mk (hsp.out.trans (by rw [ho, orBad_none]))
  replace ho := Aside0.mk ho
  go_wp2_with (refine gate_ (.load 40 (.tmp 1)) rfl ?_; refine load_ev rfl _ _ rfl _ _ _ _ rfl hbx.out hu1 rfl rfl ?_)
  refine (rooms_ref p hp _ _ (kProblem.K_below hB.out HP.out) (-1) (by rw [ho.out]; rfl)).mono ?_
  rintro e w2 ⟨rfl, hb2⟩
  replace hbx := Aside0.mk ((hb2.block w.heap.size (blk_lt hbx.out)).trans hbx.out)
  replace hB := Aside0.mk (bthen hB.out hb2 (Nat.le_refl _))
  clear hb2 ho
  have y4 := (blk_cell hbx.out 4).trans (show _ = some (Value.slice A4 p.f2.length c4) from rfl)
  have y5 := (blk_cell hbx.out 5).trans (show _ = some (Value.slice A5 p.f3.length c5) from rfl)
  go_wp2_with fail
  clear y4 y5
  cases h3 : walkOk p.f2.length p.f3
  · replace h3 := Aside0.mk h3
    refine (walk_ref _ p.f3 _ _ _ (Kd.C_below G5.out hB.out) _ h3.out).mono ?_
    rintro e w3 ⟨rfl, hb3⟩
    have y4 := (blk_cell ((hb3.block w.heap.size (blk_lt hbx.out)).trans hbx.out) 4).trans (show _ = some (Value.slice A4 p.f2.length c4) from rfl)
    go_wp2_with fail
    go_big_quiet (fail)
    go_wp2
    go_ret2
    exact ⟨by rw [hsp.out, h3.out]; rfl, pw_below_drewN (bthen hB.out hb3 (Nat.le_refl _)) _⟩
  replace hsp := Aside0.mk (hsp.out.trans (by rw [h3, orNot_true]))
  replace h3 := Aside0.mk h3
  refine (walk_ref _ p.f3 _ _ _ (Kd.C_below G5.out hB.out) _ h3.out).mono ?_
  rintro e w3 ⟨rfl, hb3⟩
  replace hbx := Aside0.mk ((hb3.block w.heap.size (blk_lt hbx.out)).trans hbx.out)
  replace hB := Aside0.mk (bthen hB.out hb3 (Nat.le_refl _))
  clear hb3 h3
  rcases ho : personsBad p with _ | i
  rotate_left
  · replace ho := Aside0.mk ho
    go_wp2_with (refine gate_ (.load 40 (.tmp 1)) rfl ?_; refine load_ev rfl _ _ rfl _ _ _ _ rfl hbx.out hu1 rfl rfl ?_)
    refine (persons_ref p hp _ _ (kProblem.K_below hB.out HP.out) (i : Nat) (by rw [ho.out]; rfl)).mono ?_
    rintro e w2 ⟨rfl, hb2⟩
    go_wp2_with fail
    go_ret2
    exact ⟨by rw [hsp.out, ho.out]; rfl, bthen hB.out hb2 (Nat.le_refl _)⟩
  replace hsp := Aside0.mk (hsp.out.trans (by rw [ho, orBad_none]))
  replace ho := Aside0.mk ho
  go_wp2_with (refine gate_ (.load 40 (.tmp 1)) rfl ?_; refine load_ev rfl _ _ rfl _ _ _ _ rfl hbx.out hu1 rfl rfl ?_)
  refine (persons_ref p hp _ _ (kProblem.K_below hB.out HP.out) (-1) (by rw [ho.out]; rfl)).mono ?_
  rintro e w2 ⟨rfl, hb2⟩
  replace hbx := Aside0.mk ((hb2.block w.heap.size (blk_lt hbx.out)).trans hbx.out)
  replace hB := Aside0.mk (bthen hB.out hb2 (Nat.le_refl _))
  clear hb2 ho
  rcases ho : classesBad p with _ | i
  rotate_left
  · replace ho := Aside0.mk ho
    go_wp2_with (refine gate_ (.load 40 (.tmp 1)) rfl ?_; refine load_ev rfl _ _ rfl _ _ _ _ rfl hbx.out hu1 rfl rfl ?_)
    refine (classes_ref p hp _ _ (kProblem.K_below hB.out HP.out) (i : Nat) (by rw [ho.out]; rfl)).mono ?_
    rintro e w2 ⟨rfl, hb2⟩
    go_wp2_with fail
    go_ret2
    exact ⟨by rw [hsp.out, ho.out]; rfl, bthen hB.out hb2 (Nat.le_refl _)⟩
  replace hsp := Aside0.mk (hsp.out.trans (by rw [ho, orBad_none]))
  replace ho := Aside0.mk ho
  go_wp2_with (refine gate_ (.load 40 (.tmp 1)) rfl ?_; refine load_ev rfl _ _ rfl _ _ _ _ rfl hbx.out hu1 rfl rfl ?_)
  refine (classes_ref p hp _ _ (kProblem.K_below hB.out HP.out) (-1) (by rw [ho.out]; rfl)).mono ?_
  rintro e w2 ⟨rfl, hb2⟩
  replace hbx := Aside0.mk ((hb2.block w.heap.size (blk_lt hbx.out)).trans hbx.out)
  replace hB := Aside0.mk (bthen hB.out hb2 (Nat.le_refl _))
  clear hb2 ho
  rcases ho : coursesBad p with _ | i
  rotate_left
  · replace ho := Aside0.mk ho
    go_wp2_with (refine gate_ (.load 40 (.tmp 1)) rfl ?_; refine load_ev rfl _ _ rfl _ _ _ _ rfl hbx.out hu1 rfl rfl ?_)
    refine (courses_ref p hp _ _ (kProblem.K_below hB.out HP.out) (i : Nat) (by rw [ho.out]; rfl)).mono ?_
    rintro e w2 ⟨rfl, hb2⟩
    go_wp2_with fail
    go_ret2
    exact ⟨by rw [hsp.out, ho.out]; rfl, bthen hB.out hb2 (Nat.le_refl _)⟩
  replace hsp := Aside0.mk (hsp.out.trans (by rw [ho, orBad_none]))
  replace ho := Aside0.mk ho
  go_wp2_with (refine gate_ (.load 40 (.tmp 1)) rfl ?_; refine load_ev rfl _ _ rfl _ _ _ _ rfl hbx.out hu1 rfl rfl ?_)
  refine (courses_ref p hp _ _ (kProblem.K_below hB.out HP.out) (-1) (by rw [ho.out]; rfl)).mono ?_
  rintro e w2 ⟨rfl, hb2⟩
  replace hbx := Aside0.mk ((hb2.block w.heap.size (blk_lt hbx.out)).trans hbx.out)
  replace hB := Aside0.mk (bthen hB.out hb2 (Nat.le_refl _))
  clear hb2 ho
  rcases ho : studentsBad p with _ | i
  rotate_left
  · replace ho := Aside0.mk ho
    go_wp2_with (refine gate_ (.load 40 (.tmp 1)) rfl ?_; refine load_ev rfl _ _ rfl _ _ _ _ rfl hbx.out hu1 rfl rfl ?_)
    refine (students_ref p hp _ _ (kProblem.K_below hB.out HP.out) (i : Nat) (by rw [ho.out]; rfl)).mono ?_
    rintro e w2 ⟨rfl, hb2⟩
    go_wp2_with fail
    go_ret2
    exact ⟨by rw [hsp.out, ho.out]; rfl, bthen hB.out hb2 (Nat.le_refl _)⟩
  replace hsp := Aside0.mk (hsp.out.trans (by rw [ho, orBad_none]))
  replace ho := Aside0.mk ho
  go_wp2_with (refine gate_ (.load 40 (.tmp 1)) rfl ?_; refine load_ev rfl _ _ rfl _ _ _ _ rfl hbx.out hu1 rfl rfl ?_)
  refine (students_ref p hp _ _ (kProblem.K_below hB.out HP.out) (-1) (by rw [ho.out]; rfl)).mono ?_
  rintro e w2 ⟨rfl, hb2⟩
  replace hbx := Aside0.mk ((hb2.block w.heap.size (blk_lt hbx.out)).trans hbx.out)
  replace hB := Aside0.mk (bthen hB.out hb2 (Nat.le_refl _))
  clear hb2 ho
  rcases ho : rulesBad p with _ | i
  rotate_left
  · replace ho := Aside0.mk ho
    go_wp2_with (refine gate_ (.load 40 (.tmp 1)) rfl ?_; refine load_ev rfl _ _ rfl _ _ _ _ rfl hbx.out hu1 rfl rfl ?_)
    refine (rules_ref p hp _ _ (kProblem.K_below hB.out HP.out) (i : Nat) (by rw [ho.out]; rfl)).mono ?_
    rintro e w2 ⟨rfl, hb2⟩
    go_wp2_with fail
    go_ret2
    exact ⟨by rw [hsp.out, ho.out]; rfl, bthen hB.out hb2 (Nat.le_refl _)⟩
  replace hsp := Aside0.mk (hsp.out.trans (by rw [ho, orBad_none]))
  replace ho := Aside0.mk ho
  go_wp2_with (refine gate_ (.load 40 (.tmp 1)) rfl ?_; refine load_ev rfl _ _ rfl _ _ _ _ rfl hbx.out hu1 rfl rfl ?_)
  refine (rules_ref p hp _ _ (kProblem.K_below hB.out HP.out) (-1) (by rw [ho.out]; rfl)).mono ?_
  rintro e w2 ⟨rfl, hb2⟩
  replace hbx := Aside0.mk ((hb2.block w.heap.size (blk_lt hbx.out)).trans hbx.out)
  replace hB := Aside0.mk (bthen hB.out hb2 (Nat.le_refl _))
  clear hb2 ho
  have y11 := (blk_cell hbx.out 11).trans (show _ = some (Value.int .i64 p.f9.f0) from rfl)
  have y12 := (blk_cell hbx.out 12).trans (show _ = some (Value.int .i64 p.f9.f1) from rfl)
  have y13 := (blk_cell hbx.out 13).trans (show _ = some (Value.int .i64 p.f9.f2) from rfl)
  have y14 := (blk_cell hbx.out 14).trans (show _ = some (Value.int .i64 p.f9.f3) from rfl)
  go_wp2_with fail
  clear y11 y12 y13 y14
  cases h5 : weighOk p.f9
  all_goals
    replace h5 := Aside0.mk h5
    refine (weigh_ref p.f9 [.int .i64 p.f9.f0, .int .i64 p.f9.f1, .int .i64 p.f9.f2, .int .i64 p.f9.f3] _ (kWeigh_mk _ _) _ h5.out).mono ?_
    rintro e w4 ⟨rfl, hb4⟩
    go_wp2_with fail
    go_ret2
    exact ⟨by rw [hsp.out, h5.out]; rfl, bthen hB.out hb4 (Nat.le_refl _)⟩
set_option maxRecDepth 100000 in
set_option maxHeartbeats 2000000 in
theorem right_ref (p : Problem) (hp : wfProblem p) (pcs : List Value) (w : World) (hP : kProblem.K w p pcs) (r : Bool) (h : problemOk p = r) :
    Calls Tryz.prog 22 #[.agg pcs.toArray] w fun e w' => e = .returned (.bool r) ∧ Below w.heap.size w w' := by
  subst h
  have HP := Aside0.mk hP
  obtain ⟨A4, c4, A5, c5, A6, c6, A7, c7, A8, c8, A9, c9, A10, c10, rfl, l4, g4, l5, g5, l6, g6, l7, g7, l8, g8, l9, g9, l10, g10⟩ := kProblem_open hP
  clear hP g4 g5 g6 g7 g8 g9 g10
  have hu1 := Tryz.underlying40
  have hbx := Aside0.mk (blk_new w (.cells #[.string p.f0, .int .i64 p.f1.f0, .int .i64 p.f1.f1, .int .i64 p.f1.f2, .slice A4 p.f2.length c4, .slice A5 p.f3.length c5, .slice A6 p.f4.length c6, .slice A7 p.f5.length c7, .slice A8 p.f6.length c8, .slice A9 p.f7.length c9, .slice A10 p.f8.length c10, .int .i64 p.f9.f0, .int .i64 p.f9.f1, .int .i64 p.f9.f2, .int .i64 p.f9.f3] 40))
  go_enter Tryz.func22, Tryz.ntmps22
  go_wp2_with (refine gate_ (.load 40 (.tmp 1)) rfl ?_; refine load_ev rfl _ _ rfl _ _ _ _ rfl hbx.out hu1 rfl rfl ?_)
  refine (check_ref p hp _ _ (kProblem.K_below (by first | exact Below.refl _ _ | exact below_alloc (Below.refl _ _) _) HP.out) _ rfl).mono ?_
  rintro e w1 ⟨he, hb⟩
  change e = Ending.returned (.tuple #[.int .i64 (checkOf p).1, .int .i64 (checkOf p).2]) at he
  subst he
  go_wp2_with fail
  go_ret
  exact ⟨ret_bool (by rw [problemOk, beq_dec]), by first | exact hb | exact below1 hb⟩
end Go.Proofs.YthalgemkblkhgaaGreat
