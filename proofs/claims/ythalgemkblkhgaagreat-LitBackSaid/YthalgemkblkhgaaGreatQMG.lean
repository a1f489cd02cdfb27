/- The functions that Check hands on, over the problem that they hold. What problem.Check and problem.Right come to. -/
import Derived.Test.YthalgemkblkhgaaGreatQBad
import Derived.Test.YthalgemkblkhgaaGreatQME
import Derived.Test.YthalgemkblkhgaaGreatQMF
namespace Go.Proofs.YthalgemkblkhgaaGreat
open Go.RowKit Go.Proofs.YthalgemkblkhgaaGreatW.PrintWords Go.Proofs.YthalgemkblkhgaaGreatW.PrintLast
set_option linter.unusedVariables false
set_option linter.unusedSimpArgs false

/-- Block b holds the problem p. -/
def PBox (w : World) (b : Nat) (p : Problem) : Prop := ∃ cs, kProblem.K w p cs ∧ ∀ j v, cs[j]? = some v → w.cell? ⟨b, j, none⟩ = some v
theorem PBox.below {w w1 : World} {b : Nat} {p : Problem} (h : PBox w b p) (hb : Below w.heap.size w w1) : PBox w1 b p := by
  obtain ⟨cs, h1, h2⟩ := h
  exact ⟨cs, kProblem.K_below hb h1, fun j v hj => pw_cell_below hb (h2 j v hj)⟩
theorem PBox.problem {w : World} {b : Nat} {p : Problem} (h : PBox w b p) : ∃ cs, kProblem.K w p cs := by
  obtain ⟨cs, h1, h2⟩ := h
  exact ⟨cs, h1⟩
theorem PBox.new (w : World) (p : Problem) (cs : List Value) (h : kProblem.K w p cs) : PBox (w.alloc (.cells cs.toArray 40)) w.heap.size p := by
  refine ⟨cs, kProblem.K_below (below_alloc (Below.refl _ _) _) h, fun j v hj => ?_⟩
  have : (w.alloc (.cells cs.toArray 40)).heap[w.heap.size]? = some (.cells cs.toArray 40 (0, 0)) := blk_new w _
  exact (blk_cell this j).trans (by simpa using hj)
theorem PBox.open_ {w : World} {b : Nat} {p : Problem} (h : PBox w b p) : ∃ A4 c4 A5 c5 A6 c6 A7 c7 A8 c8 A9 c9 A10 c10, w.cell? ⟨b, 0, none⟩ = some (.string p.f0) ∧ w.cell? ⟨b, 1, none⟩ = some (.int .i64 p.f1.f0) ∧ w.cell? ⟨b, 2, none⟩ = some (.int .i64 p.f1.f1) ∧ w.cell? ⟨b, 3, none⟩ = some (.int .i64 p.f1.f2) ∧ w.cell? ⟨b, 4, none⟩ = some (.slice A4 p.f2.length c4) ∧ w.cell? ⟨b, 5, none⟩ = some (.slice A5 p.f3.length c5) ∧ w.cell? ⟨b, 6, none⟩ = some (.slice A6 p.f4.length c6) ∧ w.cell? ⟨b, 7, none⟩ = some (.slice A7 p.f5.length c7) ∧ w.cell? ⟨b, 8, none⟩ = some (.slice A8 p.f6.length c8) ∧ w.cell? ⟨b, 9, none⟩ = some (.slice A9 p.f7.length c9) ∧ w.cell? ⟨b, 10, none⟩ = some (.slice A10 p.f8.length c10) ∧ w.cell? ⟨b, 11, none⟩ = some (.int .i64 p.f9.f0) ∧ w.cell? ⟨b, 12, none⟩ = some (.int .i64 p.f9.f1) ∧ w.cell? ⟨b, 13, none⟩ = some (.int .i64 p.f9.f2) ∧ w.cell? ⟨b, 14, none⟩ = some (.int .i64 p.f9.f3) ∧ p.f2.length ≤ c4 ∧ kRoom.C w A4 p.f2.length p.f2 ∧ p.f3.length ≤ c5 ∧ (Kd.slice 3 (Kd.int .i64)).C w A5 p.f3.length p.f3 ∧ p.f4.length ≤ c6 ∧ kPerson.C w A6 p.f4.length p.f4 ∧ p.f5.length ≤ c7 ∧ kClass.C w A7 p.f5.length p.f5 ∧ p.f6.length ≤ c8 ∧ kCourse.C w A8 p.f6.length p.f6 ∧ p.f7.length ≤ c9 ∧ kStudent.C w A9 p.f7.length p.f7 ∧ p.f8.length ≤ c10 ∧ kRule.C w A10 p.f8.length p.f8 := by
  obtain ⟨cs, h1, h2⟩ := h
  obtain ⟨A4, c4, A5, c5, A6, c6, A7, c7, A8, c8, A9, c9, A10, c10, rfl, l4, g4, l5, g5, l6, g6, l7, g7, l8, g8, l9, g9, l10, g10⟩ := kProblem_open h1
  exact ⟨A4, c4, A5, c5, A6, c6, A7, c7, A8, c8, A9, c9, A10, c10, h2 0 _ rfl, h2 1 _ rfl, h2 2 _ rfl, h2 3 _ rfl, h2 4 _ rfl, h2 5 _ rfl, h2 6 _ rfl, h2 7 _ rfl, h2 8 _ rfl, h2 9 _ rfl, h2 10 _ rfl, h2 11 _ rfl, h2 12 _ rfl, h2 13 _ rfl, h2 14 _ rfl, l4, g4, l5, g5, l6, g6, l7, g7, l8, g8, l9, g9, l10, g10⟩

set_option maxRecDepth 100000 in
set_option maxHeartbeats 2000000 in
theorem check1_calls (p : Problem) (b : Nat) (w : World) (hb : PBox w b p) (x : Room) (hx : wfRoom x) (cs : List Value) (hK : kRoom.K w x cs) (r : Bool) (h : roomOk p.f1 x = r) :
    Calls Tryz.prog 129 #[.agg cs.toArray, .pointer (some ⟨b, 0, none⟩)] w fun e w' => e = .returned (.bool r) ∧ Below w.heap.size w w' := by
  subst h
  have HB := Aside0.mk hb
  obtain ⟨A4, c4, A5, c5, A6, c6, A7, c7, A8, c8, A9, c9, A10, c10, b0, b1, b2, b3, b4, b5, b6, b7, b8, b9, b10, b11, b12, b13, b14, l4, g4, l5, g5, l6, g6, l7, g7, l8, g8, l9, g9, l10, g10⟩ := hb.open_
  clear hb
  have hm4 := Kd.C_max g4
  have hm6 := Kd.C_max g6
  have hm7 := Kd.C_max g7
  have hlt := World.block_lt_of_cell? w _ b0
  have HG := Aside0.mk (And.intro g4 (And.intro g5 (And.intro g6 (And.intro g7 (And.intro g8 (And.intro g9 g10))))))
  clear g4 g5 g6 g7 g8 g9 g10
  have hu1 := Tryz.underlying114
  have hu2 := Tryz.underlying40
  have HK := Aside0.mk hK
  obtain ⟨A, c, rfl, l, g⟩ := kRoom_open hK
  clear hK
  go_enter Tryz.func129, Tryz.ntmps129
  go_wp2_with fail
  (refine (roomOk_calls p.f1 x hx _ _ (kRoom.K_below (below_alloc (Below.refl _ _) _) HK.out) _ rfl).mono ?_; rintro e w1 ⟨rfl, hb1⟩; have hc_hb1 := (bcell hb1).1; go_wp2_with fail)
  go_ret
  exact ⟨rfl, below1 hb1⟩

set_option maxRecDepth 100000 in
set_option maxHeartbeats 2000000 in
theorem check2_calls (p : Problem) (b : Nat) (w : World) (hb : PBox w b p) (x : Person) (hx : wfPerson x) (cs : List Value) (hK : kPerson.K w x cs) (r : Bool) (h : personOk p.f1 x = r) :
    Calls Tryz.prog 134 #[.agg cs.toArray, .pointer (some ⟨b, 0, none⟩)] w fun e w' => e = .returned (.bool r) ∧ Below w.heap.size w w' := by
  subst h
  have HB := Aside0.mk hb
  obtain ⟨A4, c4, A5, c5, A6, c6, A7, c7, A8, c8, A9, c9, A10, c10, b0, b1, b2, b3, b4, b5, b6, b7, b8, b9, b10, b11, b12, b13, b14, l4, g4, l5, g5, l6, g6, l7, g7, l8, g8, l9, g9, l10, g10⟩ := hb.open_
  clear hb
  have hm4 := Kd.C_max g4
  have hm6 := Kd.C_max g6
  have hm7 := Kd.C_max g7
  have hlt := World.block_lt_of_cell? w _ b0
  have HG := Aside0.mk (And.intro g4 (And.intro g5 (And.intro g6 (And.intro g7 (And.intro g8 (And.intro g9 g10))))))
  clear g4 g5 g6 g7 g8 g9 g10
  have hu1 := Tryz.underlying128
  have hu2 := Tryz.underlying40
  have HK := Aside0.mk hK
  obtain ⟨A, c, rfl, l, g⟩ := kPerson_open hK
  clear hK
  go_enter Tryz.func134, Tryz.ntmps134
  go_wp2_with fail
  (refine (personOk_calls p.f1 x hx _ _ (kPerson.K_below (below_alloc (Below.refl _ _) _) HK.out) _ rfl).mono ?_; rintro e w1 ⟨rfl, hb1⟩; have hc_hb1 := (bcell hb1).1; go_wp2_with fail)
  go_ret
  exact ⟨rfl, below1 hb1⟩

set_option maxRecDepth 100000 in
set_option maxHeartbeats 2000000 in
theorem check3_calls (p : Problem) (b : Nat) (w : World) (hb : PBox w b p) (x : Class) (hx : wfClass x) (cs : List Value) (hK : kClass.K w x cs) (r : Bool) (h : classOk p.f1 p.f2.length p.f4.length p.f5.length x = r) :
    Calls Tryz.prog 138 #[.agg cs.toArray, .pointer (some ⟨b, 0, none⟩)] w fun e w' => e = .returned (.bool r) ∧ Below w.heap.size w w' := by
  subst h
  have HB := Aside0.mk hb
  obtain ⟨A4, c4, A5, c5, A6, c6, A7, c7, A8, c8, A9, c9, A10, c10, b0, b1, b2, b3, b4, b5, b6, b7, b8, b9, b10, b11, b12, b13, b14, l4, g4, l5, g5, l6, g6, l7, g7, l8, g8, l9, g9, l10, g10⟩ := hb.open_
  clear hb
  have hm4 := Kd.C_max g4
  have hm6 := Kd.C_max g6
  have hm7 := Kd.C_max g7
  have hlt := World.block_lt_of_cell? w _ b0
  have HG := Aside0.mk (And.intro g4 (And.intro g5 (And.intro g6 (And.intro g7 (And.intro g8 (And.intro g9 g10))))))
  clear g4 g5 g6 g7 g8 g9 g10
  have hu1 := Tryz.underlying96
  have hu2 := Tryz.underlying40
  have HK := Aside0.mk hK
  obtain ⟨A, c, A', c', A'', c'', rfl, l, g, l', g', l'', g''⟩ := kClass_open hK
  clear hK
  go_enter Tryz.func138, Tryz.ntmps138
  go_wp2_with fail
  (refine (classOk_calls p.f1 _ _ _ x hx _ _ (kClass.K_below (below_alloc (Below.refl _ _) _) HK.out) _ rfl).mono ?_; rintro e w1 ⟨rfl, hb1⟩; have hc_hb1 := (bcell hb1).1; go_wp2_with fail)
  go_ret
  exact ⟨rfl, below1 hb1⟩

set_option maxRecDepth 100000 in
set_option maxHeartbeats 2000000 in
theorem check4_calls (p : Problem) (b : Nat) (w : World) (hb : PBox w b p) (x : Course) (hx : wfCourse x) (cs : List Value) (hK : kCourse.K w x cs) (r : Bool) (h : courseOk p.f5.length x = r) :
    Calls Tryz.prog 142 #[.agg cs.toArray, .pointer (some ⟨b, 0, none⟩)] w fun e w' => e = .returned (.bool r) ∧ Below w.heap.size w w' := by
  subst h
  have HB := Aside0.mk hb
  obtain ⟨A4, c4, A5, c5, A6, c6, A7, c7, A8, c8, A9, c9, A10, c10, b0, b1, b2, b3, b4, b5, b6, b7, b8, b9, b10, b11, b12, b13, b14, l4, g4, l5, g5, l6, g6, l7, g7, l8, g8, l9, g9, l10, g10⟩ := hb.open_
  clear hb
  have hm4 := Kd.C_max g4
  have hm6 := Kd.C_max g6
  have hm7 := Kd.C_max g7
  have hlt := World.block_lt_of_cell? w _ b0
  have HG := Aside0.mk (And.intro g4 (And.intro g5 (And.intro g6 (And.intro g7 (And.intro g8 (And.intro g9 g10))))))
  clear g4 g5 g6 g7 g8 g9 g10
  have hu1 := Tryz.underlying136
  have hu2 := Tryz.underlying40
  have HK := Aside0.mk hK
  obtain ⟨A, c, rfl, l, g⟩ := kCourse_open hK
  clear hK
  go_enter Tryz.func142, Tryz.ntmps142
  go_wp2_with fail
  (refine (courseOk_calls _ x hx _ _ (kCourse.K_below (below_alloc (Below.refl _ _) _) HK.out) _ rfl).mono ?_; rintro e w1 ⟨rfl, hb1⟩; have hc_hb1 := (bcell hb1).1; go_wp2_with fail)
  go_ret
  exact ⟨rfl, below1 hb1⟩

set_option maxRecDepth 100000 in
set_option maxHeartbeats 2000000 in
theorem check5_calls (p : Problem) (b : Nat) (w : World) (hb : PBox w b p) (x : Student) (hx : wfStudent x) (cs : List Value) (hK : kStudent.K w x cs) (r : Bool) (h : studentOk p.f6.length x = r) :
    Calls Tryz.prog 146 #[.agg cs.toArray, .pointer (some ⟨b, 0, none⟩)] w fun e w' => e = .returned (.bool r) ∧ Below w.heap.size w w' := by
  subst h
  have HB := Aside0.mk hb
  obtain ⟨A4, c4, A5, c5, A6, c6, A7, c7, A8, c8, A9, c9, A10, c10, b0, b1, b2, b3, b4, b5, b6, b7, b8, b9, b10, b11, b12, b13, b14, l4, g4, l5, g5, l6, g6, l7, g7, l8, g8, l9, g9, l10, g10⟩ := hb.open_
  clear hb
  have hm4 := Kd.C_max g4
  have hm6 := Kd.C_max g6
  have hm7 := Kd.C_max g7
  have hlt := World.block_lt_of_cell? w _ b0
  have HG := Aside0.mk (And.intro g4 (And.intro g5 (And.intro g6 (And.intro g7 (And.intro g8 (And.intro g9 g10))))))
  clear g4 g5 g6 g7 g8 g9 g10
  have hu1 := Tryz.underlying130
  have hu2 := Tryz.underlying40
  have HK := Aside0.mk hK
  obtain ⟨A, c, rfl, l, g⟩ := kStudent_open hK
  clear hK
  go_enter Tryz.func146, Tryz.ntmps146
  go_wp2_with fail
  (refine (studentOk_calls p _ x hx _ _ (kProblem_mk _ p l4 (Kd.C_below HG.out.1 (below_alloc (Below.refl _ _) _)) l5 (Kd.C_below HG.out.2.1 (below_alloc (Below.refl _ _) _)) l6 (Kd.C_below HG.out.2.2.1 (below_alloc (Below.refl _ _) _)) l7 (Kd.C_below HG.out.2.2.2.1 (below_alloc (Below.refl _ _) _)) l8 (Kd.C_below HG.out.2.2.2.2.1 (below_alloc (Below.refl _ _) _)) l9 (Kd.C_below HG.out.2.2.2.2.2.1 (below_alloc (Below.refl _ _) _)) l10 (Kd.C_below HG.out.2.2.2.2.2.2 (below_alloc (Below.refl _ _) _))) (kStudent.K_below (below_alloc (Below.refl _ _) _) HK.out) _ rfl).mono ?_; rintro e w1 ⟨rfl, hb1⟩; have hc_hb1 := (bcell hb1).1; go_wp2_with fail)
  go_ret
  exact ⟨rfl, below1 hb1⟩

set_option maxRecDepth 100000 in
set_option maxHeartbeats 2000000 in
theorem check6_calls (p : Problem) (b : Nat) (w : World) (hb : PBox w b p) (x : Rule) (hx : wfRule x) (cs : List Value) (hK : kRule.K w x cs) (r : Bool) (h : ruleOk p.f5.length x = r) :
    Calls Tryz.prog 149 #[.agg cs.toArray, .pointer (some ⟨b, 0, none⟩)] w fun e w' => e = .returned (.bool r) ∧ Below w.heap.size w w' := by
  subst h
  have HB := Aside0.mk hb
  obtain ⟨A4, c4, A5, c5, A6, c6, A7, c7, A8, c8, A9, c9, A10, c10, b0, b1, b2, b3, b4, b5, b6, b7, b8, b9, b10, b11, b12, b13, b14, l4, g4, l5, g5, l6, g6, l7, g7, l8, g8, l9, g9, l10, g10⟩ := hb.open_
  clear hb
  have hm4 := Kd.C_max g4
  have hm6 := Kd.C_max g6
  have hm7 := Kd.C_max g7
  have hlt := World.block_lt_of_cell? w _ b0
  have HG := Aside0.mk (And.intro g4 (And.intro g5 (And.intro g6 (And.intro g7 (And.intro g8 (And.intro g9 g10))))))
  clear g4 g5 g6 g7 g8 g9 g10
  have hu1 := Tryz.underlying133
  have hu2 := Tryz.underlying40
  have HK := Aside0.mk hK
  obtain ⟨A, c, rfl, l, g⟩ := kRule_open hK
  clear hK
  go_enter Tryz.func149, Tryz.ntmps149
  go_wp2_with fail
  (refine (ruleOk_calls _ x hx _ _ (kRule.K_below (below_alloc (Below.refl _ _) _) HK.out) _ rfl).mono ?_; rintro e w1 ⟨rfl, hb1⟩; have hc_hb1 := (bcell hb1).1; go_wp2_with fail)
  go_ret
  exact ⟨rfl, below1 hb1⟩
end Go.Proofs.YthalgemkblkhgaaGreat
namespace Go.Proofs.YthalgemkblkhgaaGreat
open Go.RowKit Go.Proofs.YthalgemkblkhgaaGreatW.PrintWords Go.Proofs.YthalgemkblkhgaaGreatW.PrintLast
set_option linter.unusedVariables false
set_option linter.unusedSimpArgs false

def roomsBad (p : Problem) : Option Nat := firstBad p.f2.length (badIn Room.f0 (roomOk p.f1) 24 p.f2)
def personsBad (p : Problem) : Option Nat := firstBad p.f4.length (badIn Person.f0 (personOk p.f1) 24 p.f4)
def classesBad (p : Problem) : Option Nat := firstBad p.f5.length (badIn Class.f0 (classOk p.f1 p.f2.length p.f4.length p.f5.length) 40 p.f5)
def coursesBad (p : Problem) : Option Nat := firstBad p.f6.length (badIn Course.f0 (courseOk p.f5.length) 16 p.f6)
def studentsBad (p : Problem) : Option Nat := firstBad p.f7.length (badIn Student.f0 (studentOk p.f6.length) 200 p.f7)
def rulesBad (p : Problem) : Option Nat := firstBad p.f8.length (badAlone (ruleOk p.f5.length) 60 p.f8)
def orBad (e : Int) (o : Option Nat) (rest : Int × Int) : Int × Int := match o with | some i => (e, i) | none => rest
def orNot (b : Bool) (e i : Int) (rest : Int × Int) : Int × Int := match b with | false => (e, i) | true => rest
/-- What is wrong first. -/
def checkOf (p : Problem) : Int × Int :=
  orNot (nameOk p.f0) 18 0 (orNot (gridOk p.f1) 10 0 (orBad 11 (roomsBad p) (orNot (walkOk p.f2.length p.f3) 11 p.f2.length (orBad 12 (personsBad p) (orBad 13 (classesBad p)
    (orBad 14 (coursesBad p) (orBad 15 (studentsBad p) (orBad 16 (rulesBad p) (orNot (weighOk p.f9) 17 0 (0, 0))))))))))
theorem orNot_true (e i : Int) (r : Int × Int) : orNot true e i r = r := rfl
theorem orBad_none (e : Int) (r : Int × Int) : orBad e none r = r := rfl
def retE (r : Int × Int) : Ending := .returned (.tuple #[.int .i64 r.1, .int .i64 r.2])

set_option maxRecDepth 100000 in
set_option maxHeartbeats 8000000 in
theorem check_calls (p : Problem) (hp : wfProblem p) (pcs : List Value) (w : World) (hP : kProblem.K w p pcs) (r : Int × Int) (h : checkOf p = r) :
    Calls Tryz.prog 77 #[.agg pcs.toArray] w fun e w' => e = retE r ∧ Below w.heap.size w w' := by
  subst h
  have HP := Aside0.mk hP
  obtain ⟨A4, c4, A5, c5, A6, c6, A7, c7, A8, c8, A9, c9, A10, c10, rfl, l4, g4, l5, g5, l6, g6, l7, g7, l8, g8, l9, g9, l10, g10⟩ := kProblem_open hP
  clear hP
  have hm4 := Kd.C_max g4
  have G4 := Aside0.mk g4
  have G5 := Aside0.mk g5
  have G6 := Aside0.mk g6
  have G7 := Aside0.mk g7
  have G8 := Aside0.mk g8
  have G9 := Aside0.mk g9
  have G10 := Aside0.mk g10
  clear g4 g5 g6 g7 g8 g9 g10
  have HB := Aside0.mk (PBox.new w p _ HP.out)
  have hu2 := Tryz.underlying40
  have hu3 := Tryz.underlying29
  have hu4 := Tryz.underlying38
  have hsp := Aside0.mk (checkOf.eq_1 p)
  go_enter Tryz.func77, Tryz.ntmps77
  go_wp2_with fail
  cases h1 : nameOk p.f0
  · replace h1 := Aside0.mk h1
    (refine (name_calls _ _ h1.out _).mono ?_; rintro e w' ⟨rfl, rfl⟩; go_wp2_with fail)
    go_ret2
    exact ⟨by rw [checkOf, h1.out]; rfl, below1 (Below.refl _ _)⟩
  replace hsp := Aside0.mk (hsp.out.trans (by rw [h1, orNot_true]))
  replace h1 := Aside0.mk h1
  (refine (name_calls _ _ h1.out _).mono ?_; rintro e w' ⟨rfl, rfl⟩; go_wp2_with fail)
  cases h2 : gridOk p.f1
  · replace h2 := Aside0.mk h2
    (refine (gridOk_calls _ _ h2.out _).mono ?_; rintro e w1 ⟨rfl, hb⟩; have hc_hb := (bcell hb).1; go_wp2_with fail)
    go_ret2
    exact ⟨by rw [hsp.out, h2.out]; rfl, below1 hb⟩
  replace hsp := Aside0.mk (hsp.out.trans (by rw [h2, orNot_true]))
  replace h2 := Aside0.mk h2
  (refine (gridOk_calls _ _ h2.out _).mono ?_; rintro e w1 ⟨rfl, hb⟩; have hc_hb := (bcell hb).1; go_wp2_with fail)
  clear h1 h2
  rcases ho : roomsBad p with _ | i
  rotate_left
  · replace ho := Aside0.mk ho
    refine (badRoom_calls (roomOk p.f1) (.pointer (some ⟨w.heap.size, 0, none⟩)) p.f2 hp.h2 24 _ _ _ (Kd.C_below G4.out (below1 hb)) (fun x cs w' hb' hm hK => check1_calls p w.heap.size w' ((HB.out.below hb).below hb') x (hp.h2.all x hm) cs hK _ rfl) _ ho.out).mono ?_
    rintro e w2 ⟨he, hb_⟩
    change e = Ending.returned (.tuple #[.int .i64 (i : Nat), .bool true]) at he
    subst he
    replace hb := bthen hb hb_ (Nat.le_refl _)
    go_wp2_with fail
    go_ret2
    exact ⟨by rw [hsp.out, ho.out]; rfl, below1 hb⟩
  replace hsp := Aside0.mk (hsp.out.trans (by rw [ho, orBad_none]))
  replace ho := Aside0.mk ho
  refine (badRoom_calls (roomOk p.f1) (.pointer (some ⟨w.heap.size, 0, none⟩)) p.f2 hp.h2 24 _ _ _ (Kd.C_below G4.out (below1 hb)) (fun x cs w' hb' hm hK => check1_calls p w.heap.size w' ((HB.out.below hb).below hb') x (hp.h2.all x hm) cs hK _ rfl) _ ho.out).mono ?_
  rintro e w2 ⟨he, hb_⟩
  change e = Ending.returned (.tuple #[.int .i64 (0 : Nat), .bool false]) at he
  subst he
  replace hb := bthen hb hb_ (Nat.le_refl _)
  replace hc_hb := (bcell hb).1
  clear hb_ ho
  go_wp2_with fail
  cases h3 : walkOk p.f2.length p.f3
  · replace h3 := Aside0.mk h3
    (refine (walk_calls _ p.f3 _ _ _ (Kd.C_below G5.out (below1 hb)) _ h3.out).mono ?_; rintro e w' ⟨rfl, rfl⟩; go_wp2_with fail)
    go_big_quiet (fail)
    go_wp2
    go_ret2
    exact ⟨by rw [hsp.out, h3.out]; rfl, below1 (pw_below_drewN hb _)⟩
  replace hsp := Aside0.mk (hsp.out.trans (by rw [h3, orNot_true]))
  replace h3 := Aside0.mk h3
  (refine (walk_calls _ p.f3 _ _ _ (Kd.C_below G5.out (below1 hb)) _ h3.out).mono ?_; rintro e w' ⟨rfl, rfl⟩; go_wp2_with fail)
  clear h3
  rcases ho : personsBad p with _ | i
  rotate_left
  · replace ho := Aside0.mk ho
    refine (badPerson_calls (personOk p.f1) (.pointer (some ⟨w.heap.size, 0, none⟩)) p.f4 hp.h4 24 _ _ _ (Kd.C_below G6.out (below1 hb)) (fun x cs w' hb' hm hK => check2_calls p w.heap.size w' ((HB.out.below hb).below hb') x (hp.h4.all x hm) cs hK _ rfl) _ ho.out).mono ?_
    rintro e w2 ⟨he, hb_⟩
    change e = Ending.returned (.tuple #[.int .i64 (i : Nat), .bool true]) at he
    subst he
    replace hb := bthen hb hb_ (Nat.le_refl _)
    go_wp2_with fail
    go_ret2
    exact ⟨by rw [hsp.out, ho.out]; rfl, below1 hb⟩
  replace hsp := Aside0.mk (hsp.out.trans (by rw [ho, orBad_none]))
  replace ho := Aside0.mk ho
  refine (badPerson_calls (personOk p.f1) (.pointer (some ⟨w.heap.size, 0, none⟩)) p.f4 hp.h4 24 _ _ _ (Kd.C_below G6.out (below1 hb)) (fun x cs w' hb' hm hK => check2_calls p w.heap.size w' ((HB.out.below hb).below hb') x (hp.h4.all x hm) cs hK _ rfl) _ ho.out).mono ?_
  rintro e w2 ⟨he, hb_⟩
  change e = Ending.returned (.tuple #[.int .i64 (0 : Nat), .bool false]) at he
  subst he
  replace hb := bthen hb hb_ (Nat.le_refl _)
  replace hc_hb := (bcell hb).1
  clear hb_ ho
  go_wp2_with fail
  rcases ho : classesBad p with _ | i
  rotate_left
  · replace ho := Aside0.mk ho
    refine (badClass_calls (classOk p.f1 p.f2.length p.f4.length p.f5.length) (.pointer (some ⟨w.heap.size, 0, none⟩)) p.f5 hp.h5 40 _ _ _ (Kd.C_below G7.out (below1 hb)) (fun x cs w' hb' hm hK => check3_calls p w.heap.size w' ((HB.out.below hb).below hb') x (hp.h5.all x hm) cs hK _ rfl) _ ho.out).mono ?_
    rintro e w2 ⟨he, hb_⟩
    change e = Ending.returned (.tuple #[.int .i64 (i : Nat), .bool true]) at he
    subst he
    replace hb := bthen hb hb_ (Nat.le_refl _)
    go_wp2_with fail
    go_ret2
    exact ⟨by rw [hsp.out, ho.out]; rfl, below1 hb⟩
  replace hsp := Aside0.mk (hsp.out.trans (by rw [ho, orBad_none]))
  replace ho := Aside0.mk ho
  refine (badClass_calls (classOk p.f1 p.f2.length p.f4.length p.f5.length) (.pointer (some ⟨w.heap.size, 0, none⟩)) p.f5 hp.h5 40 _ _ _ (Kd.C_below G7.out (below1 hb)) (fun x cs w' hb' hm hK => check3_calls p w.heap.size w' ((HB.out.below hb).below hb') x (hp.h5.all x hm) cs hK _ rfl) _ ho.out).mono ?_
  rintro e w2 ⟨he, hb_⟩
  change e = Ending.returned (.tuple #[.int .i64 (0 : Nat), .bool false]) at he
  subst he
  replace hb := bthen hb hb_ (Nat.le_refl _)
  replace hc_hb := (bcell hb).1
  clear hb_ ho
  go_wp2_with fail
  rcases ho : coursesBad p with _ | i
  rotate_left
  · replace ho := Aside0.mk ho
    refine (badCourse_calls (courseOk p.f5.length) (.pointer (some ⟨w.heap.size, 0, none⟩)) p.f6 hp.h6 16 _ _ _ (Kd.C_below G8.out (below1 hb)) (fun x cs w' hb' hm hK => check4_calls p w.heap.size w' ((HB.out.below hb).below hb') x (hp.h6.all x hm) cs hK _ rfl) _ ho.out).mono ?_
    rintro e w2 ⟨he, hb_⟩
    change e = Ending.returned (.tuple #[.int .i64 (i : Nat), .bool true]) at he
    subst he
    replace hb := bthen hb hb_ (Nat.le_refl _)
    go_wp2_with fail
    go_ret2
    exact ⟨by rw [hsp.out, ho.out]; rfl, below1 hb⟩
  replace hsp := Aside0.mk (hsp.out.trans (by rw [ho, orBad_none]))
  replace ho := Aside0.mk ho
  refine (badCourse_calls (courseOk p.f5.length) (.pointer (some ⟨w.heap.size, 0, none⟩)) p.f6 hp.h6 16 _ _ _ (Kd.C_below G8.out (below1 hb)) (fun x cs w' hb' hm hK => check4_calls p w.heap.size w' ((HB.out.below hb).below hb') x (hp.h6.all x hm) cs hK _ rfl) _ ho.out).mono ?_
  rintro e w2 ⟨he, hb_⟩
  change e = Ending.returned (.tuple #[.int .i64 (0 : Nat), .bool false]) at he
  subst he
  replace hb := bthen hb hb_ (Nat.le_refl _)
  replace hc_hb := (bcell hb).1
  clear hb_ ho
  go_wp2_with fail
  rcases ho : studentsBad p with _ | i
  rotate_left
  · replace ho := Aside0.mk ho
    refine (badStudent_calls (studentOk p.f6.length) (.pointer (some ⟨w.heap.size, 0, none⟩)) p.f7 hp.h7 200 _ _ _ (Kd.C_below G9.out (below1 hb)) (fun x cs w' hb' hm hK => check5_calls p w.heap.size w' ((HB.out.below hb).below hb') x (hp.h7.all x hm) cs hK _ rfl) _ ho.out).mono ?_
    rintro e w2 ⟨he, hb_⟩
    change e = Ending.returned (.tuple #[.int .i64 (i : Nat), .bool true]) at he
    subst he
    replace hb := bthen hb hb_ (Nat.le_refl _)
    go_wp2_with fail
    go_ret2
    exact ⟨by rw [hsp.out, ho.out]; rfl, below1 hb⟩
  replace hsp := Aside0.mk (hsp.out.trans (by rw [ho, orBad_none]))
  replace ho := Aside0.mk ho
  refine (badStudent_calls (studentOk p.f6.length) (.pointer (some ⟨w.heap.size, 0, none⟩)) p.f7 hp.h7 200 _ _ _ (Kd.C_below G9.out (below1 hb)) (fun x cs w' hb' hm hK => check5_calls p w.heap.size w' ((HB.out.below hb).below hb') x (hp.h7.all x hm) cs hK _ rfl) _ ho.out).mono ?_
  rintro e w2 ⟨he, hb_⟩
  change e = Ending.returned (.tuple #[.int .i64 (0 : Nat), .bool false]) at he
  subst he
  replace hb := bthen hb hb_ (Nat.le_refl _)
  replace hc_hb := (bcell hb).1
  clear hb_ ho
  go_wp2_with fail
  rcases ho : rulesBad p with _ | i
  rotate_left
  · replace ho := Aside0.mk ho
    refine (badRule_calls (ruleOk p.f5.length) (.pointer (some ⟨w.heap.size, 0, none⟩)) p.f8 hp.h8 60 _ _ _ (Kd.C_below G10.out (below1 hb)) (fun x cs w' hb' hm hK => check6_calls p w.heap.size w' ((HB.out.below hb).below hb') x (hp.h8.all x hm) cs hK _ rfl) _ ho.out).mono ?_
    rintro e w2 ⟨he, hb_⟩
    change e = Ending.returned (.tuple #[.int .i64 (i : Nat), .bool true]) at he
    subst he
    replace hb := bthen hb hb_ (Nat.le_refl _)
    go_wp2_with fail
    go_ret2
    exact ⟨by rw [hsp.out, ho.out]; rfl, below1 hb⟩
  replace hsp := Aside0.mk (hsp.out.trans (by rw [ho, orBad_none]))
  replace ho := Aside0.mk ho
  refine (badRule_calls (ruleOk p.f5.length) (.pointer (some ⟨w.heap.size, 0, none⟩)) p.f8 hp.h8 60 _ _ _ (Kd.C_below G10.out (below1 hb)) (fun x cs w' hb' hm hK => check6_calls p w.heap.size w' ((HB.out.below hb).below hb') x (hp.h8.all x hm) cs hK _ rfl) _ ho.out).mono ?_
  rintro e w2 ⟨he, hb_⟩
  change e = Ending.returned (.tuple #[.int .i64 (0 : Nat), .bool false]) at he
  subst he
  replace hb := bthen hb hb_ (Nat.le_refl _)
  replace hc_hb := (bcell hb).1
  clear hb_ ho
  go_wp2_with fail
  cases w0 : inR 0 1000 p.f9.f0
  · replace w0 := Aside0.mk w0
    (refine (pcost_calls _ _ w0.out _).mono ?_; rintro e w' ⟨rfl, rfl⟩; go_wp2_with fail)
    go_ret2
    exact ⟨by rw [hsp.out, weighOk, w0.out]; rfl, below1 (hb.alloc (by have := hb.size; omega) _)⟩
  replace w0 := Aside0.mk w0
  (refine (pcost_calls _ _ w0.out _).mono ?_; rintro e w' ⟨rfl, rfl⟩; go_wp2_with fail)
  cases w1 : inR 0 1000 p.f9.f1
  · replace w1 := Aside0.mk w1
    (refine (pcost_calls _ _ w1.out _).mono ?_; rintro e w' ⟨rfl, rfl⟩; go_wp2_with fail)
    go_ret2
    exact ⟨by rw [hsp.out, weighOk, w0.out, w1.out]; rfl, below1 (hb.alloc (by have := hb.size; omega) _)⟩
  replace w1 := Aside0.mk w1
  (refine (pcost_calls _ _ w1.out _).mono ?_; rintro e w' ⟨rfl, rfl⟩; go_wp2_with fail)
  cases w2' : inR 0 1000 p.f9.f2
  · replace w2' := Aside0.mk w2'
    (refine (pcost_calls _ _ w2'.out _).mono ?_; rintro e w' ⟨rfl, rfl⟩; go_wp2_with fail)
    go_ret2
    exact ⟨by rw [hsp.out, weighOk, w0.out, w1.out, w2'.out]; rfl, below1 (hb.alloc (by have := hb.size; omega) _)⟩
  replace w2' := Aside0.mk w2'
  (refine (pcost_calls _ _ w2'.out _).mono ?_; rintro e w' ⟨rfl, rfl⟩; go_wp2_with fail)
  cases w3 : inR 0 1000 p.f9.f3
  all_goals
    replace w3 := Aside0.mk w3
    (refine (pcost_calls _ _ w3.out _).mono ?_; rintro e w' ⟨rfl, rfl⟩; go_wp2_with fail)
    go_ret2
    exact ⟨by rw [hsp.out, weighOk, w0.out, w1.out, w2'.out, w3.out]; rfl, below1 (hb.alloc (by have := hb.size; omega) _)⟩

def problemOk (p : Problem) : Bool := decide ((checkOf p).1 = 0)
set_option maxRecDepth 100000 in
set_option maxHeartbeats 2000000 in
theorem problemOk_calls (p : Problem) (hp : wfProblem p) (pcs : List Value) (w : World) (hP : kProblem.K w p pcs) (r : Bool) (h : problemOk p = r) :
    Calls Tryz.prog 55 #[.agg pcs.toArray] w fun e w' => e = .returned (.bool r) ∧ Below w.heap.size w w' := by
  subst h
  have HP := Aside0.mk hP
  obtain ⟨A4, c4, A5, c5, A6, c6, A7, c7, A8, c8, A9, c9, A10, c10, rfl, l4, g4, l5, g5, l6, g6, l7, g7, l8, g8, l9, g9, l10, g10⟩ := kProblem_open hP
  clear hP g4 g5 g6 g7 g8 g9 g10
  have hu2 := Tryz.underlying40
  go_enter Tryz.func55, Tryz.ntmps55
  go_wp2_with fail
  refine (check_calls p hp _ _ (kProblem.K_below (by first | exact Below.refl _ _ | exact below_alloc (Below.refl _ _) _) HP.out) _ rfl).mono ?_
  rintro e w1 ⟨he, hb⟩
  change e = Ending.returned (.tuple #[.int .i64 (checkOf p).1, .int .i64 (checkOf p).2]) at he
  subst he
  go_wp2_with fail
  go_ret
  exact ⟨ret_bool (by rw [problemOk, beq_dec]), by first | exact hb | exact below1 hb⟩
end Go.Proofs.YthalgemkblkhgaaGreat
