/- problem.Copy: the same problem in new memory. -/
import Derived.Test.YthalgemkblkhgaaGreatQMB
namespace Go.Proofs.YthalgemkblkhgaaGreat
open Go.RowKit Go.Proofs.YthalgemkblkhgaaGreatW.PrintWords Go.Proofs.YthalgemkblkhgaaGreatW.PrintLast
set_option linter.unusedVariables false
set_option linter.unusedSimpArgs false

/-- The copy's box holds the cells X, the result's box is there. -/
structure Bx (w W : World) (X : List Value) : Prop where
  box : W.heap[w.heap.size]? = some (.cells X.toArray 40 (0, 0))
  out : ∃ Z : Array Value, W.heap[w.heap.size + 1]? = some (.cells Z 40 (0, 0)) ∧ Z.size = 15
  below : Below w.heap.size w W
  size : w.heap.size + 2 ≤ W.heap.size
def Sb (w : World) : Nat → Prop := fun k => k = w.heap.size ∨ k = w.heap.size + 1
section
variable {w W W1 : World} {X : List Value}
theorem Bx.new (w : World) (X Z : Array Value) (hZ : Z.size = 15) : Bx w ((w.alloc (.cells X 40)).alloc (.cells Z 40)) X.toList :=
  ⟨by rw [Array.toArray_toList]; exact (Below.heap_alloc _ _ _ (by simp)).trans (blk_new w _), ⟨Z, by have := blk_new (w.alloc (.cells X 40)) (.cells Z 40); simpa using this, hZ⟩, below_alloc (below_alloc (Below.refl _ _) _) _, by simp⟩
theorem Bx.cell (h : Bx w W X) {j : Nat} {v : Value} (hj : X[j]? = some v) : W.cell? ⟨w.heap.size, j, none⟩ = some v := (blk_cell h.box j).trans (by simpa using hj)
theorem Bx.frozen (h : Bx w W X) (j : Nat) : W.frozen? ⟨w.heap.size, j, none⟩ = false := blk_frozen h.box j
theorem Bx.on (h : Bx w W X) (hb : Below W.heap.size W W1) : Bx w W1 X := by
  obtain ⟨Z, hz, hs⟩ := h.out
  exact ⟨(hb.block _ (blk_lt h.box)).trans h.box, ⟨Z, (hb.block _ (blk_lt hz)).trans hz, hs⟩, h.below.trans (hb.mono (by have := h.size; omega)), Nat.le_trans h.size hb.size⟩
theorem Bx.set_ (h : Bx w W X) (j : Nat) (v : Value) : Bx w (W.setCell ⟨w.heap.size, j, none⟩ v) (X.set j v) := by
  obtain ⟨Z, hz, hs⟩ := h.out
  exact ⟨by rw [blk_set h.box]; simp, ⟨Z, blk_far hz (by simp) _, hs⟩, h.below.setCell (Nat.le_refl _) _, by simpa [World.setCell] using h.size⟩
theorem Bx.far (h : Bx w W X) {B : Nat} (hB : w.heap.size + 2 ≤ B) (j : Nat) (v : Value) : Bx w (W.setCell ⟨B, j, none⟩ v) X := by
  obtain ⟨Z, hz, hs⟩ := h.out
  exact ⟨blk_far h.box (by show w.heap.size ≠ B; omega) _, ⟨Z, blk_far hz (by show w.heap.size + 1 ≠ B; omega) _, hs⟩, h.below.setCell (by show w.heap.size ≤ B; omega) _, by simpa [World.setCell] using h.size⟩
end

/-- A store told as an event. -/
theorem store_ev {P : Program} {ops : Array Oper} {rest : List Oper} {o : Oper} {a : Act} {Q : Exit → Act → World → Prop} {W w1 : World} (hN : o.dst = none) (hgd : o.guard = none) (t : TypeId) (p x : Operand) (ho : o.op = .store t p x) (pv xv : Value) (hp : a.eval p = pv) (hx : a.eval x = xv)
    (hrun : (Instr.storeAt t pv xv).run P W = .ok () w1) (h : wpList P ops Q rest a w1) : wpList P ops Q (o :: rest) a W := by
  refine wpList_plain hgd fun K hK => ?_
  unfold Oper.wp execOp
  simp only [ho, hp, hx, Sem.run_bind, Sem.run_pure, Result.andThen_ok, hrun]
  show K (a.put o.dst undef) _
  rw [hN]
  exact hK a _ h
/-- A load of a whole struct told as an event. -/
theorem load_ev {P : Program} {ops : Array Oper} {rest : List Oper} {o : Oper} {a : Act} {Q : Exit → Act → World → Prop} {W : World} (hgd : o.guard = none) (t : TypeId) (p : Operand) (ho : o.op = .load t p) (g : Nat) (T : TypeId) (cs : Array Value) (d : TypeDesc) (hp : a.eval p = .pointer (some ⟨g, 0, none⟩))
    (hg : W.heap[g]? = some (.cells cs T (0, 0))) (hu : P.underlying t = some d) (hd : (match d with | .struct _ | .array _ _ => true | _ => false) = true) (hi : (P.info? t).map (·.size) = some cs.size)
    (h : wpList P ops Q rest (a.put o.dst (.agg cs)) W) : wpList P ops Q (o :: rest) a W := by
  refine wpList_plain hgd fun K hK => ?_
  have hr := run_loadVar_row W g T t cs (0, 0) d hg hu hd hi
  unfold Oper.wp execOp
  simp only [ho, hp, Instr.loadAt, Instr.sureAddr, Sem.run_bind, Sem.run_pure, Result.andThen_ok, hr]
  exact hK _ _ h
set_option maxRecDepth 100000 in
theorem Bx.give {w W : World} {X : List Value} (h : Bx w W X) (hX : X.length = 15) (h1 : ∀ q ∈ X, q.oneCell' = true) : ∃ wf, (Instr.storeAt 40 (.pointer (some ⟨w.heap.size + 1, 0, none⟩)) (.agg X.toArray)).run Tryz.prog W = .ok () wf ∧
    wf.heap[w.heap.size + 1]? = some (.cells X.toArray 40 (0, 0)) ∧ Off (Sb w) W wf ∧ Below w.heap.size w wf := by
  obtain ⟨Z, hZ, hs⟩ := h.out
  obtain ⟨cur', h3, h4, h5⟩ := setCells_row X 0 W Z hZ (by omega)
  have hlt := blk_lt hZ
  obtain ⟨s1, s2, s3, s4⟩ := setCells_same (w.heap.size + 1) X 0 W
  have ho : Off (Sb w) W (W.setCells (w.heap.size + 1) 0 X) := ⟨s1, s2, s3, by rw [s4]; exact Nat.le_refl _, fun k _ hk => setCells_far _ _ k (fun e => hk (Or.inr e))⟩
  refine ⟨W.setCells (w.heap.size + 1) 0 X, run_store_run _ _ X hZ (by simp [Value.cells]) (by rw [hX]; rfl) (by omega) h1, ?_, ho, h.below.trans (ho.below (by have := h.size; omega) (fun k hk => by rcases hk with q | q <;> omega))⟩
  rw [h3]
  have e : cur' = X.toArray := Array.toList_inj.1 (by rw [h5, List.take_zero, List.nil_append, List.drop_eq_nil_of_le (by rw [Array.length_toList]; omega), List.append_nil])
  rw [e]
set_option maxRecDepth 100000 in
set_option maxHeartbeats 8000000 in
theorem copy_calls (p : Problem) (hp : wfProblem p) (pcs : List Value) (w : World) (hP : kProblem.K w p pcs) :
    Calls Tryz.prog 56 #[.agg pcs.toArray] w fun e w' => (∃ cs, e = .returned (.agg cs.toArray) ∧ kProblem.K w' p cs) ∧ Below w.heap.size w w' := by
  obtain ⟨A4, c4, A5, c5, A6, c6, A7, c7, A8, c8, A9, c9, A10, c10, rfl, l4, g4, l5, g5, l6, g6, l7, g7, l8, g8, l9, g9, l10, g10⟩ := kProblem_open hP
  have hm4 := Kd.C_max g4
  have hm5 := Kd.C_max g5
  have hm6 := Kd.C_max g6
  have hm7 := Kd.C_max g7
  have hm8 := Kd.C_max g8
  have hm9 := Kd.C_max g9
  have hm10 := Kd.C_max g10
  have G4 := Aside0.mk g4
  have G5 := Aside0.mk g5
  have G6 := Aside0.mk g6
  have G7 := Aside0.mk g7
  have G8 := Aside0.mk g8
  have G9 := Aside0.mk g9
  have G10 := Aside0.mk g10
  clear hP g4 g5 g6 g7 g8 g9 g10
  have hu1 := Tryz.underlying40
  go_enter Tryz.func56, Tryz.ntmps56
  go_wp2_with fail
  have HX0 : Bx w _ [.string p.f0, .int .i64 p.f1.f0, .int .i64 p.f1.f1, .int .i64 p.f1.f2, .slice A4 p.f2.length c4, .slice A5 p.f3.length c5, .slice A6 p.f4.length c6, .slice A7 p.f5.length c7, .slice A8 p.f6.length c8, .slice A9 p.f7.length c9, .slice A10 p.f8.length c10, .int .i64 p.f9.f0, .int .i64 p.f9.f1, .int .i64 p.f9.f2, .int .i64 p.f9.f3] := Bx.new w #[.string p.f0, .int .i64 p.f1.f0, .int .i64 p.f1.f1, .int .i64 p.f1.f2, .slice A4 p.f2.length c4, .slice A5 p.f3.length c5, .slice A6 p.f4.length c6, .slice A7 p.f5.length c7, .slice A8 p.f6.length c8, .slice A9 p.f7.length c9, .slice A10 p.f8.length c10, .int .i64 p.f9.f0, .int .i64 p.f9.f1, .int .i64 p.f9.f2, .int .i64 p.f9.f3] #[.string ⟨#[]⟩, .int .i64 0, .int .i64 0, .int .i64 0, .slice none 0 0, .slice none 0 0, .slice none 0 0, .slice none 0 0, .slice none 0 0, .slice none 0 0, .slice none 0 0, .int .i64 0, .int .i64 0, .int .i64 0, .int .i64 0] rfl
  replace HX0 := Aside0.mk HX0
  -- the rows at cell 4
  refine (clone_Room (kRoom.K w) (fun x cs h => kRoom.K_one h) p.f2 A4 c4 _ (rows_old G4.out (HX0.out).below) (few_mul hp.h2.len)).mono ?_
  rintro e w1 ⟨⟨v, rfl, ho⟩, hb1⟩
  have HX1 := (HX0.out).on hb1
  obtain ⟨A', c', rfl, hl', hV⟩ := ownV_new kRoom ((fun _ _ => trivial : St (Sb w) _ (fun _ => True))) hb1 ho (fun B hB x cs h => st_oldK h HX1.below (fun k hk => by
    have := (HX0.out).size
    rcases hk with (q | q) | q <;> omega))
  have e0 := HX1.frozen 4
  have e1 := HX1.cell (j := 4) rfl
  have HX2 := HX1.set_ 4 (.slice A' p.f2.length c')
  have hV2 := hV.box (g := w.heap.size) (Or.inl rfl) (by have := (HX0.out).size; omega) 4 (.slice A' p.f2.length c')
  have hbs := (HX0.out).size
  have HBS := Aside0.mk hbs
  replace HX1 := Aside0.mk HX1
  replace HX2 := Aside0.mk HX2
  replace hV2 := Aside0.mk hV2
  clear hV ho hb1
  go_wp2_with fail
  go_loopw [19] (fun v wr => ∃ i : Nat, v = .int .i64 i ∧ i ≤ p.f2.length ∧ Aside0 (OwnV kRoom 114 (Sb w) _ wr A' p.f2 _) ∧ Aside0 (Bx w wr _)) (fun v _ => p.f2.length - (intOf v).toNat)
  case atStart => exact ⟨0, rfl, by omega, hV2, HX2⟩
  case round =>
    clear HX1 HX2 hV2 e0 e1
    obtain ⟨i, rfl, hi, hV, HX⟩ := hrel
    have f0 := HX.out.cell (j := 4) rfl
    by_cases hlt : i < p.f2.length
    · obtain ⟨x, hx⟩ : ∃ x, p.f2[i]? = some x := ⟨_, List.getElem?_eq_getElem hlt⟩
      obtain ⟨B, cs, hA, hbB, hBw, hcl, hcc, hfr, hKx, hSt⟩ := hV.out.round hx
      obtain ⟨A3, c3, rfl, l3, g3⟩ := kRoom_open hKx
      obtain ⟨ad, had, hA'⟩ : ∃ ad : Addr, ad = ⟨B, 0, none⟩ ∧ A' = some ad := ⟨_, rfl, hA⟩
      subst hA'
      have q1 : wr.cell? ⟨(ad.add (i * 4)).block, (ad.add (i * 4)).off + 3, none⟩ = some (.slice A3 x.f3.length c3) := by rw [had, add_plain]; exact hcc 3 _ rfl
      have hb2B := Aside0.mk (Nat.le_trans HBS.out hbB)
      replace hx := Aside0.mk hx
      have HA := Aside0.mk hA
      replace had := Aside0.mk had
      replace hcc := Aside0.mk hcc
      replace hfr := Aside0.mk hfr
      replace hSt := Aside0.mk hSt
      have hC3 := Aside0.mk g3
      clear hKx g3 hA
      go_wp2
      refine start_ (n := 13) (S := (fun w' => w'.cell? ⟨w.heap.size, 4, none⟩ = some (.slice (some ad) p.f2.length c'))) (ds := []) #[false, false, false, false, false, false, false, false, false, false, false, false, false] (by kernel_rfl) rfl rfl (f0) (fun hHeld => ?_)
      refine pure_ (i := 0) (N := some 22) (v := ?_) (a' := ?_) #[true, false, false, false, false, false, false, false, false, false, false, false, false] rfl rfl (by kernel_rfl) (fun _ _ _ h => h) (Or.inl ⟨by rfl, ?_⟩) ?_ ?_
      rotate_left
      · intro w'
        go_simp
        with_reducible rfl
      rotate_left
      · simp only [Act.put, List.setIfInBounds_toArray, List.set_cons_zero, List.set_cons_succ, i64_w, i32_w]
        rfl
      refine take_ (i := 1) (N := some 23) (v := ?_) (a' := ?_) #[true, true, false, false, false, false, false, false, false, false, false, false, false] rfl rfl (by kernel_rfl) (fun _ _ _ h => h) (Or.inl ⟨by rfl, ?_⟩) hHeld ?_ ?_
      rotate_left
      · rintro w' s1
        go_simp
        with_reducible rfl
      rotate_left
      · simp only [Act.put, List.setIfInBounds_toArray, List.set_cons_zero, List.set_cons_succ, i64_w, i32_w]
        rfl
      refine pure_ (i := 2) (N := some 24) (v := ?_) (a' := ?_) #[true, true, true, false, false, false, false, false, false, false, false, false, false] rfl rfl (by kernel_rfl) (fun _ _ _ h => h) (Or.inl ⟨by rfl, ?_⟩) ?_ ?_
      rotate_left
      · intro w'
        go_simp
        with_reducible rfl
      rotate_left
      · simp only [Act.put, List.setIfInBounds_toArray, List.set_cons_zero, List.set_cons_succ, i64_w, i32_w]
        rfl
      refine pure_ (i := 3) (N := some 25) (v := ?_) (a' := ?_) #[true, true, true, true, false, false, false, false, false, false, false, false, false] rfl rfl (by kernel_rfl) (fun _ _ _ h => h) (Or.inl ⟨by rfl, ?_⟩) ?_ ?_
      rotate_left
      · intro w'
        go_simp
        with_reducible rfl
      rotate_left
      · simp only [Act.put, List.setIfInBounds_toArray, List.set_cons_zero, List.set_cons_succ, i64_w, i32_w]
        rfl
      refine take_ (i := 4) (N := some 26) (v := ?_) (a' := ?_) #[true, true, true, true, true, false, false, false, false, false, false, false, false] rfl rfl (by kernel_rfl) (fun _ _ _ h => h) (Or.inl ⟨by rfl, ?_⟩) hHeld ?_ ?_
      rotate_left
      · rintro w' s1
        go_simp
        with_reducible rfl
      rotate_left
      · simp only [Act.put, List.setIfInBounds_toArray, List.set_cons_zero, List.set_cons_succ, i64_w, i32_w]
        rfl
      refine pure_ (i := 5) (N := some 27) (v := ?_) (a' := ?_) #[true, true, true, true, true, true, false, false, false, false, false, false, false] rfl rfl (by kernel_rfl) (fun _ _ _ h => h) (Or.inl ⟨by rfl, ?_⟩) ?_ ?_
      rotate_left
      · intro w'
        go_simp
        with_reducible rfl
      rotate_left
      · simp only [Act.put, List.setIfInBounds_toArray, List.set_cons_zero, List.set_cons_succ, i64_w, i32_w]
        rfl
      refine pure_ (i := 6) (N := some 28) (v := ?_) (a' := ?_) #[true, true, true, true, true, true, true, false, false, false, false, false, false] rfl rfl (by kernel_rfl) (fun _ _ _ h => h) (Or.inl ⟨by rfl, ?_⟩) ?_ ?_
      rotate_left
      · intro w'
        go_simp
        with_reducible rfl
      rotate_left
      · simp only [Act.put, List.setIfInBounds_toArray, List.set_cons_zero, List.set_cons_succ, i64_w, i32_w]
        rfl
      refine pure_ (i := 7) (N := some 29) (v := ?_) (a' := ?_) #[true, true, true, true, true, true, true, true, false, false, false, false, false] rfl rfl (by kernel_rfl) (fun _ _ _ h => h) (Or.inl ⟨by rfl, ?_⟩) ?_ ?_
      rotate_left
      · intro w'
        go_simp
        with_reducible rfl
      rotate_left
      · simp only [Act.put, List.setIfInBounds_toArray, List.set_cons_zero, List.set_cons_succ, i64_w, i32_w]
        rfl
      refine one_ (i := 8) (N := some 30) #[true, true, true, true, true, true, true, true, true, false, false, false, false] rfl rfl (by kernel_rfl) (by decide) (fun K hK => ?_)
      refine value_ (w1 := ?_) (v := ?_) (by rfl) rfl ?_ ?_
      rotate_left 2
      · go_simp
        constructor
        · rfl
        · rfl
      refine hK.out _ _ f0 (fun hHeld => ?_)
      clear hK K
      refine norm_ (a' := ?_) ?_ ?_
      rotate_left
      · show Act.put _ (some 30) _ = _
        simp only [Act.put, List.setIfInBounds_toArray, List.set_cons_zero, List.set_cons_succ, i64_w, i32_w]
        rfl
      refine one_ (i := 9) (N := some 31) #[true, true, true, true, true, true, true, true, true, true, false, false, false] rfl rfl (by kernel_rfl) (by decide) (fun K hK => ?_)
      refine goes_ Tryz.func79 (by kernel_rfl) rfl #[.slice A3 x.f3.length c3] (by rfl) rfl rfl (by (try simp only [List.map_toArray, List.map_cons, List.map_nil]); first | done | rfl) ?_
      refine (clone_When ((kWhen).K wr) (fun x cs h => (kWhen).K_one h) x.f3 A3 c3 _ (rows_old hC3.out (below_drew (Below.refl _ _))) (few_mul (hp.h2.all x (List.mem_of_getElem? hx.out)).h3.len)).mono ?_
      rintro e w2 ⟨⟨v, rfl, ho⟩, hb2⟩
      have hbw : Below wr.heap.size wr w2 := below_then (below_drew (Below.refl _ _)) (Nat.le_refl _) hb2
      obtain ⟨A3', c3', rfl, hl3', hC3'⟩ := st_own (d := kWhen) (S := Or1 (Sb w) B) ho (fun k hk => by
        have := HX.out.size
        show k < wr.heap.size
        rcases hk with (q | q) | q <;> omega) kWhen_st (Kd.C_max hC3.out)
      have q1' : w2.cell? ⟨(ad.add (i * 4)).block, (ad.add (i * 4)).off + 3, none⟩ = some (.slice A3 x.f3.length c3) := pw_cell_below hbw q1
      have q2' : w2.frozen? ⟨(ad.add (i * 4)).block, (ad.add (i * 4)).off + 3, none⟩ = false := (hbw.frozen (by rw [had.out, add_plain]; exact hBw)).trans (by rw [had.out, add_plain]; exact hfr.out _)
      replace hC3' := Aside0.mk hC3'
      replace hbw := Aside0.mk hbw
      clear ho hb2
      refine ⟨_, rfl, ?_⟩
      refine hK.out _ _ (pw_cell_below hbw.out f0) (fun hHeld => ?_)
      clear hK K
      refine norm_ (a' := ?_) ?_ ?_
      rotate_left
      · show Act.put _ (some 31) _ = _
        simp only [Act.put, List.setIfInBounds_toArray, List.set_cons_zero, List.set_cons_succ, i64_w, i32_w]
        rfl
      refine pure_ (i := 10) (N := some 32) (v := ?_) (a' := ?_) #[true, true, true, true, true, true, true, true, true, true, true, false, false] rfl rfl (by kernel_rfl) (fun _ _ _ h => h) (Or.inl ⟨by rfl, ?_⟩) ?_ ?_
      rotate_left
      · intro w'
        go_simp
        with_reducible rfl
      rotate_left
      · simp only [Act.put, List.setIfInBounds_toArray, List.set_cons_zero, List.set_cons_succ, i64_w, i32_w]
        rfl
      refine pure_ (i := 11) (N := some 33) (v := ?_) (a' := ?_) #[true, true, true, true, true, true, true, true, true, true, true, true, false] rfl rfl (by kernel_rfl) (fun _ _ _ h => h) (Or.inl ⟨by rfl, ?_⟩) ?_ ?_
      rotate_left
      · intro w'
        go_simp
        with_reducible rfl
      rotate_left
      · simp only [Act.put, List.setIfInBounds_toArray, List.set_cons_zero, List.set_cons_succ, i64_w, i32_w]
        rfl
      refine one_ (i := 12) (N := none) #[true, true, true, true, true, true, true, true, true, true, true, true, true] rfl rfl (by kernel_rfl) (by decide) (fun K hK => ?_)
      refine skip_ (w1 := ?_) (by rfl) rfl ?_ ?_
      rotate_left 1
      · go_simp
        first | rfl | (constructor <;> rfl)
      refine hK.out _ _ ?_ (fun hHeld => ?_)
      · have hw2 : w2.setCell ⟨(ad.add (i * 4)).block, (ad.add (i * 4)).off + 3, none⟩ (.slice A3' x.f3.length c3') = w2.setCell ⟨B, i * 4 + 3, none⟩ (.slice A3' x.f3.length c3') := by rw [had.out, add_plain]
        rw [hw2]
        exact (HX.out.on hbw.out |>.far hb2B.out _ _).cell rfl
      clear hK K
      refine done_ (by kernel_rfl) ?_
      clear q1' q2' q1 f0
      go_wp2
      go_roundw
      case rel =>
        have hw2 : w2.setCell ⟨(ad.add (i * 4)).block, (ad.add (i * 4)).off + 3, none⟩ (.slice A3' x.f3.length c3') = w2.setCell ⟨B, i * 4 + 3, none⟩ (.slice A3' x.f3.length c3') := by rw [had.out, add_plain]
        rw [hw2]
        refine ⟨i + 1, by go_num, by omega, ⟨?_⟩, ⟨?_⟩⟩
        · exact ((hV.out.below hbw.out).put hx.out HA.out (cs := _) hcl (fun i' u hu => pw_cell_below hbw.out (hcc.out i' u hu)) 3 (.slice A3' x.f3.length c3') (by decide) ((hSt.out.off (off_below hbw.out)).both hC3'.out |>.imp (fun w' h => kRoom_put h.1 hl3' h.2))).1
        · exact (HX.out.on hbw.out).far hb2B.out _ _
      case measure => simp [intOf]; omega
    have HQ := Aside0.mk (hV.out.done (fun k hk => by rcases hk with q | q <;> omega) (Kd.C_max G4.out))
    clear hV f0
    have f1 := HX.out.cell (j := 5) rfl
    go_wp2_with fail
    clear f1
    refine (rows_calls p.f3 A5 c5 w _ G5.out (HX.out).below (Sb w) (fun k hk => by have := (HX.out).size; rcases hk with q | q <;> (constructor <;> omega)) hp.h3).mono ?_
    rintro e w1 ⟨⟨A', c', rfl, hl', hC'⟩, hb1⟩
    have HX1 := (HX.out).on hb1
    have e0 := HX1.frozen 5
    have e1 := HX1.cell (j := 5) rfl
    have e2 := HX1.cell (j := 6) rfl
    have HX2 := HX1.set_ 5 (.slice A' p.f3.length c')
    have HQ2 := (((HQ.out).off (off_below hb1)).both hC').off (off_set (S := Sb w) w1 5 (.slice A' p.f3.length c') (Or.inl rfl))
    have hl5 := Aside0.mk hl'
    replace HX1 := Aside0.mk HX1
    replace HX := Aside0.mk HX2
    replace HQ := Aside0.mk HQ2
    clear HX2 HQ2 hC' hb1 hl'
    go_wp2_with fail
    clear e0 e1 e2
    -- the rows at cell 6
    refine (clone_Person (kPerson.K w) (fun x cs h => kPerson.K_one h) p.f4 A6 c6 _ (rows_old G6.out (HX.out).below) (few_mul hp.h4.len)).mono ?_
    rintro e w1 ⟨⟨v, rfl, ho⟩, hb1⟩
    have HX1 := (HX.out).on hb1
    obtain ⟨A', c', rfl, hl', hV⟩ := ownV_new kPerson (HQ.out) hb1 ho (fun B hB x cs h => st_oldK h HX1.below (fun k hk => by
      have := (HX.out).size
      rcases hk with (q | q) | q <;> omega))
    have e0 := HX1.frozen 6
    have e1 := HX1.cell (j := 6) rfl
    have HX2 := HX1.set_ 6 (.slice A' p.f4.length c')
    have hV2 := hV.box (g := w.heap.size) (Or.inl rfl) (by have := (HX.out).size; omega) 6 (.slice A' p.f4.length c')
    have hbs := (HX.out).size
    have HBS := Aside0.mk hbs
    replace HX1 := Aside0.mk HX1
    replace HX2 := Aside0.mk HX2
    replace hV2 := Aside0.mk hV2
    clear hV ho hb1
    go_wp2_with fail
    go_loopw [46] (fun v wr => ∃ i : Nat, v = .int .i64 i ∧ i ≤ p.f4.length ∧ Aside0 (OwnV kPerson 128 (Sb w) _ wr A' p.f4 _) ∧ Aside0 (Bx w wr _)) (fun v _ => p.f4.length - (intOf v).toNat)
    case atStart => exact ⟨0, rfl, by omega, hV2, HX2⟩
    case round =>
      clear HX1 HX2 hV2 e0 e1
      obtain ⟨i, rfl, hi, hV, HX⟩ := hrel
      have f0 := HX.out.cell (j := 6) rfl
      by_cases hlt : i < p.f4.length
      · obtain ⟨x, hx⟩ : ∃ x, p.f4[i]? = some x := ⟨_, List.getElem?_eq_getElem hlt⟩
        obtain ⟨B, cs, hA, hbB, hBw, hcl, hcc, hfr, hKx, hSt⟩ := hV.out.round hx
        obtain ⟨A3, c3, rfl, l3, g3⟩ := kPerson_open hKx
        obtain ⟨ad, had, hA'⟩ : ∃ ad : Addr, ad = ⟨B, 0, none⟩ ∧ A' = some ad := ⟨_, rfl, hA⟩
        subst hA'
        have q1 : wr.cell? ⟨(ad.add (i * 2)).block, (ad.add (i * 2)).off + 1, none⟩ = some (.slice A3 x.f1.length c3) := by rw [had, add_plain]; exact hcc 1 _ rfl
        have hb2B := Aside0.mk (Nat.le_trans HBS.out hbB)
        replace hx := Aside0.mk hx
        have HA := Aside0.mk hA
        replace had := Aside0.mk had
        replace hcc := Aside0.mk hcc
        replace hfr := Aside0.mk hfr
        replace hSt := Aside0.mk hSt
        have hC3 := Aside0.mk g3
        clear hKx g3 hA
        go_wp2
        refine start_ (n := 13) (S := (fun w' => w'.cell? ⟨w.heap.size, 6, none⟩ = some (.slice (some ad) p.f4.length c'))) (ds := []) #[false, false, false, false, false, false, false, false, false, false, false, false, false] (by kernel_rfl) rfl rfl (f0) (fun hHeld => ?_)
        refine pure_ (i := 0) (N := some 49) (v := ?_) (a' := ?_) #[true, false, false, false, false, false, false, false, false, false, false, false, false] rfl rfl (by kernel_rfl) (fun _ _ _ h => h) (Or.inl ⟨by rfl, ?_⟩) ?_ ?_
        rotate_left
        · intro w'
          go_simp
          with_reducible rfl
        rotate_left
        · simp only [Act.put, List.setIfInBounds_toArray, List.set_cons_zero, List.set_cons_succ, i64_w, i32_w]
          rfl
        refine take_ (i := 1) (N := some 50) (v := ?_) (a' := ?_) #[true, true, false, false, false, false, false, false, false, false, false, false, false] rfl rfl (by kernel_rfl) (fun _ _ _ h => h) (Or.inl ⟨by rfl, ?_⟩) hHeld ?_ ?_
        rotate_left
        · rintro w' s1
          go_simp
          with_reducible rfl
        rotate_left
        · simp only [Act.put, List.setIfInBounds_toArray, List.set_cons_zero, List.set_cons_succ, i64_w, i32_w]
          rfl
        refine pure_ (i := 2) (N := some 51) (v := ?_) (a' := ?_) #[true, true, true, false, false, false, false, false, false, false, false, false, false] rfl rfl (by kernel_rfl) (fun _ _ _ h => h) (Or.inl ⟨by rfl, ?_⟩) ?_ ?_
        rotate_left
        · intro w'
          go_simp
          with_reducible rfl
        rotate_left
        · simp only [Act.put, List.setIfInBounds_toArray, List.set_cons_zero, List.set_cons_succ, i64_w, i32_w]
          rfl
        refine pure_ (i := 3) (N := some 52) (v := ?_) (a' := ?_) #[true, true, true, true, false, false, false, false, false, false, false, false, false] rfl rfl (by kernel_rfl) (fun _ _ _ h => h) (Or.inl ⟨by rfl, ?_⟩) ?_ ?_
        rotate_left
        · intro w'
          go_simp
          with_reducible rfl
        rotate_left
        · simp only [Act.put, List.setIfInBounds_toArray, List.set_cons_zero, List.set_cons_succ, i64_w, i32_w]
          rfl
        refine take_ (i := 4) (N := some 53) (v := ?_) (a' := ?_) #[true, true, true, true, true, false, false, false, false, false, false, false, false] rfl rfl (by kernel_rfl) (fun _ _ _ h => h) (Or.inl ⟨by rfl, ?_⟩) hHeld ?_ ?_
        rotate_left
        · rintro w' s1
          go_simp
          with_reducible rfl
        rotate_left
        · simp only [Act.put, List.setIfInBounds_toArray, List.set_cons_zero, List.set_cons_succ, i64_w, i32_w]
          rfl
        refine pure_ (i := 5) (N := some 54) (v := ?_) (a' := ?_) #[true, true, true, true, true, true, false, false, false, false, false, false, false] rfl rfl (by kernel_rfl) (fun _ _ _ h => h) (Or.inl ⟨by rfl, ?_⟩) ?_ ?_
        rotate_left
        · intro w'
          go_simp
          with_reducible rfl
        rotate_left
        · simp only [Act.put, List.setIfInBounds_toArray, List.set_cons_zero, List.set_cons_succ, i64_w, i32_w]
          rfl
        refine pure_ (i := 6) (N := some 55) (v := ?_) (a' := ?_) #[true, true, true, true, true, true, true, false, false, false, false, false, false] rfl rfl (by kernel_rfl) (fun _ _ _ h => h) (Or.inl ⟨by rfl, ?_⟩) ?_ ?_
        rotate_left
        · intro w'
          go_simp
          with_reducible rfl
        rotate_left
        · simp only [Act.put, List.setIfInBounds_toArray, List.set_cons_zero, List.set_cons_succ, i64_w, i32_w]
          rfl
        refine pure_ (i := 7) (N := some 56) (v := ?_) (a' := ?_) #[true, true, true, true, true, true, true, true, false, false, false, false, false] rfl rfl (by kernel_rfl) (fun _ _ _ h => h) (Or.inl ⟨by rfl, ?_⟩) ?_ ?_
        rotate_left
        · intro w'
          go_simp
          with_reducible rfl
        rotate_left
        · simp only [Act.put, List.setIfInBounds_toArray, List.set_cons_zero, List.set_cons_succ, i64_w, i32_w]
          rfl
        refine one_ (i := 8) (N := some 57) #[true, true, true, true, true, true, true, true, true, false, false, false, false] rfl rfl (by kernel_rfl) (by decide) (fun K hK => ?_)
        refine value_ (w1 := ?_) (v := ?_) (by rfl) rfl ?_ ?_
        rotate_left 2
        · go_simp
          constructor
          · rfl
          · rfl
        refine hK.out _ _ f0 (fun hHeld => ?_)
        clear hK K
        refine norm_ (a' := ?_) ?_ ?_
        rotate_left
        · show Act.put _ (some 57) _ = _
          simp only [Act.put, List.setIfInBounds_toArray, List.set_cons_zero, List.set_cons_succ, i64_w, i32_w]
          rfl
        refine one_ (i := 9) (N := some 58) #[true, true, true, true, true, true, true, true, true, true, false, false, false] rfl rfl (by kernel_rfl) (by decide) (fun K hK => ?_)
        refine goes_ Tryz.func79 (by kernel_rfl) rfl #[.slice A3 x.f1.length c3] (by rfl) rfl rfl (by (try simp only [List.map_toArray, List.map_cons, List.map_nil]); first | done | rfl) ?_
        refine (clone_When ((kWhen).K wr) (fun x cs h => (kWhen).K_one h) x.f1 A3 c3 _ (rows_old hC3.out (below_drew (Below.refl _ _))) (few_mul (hp.h4.all x (List.mem_of_getElem? hx.out)).h1.len)).mono ?_
        rintro e w2 ⟨⟨v, rfl, ho⟩, hb2⟩
        have hbw : Below wr.heap.size wr w2 := below_then (below_drew (Below.refl _ _)) (Nat.le_refl _) hb2
        obtain ⟨A3', c3', rfl, hl3', hC3'⟩ := st_own (d := kWhen) (S := Or1 (Sb w) B) ho (fun k hk => by
          have := HX.out.size
          show k < wr.heap.size
          rcases hk with (q | q) | q <;> omega) kWhen_st (Kd.C_max hC3.out)
        have q1' : w2.cell? ⟨(ad.add (i * 2)).block, (ad.add (i * 2)).off + 1, none⟩ = some (.slice A3 x.f1.length c3) := pw_cell_below hbw q1
        have q2' : w2.frozen? ⟨(ad.add (i * 2)).block, (ad.add (i * 2)).off + 1, none⟩ = false := (hbw.frozen (by rw [had.out, add_plain]; exact hBw)).trans (by rw [had.out, add_plain]; exact hfr.out _)
        replace hC3' := Aside0.mk hC3'
        replace hbw := Aside0.mk hbw
        clear ho hb2
        refine ⟨_, rfl, ?_⟩
        refine hK.out _ _ (pw_cell_below hbw.out f0) (fun hHeld => ?_)
        clear hK K
        refine norm_ (a' := ?_) ?_ ?_
        rotate_left
        · show Act.put _ (some 58) _ = _
          simp only [Act.put, List.setIfInBounds_toArray, List.set_cons_zero, List.set_cons_succ, i64_w, i32_w]
          rfl
        refine pure_ (i := 10) (N := some 59) (v := ?_) (a' := ?_) #[true, true, true, true, true, true, true, true, true, true, true, false, false] rfl rfl (by kernel_rfl) (fun _ _ _ h => h) (Or.inl ⟨by rfl, ?_⟩) ?_ ?_
        rotate_left
        · intro w'
          go_simp
          with_reducible rfl
        rotate_left
        · simp only [Act.put, List.setIfInBounds_toArray, List.set_cons_zero, List.set_cons_succ, i64_w, i32_w]
          rfl
        refine pure_ (i := 11) (N := some 60) (v := ?_) (a' := ?_) #[true, true, true, true, true, true, true, true, true, true, true, true, false] rfl rfl (by kernel_rfl) (fun _ _ _ h => h) (Or.inl ⟨by rfl, ?_⟩) ?_ ?_
        rotate_left
        · intro w'
          go_simp
          with_reducible rfl
        rotate_left
        · simp only [Act.put, List.setIfInBounds_toArray, List.set_cons_zero, List.set_cons_succ, i64_w, i32_w]
          rfl
        refine one_ (i := 12) (N := none) #[true, true, true, true, true, true, true, true, true, true, true, true, true] rfl rfl (by kernel_rfl) (by decide) (fun K hK => ?_)
        refine skip_ (w1 := ?_) (by rfl) rfl ?_ ?_
        rotate_left 1
        · go_simp
          first | rfl | (constructor <;> rfl)
        refine hK.out _ _ ?_ (fun hHeld => ?_)
        · have hw2 : w2.setCell ⟨(ad.add (i * 2)).block, (ad.add (i * 2)).off + 1, none⟩ (.slice A3' x.f1.length c3') = w2.setCell ⟨B, i * 2 + 1, none⟩ (.slice A3' x.f1.length c3') := by rw [had.out, add_plain]
          rw [hw2]
          exact (HX.out.on hbw.out |>.far hb2B.out _ _).cell rfl
        clear hK K
        refine done_ (by kernel_rfl) ?_
        clear q1' q2' q1 f0
        go_wp2
        go_roundw
        case rel =>
          have hw2 : w2.setCell ⟨(ad.add (i * 2)).block, (ad.add (i * 2)).off + 1, none⟩ (.slice A3' x.f1.length c3') = w2.setCell ⟨B, i * 2 + 1, none⟩ (.slice A3' x.f1.length c3') := by rw [had.out, add_plain]
          rw [hw2]
          refine ⟨i + 1, by go_num, by omega, ⟨?_⟩, ⟨?_⟩⟩
          · exact ((hV.out.below hbw.out).put hx.out HA.out (cs := _) hcl (fun i' u hu => pw_cell_below hbw.out (hcc.out i' u hu)) 1 (.slice A3' x.f1.length c3') (by decide) ((hSt.out.off (off_below hbw.out)).both hC3'.out |>.imp (fun w' h => kPerson_put h.1 hl3' h.2))).1
          · exact (HX.out.on hbw.out).far hb2B.out _ _
        case measure => simp [intOf]; omega
      have HQ := Aside0.mk (hV.out.done (fun k hk => by rcases hk with q | q <;> omega) (Kd.C_max G6.out))
      clear hV f0
      have f1 := HX.out.cell (j := 7) rfl
      go_wp2_with fail
      clear f1
      -- the rows at cell 7
      refine (clone_Class (kClass.K w) (fun x cs h => kClass.K_one h) p.f5 A7 c7 _ (rows_old G7.out (HX.out).below) (few_mul hp.h5.len)).mono ?_
      rintro e w1 ⟨⟨v, rfl, ho⟩, hb1⟩
      have HX1 := (HX.out).on hb1
      obtain ⟨A', c', rfl, hl', hV⟩ := ownV_new kClass (HQ.out) hb1 ho (fun B hB x cs h => st_oldK h HX1.below (fun k hk => by
        have := (HX.out).size
        rcases hk with (q | q) | q <;> omega))
      have e0 := HX1.frozen 7
      have e1 := HX1.cell (j := 7) rfl
      have HX2 := HX1.set_ 7 (.slice A' p.f5.length c')
      have hV2 := hV.box (g := w.heap.size) (Or.inl rfl) (by have := (HX.out).size; omega) 7 (.slice A' p.f5.length c')
      have hbs := (HX.out).size
      have HBS := Aside0.mk hbs
      replace HX1 := Aside0.mk HX1
      replace HX2 := Aside0.mk HX2
      replace hV2 := Aside0.mk hV2
      clear hV ho hb1
      go_wp2_with fail
      go_loopw [69] (fun v wr => ∃ i : Nat, v = .int .i64 i ∧ i ≤ p.f5.length ∧ Aside0 (OwnV kClass 96 (Sb w) _ wr A' p.f5 _) ∧ Aside0 (Bx w wr _)) (fun v _ => p.f5.length - (intOf v).toNat)
      case atStart => exact ⟨0, rfl, by omega, hV2, HX2⟩
      case round =>
        clear HX1 HX2 hV2 e0 e1
        obtain ⟨i, rfl, hi, hV, HX⟩ := hrel
        have f0 := HX.out.cell (j := 7) rfl
        by_cases hlt : i < p.f5.length
        · obtain ⟨x, hx⟩ : ∃ x, p.f5[i]? = some x := ⟨_, List.getElem?_eq_getElem hlt⟩
          obtain ⟨B, cs, hA, hbB, hBw, hcl, hcc, hfr, hKx, hSt⟩ := hV.out.round hx
          obtain ⟨A3, c3, A4, c4, A5, c5, rfl, l3, g3, l4, g4, l5, g5⟩ := kClass_open hKx
          obtain ⟨ad, had, hA'⟩ : ∃ ad : Addr, ad = ⟨B, 0, none⟩ ∧ A' = some ad := ⟨_, rfl, hA⟩
          subst hA'
          have q3 : wr.cell? ⟨(ad.add (i * 7)).block, (ad.add (i * 7)).off + 3, none⟩ = some (.slice A3 x.f3.length c3) := by rw [had, add_plain]; exact hcc 3 _ rfl
          have q4 : wr.cell? ⟨(ad.add (i * 7)).block, (ad.add (i * 7)).off + 4, none⟩ = some (.slice A4 x.f4.length c4) := by rw [had, add_plain]; exact hcc 4 _ rfl
          have q5 : wr.cell? ⟨(ad.add (i * 7)).block, (ad.add (i * 7)).off + 5, none⟩ = some (.slice A5 x.f5.length c5) := by rw [had, add_plain]; exact hcc 5 _ rfl
          have hb2B := Aside0.mk (Nat.le_trans HBS.out hbB)
          replace hx := Aside0.mk hx
          have HA := Aside0.mk hA
          replace had := Aside0.mk had
          replace hcc := Aside0.mk hcc
          replace hfr := Aside0.mk hfr
          replace hSt := Aside0.mk hSt
          have hC3 := Aside0.mk g3
          have hC4 := Aside0.mk g4
          have hC5 := Aside0.mk g5
          have hfx := Aside0.mk (hp.h5.all x (List.mem_of_getElem? hx.out))
          clear hKx g3 g4 g5 hA
          go_wp2
          refine start_ (n := 27) (S := (fun w' => w'.cell? ⟨(ad.add (i * 7)).block, (ad.add (i * 7)).off + 3, none⟩ = some (.slice A3 x.f3.length c3) ∧ w'.cell? ⟨(ad.add (i * 7)).block, (ad.add (i * 7)).off + 4, none⟩ = some (.slice A4 x.f4.length c4) ∧ w'.cell? ⟨(ad.add (i * 7)).block, (ad.add (i * 7)).off + 5, none⟩ = some (.slice A5 x.f5.length c5))) (ds := [20, 23, 26]) #[false, false, false, false, false, false, false, false, false, false, false, false, false, false, false, false, false, false, false, false, false, false, false, false, false, false, false] (by kernel_rfl) rfl rfl (⟨q3, q4, q5⟩) (fun hHeld => ?_)
          refine pure_ (i := 0) (N := some 76) (v := ?_) (a' := ?_) #[true, false, false, false, false, false, false, false, false, false, false, false, false, false, false, false, false, false, false, false, false, false, false, false, false, false, false] rfl rfl (by kernel_rfl) (fun _ _ _ h => h) (Or.inl ⟨by rfl, ?_⟩) ?_ ?_
          rotate_left
          · intro w'
            go_simp
            with_reducible rfl
          rotate_left
          · simp only [Act.put, List.setIfInBounds_toArray, List.set_cons_zero, List.set_cons_succ, i64_w, i32_w]
            rfl
          refine pure_ (i := 1) (N := some 77) (v := ?_) (a' := ?_) #[true, true, false, false, false, false, false, false, false, false, false, false, false, false, false, false, false, false, false, false, false, false, false, false, false, false, false] rfl rfl (by kernel_rfl) (fun _ _ _ h => h) (Or.inl ⟨by rfl, ?_⟩) ?_ ?_
          rotate_left
          · intro w'
            go_simp
            with_reducible rfl
          rotate_left
          · simp only [Act.put, List.setIfInBounds_toArray, List.set_cons_zero, List.set_cons_succ, i64_w, i32_w]
            rfl
          refine pure_ (i := 2) (N := some 78) (v := ?_) (a' := ?_) #[true, true, true, false, false, false, false, false, false, false, false, false, false, false, false, false, false, false, false, false, false, false, false, false, false, false, false] rfl rfl (by kernel_rfl) (fun _ _ _ h => h) (Or.inl ⟨by rfl, ?_⟩) ?_ ?_
          rotate_left
          · intro w'
            go_simp
            with_reducible rfl
          rotate_left
          · simp only [Act.put, List.setIfInBounds_toArray, List.set_cons_zero, List.set_cons_succ, i64_w, i32_w]
            rfl
          refine pure_ (i := 3) (N := some 79) (v := ?_) (a' := ?_) #[true, true, true, true, false, false, false, false, false, false, false, false, false, false, false, false, false, false, false, false, false, false, false, false, false, false, false] rfl rfl (by kernel_rfl) (fun _ _ _ h => h) (Or.inl ⟨by rfl, ?_⟩) ?_ ?_
          rotate_left
          · intro w'
            go_simp
            with_reducible rfl
          rotate_left
          · simp only [Act.put, List.setIfInBounds_toArray, List.set_cons_zero, List.set_cons_succ, i64_w, i32_w]
            rfl
          refine pure_ (i := 4) (N := some 80) (v := ?_) (a' := ?_) #[true, true, true, true, true, false, false, false, false, false, false, false, false, false, false, false, false, false, false, false, false, false, false, false, false, false, false] rfl rfl (by kernel_rfl) (fun _ _ _ h => h) (Or.inl ⟨by rfl, ?_⟩) ?_ ?_
          rotate_left
          · intro w'
            go_simp
            with_reducible rfl
          rotate_left
          · simp only [Act.put, List.setIfInBounds_toArray, List.set_cons_zero, List.set_cons_succ, i64_w, i32_w]
            rfl
          refine pure_ (i := 5) (N := some 81) (v := ?_) (a' := ?_) #[true, true, true, true, true, true, false, false, false, false, false, false, false, false, false, false, false, false, false, false, false, false, false, false, false, false, false] rfl rfl (by kernel_rfl) (fun _ _ _ h => h) (Or.inl ⟨by rfl, ?_⟩) ?_ ?_
          rotate_left
          · intro w'
            go_simp
            with_reducible rfl
          rotate_left
          · simp only [Act.put, List.setIfInBounds_toArray, List.set_cons_zero, List.set_cons_succ, i64_w, i32_w]
            rfl
          refine pure_ (i := 8) (N := some 84) (v := ?_) (a' := ?_) #[true, true, true, true, true, true, false, false, true, false, false, false, false, false, false, false, false, false, false, false, false, false, false, false, false, false, false] rfl rfl (by kernel_rfl) (fun _ _ _ h => h) (Or.inl ⟨by rfl, ?_⟩) ?_ ?_
          rotate_left
          · intro w'
            go_simp
            with_reducible rfl
          rotate_left
          · simp only [Act.put, List.setIfInBounds_toArray, List.set_cons_zero, List.set_cons_succ, i64_w, i32_w]
            rfl
          refine pure_ (i := 9) (N := some 85) (v := ?_) (a' := ?_) #[true, true, true, true, true, true, false, false, true, true, false, false, false, false, false, false, false, false, false, false, false, false, false, false, false, false, false] rfl rfl (by kernel_rfl) (fun _ _ _ h => h) (Or.inl ⟨by rfl, ?_⟩) ?_ ?_
          rotate_left
          · intro w'
            go_simp
            with_reducible rfl
          rotate_left
          · simp only [Act.put, List.setIfInBounds_toArray, List.set_cons_zero, List.set_cons_succ, i64_w, i32_w]
            rfl
          refine pure_ (i := 10) (N := some 86) (v := ?_) (a' := ?_) #[true, true, true, true, true, true, false, false, true, true, true, false, false, false, false, false, false, false, false, false, false, false, false, false, false, false, false] rfl rfl (by kernel_rfl) (fun _ _ _ h => h) (Or.inl ⟨by rfl, ?_⟩) ?_ ?_
          rotate_left
          · intro w'
            go_simp
            with_reducible rfl
          rotate_left
          · simp only [Act.put, List.setIfInBounds_toArray, List.set_cons_zero, List.set_cons_succ, i64_w, i32_w]
            rfl
          refine pure_ (i := 13) (N := some 89) (v := ?_) (a' := ?_) #[true, true, true, true, true, true, false, false, true, true, true, false, false, true, false, false, false, false, false, false, false, false, false, false, false, false, false] rfl rfl (by kernel_rfl) (fun _ _ _ h => h) (Or.inl ⟨by rfl, ?_⟩) ?_ ?_
          rotate_left
          · intro w'
            go_simp
            with_reducible rfl
          rotate_left
          · simp only [Act.put, List.setIfInBounds_toArray, List.set_cons_zero, List.set_cons_succ, i64_w, i32_w]
            rfl
          refine pure_ (i := 14) (N := some 90) (v := ?_) (a' := ?_) #[true, true, true, true, true, true, false, false, true, true, true, false, false, true, true, false, false, false, false, false, false, false, false, false, false, false, false] rfl rfl (by kernel_rfl) (fun _ _ _ h => h) (Or.inl ⟨by rfl, ?_⟩) ?_ ?_
          rotate_left
          · intro w'
            go_simp
            with_reducible rfl
          rotate_left
          · simp only [Act.put, List.setIfInBounds_toArray, List.set_cons_zero, List.set_cons_succ, i64_w, i32_w]
            rfl
          refine pure_ (i := 15) (N := some 91) (v := ?_) (a' := ?_) #[true, true, true, true, true, true, false, false, true, true, true, false, false, true, true, true, false, false, false, false, false, false, false, false, false, false, false] rfl rfl (by kernel_rfl) (fun _ _ _ h => h) (Or.inl ⟨by rfl, ?_⟩) ?_ ?_
          rotate_left
          · intro w'
            go_simp
            with_reducible rfl
          rotate_left
          · simp only [Act.put, List.setIfInBounds_toArray, List.set_cons_zero, List.set_cons_succ, i64_w, i32_w]
            rfl
          refine take_ (i := 6) (N := some 82) (v := ?_) (a' := ?_) #[true, true, true, true, true, true, true, false, true, true, true, false, false, true, true, true, false, false, false, false, false, false, false, false, false, false, false] rfl rfl (by kernel_rfl) (fun _ _ _ h => h) (Or.inl ⟨by rfl, ?_⟩) hHeld ?_ ?_
          rotate_left
          · rintro w' ⟨s3, s4, s5⟩
            go_simp
            with_reducible rfl
          rotate_left
          · simp only [Act.put, List.setIfInBounds_toArray, List.set_cons_zero, List.set_cons_succ, i64_w, i32_w]
            rfl
          refine take_ (i := 11) (N := some 87) (v := ?_) (a' := ?_) #[true, true, true, true, true, true, true, false, true, true, true, true, false, true, true, true, false, false, false, false, false, false, false, false, false, false, false] rfl rfl (by kernel_rfl) (fun _ _ _ h => h) (Or.inl ⟨by rfl, ?_⟩) hHeld ?_ ?_
          rotate_left
          · rintro w' ⟨s3, s4, s5⟩
            go_simp
            with_reducible rfl
          rotate_left
          · simp only [Act.put, List.setIfInBounds_toArray, List.set_cons_zero, List.set_cons_succ, i64_w, i32_w]
            rfl
          refine take_ (i := 16) (N := some 92) (v := ?_) (a' := ?_) #[true, true, true, true, true, true, true, false, true, true, true, true, false, true, true, true, true, false, false, false, false, false, false, false, false, false, false] rfl rfl (by kernel_rfl) (fun _ _ _ h => h) (Or.inl ⟨by rfl, ?_⟩) hHeld ?_ ?_
          rotate_left
          · rintro w' ⟨s3, s4, s5⟩
            go_simp
            with_reducible rfl
          rotate_left
          · simp only [Act.put, List.setIfInBounds_toArray, List.set_cons_zero, List.set_cons_succ, i64_w, i32_w]
            rfl
          refine one_ (i := 7) (N := some 83) #[true, true, true, true, true, true, true, true, true, true, true, true, false, true, true, true, true, false, false, false, false, false, false, false, false, false, false] rfl rfl (by kernel_rfl) (by decide) (fun K hK => ?_)
          refine goes_ Tryz.func44 (by kernel_rfl) rfl #[.slice A3 x.f3.length c3] (by rfl) rfl rfl (by (try simp only [List.map_toArray, List.map_cons, List.map_nil]); first | done | rfl) ?_
          refine (clone_int ((Kd.int .i64).K wr) (fun x cs h => (Kd.int .i64).K_one h) x.f3 A3 c3 _ (rows_old hC3.out (below_drew (Below.refl _ _))) (few_mul hfx.out.h3.len)).mono ?_
          rintro e w3 ⟨⟨v, rfl, ho⟩, hb3⟩
          have hbw3 : Below wr.heap.size wr w3 := below_then (below_drew (Below.refl _ _)) (Nat.le_refl _) hb3
          obtain ⟨A3', c3', rfl, hl3', hC3'⟩ := st_own (d := Kd.int .i64) (S := Or1 (Sb w) B) ho (fun k hk => by
            have := HX.out.size
            show k < wr.heap.size
            rcases hk with (q | q) | q <;> omega) kint_st (Kd.C_max hC3.out)
          replace hC3' := Aside0.mk hC3'
          replace hb3 := Aside0.mk hb3
          clear ho
          replace hbw3 := Aside0.mk hbw3
          refine ⟨_, rfl, ?_⟩
          refine hK.out _ _ ⟨pw_cell_below hbw3.out q3, pw_cell_below hbw3.out q4, pw_cell_below hbw3.out q5⟩ (fun hHeld => ?_)
          clear hK K
          refine norm_ (a' := ?_) ?_ ?_
          rotate_left
          · show Act.put _ (some 83) _ = _
            simp only [Act.put, List.setIfInBounds_toArray, List.set_cons_zero, List.set_cons_succ, i64_w, i32_w]
            rfl
          refine one_ (i := 12) (N := some 88) #[true, true, true, true, true, true, true, true, true, true, true, true, true, true, true, true, true, false, false, false, false, false, false, false, false, false, false] rfl rfl (by kernel_rfl) (by decide) (fun K hK => ?_)
          refine goes_ Tryz.func83 (by kernel_rfl) rfl #[.slice A4 x.f4.length c4] (by rfl) rfl rfl (by (try simp only [List.map_toArray, List.map_cons, List.map_nil]); first | done | rfl) ?_
          refine (clone_Time ((kTime).K wr) (fun x cs h => (kTime).K_one h) x.f4 A4 c4 _ (rows_old hC4.out hbw3.out) (few_mul hfx.out.h4.len)).mono ?_
          rintro e w4 ⟨⟨v, rfl, ho⟩, hb4⟩
          have hbw4 : Below wr.heap.size wr w4 := below_then hbw3.out (hbw3.out.size) hb4
          obtain ⟨A4', c4', rfl, hl4', hC4'⟩ := st_own (d := kTime) (S := Or1 (Sb w) B) ho (fun k hk => by
            have := HX.out.size
            have h9 := hbw3.out.size
            rcases hk with (q | q) | q <;> omega) kTime_st (Kd.C_max hC4.out)
          replace hC4' := Aside0.mk hC4'
          replace hb4 := Aside0.mk hb4
          clear ho
          replace hbw4 := Aside0.mk hbw4
          refine ⟨_, rfl, ?_⟩
          refine hK.out _ _ ⟨pw_cell_below hbw4.out q3, pw_cell_below hbw4.out q4, pw_cell_below hbw4.out q5⟩ (fun hHeld => ?_)
          clear hK K
          refine norm_ (a' := ?_) ?_ ?_
          rotate_left
          · show Act.put _ (some 88) _ = _
            simp only [Act.put, List.setIfInBounds_toArray, List.set_cons_zero, List.set_cons_succ, i64_w, i32_w]
            rfl
          refine one_ (i := 17) (N := some 93) #[true, true, true, true, true, true, true, true, true, true, true, true, true, true, true, true, true, true, false, false, false, false, false, false, false, false, false] rfl rfl (by kernel_rfl) (by decide) (fun K hK => ?_)
          refine goes_ Tryz.func84 (by kernel_rfl) rfl #[.slice A5 x.f5.length c5] (by rfl) rfl rfl (by (try simp only [List.map_toArray, List.map_cons, List.map_nil]); first | done | rfl) ?_
          refine (clone_Place ((kPlace).K wr) (fun x cs h => (kPlace).K_one h) x.f5 A5 c5 _ (rows_old hC5.out hbw4.out) (few_mul hfx.out.h5.len)).mono ?_
          rintro e w5 ⟨⟨v, rfl, ho⟩, hb5⟩
          have hbw5 : Below wr.heap.size wr w5 := below_then hbw4.out (hbw4.out.size) hb5
          obtain ⟨A5', c5', rfl, hl5', hC5'⟩ := st_own (d := kPlace) (S := Or1 (Sb w) B) ho (fun k hk => by
            have := HX.out.size
            have h9 := hbw4.out.size
            rcases hk with (q | q) | q <;> omega) kPlace_st (Kd.C_max hC5.out)
          replace hC5' := Aside0.mk hC5'
          replace hb5 := Aside0.mk hb5
          clear ho
          have r3 : w5.cell? ⟨(ad.add (i * 7)).block, (ad.add (i * 7)).off + 3, none⟩ = some (.slice A3 x.f3.length c3) := pw_cell_below hbw5 q3
          have t3 : w5.frozen? ⟨(ad.add (i * 7)).block, (ad.add (i * 7)).off + 3, none⟩ = false := (hbw5.frozen (by rw [had.out, add_plain]; exact hBw)).trans (by rw [had.out, add_plain]; exact hfr.out _)
          have r4 : w5.cell? ⟨(ad.add (i * 7)).block, (ad.add (i * 7)).off + 4, none⟩ = some (.slice A4 x.f4.length c4) := pw_cell_below hbw5 q4
          have t4 : w5.frozen? ⟨(ad.add (i * 7)).block, (ad.add (i * 7)).off + 4, none⟩ = false := (hbw5.frozen (by rw [had.out, add_plain]; exact hBw)).trans (by rw [had.out, add_plain]; exact hfr.out _)
          have r5 : w5.cell? ⟨(ad.add (i * 7)).block, (ad.add (i * 7)).off + 5, none⟩ = some (.slice A5 x.f5.length c5) := pw_cell_below hbw5 q5
          have t5 : w5.frozen? ⟨(ad.add (i * 7)).block, (ad.add (i * 7)).off + 5, none⟩ = false := (hbw5.frozen (by rw [had.out, add_plain]; exact hBw)).trans (by rw [had.out, add_plain]; exact hfr.out _)
          replace hbw5 := Aside0.mk hbw5
          refine ⟨_, rfl, ?_⟩
          refine hK.out _ _ ⟨r3, r4, r5⟩ (fun hHeld => ?_)
          clear hK K
          refine norm_ (a' := ?_) ?_ ?_
          rotate_left
          · show Act.put _ (some 93) _ = _
            simp only [Act.put, List.setIfInBounds_toArray, List.set_cons_zero, List.set_cons_succ, i64_w, i32_w]
            rfl
          refine pure_ (i := 18) (N := some 94) (v := ?_) (a' := ?_) #[true, true, true, true, true, true, true, true, true, true, true, true, true, true, true, true, true, true, true, false, false, false, false, false, false, false, false] rfl rfl (by kernel_rfl) (fun _ _ _ h => h) (Or.inl ⟨by rfl, ?_⟩) ?_ ?_
          rotate_left
          · intro w'
            go_simp
            with_reducible rfl
          rotate_left
          · simp only [Act.put, List.setIfInBounds_toArray, List.set_cons_zero, List.set_cons_succ, i64_w, i32_w]
            rfl
          refine pure_ (i := 19) (N := some 95) (v := ?_) (a' := ?_) #[true, true, true, true, true, true, true, true, true, true, true, true, true, true, true, true, true, true, true, true, false, false, false, false, false, false, false] rfl rfl (by kernel_rfl) (fun _ _ _ h => h) (Or.inl ⟨by rfl, ?_⟩) ?_ ?_
          rotate_left
          · intro w'
            go_simp
            with_reducible rfl
          rotate_left
          · simp only [Act.put, List.setIfInBounds_toArray, List.set_cons_zero, List.set_cons_succ, i64_w, i32_w]
            rfl
          refine last_ (i := 20) (N := none) #[true, true, true, true, true, true, true, true, true, true, true, true, true, true, true, true, true, true, true, true, true, false, false, false, false, false, false] rfl rfl (by kernel_rfl) (by decide) (fun K hK => ?_)
          refine skip_ (w1 := ?_) (by rfl) rfl ?_ ?_
          rotate_left 1
          · go_simp
            first | rfl | (constructor <;> rfl)
          refine hK.out _ _ ?_
          clear hK K
          refine pure_ (i := 21) (N := some 96) (v := ?_) (a' := ?_) #[true, true, true, true, true, true, true, true, true, true, true, true, true, true, true, true, true, true, true, true, true, true, false, false, false, false, false] rfl rfl (by kernel_rfl) (fun _ _ _ h => h) (Or.inl ⟨by rfl, ?_⟩) ?_ ?_
          rotate_left
          · intro w'
            go_simp
            with_reducible rfl
          rotate_left
          · simp only [Act.put, List.setIfInBounds_toArray, List.set_cons_zero, List.set_cons_succ, i64_w, i32_w]
            rfl
          refine pure_ (i := 22) (N := some 97) (v := ?_) (a' := ?_) #[true, true, true, true, true, true, true, true, true, true, true, true, true, true, true, true, true, true, true, true, true, true, true, false, false, false, false] rfl rfl (by kernel_rfl) (fun _ _ _ h => h) (Or.inl ⟨by rfl, ?_⟩) ?_ ?_
          rotate_left
          · intro w'
            go_simp
            with_reducible rfl
          rotate_left
          · simp only [Act.put, List.setIfInBounds_toArray, List.set_cons_zero, List.set_cons_succ, i64_w, i32_w]
            rfl
          refine last_ (i := 23) (N := none) #[true, true, true, true, true, true, true, true, true, true, true, true, true, true, true, true, true, true, true, true, true, true, true, true, false, false, false] rfl rfl (by kernel_rfl) (by decide) (fun K hK => ?_)
          refine skip_ (w1 := ?_) (by rfl) rfl ?_ ?_
          rotate_left 1
          · go_simp
            first | rfl | (constructor <;> rfl)
          refine hK.out _ _ ?_
          clear hK K
          refine pure_ (i := 24) (N := some 98) (v := ?_) (a' := ?_) #[true, true, true, true, true, true, true, true, true, true, true, true, true, true, true, true, true, true, true, true, true, true, true, true, true, false, false] rfl rfl (by kernel_rfl) (fun _ _ _ h => h) (Or.inl ⟨by rfl, ?_⟩) ?_ ?_
          rotate_left
          · intro w'
            go_simp
            with_reducible rfl
          rotate_left
          · simp only [Act.put, List.setIfInBounds_toArray, List.set_cons_zero, List.set_cons_succ, i64_w, i32_w]
            rfl
          refine pure_ (i := 25) (N := some 99) (v := ?_) (a' := ?_) #[true, true, true, true, true, true, true, true, true, true, true, true, true, true, true, true, true, true, true, true, true, true, true, true, true, true, false] rfl rfl (by kernel_rfl) (fun _ _ _ h => h) (Or.inl ⟨by rfl, ?_⟩) ?_ ?_
          rotate_left
          · intro w'
            go_simp
            with_reducible rfl
          rotate_left
          · simp only [Act.put, List.setIfInBounds_toArray, List.set_cons_zero, List.set_cons_succ, i64_w, i32_w]
            rfl
          refine last_ (i := 26) (N := none) #[true, true, true, true, true, true, true, true, true, true, true, true, true, true, true, true, true, true, true, true, true, true, true, true, true, true, true] rfl rfl (by kernel_rfl) (by decide) (fun K hK => ?_)
          refine skip_ (w1 := ?_) (by rfl) rfl ?_ ?_
          rotate_left 1
          · go_simp
            first | rfl | (constructor <;> rfl)
          refine hK.out _ _ ?_
          clear hK K
          refine done_ (by kernel_rfl) ?_
          clear r3 r4 r5 t3 t4 t5 q3 q4 q5 f0
          go_wp2
          go_roundw
          case rel =>
            have hw2 : ((w5.setCell ⟨(ad.add (i * 7)).block, (ad.add (i * 7)).off + 3, none⟩ (.slice A3' x.f3.length c3')).setCell ⟨(ad.add (i * 7)).block, (ad.add (i * 7)).off + 4, none⟩ (.slice A4' x.f4.length c4')).setCell ⟨(ad.add (i * 7)).block, (ad.add (i * 7)).off + 5, none⟩ (.slice A5' x.f5.length c5') = ((w5.setCell ⟨B, i * kClass.sz + 3, none⟩ (.slice A3' x.f3.length c3')).setCell ⟨B, i * kClass.sz + 4, none⟩ (.slice A4' x.f4.length c4')).setCell ⟨B, i * kClass.sz + 5, none⟩ (.slice A5' x.f5.length c5') := by rw [had.out, add_plain]; rfl
            rw [hw2]
            have s0 := hSt.out.off (off_below hbw5.out)
            have s3 := (hC3'.out.off (off_below hb4.out)).off (off_below hb5.out)
            have s4 := hC4'.out.off (off_below hb5.out)
            have s5 := hC5'.out
            have k3 := (s0.both s3).imp (fun w' h => kClass_put3 h.1 hl3' h.2)
            have P3 := (hV.out.below hbw5.out).put hx.out HA.out hcl (fun i' u hu => pw_cell_below hbw5.out (hcc.out i' u hu)) 3 (.slice A3' x.f3.length c3') (by decide) k3
            have o3 : Off (Or1 (Sb w) B) w5 (w5.setCell ⟨B, i * kClass.sz + 3, none⟩ (.slice A3' x.f3.length c3')) := off_set w5 _ _ (Or.inr rfl)
            have k4 := ((k3.off o3).both (s4.off o3)).imp (fun w' h => kClass_put4 h.1 hl4' h.2)
            have P4 := P3.1.put hx.out HA.out (by simpa using hcl) P3.2 4 (.slice A4' x.f4.length c4') (by decide) k4
            have o4 : Off (Or1 (Sb w) B) (w5.setCell ⟨B, i * kClass.sz + 3, none⟩ (.slice A3' x.f3.length c3')) ((w5.setCell ⟨B, i * kClass.sz + 3, none⟩ (.slice A3' x.f3.length c3')).setCell ⟨B, i * kClass.sz + 4, none⟩ (.slice A4' x.f4.length c4')) := off_set _ _ _ (Or.inr rfl)
            have k5 := ((k4.off o4).both ((s5.off o3).off o4)).imp (fun w' h => kClass_put5 h.1 hl5' h.2)
            have P5 := P4.1.put hx.out HA.out (by simpa using hcl) P4.2 5 (.slice A5' x.f5.length c5') (by decide) k5
            exact ⟨i + 1, by go_num, by omega, ⟨P5.1⟩, ⟨(((HX.out.on hbw5.out).far hb2B.out _ _).far hb2B.out _ _).far hb2B.out _ _⟩⟩
          case measure => simp [intOf]; omega
        have HQ := Aside0.mk (hV.out.done (fun k hk => by rcases hk with q | q <;> omega) (Kd.C_max G7.out))
        clear hV f0
        have f1 := HX.out.cell (j := 8) rfl
        go_wp2_with fail
        clear f1
        -- the rows at cell 8
        refine (clone_Course (kCourse.K w) (fun x cs h => kCourse.K_one h) p.f6 A8 c8 _ (rows_old G8.out (HX.out).below) (few_mul hp.h6.len)).mono ?_
        rintro e w1 ⟨⟨v, rfl, ho⟩, hb1⟩
        have HX1 := (HX.out).on hb1
        obtain ⟨A', c', rfl, hl', hV⟩ := ownV_new kCourse (HQ.out) hb1 ho (fun B hB x cs h => st_oldK h HX1.below (fun k hk => by
          have := (HX.out).size
          rcases hk with (q | q) | q <;> omega))
        have e0 := HX1.frozen 8
        have e1 := HX1.cell (j := 8) rfl
        have HX2 := HX1.set_ 8 (.slice A' p.f6.length c')
        have hV2 := hV.box (g := w.heap.size) (Or.inl rfl) (by have := (HX.out).size; omega) 8 (.slice A' p.f6.length c')
        have hRest := Aside0.mk ((rest_of kCourse ho).below (Below.refl _ _) |>.on (w1 := w1.setCell ⟨w.heap.size, 8, none⟩ (.slice A' p.f6.length c')) (fun hp B hB => Below.heap_setCell _ _ _ _ (by
          obtain ⟨B', hB', hle, _⟩ := hV.2 hp
          rw [hB] at hB'
          injection hB' with hB'
          injection hB' with hB'
          have := (HX.out).size
          show B ≠ w.heap.size
          omega)))
        have hbs := (HX.out).size
        have HBS := Aside0.mk hbs
        replace HX1 := Aside0.mk HX1
        replace HX2 := Aside0.mk HX2
        replace hV2 := Aside0.mk hV2
        clear hV ho hb1
        go_wp2_with fail
        go_loopw [108] (fun v wr => ∃ i : Nat, v = .int .i64 i ∧ i ≤ p.f6.length ∧ Aside0 (OwnV kCourse 136 (Sb w) _ wr A' p.f6 _) ∧ Aside0 (Bx w wr _) ∧ Aside0 (Rest kCourse w wr A' i p.f6)) (fun v _ => p.f6.length - (intOf v).toNat)
        case atStart => exact ⟨0, rfl, by omega, hV2, HX2, hRest⟩
        case round =>
          clear HX1 HX2 hV2 e0 e1 hRest
          obtain ⟨i, rfl, hi, hV, HX, hRs⟩ := hrel
          have f0 := HX.out.cell (j := 8) rfl
          by_cases hlt : i < p.f6.length
          · obtain ⟨x, hx⟩ : ∃ x, p.f6[i]? = some x := ⟨_, List.getElem?_eq_getElem hlt⟩
            obtain ⟨B, cs, hA, hbB, hBw, hcl, hcc, hfr, hKx, hSt⟩ := hV.out.round hx
            clear hcl hcc hKx hSt
            obtain ⟨hO, hQo, hbB'⟩ := hV.out.parts hx hA
            obtain ⟨cs0, hK0, hcc⟩ := hRs.out B hA i x (Nat.le_refl _) hx
            obtain ⟨A1, c1, rfl, l1, g1⟩ := kCourse_open hK0
            obtain ⟨ad, had, hA'⟩ : ∃ ad : Addr, ad = ⟨B, 0, none⟩ ∧ A' = some ad := ⟨_, rfl, hA⟩
            subst hA'
            have q1 : wr.cell? ⟨(ad.add (i * 2)).block, (ad.add (i * 2)).off + 1, none⟩ = some (.slice A1 x.f1.length c1) := by rw [had, add_plain]; exact hcc 1 _ rfl
            have q2 : wr.frozen? ⟨(ad.add (i * 2)).block, (ad.add (i * 2)).off + 1, none⟩ = false := by rw [had, add_plain]; exact hfr _
            have hb2B := Aside0.mk (Nat.le_trans HBS.out hbB)
            replace hx := Aside0.mk hx
            have HA := Aside0.mk hA
            replace had := Aside0.mk had
            replace hcc := Aside0.mk hcc
            replace hfr := Aside0.mk hfr
            replace hO := Aside0.mk hO
            replace hQo := Aside0.mk hQo
            have hG1 := Aside0.mk g1
            have hwx := Aside0.mk (hp.h6.all x (List.mem_of_getElem? hx.out))
            have hmx1 := Kd.C_max g1
            clear hK0 g1 hA
            obtain ⟨b2, hb2e⟩ : ∃ b2, b2 = wr.heap.size := ⟨_, rfl⟩
            replace hb2e := Aside0.mk hb2e
            have hSz := Aside0.mk HX.out.size
            go_wp2_with fail
            refine (clone_Way (kWay.K w) (fun x cs h => kWay.K_one h) x.f1 A1 c1 wr (rows_old hG1.out HX.out.below) (few_mul hwx.out.h1.len)).mono ?_
            rintro e w2 ⟨⟨v, rfl, ho2⟩, hb2⟩
            have HX2 := HX.out.on hb2
            obtain ⟨A2, c2, rfl, hl2, hV2⟩ := ownV_new (S := Or1 (Sb w) B) (Q := fun _ => True) kWay (fun _ _ => trivial) hb2 ho2 (fun B2 hB2 y cs h => st_oldK h HX2.below (fun k hk => by
              have := hSz.out
              have := hb2B.out
              rcases hk with ((q | q) | q) | q <;> omega))
            rw [← hb2e.out] at hV2
            have hR2 := rest_of kWay ho2
            have q1' : w2.cell? ⟨(ad.add (i * 2)).block, (ad.add (i * 2)).off + 1, none⟩ = some (.slice A1 x.f1.length c1) := pw_cell_below hb2 q1
            have q2' : w2.frozen? ⟨(ad.add (i * 2)).block, (ad.add (i * 2)).off + 1, none⟩ = false := (hb2.frozen (by rw [had.out, add_plain]; exact hBw)).trans q2
            have hS2 : ∀ k, Or1 (fun k => Sb w k ∨ b2 ≤ k) B k → Or1 (Sb w) B k ∨ wr.heap.size ≤ k := fun k hk => by
              rw [← hb2e.out]
              rcases hk with (q | q) | q
              · exact .inl (.inl q)
              · exact .inr q
              · exact .inl (.inr q)
            have hw3 : w2.setCell ⟨(ad.add (i * 2)).block, (ad.add (i * 2)).off + 1, none⟩ (.slice A2 x.f1.length c2) = w2.setCell ⟨B, i * kCourse.sz + 1, none⟩ (.slice A2 x.f1.length c2) := by rw [had.out, add_plain]; rfl
            have hHole := Aside0.mk (hO.out.hole (S' := Or1 (fun k => Sb w k ∨ b2 ≤ k) B) hb2 hS2 (Or.inr rfl) (i := i) (cs := [.string x.f0, .slice A1 x.f1.length c1]) rfl (fun k u hu => pw_cell_below hb2 (hcc.out k u hu)) 1 (.slice A2 x.f1.length c2) (by decide))
            have hQ2 := Aside0.mk ((hQo.out.fresh (off_below hb2) hS2).off (off_set (S := Or1 (fun k => Sb w k ∨ b2 ≤ k) B) w2 (B := B) (i * kCourse.sz + 1) (.slice A2 x.f1.length c2) (Or.inr rfl)))
            have hRs2 := Aside0.mk ((hRs.out.below hb2).put HA.out 1 (by decide) (.slice A2 x.f1.length c2))
            have HX3 := Aside0.mk (HX2.far hb2B.out (i * kCourse.sz + 1) (.slice A2 x.f1.length c2))
            have hI := Aside0.mk (hV2.box (g := B) (Or.inr rfl) (by rw [hb2e.out]; exact hBw) (i * kCourse.sz + 1) (.slice A2 x.f1.length c2))
            have hRi := Aside0.mk (hR2.on (w1 := w2.setCell ⟨B, i * kCourse.sz + 1, none⟩ (.slice A2 x.f1.length c2)) (fun hp B' hB' => Below.heap_setCell _ _ _ _ (by
              obtain ⟨B'', hB'', hle, _⟩ := hV2.2 hp
              rw [hB'] at hB''
              injection hB'' with hB''
              injection hB'' with hB''
              rw [hb2e.out] at hle
              show B' ≠ B
              omega)))
            rw [← hw3] at hHole hQ2 hRs2 HX3 hI hRi
            have u1 : (w2.setCell ⟨(ad.add (i * 2)).block, (ad.add (i * 2)).off + 1, none⟩ (.slice A2 x.f1.length c2)).cell? ⟨(ad.add (i * 2)).block, (ad.add (i * 2)).off + 1, none⟩ = some (.slice A2 x.f1.length c2) := by
              have := hHole.out.cell (k := 1) rfl
              rw [had.out, add_plain]
              rw [had.out, add_plain] at this
              exact this
            clear hw3 hS2 hR2 hV2 HX2 ho2
            replace hb2 := Aside0.mk hb2
            go_wp2_with fail
            go_loopw [128] (fun v wz => ∃ k : Nat, v = .int .i64 k ∧ k ≤ x.f1.length ∧ Aside0 (OwnHole kCourse 136 (Or1 (fun k => Sb w k ∨ b2 ≤ k) B) wz B p.f6 i [.string x.f0, .slice A2 x.f1.length c2]) ∧ Aside0 (St (Or1 (fun k => Sb w k ∨ b2 ≤ k) B) wz _) ∧ Aside0 (Rest kCourse w wz (some ad) (i + 1) p.f6) ∧ Aside0 (Bx w wz _) ∧ Aside0 (OwnV kWay 138 (Or1 (Sb w) B) b2 wz A2 x.f1 (fun _ => True)) ∧ Aside0 (Rest kWay w wz A2 k x.f1)) (fun v _ => x.f1.length - (intOf v).toNat)
            case atStart => exact ⟨0, rfl, by omega, hHole, hQ2, hRs2, HX3, hI, hRi⟩
            case round =>
              clear hHole hQ2 hRs2 HX3 hI hRi u1 q1 q1' q2' q2
              obtain ⟨k, rfl, hk, hHole, hQ2, hRs2, HX3, hI, hRi⟩ := hrel
              have u1 : wr.cell? ⟨(ad.add (i * 2)).block, (ad.add (i * 2)).off + 1, none⟩ = some (.slice A2 x.f1.length c2) := by
                rw [had.out, add_plain]
                exact hHole.out.cell (k := 1) rfl
              by_cases hkt : k < x.f1.length
              · obtain ⟨y, hy⟩ : ∃ y, x.f1[k]? = some y := ⟨_, List.getElem?_eq_getElem hkt⟩
                obtain ⟨B2, cs2, hA2, hbB2, hB2w, hcl2, hcc2, hfr2, hK2, hSt2⟩ := hI.out.round hy
                clear hcl2 hcc2 hK2 hSt2
                obtain ⟨cs0, hK0, hcc2⟩ := hRi.out B2 hA2 k y (Nat.le_refl _) hy
                obtain ⟨Ay, cy, rfl, ly, gy⟩ := kWay_open hK0
                obtain ⟨bd, hbd, hA2'⟩ : ∃ bd : Addr, bd = ⟨B2, 0, none⟩ ∧ A2 = some bd := ⟨_, rfl, hA2⟩
                subst hA2'
                have v1 : wr.cell? (bd.add k) = some (.slice Ay y.f0.length cy) := by
                  have h10 := hcc2 0 _ rfl
                  rw [show k * kWay.sz + 0 = k from Nat.mul_one k] at h10
                  rw [hbd, add_plain]
                  exact h10
                have v2 : wr.frozen? (bd.add k) = false := by rw [hbd, add_plain]; exact hfr2 _
                have hFy := Aside0.mk (hwx.out.h1.all y (List.mem_of_getElem? hy))
                replace hy := Aside0.mk hy
                replace hA2 := Aside0.mk hA2
                replace hbd := Aside0.mk hbd
                replace hcc2 := Aside0.mk hcc2
                have hGy := Aside0.mk gy
                clear hK0 gy hfr2
                go_wp2
                refine start_ (n := 17) (S := (fun w' => w'.cell? ⟨(ad.add (i * 2)).block, (ad.add (i * 2)).off + 1, none⟩ = some (.slice (some bd) x.f1.length c2) ∧ w'.cell? (bd.add k) = some (.slice Ay y.f0.length cy))) (ds := [16]) #[false, false, false, false, false, false, false, false, false, false, false, false, false, false, false, false, false] (by kernel_rfl) rfl rfl (⟨u1, v1⟩) (fun hHeld => ?_)
                refine pure_ (i := 0) (N := some 131) (v := ?_) (a' := ?_) #[true, false, false, false, false, false, false, false, false, false, false, false, false, false, false, false, false] rfl rfl (by kernel_rfl) (fun _ _ _ h => h) (Or.inl ⟨by rfl, ?_⟩) ?_ ?_
                rotate_left
                · intro w'
                  go_simp
                  with_reducible rfl
                rotate_left
                · simp only [Act.put, List.setIfInBounds_toArray, List.set_cons_zero, List.set_cons_succ, i64_w, i32_w]
                  rfl
                refine pure_ (i := 1) (N := some 132) (v := ?_) (a' := ?_) #[true, true, false, false, false, false, false, false, false, false, false, false, false, false, false, false, false] rfl rfl (by kernel_rfl) (fun _ _ _ h => h) (Or.inl ⟨by rfl, ?_⟩) ?_ ?_
                rotate_left
                · intro w'
                  go_simp
                  with_reducible rfl
                rotate_left
                · simp only [Act.put, List.setIfInBounds_toArray, List.set_cons_zero, List.set_cons_succ, i64_w, i32_w]
                  rfl
                refine pure_ (i := 2) (N := some 133) (v := ?_) (a' := ?_) #[true, true, true, false, false, false, false, false, false, false, false, false, false, false, false, false, false] rfl rfl (by kernel_rfl) (fun _ _ _ h => h) (Or.inl ⟨by rfl, ?_⟩) ?_ ?_
                rotate_left
                · intro w'
                  go_simp
                  with_reducible rfl
                rotate_left
                · simp only [Act.put, List.setIfInBounds_toArray, List.set_cons_zero, List.set_cons_succ, i64_w, i32_w]
                  rfl
                refine take_ (i := 3) (N := some 134) (v := ?_) (a' := ?_) #[true, true, true, true, false, false, false, false, false, false, false, false, false, false, false, false, false] rfl rfl (by kernel_rfl) (fun _ _ _ h => h) (Or.inl ⟨by rfl, ?_⟩) hHeld ?_ ?_
                rotate_left
                · rintro w' ⟨s1, s2⟩
                  go_simp
                  with_reducible rfl
                rotate_left
                · simp only [Act.put, List.setIfInBounds_toArray, List.set_cons_zero, List.set_cons_succ, i64_w, i32_w]
                  rfl
                refine pure_ (i := 4) (N := some 135) (v := ?_) (a' := ?_) #[true, true, true, true, true, false, false, false, false, false, false, false, false, false, false, false, false] rfl rfl (by kernel_rfl) (fun _ _ _ h => h) (Or.inl ⟨by rfl, ?_⟩) ?_ ?_
                rotate_left
                · intro w'
                  go_simp
                  with_reducible rfl
                rotate_left
                · simp only [Act.put, List.setIfInBounds_toArray, List.set_cons_zero, List.set_cons_succ, i64_w, i32_w]
                  rfl
                refine pure_ (i := 5) (N := some 136) (v := ?_) (a' := ?_) #[true, true, true, true, true, true, false, false, false, false, false, false, false, false, false, false, false] rfl rfl (by kernel_rfl) (fun _ _ _ h => h) (Or.inl ⟨by rfl, ?_⟩) ?_ ?_
                rotate_left
                · intro w'
                  go_simp
                  with_reducible rfl
                rotate_left
                · simp only [Act.put, List.setIfInBounds_toArray, List.set_cons_zero, List.set_cons_succ, i64_w, i32_w]
                  rfl
                refine pure_ (i := 6) (N := some 137) (v := ?_) (a' := ?_) #[true, true, true, true, true, true, true, false, false, false, false, false, false, false, false, false, false] rfl rfl (by kernel_rfl) (fun _ _ _ h => h) (Or.inl ⟨by rfl, ?_⟩) ?_ ?_
                rotate_left
                · intro w'
                  go_simp
                  with_reducible rfl
                rotate_left
                · simp only [Act.put, List.setIfInBounds_toArray, List.set_cons_zero, List.set_cons_succ, i64_w, i32_w]
                  rfl
                refine pure_ (i := 7) (N := some 138) (v := ?_) (a' := ?_) #[true, true, true, true, true, true, true, true, false, false, false, false, false, false, false, false, false] rfl rfl (by kernel_rfl) (fun _ _ _ h => h) (Or.inl ⟨by rfl, ?_⟩) ?_ ?_
                rotate_left
                · intro w'
                  go_simp
                  with_reducible rfl
                rotate_left
                · simp only [Act.put, List.setIfInBounds_toArray, List.set_cons_zero, List.set_cons_succ, i64_w, i32_w]
                  rfl
                refine take_ (i := 8) (N := some 139) (v := ?_) (a' := ?_) #[true, true, true, true, true, true, true, true, true, false, false, false, false, false, false, false, false] rfl rfl (by kernel_rfl) (fun _ _ _ h => h) (Or.inl ⟨by rfl, ?_⟩) hHeld ?_ ?_
                rotate_left
                · rintro w' ⟨s1, s2⟩
                  go_simp
                  with_reducible rfl
                rotate_left
                · simp only [Act.put, List.setIfInBounds_toArray, List.set_cons_zero, List.set_cons_succ, i64_w, i32_w]
                  rfl
                refine pure_ (i := 9) (N := some 140) (v := ?_) (a' := ?_) #[true, true, true, true, true, true, true, true, true, true, false, false, false, false, false, false, false] rfl rfl (by kernel_rfl) (fun _ _ _ h => h) (Or.inl ⟨by rfl, ?_⟩) ?_ ?_
                rotate_left
                · intro w'
                  go_simp
                  with_reducible rfl
                rotate_left
                · simp only [Act.put, List.setIfInBounds_toArray, List.set_cons_zero, List.set_cons_succ, i64_w, i32_w]
                  rfl
                refine pure_ (i := 10) (N := some 141) (v := ?_) (a' := ?_) #[true, true, true, true, true, true, true, true, true, true, true, false, false, false, false, false, false] rfl rfl (by kernel_rfl) (fun _ _ _ h => h) (Or.inl ⟨by rfl, ?_⟩) ?_ ?_
                rotate_left
                · intro w'
                  go_simp
                  with_reducible rfl
                rotate_left
                · simp only [Act.put, List.setIfInBounds_toArray, List.set_cons_zero, List.set_cons_succ, i64_w, i32_w]
                  rfl
                refine pure_ (i := 11) (N := some 142) (v := ?_) (a' := ?_) #[true, true, true, true, true, true, true, true, true, true, true, true, false, false, false, false, false] rfl rfl (by kernel_rfl) (fun _ _ _ h => h) (Or.inl ⟨by rfl, ?_⟩) ?_ ?_
                rotate_left
                · intro w'
                  go_simp
                  with_reducible rfl
                rotate_left
                · simp only [Act.put, List.setIfInBounds_toArray, List.set_cons_zero, List.set_cons_succ, i64_w, i32_w]
                  rfl
                refine take_ (i := 12) (N := some 143) (v := ?_) (a' := ?_) #[true, true, true, true, true, true, true, true, true, true, true, true, true, false, false, false, false] rfl rfl (by kernel_rfl) (fun _ _ _ h => h) (Or.inl ⟨by rfl, ?_⟩) hHeld ?_ ?_
                rotate_left
                · rintro w' ⟨s1, s2⟩
                  go_simp
                  with_reducible rfl
                rotate_left
                · simp only [Act.put, List.setIfInBounds_toArray, List.set_cons_zero, List.set_cons_succ, i64_w, i32_w]
                  rfl
                refine one_ (i := 13) (N := some 144) #[true, true, true, true, true, true, true, true, true, true, true, true, true, true, false, false, false] rfl rfl (by kernel_rfl) (by decide) (fun K hK => ?_)
                refine goes_ Tryz.func80 (by kernel_rfl) rfl #[.slice Ay y.f0.length cy] (by rfl) rfl rfl (by (try simp only [List.map_toArray, List.map_cons, List.map_nil]); first | done | rfl) ?_
                refine (rows_calls y.f0 Ay cy w _ hGy.out (below_drew HX3.out.below) (Or1 (Or1 (Sb w) B) B2) (fun k hk => by
                  have h1 := HX3.out.size
                  have h2 := hb2B.out
                  have h3 := hHole.out.lt
                  have h4 := hb2e.out
                  have h5 := hSz.out
                  show w.heap.size ≤ k ∧ k < wr.heap.size
                  rcases hk with ((q | q) | q) | q <;> omega) hFy.out.h0).mono ?_
                rintro e w3 ⟨⟨Az, cz, rfl, hlz, hCz⟩, hb3⟩
                have hbw : Below wr.heap.size wr w3 := below_then (below_drew (Below.refl _ _)) (Nat.le_refl _) hb3
                have v1' : w3.cell? (bd.add k) = some (.slice Ay y.f0.length cy) := pw_cell_below hbw v1
                have v2' : w3.frozen? (bd.add k) = false := (hbw.frozen (by rw [hbd.out, add_plain]; exact hB2w)).trans v2
                have u1' := pw_cell_below hbw u1
                replace hCz := Aside0.mk hCz
                replace hbw := Aside0.mk hbw
                clear hb3
                refine ⟨_, rfl, ?_⟩
                refine hK.out _ _ ⟨u1', v1'⟩ (fun hHeld => ?_)
                clear hK K
                refine norm_ (a' := ?_) ?_ ?_
                rotate_left
                · show Act.put _ (some 144) _ = _
                  simp only [Act.put, List.setIfInBounds_toArray, List.set_cons_zero, List.set_cons_succ, i64_w, i32_w]
                  rfl
                refine pure_ (i := 14) (N := some 145) (v := ?_) (a' := ?_) #[true, true, true, true, true, true, true, true, true, true, true, true, true, true, true, false, false] rfl rfl (by kernel_rfl) (fun _ _ _ h => h) (Or.inl ⟨by rfl, ?_⟩) ?_ ?_
                rotate_left
                · intro w'
                  go_simp
                  with_reducible rfl
                rotate_left
                · simp only [Act.put, List.setIfInBounds_toArray, List.set_cons_zero, List.set_cons_succ, i64_w, i32_w]
                  rfl
                refine pure_ (i := 15) (N := some 146) (v := ?_) (a' := ?_) #[true, true, true, true, true, true, true, true, true, true, true, true, true, true, true, true, false] rfl rfl (by kernel_rfl) (fun _ _ _ h => h) (Or.inl ⟨by rfl, ?_⟩) ?_ ?_
                rotate_left
                · intro w'
                  go_simp
                  with_reducible rfl
                rotate_left
                · simp only [Act.put, List.setIfInBounds_toArray, List.set_cons_zero, List.set_cons_succ, i64_w, i32_w]
                  rfl
                refine last_ (i := 16) (N := none) #[true, true, true, true, true, true, true, true, true, true, true, true, true, true, true, true, true] rfl rfl (by kernel_rfl) (by decide) (fun K hK => ?_)
                refine skip_ (w1 := ?_) (by rfl) rfl ?_ ?_
                rotate_left 1
                · go_simp
                  first | rfl | (constructor <;> rfl)
                refine hK.out _ _ ?_
                clear hK K
                refine done_ (by kernel_rfl) ?_
                clear v1' u1' u1 v1
                go_wp2
                go_roundw
                case rel =>
                  have hw4 : w3.setCell (bd.add k) (.slice Az y.f0.length cz) = w3.setCell ⟨B2, k * kWay.sz + 0, none⟩ (.slice Az y.f0.length cz) := by rw [hbd.out, add_plain, show k * kWay.sz + 0 = k from Nat.mul_one k]
                  rw [hw4]
                  have hoff : Off (Or1 (fun k => Sb w k ∨ b2 ≤ k) B) wr (w3.setCell ⟨B2, k * kWay.sz + 0, none⟩ (.slice Az y.f0.length cz)) := (off_below hbw.out).trans (off_set w3 _ _ (Or.inl (Or.inr hbB2)))
                  have hne : B ≠ B2 := by have := hb2e.out; omega
                  have hblk : (w3.setCell ⟨B2, k * kWay.sz + 0, none⟩ (.slice Az y.f0.length cz)).heap[B]? = wr.heap[B]? := (Below.heap_setCell _ _ _ _ hne).trans (hbw.out.block B hHole.out.lt)
                  refine ⟨k + 1, by go_num, by omega, ⟨hHole.out.on hoff hblk⟩, ⟨hQ2.out.off hoff⟩, ⟨?_⟩, ⟨?_⟩, ⟨?_⟩, ⟨?_⟩⟩
                  · refine (hRs2.out.below hbw.out).on (fun _ B' hB' => Below.heap_setCell _ _ _ _ ?_)
                    rw [had.out] at hB'
                    injection hB' with hB'
                    injection hB' with hB'
                    subst hB'
                    exact hne
                  · exact (HX3.out.on hbw.out).far (by have := hb2e.out; have := hSz.out; omega) _ _
                  · exact ((hI.out.below hbw.out).put hy.out hA2.out (cs := [.slice Ay y.f0.length cy]) rfl (fun i' u hu => pw_cell_below hbw.out (hcc2.out i' u hu)) 0 (.slice Az y.f0.length cz) (by decide) (hCz.out.imp (fun w' h => kWay_mk w' y hlz h))).1
                  · exact (hRi.out.below hbw.out).put hA2.out 0 (by decide) _
                case measure => simp [intOf]; omega
              · have hFin := hI.out.done (fun k hk => by
                  have h2 := hb2B.out
                  have h4 := hb2e.out
                  have h5 := hSz.out
                  rcases hk with (q | q) | q <;> omega) hmx1
                have hFil := hHole.out.fill (S' := Or1 (Sb w) B) (fun k hk => hk.elim (fun q => Or.inl (Or.inl q)) Or.inr) hx.out (hFin.imp (fun w' h => kCourse_mk w' x hl2 h.2))
                have hV := Aside0.mk (⟨hQ2.out.less (fun k hk => Or.inl (Or.inl hk)), fun _ => ⟨B, HA.out, hbB', hFil, hQ2.out.less (fun k hk => hk.elim (fun q => Or.inl (Or.inl q)) Or.inr)⟩⟩ : OwnV kCourse 136 (Sb w) _ wr (some ad) p.f6 _)
                clear hFin hFil hI hRi hHole hQ2
                go_wp2_with fail
                go_roundw
                case rel => exact ⟨i + 1, by go_num, by omega, hV, HX3, hRs2⟩
                case measure => simp [intOf]; omega
          have HQ := Aside0.mk (hV.out.done (fun k hk => by rcases hk with q | q <;> omega) (Kd.C_max G8.out))
          clear hV f0
          have f1 := HX.out.cell (j := 9) rfl
          go_wp2_with fail
          clear f1
          -- the rows at cell 9
          refine (clone_Student (kStudent.K w) (fun x cs h => kStudent.K_one h) p.f7 A9 c9 _ (rows_old G9.out (HX.out).below) (few_mul hp.h7.len)).mono ?_
          rintro e w1 ⟨⟨v, rfl, ho⟩, hb1⟩
          have HX1 := (HX.out).on hb1
          obtain ⟨A', c', rfl, hl', hV⟩ := ownV_new kStudent (HQ.out) hb1 ho (fun B hB x cs h => st_oldK h HX1.below (fun k hk => by
            have := (HX.out).size
            rcases hk with (q | q) | q <;> omega))
          have e0 := HX1.frozen 9
          have e1 := HX1.cell (j := 9) rfl
          have HX2 := HX1.set_ 9 (.slice A' p.f7.length c')
          have hV2 := hV.box (g := w.heap.size) (Or.inl rfl) (by have := (HX.out).size; omega) 9 (.slice A' p.f7.length c')
          have hbs := (HX.out).size
          have HBS := Aside0.mk hbs
          replace HX1 := Aside0.mk HX1
          replace HX2 := Aside0.mk HX2
          replace hV2 := Aside0.mk hV2
          clear hV ho hb1
          go_wp2_with fail
          go_loopw [156] (fun v wr => ∃ i : Nat, v = .int .i64 i ∧ i ≤ p.f7.length ∧ Aside0 (OwnV kStudent 130 (Sb w) _ wr A' p.f7 _) ∧ Aside0 (Bx w wr _)) (fun v _ => p.f7.length - (intOf v).toNat)
          case atStart => exact ⟨0, rfl, by omega, hV2, HX2⟩
          case round =>
            clear HX1 HX2 hV2 e0 e1
            obtain ⟨i, rfl, hi, hV, HX⟩ := hrel
            have f0 := HX.out.cell (j := 9) rfl
            by_cases hlt : i < p.f7.length
            · obtain ⟨x, hx⟩ : ∃ x, p.f7[i]? = some x := ⟨_, List.getElem?_eq_getElem hlt⟩
              obtain ⟨B, cs, hA, hbB, hBw, hcl, hcc, hfr, hKx, hSt⟩ := hV.out.round hx
              obtain ⟨A3, c3, rfl, l3, g3⟩ := kStudent_open hKx
              obtain ⟨ad, had, hA'⟩ : ∃ ad : Addr, ad = ⟨B, 0, none⟩ ∧ A' = some ad := ⟨_, rfl, hA⟩
              subst hA'
              have q1 : wr.cell? ⟨(ad.add (i * 2)).block, (ad.add (i * 2)).off + 1, none⟩ = some (.slice A3 x.f1.length c3) := by rw [had, add_plain]; exact hcc 1 _ rfl
              have hb2B := Aside0.mk (Nat.le_trans HBS.out hbB)
              replace hx := Aside0.mk hx
              have HA := Aside0.mk hA
              replace had := Aside0.mk had
              replace hcc := Aside0.mk hcc
              replace hfr := Aside0.mk hfr
              replace hSt := Aside0.mk hSt
              have hC3 := Aside0.mk g3
              clear hKx g3 hA
              go_wp2
              refine start_ (n := 13) (S := (fun w' => w'.cell? ⟨w.heap.size, 9, none⟩ = some (.slice (some ad) p.f7.length c'))) (ds := []) #[false, false, false, false, false, false, false, false, false, false, false, false, false] (by kernel_rfl) rfl rfl (f0) (fun hHeld => ?_)
              refine pure_ (i := 0) (N := some 159) (v := ?_) (a' := ?_) #[true, false, false, false, false, false, false, false, false, false, false, false, false] rfl rfl (by kernel_rfl) (fun _ _ _ h => h) (Or.inl ⟨by rfl, ?_⟩) ?_ ?_
              rotate_left
              · intro w'
                go_simp
                with_reducible rfl
              rotate_left
              · simp only [Act.put, List.setIfInBounds_toArray, List.set_cons_zero, List.set_cons_succ, i64_w, i32_w]
                rfl
              refine take_ (i := 1) (N := some 160) (v := ?_) (a' := ?_) #[true, true, false, false, false, false, false, false, false, false, false, false, false] rfl rfl (by kernel_rfl) (fun _ _ _ h => h) (Or.inl ⟨by rfl, ?_⟩) hHeld ?_ ?_
              rotate_left
              · rintro w' s1
                go_simp
                with_reducible rfl
              rotate_left
              · simp only [Act.put, List.setIfInBounds_toArray, List.set_cons_zero, List.set_cons_succ, i64_w, i32_w]
                rfl
              refine pure_ (i := 2) (N := some 161) (v := ?_) (a' := ?_) #[true, true, true, false, false, false, false, false, false, false, false, false, false] rfl rfl (by kernel_rfl) (fun _ _ _ h => h) (Or.inl ⟨by rfl, ?_⟩) ?_ ?_
              rotate_left
              · intro w'
                go_simp
                with_reducible rfl
              rotate_left
              · simp only [Act.put, List.setIfInBounds_toArray, List.set_cons_zero, List.set_cons_succ, i64_w, i32_w]
                rfl
              refine pure_ (i := 3) (N := some 162) (v := ?_) (a' := ?_) #[true, true, true, true, false, false, false, false, false, false, false, false, false] rfl rfl (by kernel_rfl) (fun _ _ _ h => h) (Or.inl ⟨by rfl, ?_⟩) ?_ ?_
              rotate_left
              · intro w'
                go_simp
                with_reducible rfl
              rotate_left
              · simp only [Act.put, List.setIfInBounds_toArray, List.set_cons_zero, List.set_cons_succ, i64_w, i32_w]
                rfl
              refine take_ (i := 4) (N := some 163) (v := ?_) (a' := ?_) #[true, true, true, true, true, false, false, false, false, false, false, false, false] rfl rfl (by kernel_rfl) (fun _ _ _ h => h) (Or.inl ⟨by rfl, ?_⟩) hHeld ?_ ?_
              rotate_left
              · rintro w' s1
                go_simp
                with_reducible rfl
              rotate_left
              · simp only [Act.put, List.setIfInBounds_toArray, List.set_cons_zero, List.set_cons_succ, i64_w, i32_w]
                rfl
              refine pure_ (i := 5) (N := some 164) (v := ?_) (a' := ?_) #[true, true, true, true, true, true, false, false, false, false, false, false, false] rfl rfl (by kernel_rfl) (fun _ _ _ h => h) (Or.inl ⟨by rfl, ?_⟩) ?_ ?_
              rotate_left
              · intro w'
                go_simp
                with_reducible rfl
              rotate_left
              · simp only [Act.put, List.setIfInBounds_toArray, List.set_cons_zero, List.set_cons_succ, i64_w, i32_w]
                rfl
              refine pure_ (i := 6) (N := some 165) (v := ?_) (a' := ?_) #[true, true, true, true, true, true, true, false, false, false, false, false, false] rfl rfl (by kernel_rfl) (fun _ _ _ h => h) (Or.inl ⟨by rfl, ?_⟩) ?_ ?_
              rotate_left
              · intro w'
                go_simp
                with_reducible rfl
              rotate_left
              · simp only [Act.put, List.setIfInBounds_toArray, List.set_cons_zero, List.set_cons_succ, i64_w, i32_w]
                rfl
              refine pure_ (i := 7) (N := some 166) (v := ?_) (a' := ?_) #[true, true, true, true, true, true, true, true, false, false, false, false, false] rfl rfl (by kernel_rfl) (fun _ _ _ h => h) (Or.inl ⟨by rfl, ?_⟩) ?_ ?_
              rotate_left
              · intro w'
                go_simp
                with_reducible rfl
              rotate_left
              · simp only [Act.put, List.setIfInBounds_toArray, List.set_cons_zero, List.set_cons_succ, i64_w, i32_w]
                rfl
              refine one_ (i := 8) (N := some 167) #[true, true, true, true, true, true, true, true, true, false, false, false, false] rfl rfl (by kernel_rfl) (by decide) (fun K hK => ?_)
              refine value_ (w1 := ?_) (v := ?_) (by rfl) rfl ?_ ?_
              rotate_left 2
              · go_simp
                constructor
                · rfl
                · rfl
              refine hK.out _ _ f0 (fun hHeld => ?_)
              clear hK K
              refine norm_ (a' := ?_) ?_ ?_
              rotate_left
              · show Act.put _ (some 167) _ = _
                simp only [Act.put, List.setIfInBounds_toArray, List.set_cons_zero, List.set_cons_succ, i64_w, i32_w]
                rfl
              refine one_ (i := 9) (N := some 168) #[true, true, true, true, true, true, true, true, true, true, false, false, false] rfl rfl (by kernel_rfl) (by decide) (fun K hK => ?_)
              refine goes_ Tryz.func44 (by kernel_rfl) rfl #[.slice A3 x.f1.length c3] (by rfl) rfl rfl (by (try simp only [List.map_toArray, List.map_cons, List.map_nil]); first | done | rfl) ?_
              refine (clone_int ((Kd.int .i64).K wr) (fun x cs h => (Kd.int .i64).K_one h) x.f1 A3 c3 _ (rows_old hC3.out (below_drew (Below.refl _ _))) (few_mul (hp.h7.all x (List.mem_of_getElem? hx.out)).h1.len)).mono ?_
              rintro e w2 ⟨⟨v, rfl, ho⟩, hb2⟩
              have hbw : Below wr.heap.size wr w2 := below_then (below_drew (Below.refl _ _)) (Nat.le_refl _) hb2
              obtain ⟨A3', c3', rfl, hl3', hC3'⟩ := st_own (d := Kd.int .i64) (S := Or1 (Sb w) B) ho (fun k hk => by
                have := HX.out.size
                show k < wr.heap.size
                rcases hk with (q | q) | q <;> omega) kint_st (Kd.C_max hC3.out)
              have q1' : w2.cell? ⟨(ad.add (i * 2)).block, (ad.add (i * 2)).off + 1, none⟩ = some (.slice A3 x.f1.length c3) := pw_cell_below hbw q1
              have q2' : w2.frozen? ⟨(ad.add (i * 2)).block, (ad.add (i * 2)).off + 1, none⟩ = false := (hbw.frozen (by rw [had.out, add_plain]; exact hBw)).trans (by rw [had.out, add_plain]; exact hfr.out _)
              replace hC3' := Aside0.mk hC3'
              replace hbw := Aside0.mk hbw
              clear ho hb2
              refine ⟨_, rfl, ?_⟩
              refine hK.out _ _ (pw_cell_below hbw.out f0) (fun hHeld => ?_)
              clear hK K
              refine norm_ (a' := ?_) ?_ ?_
              rotate_left
              · show Act.put _ (some 168) _ = _
                simp only [Act.put, List.setIfInBounds_toArray, List.set_cons_zero, List.set_cons_succ, i64_w, i32_w]
                rfl
              refine pure_ (i := 10) (N := some 169) (v := ?_) (a' := ?_) #[true, true, true, true, true, true, true, true, true, true, true, false, false] rfl rfl (by kernel_rfl) (fun _ _ _ h => h) (Or.inl ⟨by rfl, ?_⟩) ?_ ?_
              rotate_left
              · intro w'
                go_simp
                with_reducible rfl
              rotate_left
              · simp only [Act.put, List.setIfInBounds_toArray, List.set_cons_zero, List.set_cons_succ, i64_w, i32_w]
                rfl
              refine pure_ (i := 11) (N := some 170) (v := ?_) (a' := ?_) #[true, true, true, true, true, true, true, true, true, true, true, true, false] rfl rfl (by kernel_rfl) (fun _ _ _ h => h) (Or.inl ⟨by rfl, ?_⟩) ?_ ?_
              rotate_left
              · intro w'
                go_simp
                with_reducible rfl
              rotate_left
              · simp only [Act.put, List.setIfInBounds_toArray, List.set_cons_zero, List.set_cons_succ, i64_w, i32_w]
                rfl
              refine one_ (i := 12) (N := none) #[true, true, true, true, true, true, true, true, true, true, true, true, true] rfl rfl (by kernel_rfl) (by decide) (fun K hK => ?_)
              refine skip_ (w1 := ?_) (by rfl) rfl ?_ ?_
              rotate_left 1
              · go_simp
                first | rfl | (constructor <;> rfl)
              refine hK.out _ _ ?_ (fun hHeld => ?_)
              · have hw2 : w2.setCell ⟨(ad.add (i * 2)).block, (ad.add (i * 2)).off + 1, none⟩ (.slice A3' x.f1.length c3') = w2.setCell ⟨B, i * 2 + 1, none⟩ (.slice A3' x.f1.length c3') := by rw [had.out, add_plain]
                rw [hw2]
                exact (HX.out.on hbw.out |>.far hb2B.out _ _).cell rfl
              clear hK K
              refine done_ (by kernel_rfl) ?_
              clear q1' q2' q1 f0
              go_wp2
              go_roundw
              case rel =>
                have hw2 : w2.setCell ⟨(ad.add (i * 2)).block, (ad.add (i * 2)).off + 1, none⟩ (.slice A3' x.f1.length c3') = w2.setCell ⟨B, i * 2 + 1, none⟩ (.slice A3' x.f1.length c3') := by rw [had.out, add_plain]
                rw [hw2]
                refine ⟨i + 1, by go_num, by omega, ⟨?_⟩, ⟨?_⟩⟩
                · exact ((hV.out.below hbw.out).put hx.out HA.out (cs := _) hcl (fun i' u hu => pw_cell_below hbw.out (hcc.out i' u hu)) 1 (.slice A3' x.f1.length c3') (by decide) ((hSt.out.off (off_below hbw.out)).both hC3'.out |>.imp (fun w' h => kStudent_put h.1 hl3' h.2))).1
                · exact (HX.out.on hbw.out).far hb2B.out _ _
              case measure => simp [intOf]; omega
            have HQ := Aside0.mk (hV.out.done (fun k hk => by rcases hk with q | q <;> omega) (Kd.C_max G9.out))
            clear hV f0
            have f1 := HX.out.cell (j := 10) rfl
            go_wp2_with fail
            clear f1
            -- the rows at cell 10
            refine (clone_Rule (kRule.K w) (fun x cs h => kRule.K_one h) p.f8 A10 c10 _ (rows_old G10.out (HX.out).below) (few_mul hp.h8.len)).mono ?_
            rintro e w1 ⟨⟨v, rfl, ho⟩, hb1⟩
            have HX1 := (HX.out).on hb1
            obtain ⟨A', c', rfl, hl', hV⟩ := ownV_new kRule (HQ.out) hb1 ho (fun B hB x cs h => st_oldK h HX1.below (fun k hk => by
              have := (HX.out).size
              rcases hk with (q | q) | q <;> omega))
            have e0 := HX1.frozen 10
            have e1 := HX1.cell (j := 10) rfl
            have HX2 := HX1.set_ 10 (.slice A' p.f8.length c')
            have hV2 := hV.box (g := w.heap.size) (Or.inl rfl) (by have := (HX.out).size; omega) 10 (.slice A' p.f8.length c')
            have hbs := (HX.out).size
            have HBS := Aside0.mk hbs
            replace HX1 := Aside0.mk HX1
            replace HX2 := Aside0.mk HX2
            replace hV2 := Aside0.mk hV2
            clear hV ho hb1
            go_wp2_with fail
            go_loopw [179] (fun v wr => ∃ i : Nat, v = .int .i64 i ∧ i ≤ p.f8.length ∧ Aside0 (OwnV kRule 133 (Sb w) _ wr A' p.f8 _) ∧ Aside0 (Bx w wr _)) (fun v _ => p.f8.length - (intOf v).toNat)
            case atStart => exact ⟨0, rfl, by omega, hV2, HX2⟩
            case round =>
              clear HX1 HX2 hV2 e0 e1
              obtain ⟨i, rfl, hi, hV, HX⟩ := hrel
              have f0 := HX.out.cell (j := 10) rfl
              by_cases hlt : i < p.f8.length
              · obtain ⟨x, hx⟩ : ∃ x, p.f8[i]? = some x := ⟨_, List.getElem?_eq_getElem hlt⟩
                obtain ⟨B, cs, hA, hbB, hBw, hcl, hcc, hfr, hKx, hSt⟩ := hV.out.round hx
                obtain ⟨A3, c3, rfl, l3, g3⟩ := kRule_open hKx
                obtain ⟨ad, had, hA'⟩ : ∃ ad : Addr, ad = ⟨B, 0, none⟩ ∧ A' = some ad := ⟨_, rfl, hA⟩
                subst hA'
                have q1 : wr.cell? ⟨(ad.add (i * 6)).block, (ad.add (i * 6)).off + 1, none⟩ = some (.slice A3 x.f1.length c3) := by rw [had, add_plain]; exact hcc 1 _ rfl
                have hb2B := Aside0.mk (Nat.le_trans HBS.out hbB)
                replace hx := Aside0.mk hx
                have HA := Aside0.mk hA
                replace had := Aside0.mk had
                replace hcc := Aside0.mk hcc
                replace hfr := Aside0.mk hfr
                replace hSt := Aside0.mk hSt
                have hC3 := Aside0.mk g3
                clear hKx g3 hA
                go_wp2
                refine start_ (n := 13) (S := (fun w' => w'.cell? ⟨w.heap.size, 10, none⟩ = some (.slice (some ad) p.f8.length c'))) (ds := []) #[false, false, false, false, false, false, false, false, false, false, false, false, false] (by kernel_rfl) rfl rfl (f0) (fun hHeld => ?_)
                refine pure_ (i := 0) (N := some 182) (v := ?_) (a' := ?_) #[true, false, false, false, false, false, false, false, false, false, false, false, false] rfl rfl (by kernel_rfl) (fun _ _ _ h => h) (Or.inl ⟨by rfl, ?_⟩) ?_ ?_
                rotate_left
                · intro w'
                  go_simp
                  with_reducible rfl
                rotate_left
                · simp only [Act.put, List.setIfInBounds_toArray, List.set_cons_zero, List.set_cons_succ, i64_w, i32_w]
                  rfl
                refine take_ (i := 1) (N := some 183) (v := ?_) (a' := ?_) #[true, true, false, false, false, false, false, false, false, false, false, false, false] rfl rfl (by kernel_rfl) (fun _ _ _ h => h) (Or.inl ⟨by rfl, ?_⟩) hHeld ?_ ?_
                rotate_left
                · rintro w' s1
                  go_simp
                  with_reducible rfl
                rotate_left
                · simp only [Act.put, List.setIfInBounds_toArray, List.set_cons_zero, List.set_cons_succ, i64_w, i32_w]
                  rfl
                refine pure_ (i := 2) (N := some 184) (v := ?_) (a' := ?_) #[true, true, true, false, false, false, false, false, false, false, false, false, false] rfl rfl (by kernel_rfl) (fun _ _ _ h => h) (Or.inl ⟨by rfl, ?_⟩) ?_ ?_
                rotate_left
                · intro w'
                  go_simp
                  with_reducible rfl
                rotate_left
                · simp only [Act.put, List.setIfInBounds_toArray, List.set_cons_zero, List.set_cons_succ, i64_w, i32_w]
                  rfl
                refine pure_ (i := 3) (N := some 185) (v := ?_) (a' := ?_) #[true, true, true, true, false, false, false, false, false, false, false, false, false] rfl rfl (by kernel_rfl) (fun _ _ _ h => h) (Or.inl ⟨by rfl, ?_⟩) ?_ ?_
                rotate_left
                · intro w'
                  go_simp
                  with_reducible rfl
                rotate_left
                · simp only [Act.put, List.setIfInBounds_toArray, List.set_cons_zero, List.set_cons_succ, i64_w, i32_w]
                  rfl
                refine take_ (i := 4) (N := some 186) (v := ?_) (a' := ?_) #[true, true, true, true, true, false, false, false, false, false, false, false, false] rfl rfl (by kernel_rfl) (fun _ _ _ h => h) (Or.inl ⟨by rfl, ?_⟩) hHeld ?_ ?_
                rotate_left
                · rintro w' s1
                  go_simp
                  with_reducible rfl
                rotate_left
                · simp only [Act.put, List.setIfInBounds_toArray, List.set_cons_zero, List.set_cons_succ, i64_w, i32_w]
                  rfl
                refine pure_ (i := 5) (N := some 187) (v := ?_) (a' := ?_) #[true, true, true, true, true, true, false, false, false, false, false, false, false] rfl rfl (by kernel_rfl) (fun _ _ _ h => h) (Or.inl ⟨by rfl, ?_⟩) ?_ ?_
                rotate_left
                · intro w'
                  go_simp
                  with_reducible rfl
                rotate_left
                · simp only [Act.put, List.setIfInBounds_toArray, List.set_cons_zero, List.set_cons_succ, i64_w, i32_w]
                  rfl
                refine pure_ (i := 6) (N := some 188) (v := ?_) (a' := ?_) #[true, true, true, true, true, true, true, false, false, false, false, false, false] rfl rfl (by kernel_rfl) (fun _ _ _ h => h) (Or.inl ⟨by rfl, ?_⟩) ?_ ?_
                rotate_left
                · intro w'
                  go_simp
                  with_reducible rfl
                rotate_left
                · simp only [Act.put, List.setIfInBounds_toArray, List.set_cons_zero, List.set_cons_succ, i64_w, i32_w]
                  rfl
                refine pure_ (i := 7) (N := some 189) (v := ?_) (a' := ?_) #[true, true, true, true, true, true, true, true, false, false, false, false, false] rfl rfl (by kernel_rfl) (fun _ _ _ h => h) (Or.inl ⟨by rfl, ?_⟩) ?_ ?_
                rotate_left
                · intro w'
                  go_simp
                  with_reducible rfl
                rotate_left
                · simp only [Act.put, List.setIfInBounds_toArray, List.set_cons_zero, List.set_cons_succ, i64_w, i32_w]
                  rfl
                refine one_ (i := 8) (N := some 190) #[true, true, true, true, true, true, true, true, true, false, false, false, false] rfl rfl (by kernel_rfl) (by decide) (fun K hK => ?_)
                refine value_ (w1 := ?_) (v := ?_) (by rfl) rfl ?_ ?_
                rotate_left 2
                · go_simp
                  constructor
                  · rfl
                  · rfl
                refine hK.out _ _ f0 (fun hHeld => ?_)
                clear hK K
                refine norm_ (a' := ?_) ?_ ?_
                rotate_left
                · show Act.put _ (some 190) _ = _
                  simp only [Act.put, List.setIfInBounds_toArray, List.set_cons_zero, List.set_cons_succ, i64_w, i32_w]
                  rfl
                refine one_ (i := 9) (N := some 191) #[true, true, true, true, true, true, true, true, true, true, false, false, false] rfl rfl (by kernel_rfl) (by decide) (fun K hK => ?_)
                refine goes_ Tryz.func44 (by kernel_rfl) rfl #[.slice A3 x.f1.length c3] (by rfl) rfl rfl (by (try simp only [List.map_toArray, List.map_cons, List.map_nil]); first | done | rfl) ?_
                refine (clone_int ((Kd.int .i64).K wr) (fun x cs h => (Kd.int .i64).K_one h) x.f1 A3 c3 _ (rows_old hC3.out (below_drew (Below.refl _ _))) (few_mul (hp.h8.all x (List.mem_of_getElem? hx.out)).h1.len)).mono ?_
                rintro e w2 ⟨⟨v, rfl, ho⟩, hb2⟩
                have hbw : Below wr.heap.size wr w2 := below_then (below_drew (Below.refl _ _)) (Nat.le_refl _) hb2
                obtain ⟨A3', c3', rfl, hl3', hC3'⟩ := st_own (d := Kd.int .i64) (S := Or1 (Sb w) B) ho (fun k hk => by
                  have := HX.out.size
                  show k < wr.heap.size
                  rcases hk with (q | q) | q <;> omega) kint_st (Kd.C_max hC3.out)
                have q1' : w2.cell? ⟨(ad.add (i * 6)).block, (ad.add (i * 6)).off + 1, none⟩ = some (.slice A3 x.f1.length c3) := pw_cell_below hbw q1
                have q2' : w2.frozen? ⟨(ad.add (i * 6)).block, (ad.add (i * 6)).off + 1, none⟩ = false := (hbw.frozen (by rw [had.out, add_plain]; exact hBw)).trans (by rw [had.out, add_plain]; exact hfr.out _)
                replace hC3' := Aside0.mk hC3'
                replace hbw := Aside0.mk hbw
                clear ho hb2
                refine ⟨_, rfl, ?_⟩
                refine hK.out _ _ (pw_cell_below hbw.out f0) (fun hHeld => ?_)
                clear hK K
                refine norm_ (a' := ?_) ?_ ?_
                rotate_left
                · show Act.put _ (some 191) _ = _
                  simp only [Act.put, List.setIfInBounds_toArray, List.set_cons_zero, List.set_cons_succ, i64_w, i32_w]
                  rfl
                refine pure_ (i := 10) (N := some 192) (v := ?_) (a' := ?_) #[true, true, true, true, true, true, true, true, true, true, true, false, false] rfl rfl (by kernel_rfl) (fun _ _ _ h => h) (Or.inl ⟨by rfl, ?_⟩) ?_ ?_
                rotate_left
                · intro w'
                  go_simp
                  with_reducible rfl
                rotate_left
                · simp only [Act.put, List.setIfInBounds_toArray, List.set_cons_zero, List.set_cons_succ, i64_w, i32_w]
                  rfl
                refine pure_ (i := 11) (N := some 193) (v := ?_) (a' := ?_) #[true, true, true, true, true, true, true, true, true, true, true, true, false] rfl rfl (by kernel_rfl) (fun _ _ _ h => h) (Or.inl ⟨by rfl, ?_⟩) ?_ ?_
                rotate_left
                · intro w'
                  go_simp
                  with_reducible rfl
                rotate_left
                · simp only [Act.put, List.setIfInBounds_toArray, List.set_cons_zero, List.set_cons_succ, i64_w, i32_w]
                  rfl
                refine one_ (i := 12) (N := none) #[true, true, true, true, true, true, true, true, true, true, true, true, true] rfl rfl (by kernel_rfl) (by decide) (fun K hK => ?_)
                refine skip_ (w1 := ?_) (by rfl) rfl ?_ ?_
                rotate_left 1
                · go_simp
                  first | rfl | (constructor <;> rfl)
                refine hK.out _ _ ?_ (fun hHeld => ?_)
                · have hw2 : w2.setCell ⟨(ad.add (i * 6)).block, (ad.add (i * 6)).off + 1, none⟩ (.slice A3' x.f1.length c3') = w2.setCell ⟨B, i * 6 + 1, none⟩ (.slice A3' x.f1.length c3') := by rw [had.out, add_plain]
                  rw [hw2]
                  exact (HX.out.on hbw.out |>.far hb2B.out _ _).cell rfl
                clear hK K
                refine done_ (by kernel_rfl) ?_
                clear q1' q2' q1 f0
                go_wp2
                go_roundw
                case rel =>
                  have hw2 : w2.setCell ⟨(ad.add (i * 6)).block, (ad.add (i * 6)).off + 1, none⟩ (.slice A3' x.f1.length c3') = w2.setCell ⟨B, i * 6 + 1, none⟩ (.slice A3' x.f1.length c3') := by rw [had.out, add_plain]
                  rw [hw2]
                  refine ⟨i + 1, by go_num, by omega, ⟨?_⟩, ⟨?_⟩⟩
                  · exact ((hV.out.below hbw.out).put hx.out HA.out (cs := _) hcl (fun i' u hu => pw_cell_below hbw.out (hcc.out i' u hu)) 1 (.slice A3' x.f1.length c3') (by decide) ((hSt.out.off (off_below hbw.out)).both hC3'.out |>.imp (fun w' h => kRule_put h.1 hl3' h.2))).1
                  · exact (HX.out.on hbw.out).far hb2B.out _ _
                case measure => simp [intOf]; omega
              have HQ := Aside0.mk (hV.out.done (fun k hk => by rcases hk with q | q <;> omega) (Kd.C_max G10.out))
              clear hV f0
              obtain ⟨wf, hst, hcf, hof, hbf⟩ := HX.out.give rfl (by intro q hq; simp only [List.set_cons_succ, List.set_cons_zero, List.mem_cons, List.not_mem_nil, or_false] at hq; rcases hq with rfl | rfl | rfl | rfl | rfl | rfl | rfl | rfl | rfl | rfl | rfl | rfl | rfl | rfl | rfl <;> rfl)
              have hbx := HX.out.box
              simp only [List.set_cons_succ, List.set_cons_zero] at hst hcf hbx
              replace hbx := Aside0.mk hbx
              have hQ := Aside0.mk (HQ.out wf hof)
              replace hbf := Aside0.mk hbf
              replace hcf := Aside0.mk hcf
              clear hof
              replace hst := Aside0.mk hst
              go_wp2_with (first | (refine gate_ (.load 40 (.tmp 1)) rfl ?_; refine load_ev rfl _ _ rfl _ _ _ _ rfl hbx.out hu1 rfl rfl ?_) | (refine gate_ (.store 40 (.tmp 2) (.tmp 195)) rfl ?_; refine store_ev rfl rfl _ _ _ rfl _ _ rfl rfl hst.out ?_))
              try simp only [Exit.inBlock, Exit.then]
              refine bodyPost_ret_by (results_cell_row rfl _ wf (w.heap.size + 1) 40 _ (0, 0) _ rfl hcf.out hu1 rfl rfl) rfl ?_
              exact ⟨⟨_, rfl, kProblem_mk wf p (by assumption) hQ.out.1.1.1.1.1.1.2 hl5.out hQ.out.1.1.1.1.1.2 (by assumption) hQ.out.1.1.1.1.2 (by assumption) hQ.out.1.1.1.2 (by assumption) hQ.out.1.1.2 (by assumption) hQ.out.1.2 (by assumption) hQ.out.2⟩, hbf.out⟩
end Go.Proofs.YthalgemkblkhgaaGreat
