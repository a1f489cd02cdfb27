/- The document's Len, Of, Time, Place and What of chapter 27. -/
import Derived.Test.YthalgemkblkhgaaGreatQAll
import Derived.Test.YthalgemkblkhgaaGreatQML
import Derived.Test.YthalgemkblkhgaaGreatQRefS
namespace Go.Proofs.YthalgemkblkhgaaGreat
open Go.RowKit Go.Proofs.YthalgemkblkhgaaGreatW.PrintWords Go.Proofs.YthalgemkblkhgaaGreatW.PrintLast
set_option linter.unusedVariables false
set_option linter.unusedSimpArgs false

theorem eqA_Choice (d : Nat) (w : World) (x0 y0 : Int) (x1 y1 : Bool) (x2 y2 : Int) :
    (Op.equalIn (d + 2) 42 (.agg #[.int .i64 x0, .bool x1, .int .i64 x2]) (.agg #[.int .i64 y0, .bool y1, .int .i64 y2])).run Tryz.prog w = .ok (x0 == y0 && (x1 == y1 && (x2 == y2))) w := by
  refine eqA_of Tryz.underlying42 (by kernel_rfl) ?_
  refine eqf_cons (by rfl) (by go_simp; rfl) (by go_simp; rfl) (by go_simp) ?_
  refine eqf_cons (by rfl) (by go_simp; rfl) (by go_simp; rfl) (by go_simp) ?_
  exact eqf_last (by rfl) (by go_simp; rfl) (by go_simp; rfl) (by go_simp)
def eqCh (x y : Choice) : Bool := x.f0 == y.f0 && (x.f1 == y.f1 && (x.f2 == y.f2))
def isCh (l : List Choice) (y : Choice) (i : Nat) : Bool := match l[i]? with | some x => eqCh x y | none => false
def numIn (o : Option Nat) : Int := match o with | some i => (i : Int) + 1 | none => 0
def ofIn (l : List Choice) (y : Choice) : Int := numIn (firstBad l.length (isCh l y))
def whatIn (l : List Choice) (n : Int) : Choice × Bool := if n = 0 ∨ l.length < n.natAbs then (noChoice, false) else match l[n.natAbs - 1]? with | some c => (c, true) | none => (noChoice, false)
theorem length_allOf (p : Problem) (hsm : problemOk p = true → Small p) : (allOf p).length ≤ 2000000 := by
  unfold allOf
  by_cases h : problemOk p = true
  · rw [if_pos h]
    have h1 := length_choicesTo p.f5 (hsm h).all p.f5.length
    have h2 := (hsm h).n
    unfold choices
    omega
  · rw [if_neg h]
    simp
set_option maxRecDepth 100000 in
set_option maxHeartbeats 2000000 in
theorem reflen_calls (p : Problem) (hp : wfProblem p) (hsm : problemOk p = true → Small p) (pcs : List Value) (w : World) (hP : kProblem.K w p pcs) (r : Int) (hr : ((allOf p).length : Int) = r) :
    Calls Tryz.prog 21 #[.agg pcs.toArray] w fun e w' => e = .returned (.int .i64 r) ∧ Below w.heap.size w w' := by
  subst hr
  have HP := Aside0.mk hP
  obtain ⟨A4, c4, A5, c5, A6, c6, A7, c7, A8, c8, A9, c9, A10, c10, rfl, l4, g4, l5, g5, l6, g6, l7, g7, l8, g8, l9, g9, l10, g10⟩ := kProblem_open hP
  clear hP g4 g5 g6 g7 g8 g9 g10
  have hu1 := Tryz.underlying40
  have hu5 := Tryz.underlying42
  have hal := length_allOf p hsm
  have hbx := Aside0.mk (blk_new w (.cells #[.string p.f0, .int .i64 p.f1.f0, .int .i64 p.f1.f1, .int .i64 p.f1.f2, .slice A4 p.f2.length c4, .slice A5 p.f3.length c5, .slice A6 p.f4.length c6, .slice A7 p.f5.length c7, .slice A8 p.f6.length c8, .slice A9 p.f7.length c9, .slice A10 p.f8.length c10, .int .i64 p.f9.f0, .int .i64 p.f9.f1, .int .i64 p.f9.f2, .int .i64 p.f9.f3] 40))
  go_enter Tryz.func21, Tryz.ntmps21
  go_wp2_with (refine gate_ (.load 40 (.tmp 1)) rfl ?_; refine load_ev rfl _ _ rfl _ _ _ _ rfl hbx.out hu1 rfl rfl ?_)
  refine (all_ref p hp hsm _ _ (kProblem.K_below (below_alloc (Below.refl _ _) _) HP.out)).mono ?_
  rintro e w1 ⟨⟨A, c, rfl, hC⟩, hb⟩
  go_wp2_with fail
  go_ret
  exact ⟨rfl, below1 hb⟩
attribute [local go_sem high] eqA_Choice
set_option maxRecDepth 100000 in
set_option maxHeartbeats 4000000 in
theorem refof_calls (p : Problem) (hp : wfProblem p) (hsm : problemOk p = true → Small p) (pcs : List Value) (w : World) (hP : kProblem.K w p pcs) (y : Choice) (r : Int) (hr : ofIn (allOf p) y = r) :
    Calls Tryz.prog 24 #[.agg pcs.toArray, .agg #[.int .i64 y.f0, .bool y.f1, .int .i64 y.f2]] w fun e w' => e = .returned (.int .i64 r) ∧ Below w.heap.size w w' := by
  subst hr
  have HP := Aside0.mk hP
  obtain ⟨A4, c4, A5, c5, A6, c6, A7, c7, A8, c8, A9, c9, A10, c10, rfl, l4, g4, l5, g5, l6, g6, l7, g7, l8, g8, l9, g9, l10, g10⟩ := kProblem_open hP
  clear hP g4 g5 g6 g7 g8 g9 g10
  have hu1 := Tryz.underlying40
  have hu5 := Tryz.underlying42
  have hal := length_allOf p hsm
  have hbx := Aside0.mk ((Below.heap_alloc (w.alloc (.cells #[.string p.f0, .int .i64 p.f1.f0, .int .i64 p.f1.f1, .int .i64 p.f1.f2, .slice A4 p.f2.length c4, .slice A5 p.f3.length c5, .slice A6 p.f4.length c6, .slice A7 p.f5.length c7, .slice A8 p.f6.length c8, .slice A9 p.f7.length c9, .slice A10 p.f8.length c10, .int .i64 p.f9.f0, .int .i64 p.f9.f1, .int .i64 p.f9.f2, .int .i64 p.f9.f3] 40)) (.cells #[.int .i64 y.f0, .bool y.f1, .int .i64 y.f2] 42) w.heap.size (by simp)).trans (blk_new w (.cells #[.string p.f0, .int .i64 p.f1.f0, .int .i64 p.f1.f1, .int .i64 p.f1.f2, .slice A4 p.f2.length c4, .slice A5 p.f3.length c5, .slice A6 p.f4.length c6, .slice A7 p.f5.length c7, .slice A8 p.f6.length c8, .slice A9 p.f7.length c9, .slice A10 p.f8.length c10, .int .i64 p.f9.f0, .int .i64 p.f9.f1, .int .i64 p.f9.f2, .int .i64 p.f9.f3] 40)))
  obtain ⟨W0, hW0⟩ : ∃ W0, W0 = (w.alloc (.cells #[.string p.f0, .int .i64 p.f1.f0, .int .i64 p.f1.f1, .int .i64 p.f1.f2, .slice A4 p.f2.length c4, .slice A5 p.f3.length c5, .slice A6 p.f4.length c6, .slice A7 p.f5.length c7, .slice A8 p.f6.length c8, .slice A9 p.f7.length c9, .slice A10 p.f8.length c10, .int .i64 p.f9.f0, .int .i64 p.f9.f1, .int .i64 p.f9.f2, .int .i64 p.f9.f3] 40)).alloc (.cells #[.int .i64 y.f0, .bool y.f1, .int .i64 y.f2] 42) := ⟨_, rfl⟩
  have hw0 : Below w.heap.size w W0 := by rw [hW0]; exact below_alloc (below_alloc (Below.refl _ _) _) _
  have kk : W0.heap[w.heap.size + 1]? = some (.cells #[.int .i64 y.f0, .bool y.f1, .int .i64 y.f2] 42 (0, 0)) := by
    rw [hW0]
    have := blk_new (w.alloc (.cells #[.string p.f0, .int .i64 p.f1.f0, .int .i64 p.f1.f1, .int .i64 p.f1.f2, .slice A4 p.f2.length c4, .slice A5 p.f3.length c5, .slice A6 p.f4.length c6, .slice A7 p.f5.length c7, .slice A8 p.f6.length c8, .slice A9 p.f7.length c9, .slice A10 p.f8.length c10, .int .i64 p.f9.f0, .int .i64 p.f9.f1, .int .i64 p.f9.f2, .int .i64 p.f9.f3] 40)) (.cells #[.int .i64 y.f0, .bool y.f1, .int .i64 y.f2] 42)
    simpa using this
  replace kk := Aside0.mk kk
  replace hw0 := Aside0.mk hw0
  go_enter Tryz.func24, Tryz.ntmps24
  go_wp2_with (refine gate_ (.load 40 (.tmp 2)) rfl ?_; refine load_ev rfl _ _ rfl _ _ _ _ rfl hbx.out hu1 rfl rfl ?_)
  rw [← hW0]
  refine (all_ref p hp hsm _ _ (kProblem.K_below hw0.out HP.out)).mono ?_
  replace hW0 := Aside0.mk hW0
  rintro e w1 ⟨⟨A, c, rfl, hC⟩, hb⟩
  obtain ⟨L, hL⟩ : ∃ L, L = allOf p := ⟨_, rfl⟩
  rw [← hL] at hC hal ⊢
  replace hL := Aside0.mk hL
  have hC := Aside0.mk hC
  have kk1 := Aside0.mk ((hb.block _ (blk_lt kk.out)).trans kk.out)
  have hb1 := Aside0.mk (hw0.out.trans (hb.mono hw0.out.size))
  clear hb
  go_wp2_with fail
  go_loopw [6] (fun v wr => ∃ i : Nat, v = .int .i64 i ∧ i ≤ L.length ∧ Aside0 (upTo (fun j => !isCh L y j) i) ∧ Aside0 (Below w1.heap.size w1 wr)) (fun v _ => L.length - (intOf v).toNat)
  case atStart => exact ⟨0, rfl, by omega, ⟨upTo_zero _⟩, ⟨Below.refl _ _⟩⟩
  case round =>
    obtain ⟨i, rfl, hi, hno, hb⟩ := hrel
    by_cases hlt : i < L.length
    · obtain ⟨x, hx⟩ : ∃ x, L[i]? = some x := ⟨_, List.getElem?_eq_getElem hlt⟩
      obtain ⟨ad, rfl, h0, h1, h2⟩ := el_Choice (Kd.C_below hC.out hb.out) i x hx
      have hz := (hb.out.block _ (blk_lt kk1.out)).trans kk1.out
      have y0 := (blk_cell hz 0).trans (show _ = some (Value.int .i64 y.f0) from rfl)
      have y1 := (blk_cell hz 1).trans (show _ = some (Value.bool y.f1) from rfl)
      have y2 := (blk_cell hz 2).trans (show _ = some (Value.int .i64 y.f2) from rfl)
      have hsp := Aside0.mk (show isCh L y i = (x.f0 == y.f0 && (x.f1 == y.f1 && (x.f2 == y.f2))) by simp only [isCh, hx, eqCh])
      obtain ⟨q, hq⟩ : ∃ q, (x.f0 == y.f0 && (x.f1 == y.f1 && (x.f2 == y.f2))) = q := ⟨_, rfl⟩
      have hb2 : Aside0 (Below w1.heap.size w1 wr.drew) := ⟨below_drew hb.out⟩
      clear hx hz
      go_wp2
      refine start_ (n := 6) (S := (fun w' => w'.cell? (ad.add (i * 3)) = some (.int .i64 x.f0) ∧ w'.cell? ⟨(ad.add (i * 3)).block, (ad.add (i * 3)).off + 1, none⟩ = some (.bool x.f1) ∧ w'.cell? ⟨(ad.add (i * 3)).block, (ad.add (i * 3)).off + 2, none⟩ = some (.int .i64 x.f2) ∧ w'.cell? ⟨w.heap.size + 1, 0, none⟩ = some (.int .i64 y.f0) ∧ w'.cell? ⟨w.heap.size + 1, 1, none⟩ = some (.bool y.f1) ∧ w'.cell? ⟨w.heap.size + 1, 2, none⟩ = some (.int .i64 y.f2))) (ds := []) #[false, false, false, false, false, false] (by kernel_rfl) rfl rfl (⟨h0, h1, h2, y0, y1, y2⟩) (fun hHeld => ?_)
      refine pure_ (i := 0) (N := some 15) (v := ?_) (a' := ?_) #[true, false, false, false, false, false] rfl rfl (by kernel_rfl) (fun _ _ _ h => h) (Or.inl ⟨by rfl, ?_⟩) ?_ ?_
      rotate_left
      · intro w'
        go_simp
        with_reducible rfl
      rotate_left
      · simp only [Act.put, List.setIfInBounds_toArray, List.set_cons_zero, List.set_cons_succ, i64_w, i32_w]
        rfl
      refine pure_ (i := 1) (N := some 16) (v := ?_) (a' := ?_) #[true, true, false, false, false, false] rfl rfl (by kernel_rfl) (fun _ _ _ h => h) (Or.inl ⟨by rfl, ?_⟩) ?_ ?_
      rotate_left
      · intro w'
        go_simp
        with_reducible rfl
      rotate_left
      · simp only [Act.put, List.setIfInBounds_toArray, List.set_cons_zero, List.set_cons_succ, i64_w, i32_w]
        rfl
      refine pure_ (i := 2) (N := some 17) (v := ?_) (a' := ?_) #[true, true, true, false, false, false] rfl rfl (by kernel_rfl) (fun _ _ _ h => h) (Or.inl ⟨by rfl, ?_⟩) ?_ ?_
      rotate_left
      · intro w'
        go_simp
        with_reducible rfl
      rotate_left
      · simp only [Act.put, List.setIfInBounds_toArray, List.set_cons_zero, List.set_cons_succ, i64_w, i32_w]
        rfl
      refine take_ (i := 3) (N := some 18) (v := ?_) (a' := ?_) #[true, true, true, true, false, false] rfl rfl (by kernel_rfl) (fun _ _ _ h => h) (Or.inl ⟨by rfl, ?_⟩) hHeld ?_ ?_
      rotate_left
      · rintro w' ⟨s0, s1, s2, s3, s4, s5⟩
        go_simp
        with_reducible rfl
      rotate_left
      · simp only [Act.put, List.setIfInBounds_toArray, List.set_cons_zero, List.set_cons_succ, i64_w, i32_w]
        rfl
      refine take_ (i := 4) (N := some 19) (v := ?_) (a' := ?_) #[true, true, true, true, true, false] rfl rfl (by kernel_rfl) (fun _ _ _ h => h) (Or.inl ⟨by rfl, ?_⟩) hHeld ?_ ?_
      rotate_left
      · rintro w' ⟨s0, s1, s2, s3, s4, s5⟩
        go_simp
        with_reducible rfl
      rotate_left
      · simp only [Act.put, List.setIfInBounds_toArray, List.set_cons_zero, List.set_cons_succ, i64_w, i32_w]
        rfl
      refine pure_ (i := 5) (N := some 20) (v := ?_) (a' := ?_) #[true, true, true, true, true, true] rfl rfl (by kernel_rfl) (fun _ _ _ h => h) (Or.inl ⟨by rfl, ?_⟩) ?_ ?_
      rotate_left
      · intro w'
        go_simp
        with_reducible rfl
      rotate_left
      · simp only [Act.put, List.setIfInBounds_toArray, List.set_cons_zero, List.set_cons_succ, i64_w, i32_w]
        rfl
      refine done_ (by kernel_rfl) ?_
      clear h0 h1 h2 y0 y1 y2
      cases q
      · replace hq := Aside0.mk hq
        go_wp2_with fail
        go_roundw
        case rel => exact ⟨i + 1, by go_num, by omega, ⟨upTo_snoc hno.out (by rw [hsp.out, hq.out]; rfl)⟩, hb2⟩
        case measure => simp [intOf]; omega
      · replace hq := Aside0.mk hq
        go_wp2_with fail
        go_ret
        exact ⟨ret_i64 (by rw [ofIn, ← hL.out, firstBad_some hlt hno.out (by rw [hsp.out, hq.out])]; rfl), hb1.out.trans (hb2.out.mono hb1.out.size)⟩
    · obtain rfl : i = L.length := by omega
      go_wp2_with fail
      go_ret
      exact ⟨ret_i64 (by rw [ofIn, ← hL.out, firstBad_none hno.out]; rfl), hb1.out.trans (hb.out.mono hb1.out.size)⟩
set_option maxRecDepth 100000 in
set_option maxHeartbeats 2000000 in
theorem reftime_calls (p : Problem) (hp : wfProblem p) (hsm : problemOk p = true → Small p) (pcs : List Value) (w : World) (hP : kProblem.K w p pcs) (c i : Int) (r : Int) (hr : ofIn (allOf p) ⟨c, false, i⟩ = r) :
    Calls Tryz.prog 26 #[.agg pcs.toArray, .int .i64 c, .int .i64 i] w fun e w' => e = .returned (.int .i64 r) ∧ Below w.heap.size w w' := by
  subst hr
  have HP := Aside0.mk hP
  obtain ⟨A4, c4, A5, c5, A6, c6, A7, c7, A8, c8, A9, c9, A10, c10, rfl, l4, g4, l5, g5, l6, g6, l7, g7, l8, g8, l9, g9, l10, g10⟩ := kProblem_open hP
  clear hP g4 g5 g6 g7 g8 g9 g10
  have hu1 := Tryz.underlying40
  have hu5 := Tryz.underlying42
  have hal := length_allOf p hsm
  have hbx := Aside0.mk (blk_new w (.cells #[.string p.f0, .int .i64 p.f1.f0, .int .i64 p.f1.f1, .int .i64 p.f1.f2, .slice A4 p.f2.length c4, .slice A5 p.f3.length c5, .slice A6 p.f4.length c6, .slice A7 p.f5.length c7, .slice A8 p.f6.length c8, .slice A9 p.f7.length c9, .slice A10 p.f8.length c10, .int .i64 p.f9.f0, .int .i64 p.f9.f1, .int .i64 p.f9.f2, .int .i64 p.f9.f3] 40))
  go_enter Tryz.func26, Tryz.ntmps26
  go_wp2_with (refine gate_ (.load 40 (.tmp 3)) rfl ?_; refine load_ev rfl _ _ rfl _ _ _ _ rfl hbx.out hu1 rfl rfl ?_)
  refine (refof_calls p hp hsm _ _ (kProblem.K_below (below_alloc (Below.refl _ _) _) HP.out) ⟨c, false, i⟩ _ rfl).mono ?_
  rintro e w1 ⟨rfl, hb⟩
  go_wp2_with fail
  go_ret
  exact ⟨rfl, below1 hb⟩
set_option maxRecDepth 100000 in
set_option maxHeartbeats 2000000 in
theorem refplace_calls (p : Problem) (hp : wfProblem p) (hsm : problemOk p = true → Small p) (pcs : List Value) (w : World) (hP : kProblem.K w p pcs) (c i : Int) (r : Int) (hr : ofIn (allOf p) ⟨c, true, i⟩ = r) :
    Calls Tryz.prog 28 #[.agg pcs.toArray, .int .i64 c, .int .i64 i] w fun e w' => e = .returned (.int .i64 r) ∧ Below w.heap.size w w' := by
  subst hr
  have HP := Aside0.mk hP
  obtain ⟨A4, c4, A5, c5, A6, c6, A7, c7, A8, c8, A9, c9, A10, c10, rfl, l4, g4, l5, g5, l6, g6, l7, g7, l8, g8, l9, g9, l10, g10⟩ := kProblem_open hP
  clear hP g4 g5 g6 g7 g8 g9 g10
  have hu1 := Tryz.underlying40
  have hu5 := Tryz.underlying42
  have hal := length_allOf p hsm
  have hbx := Aside0.mk (blk_new w (.cells #[.string p.f0, .int .i64 p.f1.f0, .int .i64 p.f1.f1, .int .i64 p.f1.f2, .slice A4 p.f2.length c4, .slice A5 p.f3.length c5, .slice A6 p.f4.length c6, .slice A7 p.f5.length c7, .slice A8 p.f6.length c8, .slice A9 p.f7.length c9, .slice A10 p.f8.length c10, .int .i64 p.f9.f0, .int .i64 p.f9.f1, .int .i64 p.f9.f2, .int .i64 p.f9.f3] 40))
  go_enter Tryz.func28, Tryz.ntmps28
  go_wp2_with (refine gate_ (.load 40 (.tmp 3)) rfl ?_; refine load_ev rfl _ _ rfl _ _ _ _ rfl hbx.out hu1 rfl rfl ?_)
  refine (refof_calls p hp hsm _ _ (kProblem.K_below (below_alloc (Below.refl _ _) _) HP.out) ⟨c, true, i⟩ _ rfl).mono ?_
  rintro e w1 ⟨rfl, hb⟩
  go_wp2_with fail
  go_ret
  exact ⟨rfl, below1 hb⟩
set_option maxRecDepth 100000 in
theorem give_choice {W : World} {g : Nat} {Z : Array Value} (hZ : W.heap[g]? = some (.cells Z 42 (0, 0))) (hs : Z.size = 3) (a : Int) (b : Bool) (c : Int) : ∃ wf, (Instr.storeAt 42 (.pointer (some ⟨g, 0, none⟩)) (.agg #[.int .i64 a, .bool b, .int .i64 c])).run Tryz.prog W = .ok () wf ∧
    wf.heap[g]? = some (.cells #[.int .i64 a, .bool b, .int .i64 c] 42 (0, 0)) ∧ Below g W wf := by
  obtain ⟨cur', h3, h4, h5⟩ := setCells_row [.int .i64 a, .bool b, .int .i64 c] 0 W Z hZ (by simp; omega)
  obtain ⟨s1, s2, s3, s4⟩ := setCells_same g [.int .i64 a, .bool b, .int .i64 c] 0 W
  refine ⟨W.setCells g 0 [.int .i64 a, .bool b, .int .i64 c], run_store_run _ _ [.int .i64 a, .bool b, .int .i64 c] hZ (by simp [Value.cells]) rfl (by simp; omega) (by intro q hq; simp only [List.mem_cons, List.not_mem_nil, or_false] at hq; rcases hq with rfl | rfl | rfl <;> rfl), ?_, ⟨s1, s2, s3, by rw [s4]; exact Nat.le_refl _, fun k hk => setCells_far _ _ k (by omega)⟩⟩
  rw [h3]
  have e : cur' = #[.int .i64 a, .bool b, .int .i64 c] := Array.toList_inj.1 (by rw [h5, List.take_zero, List.nil_append, List.drop_eq_nil_of_le (by rw [Array.length_toList]; simp; omega), List.append_nil])
  rw [e]
set_option maxRecDepth 100000 in
set_option maxHeartbeats 4000000 in
theorem refwhat_calls (p : Problem) (hp : wfProblem p) (hsm : problemOk p = true → Small p) (pcs : List Value) (w : World) (hP : kProblem.K w p pcs) (l : Int) (hl : wfInt .i64 l) (r : Choice × Bool) (hr : whatIn (allOf p) l = r) :
    Calls Tryz.prog 19 #[.agg pcs.toArray, .int .i64 l] w fun e w' => e = retChoice r ∧ Below w.heap.size w w' := by
  subst hr
  have HP := Aside0.mk hP
  obtain ⟨A4, c4, A5, c5, A6, c6, A7, c7, A8, c8, A9, c9, A10, c10, rfl, l4, g4, l5, g5, l6, g6, l7, g7, l8, g8, l9, g9, l10, g10⟩ := kProblem_open hP
  clear hP g4 g5 g6 g7 g8 g9 g10
  have hu1 := Tryz.underlying40
  have hu5 := Tryz.underlying42
  have hal := length_allOf p hsm
  have HL := Aside0.mk hl
  have hli := wf_i64 hl
  clear hl
  have hbx := Aside0.mk ((Below.heap_alloc (w.alloc (.cells #[.string p.f0, .int .i64 p.f1.f0, .int .i64 p.f1.f1, .int .i64 p.f1.f2, .slice A4 p.f2.length c4, .slice A5 p.f3.length c5, .slice A6 p.f4.length c6, .slice A7 p.f5.length c7, .slice A8 p.f6.length c8, .slice A9 p.f7.length c9, .slice A10 p.f8.length c10, .int .i64 p.f9.f0, .int .i64 p.f9.f1, .int .i64 p.f9.f2, .int .i64 p.f9.f3] 40)) (.cells #[.int .i64 0, .bool false, .int .i64 0] 42) w.heap.size (by simp)).trans (blk_new w (.cells #[.string p.f0, .int .i64 p.f1.f0, .int .i64 p.f1.f1, .int .i64 p.f1.f2, .slice A4 p.f2.length c4, .slice A5 p.f3.length c5, .slice A6 p.f4.length c6, .slice A7 p.f5.length c7, .slice A8 p.f6.length c8, .slice A9 p.f7.length c9, .slice A10 p.f8.length c10, .int .i64 p.f9.f0, .int .i64 p.f9.f1, .int .i64 p.f9.f2, .int .i64 p.f9.f3] 40)))
  have kk : Aside0 (((w.alloc (.cells #[.string p.f0, .int .i64 p.f1.f0, .int .i64 p.f1.f1, .int .i64 p.f1.f2, .slice A4 p.f2.length c4, .slice A5 p.f3.length c5, .slice A6 p.f4.length c6, .slice A7 p.f5.length c7, .slice A8 p.f6.length c8, .slice A9 p.f7.length c9, .slice A10 p.f8.length c10, .int .i64 p.f9.f0, .int .i64 p.f9.f1, .int .i64 p.f9.f2, .int .i64 p.f9.f3] 40)).alloc (.cells #[.int .i64 0, .bool false, .int .i64 0] 42)).heap[w.heap.size + 1]? = some (.cells #[.int .i64 0, .bool false, .int .i64 0] 42 (0, 0))) := ⟨by
    have := blk_new (w.alloc (.cells #[.string p.f0, .int .i64 p.f1.f0, .int .i64 p.f1.f1, .int .i64 p.f1.f2, .slice A4 p.f2.length c4, .slice A5 p.f3.length c5, .slice A6 p.f4.length c6, .slice A7 p.f5.length c7, .slice A8 p.f6.length c8, .slice A9 p.f7.length c9, .slice A10 p.f8.length c10, .int .i64 p.f9.f0, .int .i64 p.f9.f1, .int .i64 p.f9.f2, .int .i64 p.f9.f3] 40)) (.cells #[.int .i64 0, .bool false, .int .i64 0] 42)
    simpa using this⟩
  obtain ⟨L, hL⟩ : ∃ L, L = allOf p := ⟨_, rfl⟩
  rw [← hL] at hal ⊢
  replace hL := Aside0.mk hL
  have hu42 := Tryz.underlying42
  by_cases h0 : l = 0
  · subst h0
    go_enter Tryz.func19, Tryz.ntmps19
    go_wp2_with (refine gate_ (.load 40 (.tmp 2)) rfl ?_; refine load_ev rfl _ _ rfl _ _ _ _ rfl hbx.out hu1 rfl rfl ?_)
    refine (all_ref p hp hsm _ _ (kProblem.K_below (below_alloc (below_alloc (Below.refl _ _) _) _) HP.out)).mono ?_
    rintro e w1 ⟨⟨A, c, rfl, hC⟩, hb⟩
    rw [← hL.out] at hC ⊢
    have hz := (hb.block (w.heap.size + 1) (by simp)).trans kk.out
    have hb1 := Aside0.mk (below2 hb)
    clear hb
    obtain ⟨wf, hst, hcf, hbf⟩ := give_choice hz rfl 0 false 0
    replace hst := Aside0.mk hst
    replace hcf := Aside0.mk hcf
    replace hbf := Aside0.mk hbf
    clear hz hC
    go_wp2_with fail
    refine (rsize_calls 0 HL.out 0 rfl _).mono ?_
    rintro e w' ⟨rfl, rfl⟩
    go_wp2_with (refine gate_ (.store 42 (.tmp 4) (.tmp 21)) rfl ?_; refine store_ev rfl rfl _ _ _ rfl _ _ rfl rfl hst.out ?_)
    try simp only [Exit.inBlock, Exit.then]
    refine bodyPost_ret_by (res_cell_tmp rfl _ _ (w.heap.size + 1) 42 _ _ _ rfl hcf.out hu42 rfl rfl rfl) rfl ?_
    exact ⟨by rw [whatIn, if_pos (.inl rfl)]; rfl, hb1.out.trans (hbf.out.mono (by omega))⟩
  by_cases h1 : L.length < l.natAbs
  · have hz' : whatIn L l = (noChoice, false) := by rw [whatIn, if_pos (.inr h1)]
    rw [hz']
    obtain ⟨k, hk⟩ : ∃ k : Nat, l.natAbs = k := ⟨_, rfl⟩
    have hk0 : 0 < k := by omega
    have hk1 : L.length < k := by omega
    have HK := Aside0.mk hk
    have hkm : k ≤ 9223372036854775808 := by omega
    clear hz' h1 hk h0
    go_enter Tryz.func19, Tryz.ntmps19
    go_wp2_with (refine gate_ (.load 40 (.tmp 2)) rfl ?_; refine load_ev rfl _ _ rfl _ _ _ _ rfl hbx.out hu1 rfl rfl ?_)
    refine (all_ref p hp hsm _ _ (kProblem.K_below (below_alloc (below_alloc (Below.refl _ _) _) _) HP.out)).mono ?_
    rintro e w1 ⟨⟨A, c, rfl, hC⟩, hb⟩
    rw [← hL.out] at hC ⊢
    have hz := (hb.block (w.heap.size + 1) (by simp)).trans kk.out
    have hb1 := Aside0.mk (below2 hb)
    clear hb
    obtain ⟨wf, hst, hcf, hbf⟩ := give_choice hz rfl 0 false 0
    replace hst := Aside0.mk hst
    replace hcf := Aside0.mk hcf
    replace hbf := Aside0.mk hbf
    clear hz hC
    go_wp2_with fail
    refine (rsize_calls l HL.out k (by rw [HK.out]) _).mono ?_
    rintro e w' ⟨rfl, rfl⟩
    go_wp2_with (refine gate_ (.store 42 (.tmp 4) (.tmp 21)) rfl ?_; refine store_ev rfl rfl _ _ _ rfl _ _ rfl rfl hst.out ?_)
    try simp only [Exit.inBlock, Exit.then]
    refine bodyPost_ret_by (res_cell_tmp rfl _ _ (w.heap.size + 1) 42 _ _ _ rfl hcf.out hu42 rfl rfl rfl) rfl ?_
    exact ⟨rfl, hb1.out.trans (hbf.out.mono (by omega))⟩
  · obtain ⟨k, hk⟩ : ∃ k : Nat, l.natAbs = k + 1 := ⟨l.natAbs - 1, by omega⟩
    obtain ⟨x, hx⟩ : ∃ x, L[k]? = some x := ⟨_, List.getElem?_eq_getElem (by omega)⟩
    have hz' : whatIn L l = (x, true) := by rw [whatIn, if_neg (by omega), hk, Nat.add_sub_cancel, hx]
    rw [hz']
    have hk1 : k < L.length := by omega
    have HK := Aside0.mk hk
    have hd0 : ((k : Int) + 1 == 0) = false := beq_eq_false_iff_ne.2 (by omega)
    have hd1 : decide ((L.length : Int) < (k : Int) + 1) = false := decide_eq_false (by omega)
    have hkm : k ≤ 1000000000 := by omega
    replace hx := Aside0.mk hx
    clear hz' h1 hk h0
    go_enter Tryz.func19, Tryz.ntmps19
    go_wp2_with (refine gate_ (.load 40 (.tmp 2)) rfl ?_; refine load_ev rfl _ _ rfl _ _ _ _ rfl hbx.out hu1 rfl rfl ?_)
    refine (all_ref p hp hsm _ _ (kProblem.K_below (below_alloc (below_alloc (Below.refl _ _) _) _) HP.out)).mono ?_
    rintro e w1 ⟨⟨A, c, rfl, hC⟩, hb⟩
    rw [← hL.out] at hC ⊢
    have hz := (hb.block (w.heap.size + 1) (by simp)).trans kk.out
    have hb1 := Aside0.mk (below2 hb)
    clear hb
    obtain ⟨ad, rfl, e0, e1, e2⟩ := el_Choice hC k x hx.out
    obtain ⟨wf, hst, hcf, hbf⟩ := give_choice hz rfl x.f0 x.f1 x.f2
    replace hst := Aside0.mk hst
    replace hcf := Aside0.mk hcf
    replace hbf := Aside0.mk hbf
    clear hz hC
    go_wp2_with fail
    refine (rsize_calls l HL.out (k + 1 : Nat) (by rw [HK.out]) _).mono ?_
    rintro e w' ⟨rfl, rfl⟩
    go_wp2_with (refine gate_ (.store 42 (.tmp 4) (.tmp 26)) rfl ?_; refine store_ev rfl rfl _ _ _ rfl _ _ rfl rfl hst.out ?_)
    try simp only [Exit.inBlock, Exit.then]
    refine bodyPost_ret_by (res_cell_tmp rfl _ _ (w.heap.size + 1) 42 _ _ _ rfl hcf.out hu42 rfl rfl rfl) rfl ?_
    exact ⟨rfl, hb1.out.trans (hbf.out.mono (by omega))⟩
end Go.Proofs.YthalgemkblkhgaaGreat
