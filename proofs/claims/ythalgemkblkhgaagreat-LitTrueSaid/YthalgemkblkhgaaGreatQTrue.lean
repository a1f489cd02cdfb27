/- lit.Map's holds, True, Holds, and the document's True and Holds of chapter 27. -/
import Derived.Test.YthalgemkblkhgaaGreatQHolds
namespace Go.Proofs.YthalgemkblkhgaaGreat
open Go.Proofs Go.RowKit Go.Proofs.YthalgemkblkhgaaGreatW.PrintWords Go.Proofs.YthalgemkblkhgaaGreatW.PrintLast
set_option linter.unusedVariables false
set_option linter.unusedSimpArgs false

theorem run_load_op2 {P : Program} {oi : Oper} {a : Act} {W : World} (t : TypeId) (p : Operand) (ho : oi.op = .load t p) (g : Nat) (cs : List Value) (d : TypeDesc) (hp : a.eval p = .pointer (some ⟨g, 0, none⟩))
    (hg : ∀ j v, cs[j]? = some v → W.cell? ⟨g, j, none⟩ = some v) (hu : P.underlying t = some d) (hd : (match d with | .struct _ | .array _ _ => true | _ => false) = true) (hi : (P.info? t).map (·.size) = some cs.length) :
    (execOp a.eval oi).run P W = .ok (.value (.agg cs.toArray)) W := by
  have hr := loadVar_cells W g t cs d hg hu hd hi
  unfold execOp
  simp only [ho, hp, Instr.loadAt, Instr.sureAddr, Sem.run_bind, Sem.run_pure, Result.andThen_ok, hr]
def holdsOf (p : Problem) (l : List Seat) (cl : List Int) : Bool := planOk p l && cl.any (litAt p l)
theorem planOk_no {p : Problem} (h : problemOk p = false) (l : List Seat) : planOk p l = false := by simp [planOk, h]
set_option maxRecDepth 100000 in
set_option maxHeartbeats 4000000 in
theorem mholds_calls (p : Problem) (hp : wfProblem p) (b : Nat) (w : World) (hM : MBox w b (mapOf p)) (l : List Seat) (A : Option Addr) (c : Nat) (hA : kSeat.C w A l.length l) (cl : List Int) (hcl : ∀ x ∈ cl, wfInt .i64 x) (B : Option Addr) (d : Nat) (hB : (Kd.int .i64).C w B cl.length cl) (r : Bool) (hr : holdsOf p l cl = r) :
    Calls Tryz.prog 64 #[.pointer (some ⟨b, 0, none⟩), .slice A l.length c, .slice B cl.length d] w fun e w' => e = .returned (.bool r) ∧ Below w.heap.size w w' := by
  subst hr
  obtain ⟨pcs, hK, h15, hcell⟩ := hM.problem
  have hlt := World.block_lt_of_cell? w _ (hcell 0 _ (List.getElem?_eq_getElem (by omega)))
  have hi1 : (Tryz.prog.info? 40).map (·.size) = some pcs.length := by rw [h15]; exact infoProblem
  have hu := Tryz.underlying40
  have HM := Aside0.mk hM
  have HA := Aside0.mk hA
  have HB := Aside0.mk hB
  have HK := Aside0.mk hK
  have HL := Aside0.mk hcl
  have hW := Aside0.mk (below_alloc (below_alloc (Below.refl w.heap.size w) (.cells #[.pointer (some ⟨b, 0, none⟩)] 44)) (.cells #[.slice A l.length c] 57))
  have hpc : ∀ j v, pcs[j]? = some v → ((w.alloc (.cells #[.pointer (some ⟨b, 0, none⟩)] 44)).alloc (.cells #[.slice A l.length c] 57)).cell? ⟨b, j, none⟩ = some v := fun j v hj => cell_on hW.out (hcell j v hj)
  replace hpc := Aside0.mk hpc
  have z0 : ((w.alloc (.cells #[.pointer (some ⟨b, 0, none⟩)] 44)).alloc (.cells #[.slice A l.length c] 57)).cell? ⟨w.heap.size, 0, none⟩ = some (.pointer (some ⟨b, 0, none⟩)) := cell_on (below_alloc (Below.refl _ _) _) (blk_cell (blk_new w _) 0)
  have z1 : ((w.alloc (.cells #[.pointer (some ⟨b, 0, none⟩)] 44)).alloc (.cells #[.slice A l.length c] 57)).cell? ⟨w.heap.size + 1, 0, none⟩ = some (.slice A l.length c) := by
    simp
  have Z0 := Aside0.mk z0
  have Z1 := Aside0.mk z1
  clear hM hA hB hK hcl hcell z0 z1
  go_enter Tryz.func64, Tryz.ntmps64
  go_wp2
  refine start_ (n := 11) (S := (fun w' => w'.cell? ⟨w.heap.size, 0, none⟩ = some (.pointer (some ⟨b, 0, none⟩)) ∧ w'.cell? ⟨w.heap.size + 1, 0, none⟩ = some (.slice A l.length c) ∧ Aside0 (∀ j v, pcs[j]? = some v → w'.cell? ⟨b, j, none⟩ = some v))) (ds := []) #[false, false, false, false, false, false, false, false, false, false, false] (by kernel_rfl) rfl rfl (⟨Z0.out, Z1.out, ⟨hpc.out⟩⟩) (fun hHeld => ?_)
  refine take_ (i := 0) (N := some 7) (v := ?_) (a' := ?_) #[true, false, false, false, false, false, false, false, false, false, false] rfl rfl (by kernel_rfl) (fun _ _ _ h => h) (Or.inl ⟨by rfl, ?_⟩) hHeld ?_ ?_
  rotate_left
  · rintro w' ⟨s1, s2, s3⟩
    go_simp
    with_reducible rfl
  rotate_left
  · simp only [Act.put, List.setIfInBounds_toArray, List.set_cons_zero, List.set_cons_succ, i64_w, i32_w]
    rfl
  refine pure_ (i := 1) (N := some 8) (v := ?_) (a' := ?_) #[true, true, false, false, false, false, false, false, false, false, false] rfl rfl (by kernel_rfl) (fun _ _ _ h => h) (Or.inl ⟨by rfl, ?_⟩) ?_ ?_
  rotate_left
  · intro w'
    go_simp
    with_reducible rfl
  rotate_left
  · simp only [Act.put, List.setIfInBounds_toArray, List.set_cons_zero, List.set_cons_succ, i64_w, i32_w]
    rfl
  refine pure_ (i := 2) (N := some 9) (v := ?_) (a' := ?_) #[true, true, true, false, false, false, false, false, false, false, false] rfl rfl (by kernel_rfl) (fun _ _ _ h => h) (Or.inl ⟨by rfl, ?_⟩) ?_ ?_
  rotate_left
  · intro w'
    go_simp
    with_reducible rfl
  rotate_left
  · simp only [Act.put, List.setIfInBounds_toArray, List.set_cons_zero, List.set_cons_succ, i64_w, i32_w]
    rfl
  refine take_ (i := 3) (N := some 10) (v := ?_) (a' := ?_) #[true, true, true, true, false, false, false, false, false, false, false] rfl rfl (by kernel_rfl) (fun _ _ _ h => h) (Or.inl ⟨by rfl, ?_⟩) hHeld ?_ ?_
  rotate_left
  · rintro w' ⟨s1, s2, s3⟩
    go_simp
    with_reducible rfl
  rotate_left
  · simp only [Act.put, List.setIfInBounds_toArray, List.set_cons_zero, List.set_cons_succ, i64_w, i32_w]
    rfl
  refine pure_ (i := 4) (N := some 11) (v := ?_) (a' := ?_) #[true, true, true, true, true, false, false, false, false, false, false] rfl rfl (by kernel_rfl) (fun _ _ _ h => h) (Or.inl ⟨by rfl, ?_⟩) ?_ ?_
  rotate_left
  · intro w'
    go_simp
    with_reducible rfl
  rotate_left
  · simp only [Act.put, List.setIfInBounds_toArray, List.set_cons_zero, List.set_cons_succ, i64_w, i32_w]
    rfl
  refine pure_ (i := 5) (N := some 12) (v := ?_) (a' := ?_) #[true, true, true, true, true, true, false, false, false, false, false] rfl rfl (by kernel_rfl) (fun _ _ _ h => h) (Or.inl ⟨by rfl, ?_⟩) ?_ ?_
  rotate_left
  · intro w'
    go_simp
    with_reducible rfl
  rotate_left
  · simp only [Act.put, List.setIfInBounds_toArray, List.set_cons_zero, List.set_cons_succ, i64_w, i32_w]
    rfl
  refine take_ (i := 6) (N := some 13) (v := ?_) (a' := ?_) #[true, true, true, true, true, true, true, false, false, false, false] rfl rfl (by kernel_rfl) (fun _ _ _ h => h) (Or.inl ⟨by rfl, ?_⟩) hHeld ?_ ?_
  rotate_left
  · rintro w' ⟨s1, s2, s3⟩
    refine run_load_op2 40 (.tmp 12) ?_ b pcs _ ?_ s3.out hu rfl hi1 <;> rfl
  rotate_left
  · simp only [Act.put, List.setIfInBounds_toArray, List.set_cons_zero, List.set_cons_succ, i64_w, i32_w]
    rfl
  refine take_ (i := 7) (N := some 14) (v := ?_) (a' := ?_) #[true, true, true, true, true, true, true, true, false, false, false] rfl rfl (by kernel_rfl) (fun _ _ _ h => h) (Or.inl ⟨by rfl, ?_⟩) hHeld ?_ ?_
  rotate_left
  · rintro w' ⟨s1, s2, s3⟩
    go_simp
    with_reducible rfl
  rotate_left
  · simp only [Act.put, List.setIfInBounds_toArray, List.set_cons_zero, List.set_cons_succ, i64_w, i32_w]
    rfl
  refine one_ (i := 8) (N := some 15) #[true, true, true, true, true, true, true, true, true, false, false] rfl rfl (by kernel_rfl) (by decide) (fun K hK => ?_)
  refine goes_ Tryz.func62 (by kernel_rfl) rfl #[.agg pcs.toArray, .slice A l.length c] (by rfl) rfl rfl (by (try simp only [List.map_toArray, List.map_cons, List.map_nil]); first | done | rfl) ?_
  refine (planright_calls p hp pcs _ (kProblem.K_below (below_drew hW.out) HK.out) l A c (Kd.C_below HA.out (below_drew hW.out)) _ rfl).mono ?_
  rintro e w2 ⟨rfl, hb2⟩
  have hb9 := Aside0.mk (bthen (below_drew hW.out) hb2 (Nat.le_refl _))
  have hb2' := Aside0.mk (below_then (below_drew (Below.refl _ _)) (Nat.le_refl _) hb2)
  refine ⟨_, rfl, ?_⟩
  refine hK.out _ _ ⟨cell_on hb2'.out Z0.out, cell_on hb2'.out Z1.out, ⟨fun j v hj => cell_on hb2'.out (hpc.out j v hj)⟩⟩ (fun hHeld => ?_)
  clear hK K
  refine norm_ (a' := ?_) ?_ ?_
  rotate_left
  · show Act.put _ (some 15) _ = _
    simp only [Act.put, List.setIfInBounds_toArray, List.set_cons_zero, List.set_cons_succ, i64_w, i32_w]
    rfl
  refine pure_ (i := 9) (N := some 16) (v := ?_) (a' := ?_) #[true, true, true, true, true, true, true, true, true, true, false] rfl rfl (by kernel_rfl) (fun _ _ _ h => h) (Or.inl ⟨by rfl, ?_⟩) ?_ ?_
  rotate_left
  · intro w'
    go_simp
    with_reducible rfl
  rotate_left
  · simp only [Act.put, List.setIfInBounds_toArray, List.set_cons_zero, List.set_cons_succ, i64_w, i32_w]
    rfl
  refine pure_ (i := 10) (N := some 17) (v := ?_) (a' := ?_) #[true, true, true, true, true, true, true, true, true, true, true] rfl rfl (by kernel_rfl) (fun _ _ _ h => h) (Or.inl ⟨by rfl, ?_⟩) ?_ ?_
  rotate_left
  · intro w'
    go_simp
    with_reducible rfl
  rotate_left
  · simp only [Act.put, List.setIfInBounds_toArray, List.set_cons_zero, List.set_cons_succ, i64_w, i32_w]
    rfl
  refine done_ (by kernel_rfl) ?_
  have y0 := Aside0.mk (cell_on hb2'.out Z0.out)
  have y1 := Aside0.mk (cell_on hb2'.out Z1.out)
  cases hpl : planOk p l
  · replace hpl := Aside0.mk hpl
    go_wp2
    go_ret
    exact ⟨ret_bool (by rw [holdsOf, hpl.out]; rfl), hb9.out⟩
  have hsp : Aside0 (holdsOf p l cl = cl.any (litAt p l)) := ⟨by rw [holdsOf, hpl]; rfl⟩
  replace hpl := Aside0.mk hpl
  go_wp2_with fail
  refine (contains_calls (litAt p l) cl B d _ (Kd.C_below HB.out hb9.out) _ _ (fun x w' hb hx => clos_calls p l hpl.out b _ _ A c w' (HM.out.below (bthen hb9.out hb (Nat.le_refl _))) (Kd.C_below HA.out (bthen hb9.out hb (Nat.le_refl _))) (cell_on hb y0.out) (cell_on hb y1.out) x (HL.out x hx) _ rfl) _ rfl).mono ?_
  rintro e w3 ⟨rfl, hb3⟩
  replace hb3 := Aside0.mk hb3
  go_wp2_with fail
  go_ret
  exact ⟨ret_bool (by rw [hsp.out]), bthen hb9.out hb3.out (Nat.le_refl _)⟩
section
variable {p : Problem} {mv : Value} {w : World}
set_option maxHeartbeats 1000000 in
theorem ans_holds (hp : wfProblem p) (h : Ans p mv w) (l : List Seat) (A : Option Addr) (c : Nat) (hA : kSeat.C w A l.length l) (cl : List Int) (hcl : ∀ x ∈ cl, wfInt .i64 x) (B : Option Addr) (d : Nat) (hB : (Kd.int .i64).C w B cl.length cl) (r : Bool) (hr : holdsOf p l cl = r) :
    Calls Tryz.prog 36 #[mv, .slice A l.length c, .slice B cl.length d] w fun e w' => e = .returned (.bool r) ∧ Below w.heap.size w w' := by
  rcases h with ⟨rfl, h⟩ | ⟨h, b, rfl, hM⟩
  · have e : r = false := by rw [← hr, holdsOf, planOk_no h]; rfl
    subst e
    exact hold_nil A B l.length c cl.length d w
  · have hc := Aside0.mk (mholds_calls p hp b w hM l A c hA cl hcl B d hB r hr)
    clear hA hB hM
    go_enter Tryz.func36, Tryz.ntmps36
    go_wp2_with fail
    refine hc.out.mono ?_
    rintro e w1 ⟨rfl, hb⟩
    go_wp2_with fail
    go_ret
    exact ⟨rfl, hb⟩
set_option maxHeartbeats 1000000 in
theorem ans_true (hp : wfProblem p) (h : Ans p mv w) (l : List Seat) (A : Option Addr) (c : Nat) (hA : kSeat.C w A l.length l) (n : Int) (hn : wfInt .i64 n) (r : Bool) (hr : trueOf p l n = r) :
    Calls Tryz.prog 34 #[mv, .slice A l.length c, .int .i64 n] w fun e w' => e = .returned (.bool r) ∧ Below w.heap.size w w' := by
  rcases h with ⟨rfl, h⟩ | ⟨h, b, rfl, hM⟩
  · have e : r = false := by rw [← hr, trueOf, planOk_no h]; rfl
    subst e
    exact true_nil A l.length c n w
  · have hb0 := Aside0.mk (below_alloc (Below.refl w.heap.size w) (.cells #[.int .i64 n] 3))
    have hC1 : (Kd.int .i64).C (w.alloc (.cells #[.int .i64 n] 3)) (some ⟨w.heap.size, 0, none⟩) ([n] : List Int).length [n] := C_of (blk_new w _) (by simp) (fun j x hj => by obtain ⟨rfl, rfl⟩ := at1 hj; rfl)
    have hc := Aside0.mk (mholds_calls p hp b _ (hM.below hb0.out) l A c (Kd.C_below hA hb0.out) [n] (fun x hx => by rw [List.mem_singleton.1 hx]; exact hn) (some ⟨w.heap.size, 0, none⟩) 1 hC1 r (by rw [← hr, holdsOf, trueOf_lit]; simp))
    clear hA hM hC1
    go_enter Tryz.func34, Tryz.ntmps34
    go_wp2_with fail
    refine hc.out.mono ?_
    rintro e w1 ⟨rfl, hb⟩
    have hb := Aside0.mk hb
    go_wp2_with fail
    go_ret
    exact ⟨rfl, bthen hb0.out hb.out (Nat.le_refl _)⟩
theorem ans_fixed (hp : wfProblem p) (h : Ans p mv w) (l : List Seat) (A : Option Addr) (c : Nat) (hA : kSeat.C w A l.length l) :
    Calls Tryz.prog 32 #[mv, .slice A l.length c] w fun e w' => (∃ A' c', e = .returned (.slice A' (fixedOf p l).length c') ∧ kI.C w' A' (fixedOf p l).length (fixedOf p l)) ∧ Below w.heap.size w w' := by
  rcases h with ⟨rfl, h⟩ | ⟨h, b, rfl, hM⟩
  · have e : fixedOf p l = [] := by rw [fixedOf, planOk_no h]; rfl
    rw [e]
    exact (fixed_nil A l.length c w).mono (fun e w' ⟨h1, h2⟩ => ⟨⟨none, 0, h1, rfl, by simp, fun h => absurd h (by simp)⟩, by rw [← h2]; exact Below.refl _ _⟩)
  · exact fixed_calls p hp h b w hM l A c hA
end
set_option maxRecDepth 100000 in
set_option maxHeartbeats 4000000 in
theorem reftrue_calls (p : Problem) (hp : wfProblem p) (pcs : List Value) (w : World) (hP : kProblem.K w p pcs) (l : List Seat) (A : Option Addr) (c : Nat) (hA : kSeat.C w A l.length l) (n : Int) (hn : wfInt .i64 n) (r : Bool) (hr : trueOf p l n = r) :
    Calls Tryz.prog 35 #[.agg pcs.toArray, .slice A l.length c, .int .i64 n] w fun e w' => e = .returned (.bool r) ∧ Below w.heap.size w w' := by
  subst hr
  rw [← true_law]
  have h15 : pcs.length = 15 := kProblem.K_len hP
  have hi1 : (Tryz.prog.info? 40).map (·.size) = some pcs.toArray.size := by rw [List.size_toArray, h15]; exact infoProblem
  have hPK := Aside0.mk hP
  have hmx := Kd.C_max hA
  have HA := Aside0.mk hA
  have hu1 := Tryz.underlying40
  have hu5 := Tryz.underlying42
  have hX := Aside0.mk (blk_new w (.cells pcs.toArray 40))
  have hb := Aside0.mk (below_alloc (Below.refl w.heap.size w) (.cells pcs.toArray 40))
  clear hP hA h15
  have HN := Aside0.mk hn
  clear hn
  obtain ⟨⟨⟨y0, y1, y2⟩, k⟩, hz⟩ : ∃ z, whatIn (allOf p) n = z := ⟨_, rfl⟩
  have hsp : Aside0 (trueRef p l n = (k && (planOk p l && (if n < 0 then !decide (-n ∈ fixedOf p l) else decide (n ∈ fixedOf p l))))) := ⟨by rw [trueRef, hz]⟩
  have hna : k = true → -9223372036854775807 ≤ n := fun hk => by
    have h1 := (whatIn_true (L := allOf p) (n := n) (by rw [hz]; exact hk)).2.1
    have h2 := length_allOf p (small_of p)
    omega
  replace hz := Aside0.mk hz
  go_enter Tryz.func35, Tryz.ntmps35
  go_wp2_with (first | (refine gate_ (.load 40 (.tmp 3)) rfl ?_; refine load_ev rfl _ _ rfl _ _ _ _ rfl hX.out hu1 rfl hi1 ?_) | (refine gate_ (.load 40 (.tmp 3)) rfl ?_; refine load_evg (by rfl) _ _ rfl _ _ _ _ rfl hX.out hu1 rfl hi1 ?_))
  refine (refwhat_calls p hp (small_of p) pcs _ (kProblem.K_below hb.out hPK.out) n HN.out _ hz.out).mono ?_
  rintro e w1 ⟨he, hb1⟩
  change e = Ending.returned (.tuple #[.agg #[.int .i64 y0, .bool y1, .int .i64 y2], .bool k]) at he
  subst he
  replace hX := Aside0.mk (blk_on hX.out (hb1))
  replace hb := Aside0.mk (bthen hb.out (hb1) (Nat.le_refl _))
  replace hX := Aside0.mk (blk_on hX.out (below_alloc (Below.refl w1.heap.size w1) (.cells #[.int .i64 y0, .bool y1, .int .i64 y2] 42)))
  replace hb := Aside0.mk (bthen hb.out (below_alloc (Below.refl w1.heap.size w1) (.cells #[.int .i64 y0, .bool y1, .int .i64 y2] 42)) (Nat.le_refl _))
  clear hb1
  cases k
  · clear hna
    go_wp2_with fail
    go_ret
    exact ⟨ret_bool (by rw [hsp.out]; rfl), hb.out⟩
  replace hna := hna (by simp)
  go_wp2_with (first | (refine gate_ (.load 40 (.tmp 3)) rfl ?_; refine load_ev rfl _ _ rfl _ _ _ _ rfl hX.out hu1 rfl hi1 ?_) | (refine gate_ (.load 40 (.tmp 3)) rfl ?_; refine load_evg (by rfl) _ _ rfl _ _ _ _ rfl hX.out hu1 rfl hi1 ?_))
  refine (right19_calls p hp pcs _ (kProblem.K_below hb.out hPK.out) l A c (Kd.C_below HA.out hb.out) _ rfl).mono ?_
  rintro e w2 ⟨rfl, hb2⟩
  replace hX := Aside0.mk (blk_on hX.out (hb2))
  replace hb := Aside0.mk (bthen hb.out (hb2) (Nat.le_refl _))
  clear hb2
  cases hpl : planOk p l
  · replace hpl := Aside0.mk hpl
    go_wp2_with fail
    go_ret
    exact ⟨ret_bool (by rw [hsp.out, hpl.out]; rfl), hb.out⟩
  replace hsp := Aside0.mk (hsp.out.trans (show _ = (if n < 0 then !decide (-n ∈ fixedOf p l) else decide (n ∈ fixedOf p l)) by rw [hpl]; rfl))
  replace hpl := Aside0.mk hpl
  by_cases h0 : n < 0
  · have hwr : wrap64 (-n) = -n := by unfold wrap64; omega
    go_wp2_with (first | (refine gate_ (.load 40 (.tmp 3)) rfl ?_; refine load_ev rfl _ _ rfl _ _ _ _ rfl hX.out hu1 rfl hi1 ?_) | (refine gate_ (.load 40 (.tmp 3)) rfl ?_; refine load_evg (by rfl) _ _ rfl _ _ _ _ rfl hX.out hu1 rfl hi1 ?_))
    have hrf := reffixed_calls p hp pcs _ (kProblem.K_below hb.out hPK.out) l A c (Kd.C_below HA.out hb.out)
    rw [fixed_law] at hrf
    refine hrf.mono ?_
    clear hrf
    rintro e w5 ⟨⟨A5, c5, rfl, hC5⟩, hb5⟩
    replace hX := Aside0.mk (blk_on hX.out (hb5))
    replace hb := Aside0.mk (bthen hb.out (hb5) (Nat.le_refl _))
    have hC5 := Aside0.mk hC5
    clear hb5
    go_wp2_with fail
    refine (hass_ref (fixedOf p l) A5 _ c5 rfl (-n) _ hC5.out _ rfl).mono ?_
    rintro e w' ⟨rfl, rfl⟩
    go_wp2_with fail
    go_ret
    exact ⟨ret_bool (by rw [hsp.out, if_pos h0]), hb.out⟩
  · skip
    go_wp2_with (first | (refine gate_ (.load 40 (.tmp 3)) rfl ?_; refine load_ev rfl _ _ rfl _ _ _ _ rfl hX.out hu1 rfl hi1 ?_) | (refine gate_ (.load 40 (.tmp 3)) rfl ?_; refine load_evg (by rfl) _ _ rfl _ _ _ _ rfl hX.out hu1 rfl hi1 ?_))
    have hrf := reffixed_calls p hp pcs _ (kProblem.K_below hb.out hPK.out) l A c (Kd.C_below HA.out hb.out)
    rw [fixed_law] at hrf
    refine hrf.mono ?_
    clear hrf
    rintro e w5 ⟨⟨A5, c5, rfl, hC5⟩, hb5⟩
    replace hX := Aside0.mk (blk_on hX.out (hb5))
    replace hb := Aside0.mk (bthen hb.out (hb5) (Nat.le_refl _))
    have hC5 := Aside0.mk hC5
    clear hb5
    go_wp2_with fail
    refine (hass_ref (fixedOf p l) A5 _ c5 rfl (n) _ hC5.out _ rfl).mono ?_
    rintro e w' ⟨rfl, rfl⟩
    go_wp2_with fail
    go_ret
    exact ⟨ret_bool (by rw [hsp.out, if_neg (by omega)]), hb.out⟩
set_option maxRecDepth 100000 in
set_option maxHeartbeats 4000000 in
theorem refholds_calls (p : Problem) (hp : wfProblem p) (pcs : List Value) (w : World) (hP : kProblem.K w p pcs) (l : List Seat) (A : Option Addr) (c : Nat) (hA : kSeat.C w A l.length l) (cl : List Int) (hcl : ∀ x ∈ cl, wfInt .i64 x) (B : Option Addr) (d : Nat) (hB : (Kd.int .i64).C w B cl.length cl) (r : Bool) (hr : holdsOf p l cl = r) :
    Calls Tryz.prog 37 #[.agg pcs.toArray, .slice A l.length c, .slice B cl.length d] w fun e w' => e = .returned (.bool r) ∧ Below w.heap.size w w' := by
  subst hr
  have h15 : pcs.length = 15 := kProblem.K_len hP
  have hi1 : (Tryz.prog.info? 40).map (·.size) = some pcs.toArray.size := by rw [List.size_toArray, h15]; exact infoProblem
  have hPK := Aside0.mk hP
  have hmx := Kd.C_max hA
  have HA := Aside0.mk hA
  have hu1 := Tryz.underlying40
  have hu5 := Tryz.underlying42
  have hX := Aside0.mk (blk_new w (.cells pcs.toArray 40))
  have hb := Aside0.mk (below_alloc (Below.refl w.heap.size w) (.cells pcs.toArray 40))
  clear hP hA h15
  have hmb := Kd.C_max hB
  have HB := Aside0.mk hB
  have HL := Aside0.mk hcl
  clear hB hcl
  have hsp : Aside0 (holdsOf p l cl = decide (0 ≤ idxF (trueOf p l) cl)) := ⟨by
    rw [← any_hit, holdsOf]
    cases h : planOk p l
    · have e : trueOf p l = fun _ => false := by funext n; rw [trueOf_lit, h]; rfl
      rw [e]
      simp
    · have e : trueOf p l = litAt p l := by funext n; rw [trueOf_lit, h]; rfl
      rw [e]
      rfl⟩
  go_enter Tryz.func37, Tryz.ntmps37
  go_wp2_with fail
  go_loopw [7] (fun v wr => ∃ i : Nat, v = .int .i64 i ∧ i ≤ cl.length ∧ Aside0 (upTo (fun j => !hitAt (trueOf p l) cl j) i) ∧ Aside0 (wr.heap[w.heap.size]? = some (.cells pcs.toArray 40 (0, 0))) ∧ Aside0 (Below w.heap.size w wr)) (fun v _ => cl.length - (intOf v).toNat)
  case atStart => exact ⟨0, rfl, by omega, ⟨upTo_zero _⟩, hX, hb⟩
  case round =>
    clear hX hb
    obtain ⟨i, rfl, hi, hno, hX, hb⟩ := hrel
    by_cases hlt : i < cl.length
    · obtain ⟨x, hx⟩ : ∃ x, cl[i]? = some x := ⟨_, List.getElem?_eq_getElem hlt⟩
      obtain ⟨ax, rfl, e1⟩ := el_int (Kd.C_below HB.out hb.out) i x hx
      have hsp2 := Aside0.mk (show hitAt (trueOf p l) cl i = trueOf p l x by simp only [hitAt, hx])
      have hwx := Aside0.mk (HL.out x (List.mem_of_getElem? hx))
      obtain ⟨q, hq⟩ : ∃ q, trueOf p l x = q := ⟨_, rfl⟩
      replace hx := Aside0.mk hx
      replace hq := Aside0.mk hq
      go_wp2_with fail
      refine start_ (n := 7) (S := (fun w' => w'.heap[w.heap.size]? = some (.cells pcs.toArray 40 (0, 0)) ∧ w'.cell? (ax.add i) = some (.int .i64 x))) (ds := []) #[false, false, false, false, false, false, false] (by kernel_rfl) rfl rfl (⟨hX.out, e1⟩) (fun hHeld => ?_)
      refine take_ (i := 0) (N := some 14) (v := ?_) (a' := ?_) #[true, false, false, false, false, false, false] rfl rfl (by kernel_rfl) (fun _ _ _ h => h) (Or.inl ⟨by rfl, ?_⟩) hHeld ?_ ?_
      rotate_left
      · rintro w' ⟨s1, s2⟩
        refine run_load_op 40 (.tmp 3) ?_ w.heap.size 40 pcs.toArray _ ?_ s1 hu1 rfl hi1 <;> rfl
      rotate_left
      · simp only [Act.put, List.setIfInBounds_toArray, List.set_cons_zero, List.set_cons_succ, i64_w, i32_w]
        rfl
      refine pure_ (i := 1) (N := some 15) (v := ?_) (a' := ?_) #[true, true, false, false, false, false, false] rfl rfl (by kernel_rfl) (fun _ _ _ h => h) (Or.inl ⟨by rfl, ?_⟩) ?_ ?_
      rotate_left
      · intro w'
        go_simp
        with_reducible rfl
      rotate_left
      · simp only [Act.put, List.setIfInBounds_toArray, List.set_cons_zero, List.set_cons_succ, i64_w, i32_w]
        rfl
      refine pure_ (i := 2) (N := some 16) (v := ?_) (a' := ?_) #[true, true, true, false, false, false, false] rfl rfl (by kernel_rfl) (fun _ _ _ h => h) (Or.inl ⟨by rfl, ?_⟩) ?_ ?_
      rotate_left
      · intro w'
        go_simp
        with_reducible rfl
      rotate_left
      · simp only [Act.put, List.setIfInBounds_toArray, List.set_cons_zero, List.set_cons_succ, i64_w, i32_w]
        rfl
      refine pure_ (i := 3) (N := some 17) (v := ?_) (a' := ?_) #[true, true, true, true, false, false, false] rfl rfl (by kernel_rfl) (fun _ _ _ h => h) (Or.inl ⟨by rfl, ?_⟩) ?_ ?_
      rotate_left
      · intro w'
        go_simp
        with_reducible rfl
      rotate_left
      · simp only [Act.put, List.setIfInBounds_toArray, List.set_cons_zero, List.set_cons_succ, i64_w, i32_w]
        rfl
      refine pure_ (i := 4) (N := some 18) (v := ?_) (a' := ?_) #[true, true, true, true, true, false, false] rfl rfl (by kernel_rfl) (fun _ _ _ h => h) (Or.inl ⟨by rfl, ?_⟩) ?_ ?_
      rotate_left
      · intro w'
        go_simp
        with_reducible rfl
      rotate_left
      · simp only [Act.put, List.setIfInBounds_toArray, List.set_cons_zero, List.set_cons_succ, i64_w, i32_w]
        rfl
      refine take_ (i := 5) (N := some 19) (v := ?_) (a' := ?_) #[true, true, true, true, true, true, false] rfl rfl (by kernel_rfl) (fun _ _ _ h => h) (Or.inl ⟨by rfl, ?_⟩) hHeld ?_ ?_
      rotate_left
      · rintro w' ⟨s1, s2⟩
        go_simp
        with_reducible rfl
      rotate_left
      · simp only [Act.put, List.setIfInBounds_toArray, List.set_cons_zero, List.set_cons_succ, i64_w, i32_w]
        rfl
      refine one_ (i := 6) (N := some 20) #[true, true, true, true, true, true, true] rfl rfl (by kernel_rfl) (by decide) (fun K hK => ?_)
      refine goes_ Tryz.func35 (by kernel_rfl) rfl #[.agg pcs.toArray, .slice A l.length c, .int .i64 x] (by rfl) rfl rfl (by (try simp only [List.map_toArray, List.map_cons, List.map_nil]); first | done | rfl) ?_
      refine (reftrue_calls p hp pcs _ (kProblem.K_below (below_drew hb.out) hPK.out) l A c (Kd.C_below HA.out (below_drew hb.out)) x hwx.out _ hq.out).mono ?_
      rintro e w5 ⟨rfl, hb5⟩
      have hw5 := Aside0.mk (below_then (below_drew (Below.refl _ _)) (Nat.le_refl _) hb5)
      refine ⟨_, rfl, ?_⟩
      refine hK.out _ _ ⟨blk_on hX.out hw5.out, cell_on hw5.out e1⟩ (fun hHeld => ?_)
      clear hK K
      refine norm_ (a' := ?_) ?_ ?_
      rotate_left
      · show Act.put _ (some 20) _ = _
        simp only [Act.put, List.setIfInBounds_toArray, List.set_cons_zero, List.set_cons_succ, i64_w, i32_w]
        rfl
      refine done_ (by kernel_rfl) ?_
      clear e1
      have hX5 := Aside0.mk (blk_on hX.out hw5.out)
      have hb6 := Aside0.mk (bthen hb.out hw5.out (Nat.le_refl _))
      cases q
      · go_wp2
        go_roundw
        case rel => exact ⟨i + 1, by go_num, by omega, ⟨upTo_snoc hno.out (by rw [hsp2.out, hq.out]; rfl)⟩, hX5, hb6⟩
        case measure => simp [intOf]; omega
      · go_wp2
        go_ret
        exact ⟨ret_bool (by rw [hsp.out, idxF, firstBad_some (P := hitAt (trueOf p l) cl) hlt hno.out (by rw [hsp2.out, hq.out])]; simp), hb6.out⟩
    · obtain rfl : i = cl.length := by omega
      go_wp2
      go_ret
      exact ⟨ret_bool (by rw [hsp.out, idxF, firstBad_none (P := hitAt (trueOf p l) cl) hno.out]; rfl), hb.out⟩
end Go.Proofs.YthalgemkblkhgaaGreat
