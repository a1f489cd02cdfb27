/- Is a row a plan: class.Seat, plan.Right, and the document's. -/
import Derived.Test.YthalgemkblkhgaaGreatQAns
namespace Go.Proofs.YthalgemkblkhgaaGreat
open Go.Proofs Go.RowKit Go.Proofs.YthalgemkblkhgaaGreatW.PrintWords Go.Proofs.YthalgemkblkhgaaGreatW.PrintLast
set_option linter.unusedVariables false
set_option linter.unusedSimpArgs false

def seatIn (x : Class) (s : Seat) : Bool := decide (-1 ≤ s.f0) && (decide (s.f0 < x.f4.length) && (decide (-1 ≤ s.f1) && decide (s.f1 < x.f5.length)))
def seatOkAt (cl : List Class) (l : List Seat) (i : Nat) : Bool := match cl[i]?, l[i]? with | some x, some s => seatIn x s | _, _ => true
def planOk (p : Problem) (l : List Seat) : Bool := problemOk p && (decide (l.length = p.f5.length) && allB l.length (seatOkAt p.f5 l))
set_option maxRecDepth 100000 in
set_option maxHeartbeats 2000000 in
theorem classSeat_calls (x : Class) (s : Seat) (cs : List Value) (w : World) (hK : kClass.K w x cs) (r : Bool) (h : seatIn x s = r) :
    Calls Tryz.prog 100 #[.agg cs.toArray, .agg #[.int .i64 s.f0, .int .i64 s.f1]] w fun e w' => e = .returned (.bool r) ∧ Below w.heap.size w w' := by
  subst h
  obtain ⟨A3, c3, A4, c4, A5, c5, rfl, l3, g3, l4, g4, l5, g5⟩ := kClass_open hK
  have hm4 := Kd.C_max g4
  have hm5 := Kd.C_max g5
  clear hK g3 g4 g5
  have hu1 := Tryz.underlying96
  have hu2 := Tryz.underlying103
  by_cases h1 : -1 ≤ s.f0
  · by_cases h2 : s.f0 < x.f4.length
    · by_cases h3 : -1 ≤ s.f1
      · by_cases h4 : s.f1 < x.f5.length
        · go_enter Tryz.func100, Tryz.ntmps100
          go_wp2
          go_ret
          exact ⟨ret_bool (by simp [seatIn, h1, h2, h3, h4]; try omega), below_alloc (below_alloc (Below.refl _ _) _) _⟩
        · go_enter Tryz.func100, Tryz.ntmps100
          go_wp2
          go_ret
          exact ⟨ret_bool (by simp [seatIn, h1, h2, h3, h4]; try omega), below_alloc (below_alloc (Below.refl _ _) _) _⟩
      · go_enter Tryz.func100, Tryz.ntmps100
        go_wp2
        go_ret
        exact ⟨ret_bool (by simp [seatIn, h1, h2, h3]; try omega), below_alloc (below_alloc (Below.refl _ _) _) _⟩
    · go_enter Tryz.func100, Tryz.ntmps100
      go_wp2
      go_ret
      exact ⟨ret_bool (by simp [seatIn, h1, h2]; try omega), below_alloc (below_alloc (Below.refl _ _) _) _⟩
  · go_enter Tryz.func100, Tryz.ntmps100
    go_wp2
    go_ret
    exact ⟨ret_bool (by simp [seatIn, h1]; try omega), below_alloc (below_alloc (Below.refl _ _) _) _⟩
/-- A call of a function value that is a function of the program. -/
theorem goesV_ {P : Program} {ops : Array Oper} {Q : Exit → Act → World → Prop} {oi : Oper} {N : Option Tmp} {a : Act} {w : World} {K : Act → World → Prop} {f : FuncId} {fn : Func} {x : Operand} {xs : Array Operand} {ts : Array TypeId} (hf : P.funcs[f]? = some fn) (hname : (fn.name == "runtime.NumGoroutine") = false) (hb : fn.body.isSome = true) (args : Array Value)
    (hw : Region.wanted oi (yielded ops a.tmps) = true) (hN : oi.dst = N) (hop : oi.op = .call { callee := .value x, args := xs, argTypes := ts }) (hx : a.eval x = .func (.func f) #[] #[]) (hargs : xs.map a.eval = args)
    (h : Calls P f args w fun e w' => ∃ v, e = .returned v ∧ K (a.put N v) w') : if Region.wanted oi (yielded ops a.tmps) = true then Oper.wp P oi a w K Q else K (a.put N undef) w := by
  refine call_ f args hw hN ?_ h
  have he := enters_ hf hname hb args w
  unfold execOp
  simp [hop, resolve, Deferred.ofValue, invoke, hx, hargs, he]
theorem prob7 {w : World} {p : Problem} {pcs : List Value} (h : kProblem.K w p pcs) : ∃ A7 c7, pcs.toArray[7]? = some (.slice A7 p.f5.length c7) ∧ p.f5.length ≤ c7 ∧ kClass.C w A7 p.f5.length p.f5 := by
  obtain ⟨A4, c4, A5, c5, A6, c6, A7, c7, A8, c8, A9, c9, A10, c10, rfl, l4, g4, l5, g5, l6, g6, l7, g7, l8, g8, l9, g9, l10, g10⟩ := kProblem_open h
  exact ⟨A7, c7, rfl, l7, g7⟩
set_option maxRecDepth 100000 in
set_option maxHeartbeats 4000000 in
theorem each_calls (p : Problem) (hp : wfProblem p) (pcs : List Value) (w : World) (hP : kProblem.K w p pcs) (l : List Seat) (A : Option Addr) (c : Nat) (hA : kSeat.C w A l.length l) (r : Bool) (h : planOk p l = r) :
    Calls Tryz.prog 99 #[.agg pcs.toArray, .slice A l.length c, .func (.func 100) #[] #[]] w fun e w' => e = .returned (.bool r) ∧ Below w.heap.size w w' := by
  subst h
  obtain ⟨A7, c7, hc7, l7, g7⟩ := prob7 hP
  have h15 : pcs.length = 15 := kProblem.K_len hP
  have hi1 : (Tryz.prog.info? 40).map (·.size) = some pcs.toArray.size := by rw [List.size_toArray, h15]; exact infoProblem
  have hm7 := Kd.C_max g7
  have hml := Kd.C_max hA
  have HP := Aside0.mk hP
  have HA := Aside0.mk hA
  have G7 := Aside0.mk g7
  have HC7 := Aside0.mk hc7
  have hu1 := Tryz.underlying40
  have hu2 := Tryz.underlying103
  have hu3 := Tryz.underlying96
  have hX := Aside0.mk (blk_new w (.cells pcs.toArray 40))
  have hb := Aside0.mk (below_alloc (Below.refl w.heap.size w) (.cells pcs.toArray 40))
  clear hP hA g7 h15 hc7
  have q7 := (blk_cell hX.out 7).trans HC7.out
  by_cases hlen : l.length = p.f5.length
  rotate_left
  · have hd : ((l.length : Int) != p.f5.length) = true := bne_iff_ne.2 (by omega)
    go_enter Tryz.func99, Tryz.ntmps99
    go_wp2_with fail
    go_ret
    exact ⟨ret_bool (by simp [planOk, hlen]), hb.out⟩
  have hd : ((l.length : Int) != p.f5.length) = false := by rw [hlen]; simp
  replace hlen := Aside0.mk hlen
  go_enter Tryz.func99, Tryz.ntmps99
  go_wp2_with (first | (refine gate_ (.load 40 (.tmp 3)) rfl ?_; refine load_ev rfl _ _ rfl _ _ _ _ rfl hX.out hu1 rfl hi1 ?_) | (refine gate_ (.load 40 (.tmp 3)) rfl ?_; refine load_evg (by rfl) _ _ rfl _ _ _ _ rfl hX.out hu1 rfl hi1 ?_))
  refine (problemOk_calls p hp _ _ (kProblem.K_below hb.out HP.out) _ rfl).mono ?_
  rintro e w1 ⟨rfl, hb1⟩
  replace hX := Aside0.mk (blk_on hX.out hb1)
  replace hb := Aside0.mk (bthen hb.out hb1 (Nat.le_refl _))
  clear hb1 q7
  cases hok : problemOk p
  · replace hok := Aside0.mk hok
    go_wp2_with fail
    go_ret
    exact ⟨ret_bool (by simp [planOk, hok.out]), hb.out⟩
  have hsp : Aside0 (planOk p l = allB l.length (seatOkAt p.f5 l)) := ⟨by simp [planOk, hok, hlen.out]⟩
  replace hok := Aside0.mk hok
  go_wp2_with fail
  go_loopw [22] (fun v wr => ∃ i : Nat, v = .int .i64 i ∧ i ≤ l.length ∧ Aside0 (upTo (seatOkAt p.f5 l) i) ∧ Aside0 (wr.heap[w.heap.size]? = some (.cells pcs.toArray 40 (0, 0))) ∧ Aside0 (Below w.heap.size w wr)) (fun v _ => l.length - (intOf v).toNat)
  case atStart => exact ⟨0, rfl, by omega, ⟨upTo_zero _⟩, hX, hb⟩
  case round =>
    clear hX hb
    obtain ⟨i, rfl, hi, hno, hX, hb⟩ := hrel
    by_cases hlt : i < l.length
    · obtain ⟨s, hs⟩ : ∃ s, l[i]? = some s := ⟨_, List.getElem?_eq_getElem hlt⟩
      obtain ⟨x, hx⟩ : ∃ x, p.f5[i]? = some x := ⟨_, List.getElem?_eq_getElem (by have := hlen.out; omega)⟩
      have hip : i < p.f5.length := by have := hlen.out; omega
      obtain ⟨ae, rfl, f0, f1⟩ := el_Seat (Kd.C_below HA.out hb.out) i s hs
      have hsp2 := Aside0.mk (show seatOkAt p.f5 l i = seatIn x s by simp only [seatOkAt, hs, hx])
      have hB2 := Aside0.mk (below_alloc (Below.refl wr.heap.size wr) (.cells #[.int .i64 s.f0, .int .i64 s.f1] 103))
      have hX2 := Aside0.mk (blk_on hX.out hB2.out)
      have hb2 := Aside0.mk (bthen hb.out hB2.out (Nat.le_refl _))
      obtain ⟨ax, A3, d3, A4, d4, A5, d5, rfl, e0, e1, e2, e3, e4, e5, e6, l3, g3, l4, g4, l5, g5⟩ := el_Class (Kd.C_below G7.out hb2.out) i x hx
      have q7 := (blk_cell hX2.out 7).trans HC7.out
      have hZ := blk_new wr (.cells #[.int .i64 s.f0, .int .i64 s.f1] 103)
      have z0 := (blk_cell hZ 0).trans (show _ = some (Value.int .i64 s.f0) from rfl)
      have z1 := (blk_cell hZ 1).trans (show _ = some (Value.int .i64 s.f1) from rfl)
      have hKx := Aside0.mk (kClass_mk _ x l3 g3 l4 g4 l5 g5)
      clear hx hs hZ g3 g4 g5
      go_wp2_with fail
      clear f0 f1
      refine start_ (n := 9) (S := (fun w' => w'.cell? ⟨w.heap.size, 7, none⟩ = some (.slice (some ax) p.f5.length c7) ∧ (w'.cell? ⟨wr.heap.size, 0, none⟩ = some (.int .i64 s.f0) ∧ w'.cell? ⟨wr.heap.size, 1, none⟩ = some (.int .i64 s.f1)) ∧ w'.cell? (ax.add (i * 7)) = some (.string x.f0) ∧ w'.cell? ⟨(ax.add (i * 7)).block, (ax.add (i * 7)).off + 1, none⟩ = some (.int .i64 x.f1) ∧ w'.cell? ⟨(ax.add (i * 7)).block, (ax.add (i * 7)).off + 2, none⟩ = some (.int .u16 x.f2) ∧ w'.cell? ⟨(ax.add (i * 7)).block, (ax.add (i * 7)).off + 3, none⟩ = some (.slice A3 x.f3.length d3) ∧ w'.cell? ⟨(ax.add (i * 7)).block, (ax.add (i * 7)).off + 4, none⟩ = some (.slice A4 x.f4.length d4) ∧ w'.cell? ⟨(ax.add (i * 7)).block, (ax.add (i * 7)).off + 5, none⟩ = some (.slice A5 x.f5.length d5) ∧ w'.cell? ⟨(ax.add (i * 7)).block, (ax.add (i * 7)).off + 6, none⟩ = some (.int .i64 x.f6))) (ds := []) #[false, false, false, false, false, false, false, false, false] (by kernel_rfl) rfl rfl (⟨q7, ⟨z0, z1⟩, e0, e1, e2, e3, e4, e5, e6⟩) (fun hHeld => ?_)
      refine pure_ (i := 0) (N := some 27) (v := ?_) (a' := ?_) #[true, false, false, false, false, false, false, false, false] rfl rfl (by kernel_rfl) (fun _ _ _ h => h) (Or.inl ⟨by rfl, ?_⟩) ?_ ?_
      rotate_left
      · intro w'
        go_simp
        with_reducible rfl
      rotate_left
      · simp only [Act.put, List.setIfInBounds_toArray, List.set_cons_zero, List.set_cons_succ, i64_w, i32_w]
        rfl
      refine pure_ (i := 1) (N := some 28) (v := ?_) (a' := ?_) #[true, true, false, false, false, false, false, false, false] rfl rfl (by kernel_rfl) (fun _ _ _ h => h) (Or.inl ⟨by rfl, ?_⟩) ?_ ?_
      rotate_left
      · intro w'
        go_simp
        with_reducible rfl
      rotate_left
      · simp only [Act.put, List.setIfInBounds_toArray, List.set_cons_zero, List.set_cons_succ, i64_w, i32_w]
        rfl
      refine take_ (i := 2) (N := some 29) (v := ?_) (a' := ?_) #[true, true, true, false, false, false, false, false, false] rfl rfl (by kernel_rfl) (fun _ _ _ h => h) (Or.inl ⟨by rfl, ?_⟩) hHeld ?_ ?_
      rotate_left
      · rintro w' ⟨s0, ⟨s1, s2⟩, t0, t1, t2, t3, t4, t5, t6⟩
        go_simp
        with_reducible rfl
      rotate_left
      · simp only [Act.put, List.setIfInBounds_toArray, List.set_cons_zero, List.set_cons_succ, i64_w, i32_w]
        rfl
      refine pure_ (i := 3) (N := some 30) (v := ?_) (a' := ?_) #[true, true, true, true, false, false, false, false, false] rfl rfl (by kernel_rfl) (fun _ _ _ h => h) (Or.inl ⟨by rfl, ?_⟩) ?_ ?_
      rotate_left
      · intro w'
        go_simp
        with_reducible rfl
      rotate_left
      · simp only [Act.put, List.setIfInBounds_toArray, List.set_cons_zero, List.set_cons_succ, i64_w, i32_w]
        rfl
      refine pure_ (i := 4) (N := some 31) (v := ?_) (a' := ?_) #[true, true, true, true, true, false, false, false, false] rfl rfl (by kernel_rfl) (fun _ _ _ h => h) (Or.inl ⟨by rfl, ?_⟩) ?_ ?_
      rotate_left
      · intro w'
        go_simp
        with_reducible rfl
      rotate_left
      · simp only [Act.put, List.setIfInBounds_toArray, List.set_cons_zero, List.set_cons_succ, i64_w, i32_w]
        rfl
      refine take_ (i := 5) (N := some 32) (v := ?_) (a' := ?_) #[true, true, true, true, true, true, false, false, false] rfl rfl (by kernel_rfl) (fun _ _ _ h => h) (Or.inl ⟨by rfl, ?_⟩) hHeld ?_ ?_
      rotate_left
      · rintro w' ⟨s0, ⟨s1, s2⟩, t0, t1, t2, t3, t4, t5, t6⟩
        go_simp
        with_reducible rfl
      rotate_left
      · simp only [Act.put, List.setIfInBounds_toArray, List.set_cons_zero, List.set_cons_succ, i64_w, i32_w]
        rfl
      refine take_ (i := 6) (N := some 33) (v := ?_) (a' := ?_) #[true, true, true, true, true, true, true, false, false] rfl rfl (by kernel_rfl) (fun _ _ _ h => h) (Or.inl ⟨by rfl, ?_⟩) hHeld ?_ ?_
      rotate_left
      · rintro w' ⟨s0, ⟨s1, s2⟩, t0, t1, t2, t3, t4, t5, t6⟩
        go_simp
        with_reducible rfl
      rotate_left
      · simp only [Act.put, List.setIfInBounds_toArray, List.set_cons_zero, List.set_cons_succ, i64_w, i32_w]
        rfl
      refine one_ (i := 7) (N := some 34) #[true, true, true, true, true, true, true, true, false] rfl rfl (by kernel_rfl) (by decide) (fun K hK => ?_)
      refine goesV_ Tryz.func100 (by kernel_rfl) rfl #[.agg #[.string x.f0, .int .i64 x.f1, .int .u16 x.f2, .slice A3 x.f3.length d3, .slice A4 x.f4.length d4, .slice A5 x.f5.length d5, .int .i64 x.f6], .agg #[.int .i64 s.f0, .int .i64 s.f1]] (by rfl) rfl rfl (by rfl) (by (try simp only [List.map_toArray, List.map_cons, List.map_nil]); first | done | rfl) ?_
      refine (classSeat_calls x s _ _ (kClass.K_below (below_drew (Below.refl _ _)) hKx.out) _ rfl).mono ?_
      rintro e w5 ⟨rfl, hb5⟩
      have hbw := Aside0.mk (below_then (below_drew (Below.refl _ _)) (Nat.le_refl _) hb5)
      refine ⟨_, rfl, ?_⟩
      refine hK.out _ _ ⟨cell_on hbw.out q7, ⟨cell_on hbw.out z0, cell_on hbw.out z1⟩, cell_on hbw.out e0, cell_on hbw.out e1, cell_on hbw.out e2, cell_on hbw.out e3, cell_on hbw.out e4, cell_on hbw.out e5, cell_on hbw.out e6⟩ (fun hHeld => ?_)
      clear hK K
      refine norm_ (a' := ?_) ?_ ?_
      rotate_left
      · show Act.put _ (some 34) _ = _
        simp only [Act.put, List.setIfInBounds_toArray, List.set_cons_zero, List.set_cons_succ, i64_w, i32_w]
        rfl
      refine pure_ (i := 8) (N := some 35) (v := ?_) (a' := ?_) #[true, true, true, true, true, true, true, true, true] rfl rfl (by kernel_rfl) (fun _ _ _ h => h) (Or.inl ⟨by rfl, ?_⟩) ?_ ?_
      rotate_left
      · intro w'
        go_simp
        with_reducible rfl
      rotate_left
      · simp only [Act.put, List.setIfInBounds_toArray, List.set_cons_zero, List.set_cons_succ, i64_w, i32_w]
        rfl
      refine done_ (by kernel_rfl) ?_
      clear q7 z0 z1 e0 e1 e2 e3 e4 e5 e6
      have hX5 := Aside0.mk (blk_on hX2.out hbw.out)
      have hb6 := Aside0.mk (bthen hb2.out hbw.out (Nat.le_refl _))
      cases hq : seatIn x s
      · replace hq := Aside0.mk hq
        go_wp2
        go_ret
        exact ⟨ret_bool (by rw [hsp.out, allB_no hlt (by rw [hsp2.out, hq.out])]), hb6.out⟩
      · replace hq := Aside0.mk hq
        go_wp2
        go_roundw
        case rel => exact ⟨i + 1, by go_num, by omega, ⟨upTo_snoc hno.out (by rw [hsp2.out, hq.out])⟩, hX5, hb6⟩
        case measure => simp [intOf]; omega
    · obtain rfl : i = l.length := by omega
      go_wp2
      go_ret
      exact ⟨ret_bool (by rw [hsp.out, allB_yes hno.out]), hb.out⟩
set_option maxRecDepth 100000 in
set_option maxHeartbeats 2000000 in
theorem planright_calls (p : Problem) (hp : wfProblem p) (pcs : List Value) (w : World) (hP : kProblem.K w p pcs) (l : List Seat) (A : Option Addr) (c : Nat) (hA : kSeat.C w A l.length l) (r : Bool) (h : planOk p l = r) :
    Calls Tryz.prog 62 #[.agg pcs.toArray, .slice A l.length c] w fun e w' => e = .returned (.bool r) ∧ Below w.heap.size w w' := by
  subst h
  obtain ⟨A7, c7, hc7, l7, g7⟩ := prob7 hP
  have h15 : pcs.length = 15 := kProblem.K_len hP
  have hi1 : (Tryz.prog.info? 40).map (·.size) = some pcs.toArray.size := by rw [List.size_toArray, h15]; exact infoProblem
  have hm7 := Kd.C_max g7
  have hml := Kd.C_max hA
  have HP := Aside0.mk hP
  have HA := Aside0.mk hA
  have G7 := Aside0.mk g7
  have HC7 := Aside0.mk hc7
  have hu1 := Tryz.underlying40
  have hu2 := Tryz.underlying103
  have hu3 := Tryz.underlying96
  have hX := Aside0.mk (blk_new w (.cells pcs.toArray 40))
  have hb := Aside0.mk (below_alloc (Below.refl w.heap.size w) (.cells pcs.toArray 40))
  clear hP hA g7 h15 hc7
  go_enter Tryz.func62, Tryz.ntmps62
  go_wp2_with (refine gate_ (.load 40 (.tmp 2)) rfl ?_; refine load_ev rfl _ _ rfl _ _ _ _ rfl hX.out hu1 rfl hi1 ?_)
  refine (each_calls p hp pcs _ (kProblem.K_below hb.out HP.out) l A c (Kd.C_below HA.out hb.out) _ rfl).mono ?_
  rintro e w1 ⟨rfl, hb1⟩
  replace hb := Aside0.mk (bthen hb.out hb1 (Nat.le_refl _))
  go_wp2_with fail
  go_ret
  exact ⟨rfl, hb.out⟩
end Go.Proofs.YthalgemkblkhgaaGreat
