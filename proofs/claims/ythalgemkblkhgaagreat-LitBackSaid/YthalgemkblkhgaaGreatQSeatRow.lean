/- Rows of seats: plan.Empty. -/
import Derived.Test.YthalgemkblkhgaaGreatQSeatsP
namespace Go.Proofs.YthalgemkblkhgaaGreat
open Go.RowKit Go.Proofs.YthalgemkblkhgaaGreatW.PrintWords Go.Proofs.YthalgemkblkhgaaGreatW.PrintLast
set_option linter.unusedVariables false
set_option linter.unusedSimpArgs false

theorem infoSeat : (Tryz.prog.info? 103).map (fun i => (i.zero, i.size, i.bytes)) = some (some (.agg #[.int .i64 0, .int .i64 0]), 2, 16) := by kernel_rfl
theorem infoSeat2 : (Tryz.prog.info? 103).map (·.size) = some 2 := by kernel_rfl
abbrev SeatR (w : World) (base : Nat) (v : Value) (l : List Seat) : Prop := kSeat.R 103 w base (fun _ => True) v l
section
variable {w w1 : World} {base n c : Nat} {A : Option Addr} {l : List Seat} {i : Nat} {s : Seat}
theorem SeatR.at_ (h : SeatR w base (.slice A n c) l) (hx : l[i]? = some s) : ∃ g, A = some ⟨g, 0, none⟩ ∧ base ≤ g ∧ g < w.heap.size ∧ n = l.length ∧ (∀ j, w.frozen? ⟨g, j, none⟩ = false) ∧ w.cell? ⟨g, i * 2, none⟩ = some (.int .i64 s.f0) ∧ w.cell? ⟨g, i * 2 + 1, none⟩ = some (.int .i64 s.f1) := by
  have hl := (List.getElem?_eq_some_iff.1 hx).1
  obtain ⟨A', c', hv, _, hC⟩ := Kd.R_reads h
  injection hv with hA hn _
  subst hA
  obtain ⟨_, inner, ho, _⟩ := h
  rcases ho.2 with ⟨_, h0⟩ | ⟨g, cap, cur, he, hb, hh, _⟩
  · omega
  · injection he with ha
    subst ha
    obtain ⟨ad, had, e0, e1⟩ := el_Seat hC i s hx
    cases had
    rw [add_plain] at e0 e1
    exact ⟨g, rfl, hb, blk_lt hh, hn, fun j => blk_frozen hh j, e0, e1⟩
theorem seat_cells (s : Seat) (b : Bool) (v : Int) : ([.int .i64 s.f0, .int .i64 s.f1] : List Value).take (if b = true then 1 else 0) ++ [.int .i64 v] ++ ([.int .i64 s.f0, .int .i64 s.f1] : List Value).drop ((if b = true then 1 else 0) + 1) = [.int .i64 (seatPut s b v).f0, .int .i64 (seatPut s b v).f1] := by
  cases b <;> rfl
/-- One number of a seat is written. -/
theorem SeatR.put {g : Nat} (h : SeatR w base (.slice (some ⟨g, 0, none⟩) n c) l) (hx : l[i]? = some s) (b : Bool) (v : Int) : SeatR (w.setCell ⟨g, i * 2 + (if b = true then 1 else 0), none⟩ (.int .i64 v)) base (.slice (some ⟨g, 0, none⟩) n c) (l.set i (seatPut s b v)) ∧ w.grownBy (w.setCell ⟨g, i * 2 + (if b = true then 1 else 0), none⟩ (.int .i64 v)) (some g) := by
  obtain ⟨g', hA, hb, hlt, hn, hf, e0, e1⟩ := h.at_ hx
  cases hA
  have hl := (List.getElem?_eq_some_iff.1 hx).1
  have h1 := Kd.R_seg (x' := seatPut s b v) (okp := fun _ => False) (seg := [.int .i64 v]) (j := if b = true then 1 else 0) (c := [.int .i64 s.f0, .int .i64 s.f1]) h (i : Int) (by omega) (by omega) rfl (fun j u hj => by
    rw [Int.toNat_natCast]
    match j, hj with
    | 0, hj => simp at hj; subst hj; exact e0
    | 1, hj => simp at hj; subst hj; exact e1
    | j + 2, hj => simp at hj) (by show (if b = true then 1 else 0) + 1 ≤ 2; split <;> omega) (by
    rw [List.length_singleton, seat_cells]
    exact kSeat_mkM _ _ _ _) (fun k hk => hk.elim)
  rw [Int.toNat_natCast] at h1
  exact h1
/-- A whole seat is stored. -/
theorem store_seat {ops : Array Oper} {rest : List Oper} {o : Oper} {a : Act} {Q : Exit → Act → World → Prop} {w0 W : World} (hN : o.dst = none) (hgd : o.guard = none) (pt x : Operand) (ho : o.op = .store 103 pt x) {g : Nat} (s s' : Seat)
    (haddr : a.eval pt = .pointer (some ⟨g, i * 2, none⟩)) (hx : a.eval x = .agg #[.int .i64 s'.f0, .int .i64 s'.f1]) (HO : SeatR W base (.slice (some ⟨g, 0, none⟩) n c) l) (hi : l[i]? = some s) (HB : Below base w0 W)
    (h : ∀ w1, SeatR w1 base (.slice (some ⟨g, 0, none⟩) n c) (l.set i s') → Below base w0 w1 → W.grownBy w1 (some g) → wpList Tryz.prog ops Q rest a w1) : wpList Tryz.prog ops Q (o :: rest) a W := by
  obtain ⟨g', hA, hb, hlt, hn, hf, e0, e1⟩ := HO.at_ hi
  cases hA
  have hl := (List.getElem?_eq_some_iff.1 hi).1
  refine Kd.R_store kSeat (w0 := w0) (W := W) base hN hgd _ _ _ ho 103 (g := g) (n := n) (cap := c) (o' := i * 2) (i : Int) 0 l s' (.agg #[.int .i64 s'.f0, .int .i64 s'.f1]) [.int .i64 s'.f0, .int .i64 s'.f1] [.int .i64 s.f0, .int .i64 s.f1] (fun _ => True) (fun _ => False) haddr (by rw [Int.toNat_natCast]; rfl) hx rfl infoSeat2 ?_ HO (by omega) (by omega) rfl ?_ (by show 0 + 2 ≤ 2; omega) (kSeat_mkM _ _ _ s') (fun k hk => hk.elim) HB ?_
  · intro q hq
    simp only [List.mem_cons, List.not_mem_nil, or_false] at hq
    rcases hq with rfl | rfl <;> rfl
  · intro j u hj
    rw [Int.toNat_natCast]
    match j, hj with
    | 0, hj => simp at hj; subst hj; exact e0
    | 1, hj => simp at hj; subst hj; exact e1
    | j + 2, hj => simp at hj
  · rw [Int.toNat_natCast]
    exact h
theorem SeatR.on (h : SeatR w base (.slice A n c) l) (hb : Below w.heap.size w w1) : SeatR w1 base (.slice A n c) l := Kd.R_below h hb
end
def emptyOf (p : Problem) : List Seat := if problemOk p = true then List.replicate p.f5.length noSeat else []
theorem emptyOf_ok {p : Problem} (h : problemOk p = true) : emptyOf p = List.replicate p.f5.length noSeat := by rw [emptyOf, if_pos h]
theorem emptyOf_no {p : Problem} (h : problemOk p = false) : emptyOf p = [] := by rw [emptyOf, if_neg (by rw [h]; simp)]
theorem filled_set (N i : Nat) (hi : i < N) (z : Seat) : (List.replicate i noSeat ++ List.replicate (N - i) z).set i noSeat = List.replicate (i + 1) noSeat ++ List.replicate (N - (i + 1)) z := by
  rw [List.set_append, if_neg (by rw [List.length_replicate]; omega), List.length_replicate, Nat.sub_self]
  obtain ⟨k, hk⟩ : ∃ k, N - i = k + 1 := ⟨N - i - 1, by omega⟩
  rw [hk, List.replicate_succ, List.set_cons_zero, show N - (i + 1) = k from by omega]
  have : List.replicate (i + 1) noSeat = List.replicate i noSeat ++ [noSeat] := by rw [← List.replicate_append_replicate (n := i) (m := 1)]; rfl
  rw [this, List.append_assoc]
  rfl
set_option maxRecDepth 100000 in
set_option maxHeartbeats 4000000 in
theorem empty_calls (p : Problem) (hp : wfProblem p) (pcs : List Value) (w : World) (hP : kProblem.K w p pcs) :
    Calls Tryz.prog 60 #[.agg pcs.toArray] w fun e w' => (∃ A c, e = .returned (.slice A (emptyOf p).length c) ∧ SeatR w' w.heap.size (.slice A (emptyOf p).length c) (emptyOf p)) ∧ Below w.heap.size w w' := by
  have HP := Aside0.mk hP
  obtain ⟨A4, c4, A5, c5, A6, c6, A7, c7, A8, c8, A9, c9, A10, c10, rfl, l4, g4, l5, g5, l6, g6, l7, g7, l8, g8, l9, g9, l10, g10⟩ := kProblem_open hP
  have hmx7 := Kd.C_max g7
  have hf5 := hp.h5.len
  clear hP g4 g5 g6 g7 g8 g9 g10
  have hu1 := Tryz.underlying40
  have hu5 := Tryz.underlying103
  have hbx := Aside0.mk (blk_new w (.cells #[.string p.f0, .int .i64 p.f1.f0, .int .i64 p.f1.f1, .int .i64 p.f1.f2, .slice A4 p.f2.length c4, .slice A5 p.f3.length c5, .slice A6 p.f4.length c6, .slice A7 p.f5.length c7, .slice A8 p.f6.length c8, .slice A9 p.f7.length c9, .slice A10 p.f8.length c10, .int .i64 p.f9.f0, .int .i64 p.f9.f1, .int .i64 p.f9.f2, .int .i64 p.f9.f3] 40))
  go_enter Tryz.func60, Tryz.ntmps60
  go_wp2_with (refine gate_ (.load 40 (.tmp 1)) rfl ?_; refine load_ev rfl _ _ rfl _ _ _ _ rfl hbx.out hu1 rfl rfl ?_)
  refine (problemOk_calls p hp _ _ (kProblem.K_below (below_alloc (Below.refl _ _) _) HP.out) _ rfl).mono ?_
  rintro e w1 ⟨rfl, hb⟩
  cases hok : problemOk p
  · replace hok := Aside0.mk hok
    go_wp2_with fail
    go_ret
    rw [emptyOf_no hok.out]
    exact ⟨⟨_, _, rfl, Kd.R_nil _ _ _ _ _⟩, below1 hb⟩
  replace hok := Aside0.mk hok
  have hbx1 := (hb.block w.heap.size (by simp)).trans hbx.out
  have q7 := (blk_cell hbx1 7).trans (show _ = some (Value.slice A7 p.f5.length c7) from rfl)
  have hB := Aside0.mk (below1 hb)
  clear hb
  go_wp2_with (refine gate_ (.makeSlice 57 (.tmp 10) (.tmp 10)) rfl ?_; refine Kd.R_make kSeat (w0 := w) (W := _) w.heap.size 103 rfl rfl _ _ _ rfl (p.f5.length : Int) rfl rfl Tryz.underlying57 (.agg #[.int .i64 0, .int .i64 0]) 16 infoSeat rfl (by decide) (by decide) (⟨0, 0⟩ : Seat) (ok := fun _ => True) (okp := fun _ => False) (kSeat_mkM _ _ _ _) (fun _ h => h.elim) trivial (by omega) (by omega) hB.out hB.out.size ?_; intro v1 w2 hR hb2 hg2 hat2; obtain ⟨A, c, rfl⟩ := Kd.R_slice hR; simp only [List.length_replicate, Int.toNat_natCast] at hR; simp only [List.length_replicate, Int.toNat_natCast]; replace hR := Aside0.mk hR; replace hb2 := Aside0.mk hb2; clear hg2 hat2 q7)
  go_loopw [14] (fun v wr => ∃ i : Nat, v = .int .i64 i ∧ i ≤ p.f5.length ∧ Aside0 (SeatR wr w.heap.size (.slice A p.f5.length c) (List.replicate i noSeat ++ List.replicate (p.f5.length - i) ⟨0, 0⟩)) ∧ Aside0 (Below w.heap.size w wr)) (fun v _ => p.f5.length - (intOf v).toNat)
  case atStart => exact ⟨0, rfl, by omega, ⟨by simpa using hR.out⟩, hb2⟩
  case round =>
    clear hR hb2
    obtain ⟨i, rfl, hi, hR, hb⟩ := hrel
    by_cases hlt : i < p.f5.length
    · have hxi : (List.replicate i noSeat ++ List.replicate (p.f5.length - i) (⟨0, 0⟩ : Seat))[i]? = some ⟨0, 0⟩ := by
        rw [List.getElem?_append_right (by rw [List.length_replicate]; omega), List.length_replicate, Nat.sub_self, List.getElem?_replicate, if_pos (by omega)]
      obtain ⟨g, rfl, hg1, hg2, hlz, hg4, e0, e1⟩ := hR.out.at_ hxi
      clear hlz
      obtain ⟨ad, had⟩ : ∃ ad : Addr, ad = ⟨g, 0, none⟩ := ⟨_, rfl⟩
      rw [← had]
      replace had := Aside0.mk had
      replace hg4 := Aside0.mk hg4
      replace hxi := Aside0.mk hxi
      clear e0 e1
      go_wp2_with (refine gate_ (.store 103 (.tmp 20) (.tmp 19)) rfl ?_; refine store_seat (w0 := w) rfl rfl _ _ rfl (g := g) (⟨0, 0⟩ : Seat) noSeat (by show Value.pointer (some (ad.add (i * 2))) = _; rw [had.out, add_plain]) rfl hR.out hxi.out hb.out ?_; intro w3 hR3 hb3 hg3; rw [filled_set _ _ hlt] at hR3; replace hR3 := Aside0.mk hR3; replace hb3 := Aside0.mk hb3; clear hg3)
      go_roundw
      case rel => exact ⟨i + 1, by go_num, by omega, ⟨by rw [had.out]; exact hR3.out⟩, hb3⟩
      case measure => simp [intOf]; omega
    · obtain rfl : i = p.f5.length := by omega
      go_wp2_with fail
      go_ret
      have h9 := hR.out
      rw [Nat.sub_self, List.replicate_zero, List.append_nil] at h9
      rw [emptyOf_ok hok.out, List.length_replicate]
      exact ⟨⟨_, _, rfl, h9⟩, hb.out⟩
end Go.Proofs.YthalgemkblkhgaaGreat
