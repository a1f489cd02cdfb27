/- The document's Seats of chapter 27: which plan literals are of. -/
import Derived.Test.YthalgemkblkhgaaGreatQAns
namespace Go.Proofs.YthalgemkblkhgaaGreat
open Go.Proofs Go.RowKit Go.Proofs.YthalgemkblkhgaaGreatW.PrintWords Go.Proofs.YthalgemkblkhgaaGreatW.PrintLast
set_option linter.unusedVariables false
set_option linter.unusedSimpArgs false

/-- A plan and a yes or no. -/
def PlanEnd (a : List Seat) (k : Bool) (base : Nat) (e : Ending) (w' : World) : Prop := ∃ A c, e = .returned (.tuple #[.slice A a.length c, .bool k]) ∧ SeatR w' base (.slice A a.length c) a
def planOf (p : Problem) (l : List Int) : List Seat × Bool := match seatsOf p l with | some a => (a, true) | none => ([], false)
theorem SeatsEnd.plan {p : Problem} {l : List Int} {base : Nat} {e : Ending} {w' : World} (h : SeatsEnd (seatsOf p l) base e w') : PlanEnd (planOf p l).1 (planOf p l).2 base e w' := by
  unfold planOf
  cases hs : seatsOf p l with
  | none => exact ⟨none, 0, h.1 hs, Kd.R_nil _ _ _ _ _⟩
  | some a => exact h.2 a hs
def planRef (p : Problem) (l : List Int) : List Seat × Bool := match seatsRef l (emptyOf p) 0 (allOf p) with | some a => (a, problemOk p) | none => ([], false)
theorem plan_law (p : Problem) (l : List Int) : planRef p l = planOf p l := by
  unfold planRef planOf seatsOf
  cases h : problemOk p
  · rw [allOf_no h, emptyOf_no h, if_neg (by simp)]
    rfl
  · rw [allOf_ok h, emptyOf_ok h, if_pos rfl, seats_law (fair_choices p.f5)]
theorem ref_skip {l : List Int} {acc : List Seat} {i : Nat} {y : Choice} {ys : List Choice} (h : ¬ ((i : Int) + 1) ∈ l) : seatsRef l acc i (y :: ys) = seatsRef l acc (i + 1) ys := by rw [seatsRef, if_neg h]
theorem ref_none {l : List Int} {acc : List Seat} {i : Nat} {y : Choice} {ys : List Choice} (h : ((i : Int) + 1) ∈ l) (hh : 0 ≤ hasAt acc y) : seatsRef l acc i (y :: ys) = none := by rw [seatsRef, if_pos h, if_pos hh]
theorem ref_give {l : List Int} {acc : List Seat} {i : Nat} {y : Choice} {ys : List Choice} (h : ((i : Int) + 1) ∈ l) (hh : ¬ 0 ≤ hasAt acc y) : seatsRef l acc i (y :: ys) = seatsRef l (give acc y) (i + 1) ys := by rw [seatsRef, if_pos h, if_neg hh]
theorem dropc_at {l : List Choice} {i : Nat} {x : Choice} (h : l[i]? = some x) : l.drop i = x :: l.drop (i + 1) := by
  obtain ⟨hl, rfl⟩ := List.getElem?_eq_some_iff.1 h
  exact List.drop_eq_getElem_cons hl
set_option maxRecDepth 100000 in
set_option maxHeartbeats 8000000 in
theorem refseats_calls (p : Problem) (hp : wfProblem p) (pcs : List Value) (w : World) (hP : kProblem.K w p pcs) (l : List Int) (A : Option Addr) (c : Nat) (hA : (Kd.int .i64).C w A l.length l) :
    Calls Tryz.prog 30 #[.agg pcs.toArray, .slice A l.length c] w fun e w' => PlanEnd (planRef p l).1 (planRef p l).2 w.heap.size e w' ∧ Below w.heap.size w w' := by
  have h15 : pcs.length = 15 := kProblem.K_len hP
  have hi1 : (Tryz.prog.info? 40).map (·.size) = some pcs.toArray.size := by rw [List.size_toArray, h15]; exact infoProblem
  have hPK := Aside0.mk hP
  have HA := Aside0.mk hA
  have hal := length_allOf p (small_of p)
  have hu1 := Tryz.underlying40
  have hu5 := Tryz.underlying103
  have hu6 := Tryz.underlying42
  have hmx := Kd.C_max hA
  have hX := Aside0.mk (blk_new w (.cells pcs.toArray 40))
  have hb := Aside0.mk (below_alloc (Below.refl w.heap.size w) (.cells pcs.toArray 40))
  clear hP hA h15
  go_enter Tryz.func30, Tryz.ntmps30
  go_wp2_with (refine gate_ (.load 40 (.tmp 2)) rfl ?_; refine load_ev rfl _ _ rfl _ _ _ _ rfl hX.out hu1 rfl hi1 ?_)
  refine (emptyref_calls p hp pcs _ (kProblem.K_below hb.out hPK.out)).mono ?_
  rintro e w1 ⟨⟨A1, c1, rfl, hR⟩, hb1⟩
  replace hX := Aside0.mk (blk_on hX.out hb1)
  have hR := Aside0.mk (Kd.R_lower (base' := w.heap.size) hR (by simp))
  replace hb := Aside0.mk (bthen hb.out hb1 (Nat.le_refl _))
  clear hb1
  go_wp2_with (refine gate_ (.load 40 (.tmp 2)) rfl ?_; refine load_ev rfl _ _ rfl _ _ _ _ rfl hX.out hu1 rfl hi1 ?_)
  have hR0 := hR
  refine (all_refR p hp (small_of p) pcs _ (kProblem.K_below hb.out hPK.out)).mono ?_
  rintro e w2 ⟨⟨A2, c2, rfl, hL⟩, hb2⟩
  replace hX := Aside0.mk (blk_on hX.out hb2)
  have hR := Aside0.mk (Kd.R_below hR.out hb2)
  replace hb := Aside0.mk (bthen hb.out hb2 (Nat.le_refl _))
  replace hL := Aside0.mk hL
  have hNok : Aside0 (∀ y ∈ allOf p, problemOk p = true) := ⟨fun y hy => by
    cases h : problemOk p
    · rw [allOf_no h] at hy; cases hy
    · rfl⟩
  clear hb2
  obtain ⟨L, hLL⟩ : ∃ L, L = allOf p := ⟨_, rfl⟩
  rw [← hLL] at hL hal ⊢
  replace hLL := Aside0.mk hLL
  have hNN : Aside0 (problemOk p = true → (emptyOf p).length = p.f5.length) := ⟨fun h => by rw [emptyOf_ok h, List.length_replicate]⟩
  obtain ⟨N, hN⟩ : ∃ N, N = (emptyOf p).length := ⟨_, rfl⟩
  rw [← hN] at hR hR0 ⊢
  replace hN := Aside0.mk hN
  go_wp2_with fail
  go_loopw [8] (fun v wr => ∃ (i : Nat) (acc : List Seat), v = .int .i64 i ∧ i ≤ L.length ∧ Aside0 (seatsRef l acc i (L.drop i) = seatsRef l (emptyOf p) 0 (allOf p)) ∧ Aside0 (acc.length = N) ∧ Aside0 (SeatR wr w.heap.size (.slice A1 N c1) acc) ∧ Aside0 (wr.heap[w.heap.size]? = some (.cells pcs.toArray 40 (0, 0))) ∧ Aside0 (Below w.heap.size w wr) ∧ Aside0 (kChoice.R 42 wr w1.heap.size (fun _ => True) (.slice A2 L.length c2) L)) (fun v _ => L.length - (intOf v).toNat)
  case atStart => exact ⟨0, _, rfl, by omega, ⟨by rw [List.drop_zero, hLL.out]⟩, ⟨hN.out.symm⟩, hR, hX, hb, hL⟩
  case round =>
    clear hR hX
    clear hL
    obtain ⟨i, acc, rfl, hi, hq, hlen, hR, hX, hb3, hL⟩ := hrel
    have hAr := Aside0.mk (Kd.C_below HA.out hb3.out)
    by_cases hlt : i < L.length
    rotate_left
    · obtain rfl : i = L.length := by omega
      obtain rfl : acc.length = N := hlen.out
      go_wp2_with (refine gate_ (.load 40 (.tmp 2)) rfl ?_; refine load_ev rfl _ _ rfl _ _ _ _ rfl hX.out hu1 rfl hi1 ?_)
      refine (right_ref p hp _ _ (kProblem.K_below hb3.out hPK.out) _ rfl).mono ?_
      rintro e w4 ⟨rfl, hb4⟩
      have hR4 := Aside0.mk (hR.out.on hb4)
      have hb4 := Aside0.mk hb4
      go_wp2_with fail
      go_ret2
      refine ⟨?_, bthen hb3.out hb4.out (Nat.le_refl _)⟩
      have hpr : planRef p l = (acc, problemOk p) := by rw [planRef, ← hq.out, List.drop_length, seatsRef]
      rw [hpr]
      exact ⟨A1, c1, rfl, hR4.out⟩
    obtain ⟨⟨y0, BL, y2⟩, hy⟩ : ∃ y, L[i]? = some y := ⟨_, List.getElem?_eq_getElem hlt⟩
    have hmem : (⟨y0, BL, y2⟩ : Choice) ∈ allOf p := by rw [← hLL.out]; exact List.mem_of_getElem? hy
    have hok := hNok.out _ hmem
    have hyf := (fair_choices p.f5).at_ _ (by rw [← allOf_ok hok]; exact hmem)
    simp only at hyf
    obtain ⟨c0, rfl⟩ : ∃ c0 : Nat, y0 = c0 := ⟨y0.toNat, by omega⟩
    have hcN : c0 < N := by have := hN.out; have := hNN.out hok; omega
    obtain ⟨s, hs⟩ : ∃ s, acc[c0]? = some s := ⟨_, List.getElem?_eq_getElem (by have := hlen.out; omega)⟩
    obtain ⟨q, hqq⟩ : ∃ q, decide (((i : Int) + 1) ∈ l) = q := ⟨_, rfl⟩
    have hii : i ≤ 2000000 := by omega
    have hy2 := hyf.2.2
    replace hy := Aside0.mk hy
    replace hs := Aside0.mk hs
    replace hqq := Aside0.mk hqq
    clear hmem hok hyf
    go_wp2_with fail
    refine (hass_ref l A _ c rfl ((i : Int) + 1) _ hAr.out q hqq.out).mono ?_
    rintro e w' ⟨rfl, rfl⟩
    cases q
    · go_wp2_with fail
      go_roundw
      case rel => exact ⟨i + 1, acc, by go_num, by omega, ⟨by rw [← hq.out, dropc_at hy.out, ref_skip (of_decide_eq_false hqq.out)]⟩, hlen, hR, hX, hb3, hL⟩
      case measure => simp [intOf]; omega
    have hin := Aside0.mk (of_decide_eq_true hqq.out)
    obtain ⟨ay, rfl, e0, e1, e2⟩ := el_Choice (row_reads hL.out).2 i _ hy.out
    obtain ⟨g, hA1, hg1, hg2, hlz, hg4, f0, f1⟩ := hR.out.at_ hs.out
    clear hlz
    obtain ⟨ad, had⟩ : ∃ ad : Addr, ad = ⟨g, 0, none⟩ := ⟨_, rfl⟩
    rw [← had] at hA1
    obtain rfl := hA1
    have hglt : Aside0 (g < w1.heap.size) := ⟨by
      obtain ⟨s0, hs0⟩ : ∃ s0, (emptyOf p)[c0]? = some s0 := ⟨_, List.getElem?_eq_getElem (by have := hN.out; omega)⟩
      obtain ⟨g', h1, _, h2, _⟩ := SeatR.at_ hR0.out hs0
      rw [had] at h1
      cases h1
      exact h2⟩
    have F0 : ∀ o, (wr.alloc o).cell? (ad.add (c0 * 2)) = some (.int .i64 s.f0) := fun o => by rw [had, add_plain]; exact cell_on (below_alloc (Below.refl _ _) o) f0
    have F1 : ∀ o, (wr.alloc o).cell? ⟨(ad.add (c0 * 2)).block, (ad.add (c0 * 2)).off + 1, none⟩ = some (.int .i64 s.f1) := fun o => by rw [had, add_plain]; exact cell_on (below_alloc (Below.refl _ _) o) f1
    replace had := Aside0.mk had
    clear f0 f1 hg4
    cases BL
    · skip
      have hh : Aside0 (hasAt acc ⟨c0, false, y2⟩ = s.f0) := ⟨hasAt_some (y := ⟨c0, false, y2⟩) hs.out⟩
      have hgv : Aside0 (give acc ⟨c0, false, y2⟩ = acc.set c0 (seatPut s false y2)) := ⟨by show (match acc[(c0 : Int).toNat]? with | some s => acc.set (c0 : Int).toNat (seatPut s false y2) | none => acc) = _; rw [Int.toNat_natCast, hs.out]⟩
      have hB6 := Aside0.mk (below_alloc (below_alloc (Below.refl wr.heap.size wr) (.cells #[.int .i64 c0, .bool false, .int .i64 y2] 42)) (.cells #[.int .i64 s.f0, .int .i64 s.f1] 103))
      have hR6 := Aside0.mk (hR.out.on hB6.out)
      have hX6 := Aside0.mk (blk_on hX.out hB6.out)
      by_cases h0 : 0 ≤ s.f0
      · have hd : decide (0 ≤ s.f0) = true := decide_eq_true h0
        go_wp2_with fail
        go_ret2
        refine ⟨?_, bthen hb3.out hB6.out (Nat.le_refl _)⟩
        have hn := ref_none (ys := L.drop (i + 1)) hin.out (by rw [hh.out]; exact h0)
        rw [planRef, ← hq.out, dropc_at hy.out, hn]
        exact ⟨none, 0, rfl, Kd.R_nil _ _ _ _ _⟩
      · have hd : decide (0 ≤ s.f0) = false := decide_eq_false h0
        have hB7 := Aside0.mk (below_alloc (below_alloc (Below.refl wr.heap.size wr) (.cells #[.int .i64 c0, .bool false, .int .i64 y2] 42)) (.cells #[.int .i64 (seatPut s false y2).f0, .int .i64 (seatPut s false y2).f1] 103))
        have hR7 := Aside0.mk (hR.out.on hB7.out)
        have hX7 := Aside0.mk (blk_on hX.out hB7.out)
        go_wp2_with (refine gate_ (.store 103 (.tmp 64) (.tmp 63)) rfl ?_; refine store_seat (w0 := w) (base := w.heap.size) (n := N) (c := c1) (l := acc) (i := c0) rfl rfl _ _ rfl (g := g) s (seatPut s false y2) (by show Value.pointer (some (ad.add (c0 * 2))) = _; rw [had.out, add_plain]) rfl (by rw [← had.out]; exact hR7.out) hs.out (bthen hb3.out hB7.out (Nat.le_refl _)) ?_; intro w9 hR9 hb9 hg9; replace hR9 := Aside0.mk hR9; replace hb9 := Aside0.mk hb9; replace hg9 := Aside0.mk hg9)
        have hg1' := hg1
        go_roundw
        case rel =>
          refine ⟨i + 1, _, by go_num, by omega, ⟨by rw [← hq.out, dropc_at hy.out, ref_give hin.out (by rw [hh.out]; omega)]⟩, ⟨by rw [length_give]; exact hlen.out⟩, ⟨by rw [hgv.out, had.out]; exact hR9.out⟩, ⟨?_⟩, hb9, ⟨?_⟩⟩
          · have hq7 := hR7.out
            rw [had.out] at hq7
            exact keep_typed (row := some g) hg9.out (fun k hk => Kd.R_typed hq7 k (by rw [← hk]; rfl)) hX7.out (by decide)
          · have hL7 := Kd.R_below hL.out hB7.out
            exact Kd.R_mono (Kd.R_grown (Kd.R_bound hL7) hg9.out (fun k hk => by have h1 := hglt.out; have h2 := hk.2.1; intro e; injection e with e; omega)) (fun _ _ => trivial)
        case measure => simp [intOf]; omega
    · skip
      have hh : Aside0 (hasAt acc ⟨c0, true, y2⟩ = s.f1) := ⟨hasAt_some (y := ⟨c0, true, y2⟩) hs.out⟩
      have hgv : Aside0 (give acc ⟨c0, true, y2⟩ = acc.set c0 (seatPut s true y2)) := ⟨by show (match acc[(c0 : Int).toNat]? with | some s => acc.set (c0 : Int).toNat (seatPut s true y2) | none => acc) = _; rw [Int.toNat_natCast, hs.out]⟩
      have hB6 := Aside0.mk (below_alloc (below_alloc (Below.refl wr.heap.size wr) (.cells #[.int .i64 c0, .bool true, .int .i64 y2] 42)) (.cells #[.int .i64 s.f0, .int .i64 s.f1] 103))
      have hR6 := Aside0.mk (hR.out.on hB6.out)
      have hX6 := Aside0.mk (blk_on hX.out hB6.out)
      by_cases h0 : 0 ≤ s.f1
      · have hd : decide (0 ≤ s.f1) = true := decide_eq_true h0
        go_wp2_with fail
        go_ret2
        refine ⟨?_, bthen hb3.out hB6.out (Nat.le_refl _)⟩
        have hn := ref_none (ys := L.drop (i + 1)) hin.out (by rw [hh.out]; exact h0)
        rw [planRef, ← hq.out, dropc_at hy.out, hn]
        exact ⟨none, 0, rfl, Kd.R_nil _ _ _ _ _⟩
      · have hd : decide (0 ≤ s.f1) = false := decide_eq_false h0
        have hB7 := Aside0.mk (below_alloc (below_alloc (Below.refl wr.heap.size wr) (.cells #[.int .i64 c0, .bool true, .int .i64 y2] 42)) (.cells #[.int .i64 (seatPut s true y2).f0, .int .i64 (seatPut s true y2).f1] 103))
        have hR7 := Aside0.mk (hR.out.on hB7.out)
        have hX7 := Aside0.mk (blk_on hX.out hB7.out)
        go_wp2_with (refine gate_ (.store 103 (.tmp 64) (.tmp 63)) rfl ?_; refine store_seat (w0 := w) (base := w.heap.size) (n := N) (c := c1) (l := acc) (i := c0) rfl rfl _ _ rfl (g := g) s (seatPut s true y2) (by show Value.pointer (some (ad.add (c0 * 2))) = _; rw [had.out, add_plain]) rfl (by rw [← had.out]; exact hR7.out) hs.out (bthen hb3.out hB7.out (Nat.le_refl _)) ?_; intro w9 hR9 hb9 hg9; replace hR9 := Aside0.mk hR9; replace hb9 := Aside0.mk hb9; replace hg9 := Aside0.mk hg9)
        have hg1' := hg1
        go_roundw
        case rel =>
          refine ⟨i + 1, _, by go_num, by omega, ⟨by rw [← hq.out, dropc_at hy.out, ref_give hin.out (by rw [hh.out]; omega)]⟩, ⟨by rw [length_give]; exact hlen.out⟩, ⟨by rw [hgv.out, had.out]; exact hR9.out⟩, ⟨?_⟩, hb9, ⟨?_⟩⟩
          · have hq7 := hR7.out
            rw [had.out] at hq7
            exact keep_typed (row := some g) hg9.out (fun k hk => Kd.R_typed hq7 k (by rw [← hk]; rfl)) hX7.out (by decide)
          · have hL7 := Kd.R_below hL.out hB7.out
            exact Kd.R_mono (Kd.R_grown (Kd.R_bound hL7) hg9.out (fun k hk => by have h1 := hglt.out; have h2 := hk.2.1; intro e; injection e with e; omega)) (fun _ _ => trivial)
        case measure => simp [intOf]; omega
end Go.Proofs.YthalgemkblkhgaaGreat
