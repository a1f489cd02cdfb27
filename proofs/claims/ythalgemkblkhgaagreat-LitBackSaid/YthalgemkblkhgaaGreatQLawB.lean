/- The law LitBack, walked: it answers true. -/
import Derived.Test.YthalgemkblkhgaaGreatQParse
import Derived.Test.YthalgemkblkhgaaGreatQBackP
import Derived.Test.YthalgemkblkhgaaGreatQAnsP
import Derived.Test.YthalgemkblkhgaaGreatQFixed
namespace Go.Proofs.YthalgemkblkhgaaGreat
open Go.Proofs Go.RowKit Go.Proofs.YthalgemkblkhgaaGreatW.PrintWords Go.Proofs.YthalgemkblkhgaaGreatW.PrintLast
set_option linter.unusedVariables false
set_option linter.unusedSimpArgs false

theorem whatIn_neg (L : List Choice) (n : Int) : whatIn L (-n) = whatIn L n := by
  unfold whatIn
  rw [Int.natAbs_neg]
  by_cases h : n = 0
  · subst h; rfl
  · have h' : ¬ (-n = 0) := by omega
    simp only [h, h']
theorem i_made {base : Nat} {w : World} {ok : Nat → Prop} (hb : base ≤ w.heap.size) (hok : ok w.heap.size) : kI.R 3 (w.alloc (.cells #[] 3)) base ok (.slice (some ⟨w.heap.size, 0, none⟩) 0 0) [] :=
  ⟨fun k hk => by
    have : w.heap.size = k := by simpa [Value.ownBlock] using hk
    exact this ▸ hok, [], World.ownsRow_made w #[] 0 hb (Nat.zero_le _) rfl, Reps.none _ _⟩
theorem own_step {m : Nat} {l : List Int} {j : Nat} {x : Int} (h : l[j]? = some x) : ownOf m (l.take (j + 1)) = ownOf m (l.take j) ++ (if 1 ≤ x ∧ x ≤ m then [x] else []) := by
  rw [List.take_add_one, h, ownOf, ownOf, List.filter_append]
  congr 1
  by_cases q : 1 ≤ x ∧ x ≤ m
  · rw [if_pos q]; simp [q.1, q.2]
  · rw [if_neg q]
    simp
    omega
theorem length_own (m : Nat) (l : List Int) (j : Nat) : (ownOf m (l.take j)).length ≤ l.length := by
  have h1 : (ownOf m (l.take j)).length ≤ (l.take j).length := List.length_filter_le _ _
  rw [List.length_take] at h1
  omega
theorem planOf_no {p : Problem} {l : List Int} (h : (planOf p l).2 = false) : (planOf p l).1 = [] := by
  unfold planOf at h ⊢
  cases hs : seatsOf p l with
  | none => rfl
  | some a => rw [hs] at h; cases h
theorem planOf_yes {p : Problem} {l : List Int} (h : (planOf p l).2 = true) : fixedOf p (planOf p l).1 = sortA (ownOf (allOf p).length l) := by
  unfold planOf at h ⊢
  cases hs : seatsOf p l with
  | none => rw [hs] at h; cases h
  | some a =>
    unfold seatsOf at hs
    by_cases hok : problemOk p = true
    · rw [if_pos hok] at hs
      rw [allOf_ok hok]
      exact (back_law hok hs).2
    · rw [if_neg hok] at hs; cases hs
attribute [local go_sem high] eqA_Choice
set_option maxRecDepth 100000 in
set_option maxHeartbeats 8000000 in
theorem lback_calls (p : Problem) (hp : wfProblem p) (pcs : List Value) (w : World) (hP : kProblem.K w p pcs) (l : List Int) (hl : ∀ x ∈ l, wfInt .i64 x) (A : Option Addr) (c : Nat) (hA : (Kd.int .i64).C w A l.length l) :
    Calls Tryz.prog 8 #[.agg pcs.toArray, .slice A l.length c] w fun e w' => e = .returned (.bool true) ∧ Below w.heap.size w w' := by
  have h15 : pcs.length = 15 := kProblem.K_len hP
  have hi1 : (Tryz.prog.info? 40).map (·.size) = some pcs.toArray.size := by rw [List.size_toArray, h15]; exact infoProblem
  have hmx := Kd.C_max hA
  have hPK := Aside0.mk hP
  have HL := Aside0.mk hl
  have hu1 := Tryz.underlying40
  have hu5 := Tryz.underlying42
  have hX := Aside0.mk (blk_new w (.cells pcs.toArray 40))
  have hb := Aside0.mk (below_alloc (Below.refl w.heap.size w) (.cells pcs.toArray 40))
  have HA := Aside0.mk (Kd.C_below hA (below_alloc (Below.refl w.heap.size w) (.cells pcs.toArray 40)))
  clear hP hA hl h15
  go_enter Tryz.func8, Tryz.ntmps8
  go_wp2_with (refine gate_ (.load 40 (.tmp 2)) rfl ?_; refine load_ev rfl _ _ rfl _ _ _ _ rfl hX.out hu1 rfl hi1 ?_)
  refine (few27_calls p pcs _ (kProblem.K_below hb.out hPK.out) A l.length c hmx).mono ?_
  rintro e w1 ⟨⟨b, rfl, h40⟩, hb1⟩
  replace hX := Aside0.mk (blk_on hX.out hb1)
  replace hb := Aside0.mk (bthen hb.out hb1 (Nat.le_refl _))
  replace HA := Aside0.mk (Kd.C_below HA.out hb1)
  clear hb1
  cases b
  · go_wp2_with fail
    refine (heads_calls _).mono ?_
    rintro e w6 ⟨rfl, hb6⟩
    replace hX := Aside0.mk (blk_on hX.out hb6)
    replace hb := Aside0.mk (bthen hb.out hb6 (Nat.le_refl _))
    replace HA := Aside0.mk (Kd.C_below HA.out hb6)
    go_wp2_with fail
    go_ret
    exact ⟨rfl, hb.out⟩
  replace h40 := h40 rfl
  go_wp2_with (refine gate_ (.load 40 (.tmp 2)) rfl ?_; refine load_ev rfl _ _ rfl _ _ _ _ rfl hX.out hu1 rfl hi1 ?_)
  refine (new_ans p hp pcs _ (kProblem.K_below hb.out hPK.out)).mono ?_
  rintro e w2 ⟨⟨mv, rfl, hM⟩, hb2⟩
  replace hX := Aside0.mk (blk_on hX.out hb2)
  replace hb := Aside0.mk (bthen hb.out hb2 (Nat.le_refl _))
  replace HA := Aside0.mk (Kd.C_below HA.out hb2)
  replace hM := Aside0.mk hM
  clear hb2 hX hu1 hi1
  obtain ⟨m, hm⟩ : ∃ m, (allOf p).length = m := ⟨_, rfl⟩
  have hm2 : m ≤ 2000000 := by rw [← hm]; exact length_allOf p (small_of p)
  have hln := Aside0.mk (show ((allOf p).length : Int) = m by rw [hm])
  have HM := Aside0.mk hm
  clear hm
  go_wp2_with fail
  refine (ans_len hM.out _ hln.out).mono ?_
  rintro e w3 ⟨rfl, rfl⟩
  go_wp2_with fail
  go_loopw [7] (fun v wr => ∃ i : Nat, v = .int .i64 ((i : Int) + 1) ∧ i ≤ m ∧ Aside0 (Below w2.heap.size w2 wr)) (fun v _ => m + 1 - (intOf v).toNat)
  case atStart => exact ⟨0, rfl, by omega, ⟨Below.refl _ _⟩⟩
  case round =>
    obtain ⟨i, rfl, hi, hB⟩ := hrel
    by_cases hlt : i < m
    · obtain ⟨⟨y0, bl, y2⟩, hy⟩ : ∃ y, (allOf p)[i]? = some y := ⟨_, List.getElem?_eq_getElem (by rw [HM.out]; exact hlt)⟩
      have hz1 := whatIn_at hy
      have hz2 : whatIn (allOf p) (-((i : Int) + 1)) = whatIn (allOf p) ((i : Int) + 1) := whatIn_neg _ _
      rw [hz1] at hz2
      have hmem := List.mem_of_getElem? hy
      obtain ⟨c0, i0, e0, e2, hc0, hi0, hok⟩ := choice_nat hmem
      simp only at e0 e2
      subst e0 e2
      have hof : Aside0 (ofIn (allOf p) ⟨c0, bl, i0⟩ = (i : Int) + 1) := ⟨by rw [allOf_ok hok] at hy ⊢; exact ofIn_at (fair_choices p.f5).nd hy⟩
      have hw1 := Aside0.mk (i64_wf (x := (i : Int) + 1) ⟨by omega, by omega⟩)
      have hw2 := Aside0.mk (i64_wf (x := -((i : Int) + 1)) ⟨by omega, by omega⟩)
      have ht1 : Aside0 (textL p ((i : Int) + 1) = litL ⟨c0, bl, i0⟩ ((i : Int) + 1)) := ⟨by rw [textL, hz1]; rfl⟩
      have ht2 : Aside0 (textL p (-((i : Int) + 1)) = litL ⟨c0, bl, i0⟩ (-((i : Int) + 1))) := ⟨by rw [textL, hz2]; rfl⟩
      replace hz1 := Aside0.mk hz1
      replace hz2 := Aside0.mk hz2
      clear hmem hy hok
      go_wp2_with fail
      refine (ans_what (hM.out.below hB.out) _ hw1.out _ hz1.out).mono ?_
      rintro e w3 ⟨he, hb3⟩
      change e = Ending.returned (.tuple #[.agg #[.int .i64 c0, .bool bl, .int .i64 i0], .bool true]) at he
      subst he
      replace hB := Aside0.mk (bthen hB.out (hb3) (Nat.le_refl _))
      clear hb3
      have hP8 := Aside0.mk (blk_new w3 (.cells #[.int .i64 c0, .bool bl, .int .i64 i0] 42))
      replace hB := Aside0.mk (bthen hB.out (below_alloc (Below.refl w3.heap.size w3) (.cells #[.int .i64 c0, .bool bl, .int .i64 i0] 42)) (Nat.le_refl _))
      go_wp2_with fail
      refine (ans_what (hM.out.below hB.out) _ hw2.out _ hz2.out).mono ?_
      rintro e w4 ⟨he, hb4⟩
      change e = Ending.returned (.tuple #[.agg #[.int .i64 c0, .bool bl, .int .i64 i0], .bool true]) at he
      subst he
      replace hB := Aside0.mk (bthen hB.out (hb4) (Nat.le_refl _))
      replace hP8 := Aside0.mk (blk_on hP8.out hb4)
      clear hb4
      have hP10 := Aside0.mk (blk_new w4 (.cells #[.int .i64 c0, .bool bl, .int .i64 i0] 42))
      replace hB := Aside0.mk (bthen hB.out (below_alloc (Below.refl w4.heap.size w4) (.cells #[.int .i64 c0, .bool bl, .int .i64 i0] 42)) (Nat.le_refl _))
      replace hP8 := Aside0.mk (blk_on hP8.out (below_alloc (Below.refl w4.heap.size w4) (.cells #[.int .i64 c0, .bool bl, .int .i64 i0] 42)))
      go_wp2_with fail
      refine (ans_text (hM.out.below hB.out) _ hw1.out).mono ?_
      rw [ht1.out]
      rintro e w5 ⟨rfl, hb5⟩
      replace hB := Aside0.mk (bthen hB.out hb5 (Nat.le_refl _))
      replace hP8 := Aside0.mk (blk_on hP8.out hb5)
      replace hP10 := Aside0.mk (blk_on hP10.out hb5)
      clear hb5
      go_wp2_with fail
      refine (parse_own (hM.out.below hB.out) _ hw1.out _ hz1.out).mono ?_
      rintro e w6 ⟨rfl, hb6⟩
      replace hB := Aside0.mk (bthen hB.out hb6 (Nat.le_refl _))
      replace hP8 := Aside0.mk (blk_on hP8.out hb6)
      replace hP10 := Aside0.mk (blk_on hP10.out hb6)
      clear hb6
      go_wp2_with fail
      refine (ans_text (hM.out.below hB.out) _ hw2.out).mono ?_
      rw [ht2.out]
      rintro e w7 ⟨rfl, hb7⟩
      replace hB := Aside0.mk (bthen hB.out hb7 (Nat.le_refl _))
      replace hP8 := Aside0.mk (blk_on hP8.out hb7)
      replace hP10 := Aside0.mk (blk_on hP10.out hb7)
      clear hb7
      go_wp2_with fail
      refine (parse_own (hM.out.below hB.out) _ hw2.out _ hz2.out).mono ?_
      rintro e w8 ⟨rfl, hb8⟩
      replace hB := Aside0.mk (bthen hB.out hb8 (Nat.le_refl _))
      replace hP8 := Aside0.mk (blk_on hP8.out hb8)
      replace hP10 := Aside0.mk (blk_on hP10.out hb8)
      clear hb8
      have a0 : w8.cell? ⟨w3.heap.size, 0, none⟩ = some (.int .i64 c0) := blk_cell hP8.out 0
      have a1 : w8.cell? ⟨w3.heap.size, 1, none⟩ = some (.bool bl) := blk_cell hP8.out 1
      have a2 : w8.cell? ⟨w3.heap.size, 2, none⟩ = some (.int .i64 i0) := blk_cell hP8.out 2
      have b0 : w8.cell? ⟨w4.heap.size, 0, none⟩ = some (.int .i64 c0) := blk_cell hP10.out 0
      have b1 : w8.cell? ⟨w4.heap.size, 1, none⟩ = some (.bool bl) := blk_cell hP10.out 1
      have b2 : w8.cell? ⟨w4.heap.size, 2, none⟩ = some (.int .i64 i0) := blk_cell hP10.out 2
      go_wp2_with fail
      clear a0 a1 a2 b0 b1 b2
      refine (ans_of (hM.out.below hB.out) ⟨c0, bl, i0⟩ _ hof.out).mono ?_
      rintro e w9 ⟨rfl, hb9⟩
      replace hB := Aside0.mk (bthen hB.out hb9 (Nat.le_refl _))
      replace hP8 := Aside0.mk (blk_on hP8.out hb9)
      replace hP10 := Aside0.mk (blk_on hP10.out hb9)
      clear hb9
      have a0 : w9.cell? ⟨w3.heap.size, 0, none⟩ = some (.int .i64 c0) := blk_cell hP8.out 0
      have a1 : w9.cell? ⟨w3.heap.size, 1, none⟩ = some (.bool bl) := blk_cell hP8.out 1
      have a2 : w9.cell? ⟨w3.heap.size, 2, none⟩ = some (.int .i64 i0) := blk_cell hP8.out 2
      have b0 : w9.cell? ⟨w4.heap.size, 0, none⟩ = some (.int .i64 c0) := blk_cell hP10.out 0
      have b1 : w9.cell? ⟨w4.heap.size, 1, none⟩ = some (.bool bl) := blk_cell hP10.out 1
      have b2 : w9.cell? ⟨w4.heap.size, 2, none⟩ = some (.int .i64 i0) := blk_cell hP10.out 2
      cases bl
      · go_wp2_with fail
        clear a0 a1 a2 b0 b1 b2
        refine (ans_time (hM.out.below hB.out) c0 i0 _ hof.out).mono ?_
        rintro e w10 ⟨rfl, hb10⟩
        replace hB := Aside0.mk (bthen hB.out hb10 (Nat.le_refl _))
        replace hP8 := Aside0.mk (blk_on hP8.out hb10)
        replace hP10 := Aside0.mk (blk_on hP10.out hb10)
        clear hb10
        go_wp2_with fail
        go_roundw
        case rel => exact ⟨i + 1, by go_num, by omega, hB⟩
        case measure => simp [intOf]; omega
      · go_wp2_with fail
        clear a0 a1 a2 b0 b1 b2
        refine (ans_place (hM.out.below hB.out) c0 i0 _ hof.out).mono ?_
        rintro e w10 ⟨rfl, hb10⟩
        replace hB := Aside0.mk (bthen hB.out hb10 (Nat.le_refl _))
        replace hP8 := Aside0.mk (blk_on hP8.out hb10)
        replace hP10 := Aside0.mk (blk_on hP10.out hb10)
        clear hb10
        have a1 := (blk_cell hP8.out 1).trans (show _ = some (Value.bool true) from rfl)
        go_wp2_with fail
        go_roundw
        case rel => exact ⟨i + 1, by go_num, by omega, hB⟩
        case measure => simp [intOf]; omega
    obtain rfl : i = m := by omega
    have HA3 := Aside0.mk (Kd.C_below HA.out hB.out)
    have hM3 := Aside0.mk (hM.out.below hB.out)
    have hb3 := Aside0.mk (bthen hb.out hB.out (Nat.le_refl _))
    clear hM HA hb hB
    go_wp2_with fail
    refine (ans_seats hp hM3.out l HL.out A c HA3.out).mono ?_
    rintro e w3 ⟨hE, hb4⟩
    obtain ⟨A3, c3, rfl, hR3⟩ := hE.plan
    replace HA3 := Aside0.mk (Kd.C_below HA3.out hb4)
    replace hM3 := Aside0.mk (hM3.out.below hb4)
    replace hb3 := Aside0.mk (bthen hb3.out hb4 (Nat.le_refl _))
    clear hE hb4
    obtain ⟨_, _, hv3, _, hC3⟩ := Kd.R_reads hR3
    have hC3 : Aside0 (kSeat.C w3 A3 (planOf p l).1.length (planOf p l).1) := ⟨by injection hv3 with h1 _ _; rw [h1]; exact hC3⟩
    clear hv3 hR3
    cases hk : (planOf p l).2
    · have hnil := planOf_no hk
      replace hk := Aside0.mk hk
      rw [hnil]
      clear hC3
      go_wp2_with fail
      refine (heads_calls _).mono ?_
      rintro e w6 ⟨rfl, hb6⟩
      go_wp2_with fail
      go_ret
      exact ⟨rfl, bthen hb3.out hb6 (Nat.le_refl _)⟩
    have hfx := Aside0.mk ((planOf_yes hk).trans (by rw [HM.out]))
    replace hk := Aside0.mk hk
    obtain ⟨s, hs⟩ : ∃ s, (planOf p l).1 = s := ⟨_, rfl⟩
    rw [hs] at hC3 hfx
    rw [hs]
    clear hs
    go_wp2_with fail
    go_loopw [18, 19] (fun v18 v wr => ∃ j : Nat, v = .int .i64 j ∧ j ≤ l.length ∧ Aside0 (kI.R 3 wr w3.heap.size (fun _ => True) v18 (ownOf i (l.take j))) ∧ Aside0 (Below w3.heap.size w3 wr)) (fun _ v _ => l.length - (intOf v).toNat)
    case atStart => exact ⟨0, rfl, by omega, ⟨i_made (Nat.le_refl _) trivial⟩, ⟨below_alloc (Below.refl _ _) _⟩⟩
    case round =>
      obtain ⟨j, rfl, hj, hR, hB⟩ := hrel
      by_cases hlt1 : j < l.length
      rotate_left
      · obtain rfl : j = l.length := by omega
        rw [List.take_length] at hR
        obtain ⟨A5, c5, rfl, -, hC5⟩ := Kd.R_reads hR.out
        replace hC5 := Aside0.mk hC5
        have hC6 := Aside0.mk (Kd.C_below hC3.out hB.out)
        have hM6 := Aside0.mk (hM3.out.below hB.out)
        have hown := Aside0.mk (show ∀ x ∈ ownOf i l, wfInt .i64 x from fun x hx => HL.out x ((mem_own i l x).1 hx).1)
        have hlen := Aside0.mk (show (ownOf i l).length ≤ 1000000000 by have := length_own i l l.length; rw [List.take_length] at this; omega)
        obtain ⟨fx, hf⟩ : ∃ fx, fixedOf p s = fx := ⟨_, rfl⟩
        rw [hf] at hfx
        replace hf := Aside0.mk hf
        clear hR
        go_wp2_with fail
        have hcf := ans_fixed hp hM6.out s A3 c3 hC6.out
        rw [hf.out] at hcf
        refine hcf.mono ?_
        clear hcf
        rintro e w5 ⟨⟨A7, c7, rfl, hC7⟩, hb5⟩
        replace hC7 := Aside0.mk hC7
        replace hC5 := Aside0.mk (Kd.C_below hC5.out hb5)
        replace hb5 := Aside0.mk hb5
        go_wp2_with fail
        have hso := sort_calls (ownOf i l) hown.out hlen.out A5 c5 _ hC5.out
        rw [← hfx.out] at hso
        refine hso.mono ?_
        clear hso
        rintro e w6 ⟨⟨A8, c8, rfl, hC8⟩, hb6⟩
        replace hC8 := Aside0.mk hC8
        replace hC7 := Aside0.mk (Kd.C_below hC7.out hb6)
        replace hb6 := Aside0.mk hb6
        go_wp2_with fail
        refine (same_ref fx fx A7 A8 _ _ c7 c8 rfl rfl _ hC7.out hC8.out true (by simp)).mono ?_
        rintro e w7 ⟨rfl, hb7⟩
        replace hb7 := Aside0.mk hb7
        go_wp2_with fail
        refine (heads_calls _).mono ?_
        rintro e w8 ⟨rfl, hb8⟩
        go_wp2_with fail
        go_ret
        exact ⟨rfl, bthen hb3.out (bthen hB.out (bthen hb5.out (bthen hb6.out (bthen hb7.out hb8 (Nat.le_refl _)) (Nat.le_refl _)) (Nat.le_refl _)) (Nat.le_refl _)) (Nat.le_refl _)⟩
      obtain ⟨x, hx⟩ : ∃ x, l[j]? = some x := ⟨_, List.getElem?_eq_getElem hlt1⟩
      have hst0 := Aside0.mk (own_step (m := i) hx)
      obtain ⟨ax, rfl, e1⟩ := el_int (Kd.C_below HA3.out hB.out) j x hx
      have hlq := Aside0.mk (show ((ownOf i (l.take j)).length + 1) * 8 ≤ 140737488355328 by have := length_own i l j; omega)
      clear hx
      by_cases q1 : 1 ≤ x
      · by_cases q2 : x ≤ i
        · have hst := Aside0.mk (show ownOf i (l.take (j + 1)) = ownOf i (l.take j) ++ [x] by rw [hst0.out, if_pos ⟨q1, q2⟩])
          go_wp2_with (first | ((with_reducible refine gate_builtin (b := .append) (xs := #[.tmp 162, .tmp 167]) rfl ?_); at_builtin; refine Kd.R_append kI (w0 := w3) (W := wr) w3.heap.size rfl (.tmp 162) (.tmp 167) 22 3 (.int .i64 0) 8 rfl Tryz.underlying22 infoI64 rfl (by decide) (by omega) _ _ x [.int .i64 x] (fun q => True) (fun _ => False) rfl rfl (kI_mkM _ _ _ _) (fun _ hk => hk.elim) (fun q hq => trivial) hR.out hB.out hB.out.size hlq.out ?_; intro v1 w9 hR9 hb9 hg9 hat9; replace hR9 := Aside0.mk hR9; replace hb9 := Aside0.mk hb9; clear hg9 hat9))
          go_roundw
          case rel => exact ⟨j + 1, by go_num, by omega, ⟨by rw [hst.out]; exact hR9.out⟩, hb9⟩
          case measure => simp [intOf]; omega
        · have hst := Aside0.mk (show ownOf i (l.take (j + 1)) = ownOf i (l.take j) by rw [hst0.out, if_neg (fun h => q2 h.2), List.append_nil])
          go_wp2_with fail
          go_roundw
          case rel => exact ⟨j + 1, by go_num, by omega, ⟨by rw [hst.out]; exact hR.out⟩, hB⟩
          case measure => simp [intOf]; omega
      · have hst := Aside0.mk (show ownOf i (l.take (j + 1)) = ownOf i (l.take j) by rw [hst0.out, if_neg (fun h => q1 h.1), List.append_nil])
        go_wp2_with fail
        go_roundw
        case rel => exact ⟨j + 1, by go_num, by omega, ⟨by rw [hst.out]; exact hR.out⟩, hB⟩
        case measure => simp [intOf]; omega
end Go.Proofs.YthalgemkblkhgaaGreat
