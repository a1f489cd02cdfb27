/- The law LitSeats, walked: it answers true. -/
import Derived.Test.YthalgemkblkhgaaGreatQRefSeats
namespace Go.Proofs.YthalgemkblkhgaaGreat
open Go.Proofs Go.RowKit Go.Proofs.YthalgemkblkhgaaGreatW.PrintWords Go.Proofs.YthalgemkblkhgaaGreatW.PrintLast
set_option linter.unusedVariables false
set_option linter.unusedSimpArgs false

set_option maxRecDepth 100000 in
set_option maxHeartbeats 8000000 in
theorem lseats_calls (p : Problem) (hp : wfProblem p) (pcs : List Value) (w : World) (hP : kProblem.K w p pcs) (l : List Int) (hl : ∀ x ∈ l, wfInt .i64 x) (A : Option Addr) (c : Nat) (hA : (Kd.int .i64).C w A l.length l) :
    Calls Tryz.prog 5 #[.agg pcs.toArray, .slice A l.length c] w fun e w' => e = .returned (.bool true) ∧ Below w.heap.size w w' := by
  have h15 : pcs.length = 15 := kProblem.K_len hP
  have hi1 : (Tryz.prog.info? 40).map (·.size) = some pcs.toArray.size := by rw [List.size_toArray, h15]; exact infoProblem
  have hmx := Kd.C_max hA
  have hPK := Aside0.mk hP
  have HL := Aside0.mk hl
  have hu1 := Tryz.underlying40
  have hX := Aside0.mk (blk_new w (.cells pcs.toArray 40))
  have hb := Aside0.mk (below_alloc (Below.refl w.heap.size w) (.cells pcs.toArray 40))
  have HA := Aside0.mk (Kd.C_below hA (below_alloc (Below.refl w.heap.size w) (.cells pcs.toArray 40)))
  clear hP hA hl h15
  go_enter Tryz.func5, Tryz.ntmps5
  go_wp2_with (refine gate_ (.load 40 (.tmp 2)) rfl ?_; refine load_ev rfl _ _ rfl _ _ _ _ rfl hX.out hu1 rfl hi1 ?_)
  refine (few27_calls p pcs _ (kProblem.K_below hb.out hPK.out) A l.length c hmx).mono ?_
  rintro e w1 ⟨⟨b, rfl, -⟩, hb1⟩
  replace hX := Aside0.mk (blk_on hX.out hb1)
  replace hb := Aside0.mk (bthen hb.out hb1 (Nat.le_refl _))
  replace HA := Aside0.mk (Kd.C_below HA.out hb1)
  clear hb1
  cases b
  · go_wp2_with fail
    refine (heads_calls _).mono ?_
    rintro e w6 ⟨rfl, hb6⟩
    replace hX := Aside0.mk (blk_on hX.out hb6)
    replace hb := Aside0.mk (bthen hb.out hb6 (Nat.le_refl _))
    replace HA := Aside0.mk (Kd.C_below HA.out hb6)
    go_wp2_with fail
    go_ret
    exact ⟨rfl, hb.out⟩
  go_wp2_with (refine gate_ (.load 40 (.tmp 2)) rfl ?_; refine load_ev rfl _ _ rfl _ _ _ _ rfl hX.out hu1 rfl hi1 ?_)
  refine (new_ans p hp pcs _ (kProblem.K_below hb.out hPK.out)).mono ?_
  rintro e w2 ⟨⟨mv, rfl, hM⟩, hb2⟩
  replace hX := Aside0.mk (blk_on hX.out hb2)
  replace hb := Aside0.mk (bthen hb.out hb2 (Nat.le_refl _))
  replace HA := Aside0.mk (Kd.C_below HA.out hb2)
  replace hM := Aside0.mk hM
  clear hb2
  go_wp2_with fail
  refine (ans_seats hp hM.out l HL.out A c HA.out).mono ?_
  rintro e w3 ⟨hE, hb3⟩
  obtain ⟨A3, c3, rfl, hR3⟩ := hE.plan
  replace hX := Aside0.mk (blk_on hX.out hb3)
  replace hb := Aside0.mk (bthen hb.out hb3 (Nat.le_refl _))
  replace HA := Aside0.mk (Kd.C_below HA.out hb3)
  clear hE hb3
  obtain ⟨a, ha⟩ : ∃ a, (planOf p l).1 = a := ⟨_, rfl⟩
  obtain ⟨k, hk⟩ : ∃ k, (planOf p l).2 = k := ⟨_, rfl⟩
  rw [ha] at hR3
  obtain ⟨_, _, hv3, _, hC3⟩ := Kd.R_reads hR3
  have hC3 : Aside0 (kSeat.C w3 A3 a.length a) := ⟨by injection hv3 with h1 _ _; rw [h1]; exact hC3⟩
  clear hv3 hR3
  simp only [ha, hk]
  go_wp2_with (refine gate_ (.load 40 (.tmp 2)) rfl ?_; refine load_ev rfl _ _ rfl _ _ _ _ rfl hX.out hu1 rfl hi1 ?_)
  have hrs := refseats_calls p hp pcs w3 (kProblem.K_below hb.out hPK.out) l A c HA.out
  rw [plan_law, ha, hk] at hrs
  refine hrs.mono ?_
  clear hrs
  rintro e w4 ⟨⟨A4, c4, rfl, hR4⟩, hb4⟩
  replace hX := Aside0.mk (blk_on hX.out hb4)
  replace hb := Aside0.mk (bthen hb.out hb4 (Nat.le_refl _))
  replace HA := Aside0.mk (Kd.C_below HA.out hb4)
  obtain ⟨_, _, hv4, _, hC4⟩ := Kd.R_reads hR4
  have hC4 : Aside0 (kSeat.C w4 A4 a.length a) := ⟨by injection hv4 with h1 _ _; rw [h1]; exact hC4⟩
  replace hC3 := Aside0.mk (Kd.C_below hC3.out hb4)
  clear hv4 hR4 hb4
  replace ha := Aside0.mk ha
  replace hk := Aside0.mk hk
  go_wp2_with fail
  refine (same19_self a A3 A4 _ c3 _ c4 rfl rfl _ hC3.out hC4.out).mono ?_
  rintro e w5 ⟨rfl, hb5⟩
  replace hX := Aside0.mk (blk_on hX.out hb5)
  replace hb := Aside0.mk (bthen hb.out hb5 (Nat.le_refl _))
  replace HA := Aside0.mk (Kd.C_below HA.out hb5)
  go_wp2_with fail
  refine (heads_calls _).mono ?_
  rintro e w6 ⟨rfl, hb6⟩
  replace hX := Aside0.mk (blk_on hX.out hb6)
  replace hb := Aside0.mk (bthen hb.out hb6 (Nat.le_refl _))
  replace HA := Aside0.mk (Kd.C_below HA.out hb6)
  go_wp2_with fail
  go_ret
  exact ⟨rfl, hb.out⟩
end Go.Proofs.YthalgemkblkhgaaGreat
