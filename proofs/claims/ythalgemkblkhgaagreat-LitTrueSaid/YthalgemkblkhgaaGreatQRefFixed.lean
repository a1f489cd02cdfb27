/- The document's Fixed of chapter 27. -/
import Derived.Test.YthalgemkblkhgaaGreatQFixed
namespace Go.Proofs.YthalgemkblkhgaaGreat
open Go.Proofs Go.RowKit Go.Proofs.YthalgemkblkhgaaGreatW.PrintWords Go.Proofs.YthalgemkblkhgaaGreatW.PrintLast
set_option linter.unusedVariables false
set_option linter.unusedSimpArgs false

theorem i_made {base : Nat} {w : World} (hb : base ≤ w.heap.size) : kI.R 3 (w.alloc (.cells #[] 3)) base (fun _ => True) (.slice (some ⟨w.heap.size, 0, none⟩) 0 0) [] :=
  ⟨fun k _ => trivial, [], World.ownsRow_made w #[] 0 hb (Nat.zero_le _) rfl, Reps.none _ _⟩
set_option maxRecDepth 100000 in
set_option maxHeartbeats 8000000 in
theorem reffixed_calls (p : Problem) (hp : wfProblem p) (pcs : List Value) (w : World) (hP : kProblem.K w p pcs) (l : List Seat) (A : Option Addr) (c : Nat) (hA : kSeat.C w A l.length l) :
    Calls Tryz.prog 33 #[.agg pcs.toArray, .slice A l.length c] w fun e w' => (∃ A' c', e = .returned (.slice A' (fixedRef p l).length c') ∧ kI.C w' A' (fixedRef p l).length (fixedRef p l)) ∧ Below w.heap.size w w' := by
  have h15 : pcs.length = 15 := kProblem.K_len hP
  have hi1 : (Tryz.prog.info? 40).map (·.size) = some pcs.toArray.size := by rw [List.size_toArray, h15]; exact infoProblem
  have hPK := Aside0.mk hP
  have hmx := Kd.C_max hA
  have hu1 := Tryz.underlying40
  have hu5 := Tryz.underlying103
  obtain ⟨W0, hW0⟩ : ∃ W0, W0 = w.alloc (.cells pcs.toArray 40) := ⟨_, rfl⟩
  have hX : Aside0 (W0.heap[w.heap.size]? = some (.cells pcs.toArray 40 (0, 0))) := ⟨by rw [hW0]; exact blk_new w _⟩
  have hW : Aside0 (Below w.heap.size w W0) := ⟨by rw [hW0]; exact below_alloc (Below.refl _ _) _⟩
  have HA := Aside0.mk (Kd.C_below hA hW.out)
  have hz : W0.heap.size = w.heap.size + 1 := by rw [hW0]; simp
  clear hP hA h15
  go_enter Tryz.func33, Tryz.ntmps33
  have hX2 := Aside0.mk (blk_on (blk_new w (.cells pcs.toArray 40)) (below_alloc (Below.refl _ _) (.cells #[] 3)))
  go_wp2_with (refine gate_ (.load 40 (.tmp 2)) rfl ?_; refine load_ev rfl _ _ rfl _ _ _ _ rfl hX2.out hu1 rfl hi1 ?_)
  have hW2 := Aside0.mk (below_alloc (Below.refl W0.heap.size W0) (.cells #[] 3))
  rw [← hW0]
  refine (right19_calls p hp pcs _ (kProblem.K_below (bthen hW.out hW2.out (Nat.le_refl _)) hPK.out) l A c (Kd.C_below HA.out hW2.out) _ rfl).mono ?_
  rintro e w1 ⟨rfl, hb1⟩
  have hR : Aside0 (kI.R 3 w1 W0.heap.size (fun _ => True) (.slice (some ⟨w.heap.size + 1, 0, none⟩) 0 0) []) := ⟨by rw [← hz]; exact Kd.R_below (i_made (Nat.le_refl W0.heap.size)) hb1⟩
  have hb := Aside0.mk (below1 hb1)
  replace hW0 := Aside0.mk hW0
  replace hz := Aside0.mk hz
  clear hb1 hX2 hW2
  cases hpl : planOk p l
  · have hzf : Aside0 (fixedRef p l = []) := ⟨by rw [fixedRef, if_neg (by rw [hpl]; simp)]⟩
    replace hpl := Aside0.mk hpl
    go_wp2_with fail
    go_ret
    rw [hzf.out]
    exact ⟨⟨_, _, rfl, rfl, by simp, fun h => absurd h (by simp)⟩, bthen hW.out hb.out (Nat.le_refl _)⟩
  have hsp : Aside0 (fixedRef p l = eachTo (refAt (allOf p)) l l.length) := ⟨by rw [fixedRef, if_pos hpl]⟩
  obtain ⟨hok, hlen, hall⟩ := planOk_iff hpl
  have hl1000 : l.length ≤ 1000 := by rw [hlen]; exact (small_of p hok).n
  have hall := Aside0.mk hall
  replace hpl := Aside0.mk hpl
  clear hlen hok
  go_wp2_with fail
  go_loopw [5, 6] (fun v5 v wr => ∃ i : Nat, v = .int .i64 i ∧ i ≤ l.length ∧ Aside0 (kI.R 3 wr W0.heap.size (fun _ => True) v5 (eachTo (refAt (allOf p)) l i)) ∧ Aside0 (Below W0.heap.size W0 wr)) (fun _ v _ => l.length - (intOf v).toNat)
  case atStart => exact ⟨0, rfl, by omega, ⟨by simpa [eachTo] using hR.out⟩, hb⟩
  case round =>
    clear hb hR
    obtain ⟨i, rfl, hi, hR, hb⟩ := hrel
    by_cases hlt : i < l.length
    rotate_left
    · obtain rfl : i = l.length := by omega
      obtain ⟨A5, c5, rfl, -, hC5⟩ := Kd.R_reads hR.out
      replace hC5 := Aside0.mk hC5
      go_wp2_with fail
      go_ret
      rw [hsp.out]
      exact ⟨⟨A5, c5, rfl, hC5.out⟩, bthen hW.out hb.out (Nat.le_refl _)⟩
    obtain ⟨s, hs⟩ : ∃ s, l[i]? = some s := ⟨_, List.getElem?_eq_getElem hlt⟩
    obtain ⟨ae, rfl, g0, g1⟩ := el_Seat HA.out i s hs
    have G0 := Aside0.mk g0
    have G1 := Aside0.mk g1
    obtain ⟨va, hva⟩ : ∃ v, ofIn (allOf p) ⟨i, false, s.f0⟩ = v := ⟨_, rfl⟩
    obtain ⟨vb, hvb⟩ : ∃ v, ofIn (allOf p) ⟨i, true, s.f1⟩ = v := ⟨_, rfl⟩
    have hat := Aside0.mk (show refAt (allOf p) i s = (if 0 ≤ s.f0 then [va] else []) ++ (if 0 ≤ s.f1 then [vb] else []) by rw [refAt, hva, hvb])
    replace hs := Aside0.mk hs
    replace hva := Aside0.mk hva
    replace hvb := Aside0.mk hvb
    have hlR := Aside0.mk (length_eachTo (length_refAt (allOf p)) l i)
    obtain ⟨A0, k0, hv0⟩ := Kd.R_slice hR.out
    subst hv0
    have f0 := cell_on hb.out G0.out
    have f1 := cell_on hb.out G1.out
    clear g0 g1
    by_cases h0 : 0 ≤ s.f0
    · go_wp2_with fail
      have hCW := G0
      -- one number appended: region 8
      have hlq := Aside0.mk (show (((eachTo (refAt (allOf p)) l i : List Int)).length + 1) * 8 ≤ 140737488355328 by have := hlR.out; (try simp only [List.length_append, List.length_cons, List.length_nil]); omega)
      have hXq := blk_on hX.out hb.out
      refine start_ (n := 12) (S := (fun w' => w'.heap[w.heap.size]? = some (.cells pcs.toArray 40 (0, 0)) ∧ w'.cell? (ae.add (i * 2)) = some (.int .i64 s.f0))) (ds := []) #[false, false, false, false, false, false, false, false, false, false, false, false] (by kernel_rfl) rfl rfl (⟨hXq, f0⟩) (fun hHeld => ?_)
      refine pure_ (i := 0) (N := some 25) (v := ?_) (a' := ?_) #[true, false, false, false, false, false, false, false, false, false, false, false] rfl rfl (by kernel_rfl) (fun _ _ _ h => h) (Or.inl ⟨by rfl, ?_⟩) ?_ ?_
      rotate_left
      · intro w'
        go_simp
        with_reducible rfl
      rotate_left
      · simp only [Act.put, List.setIfInBounds_toArray, List.set_cons_zero, List.set_cons_succ, i64_w, i32_w]
        rfl
      refine take_ (i := 1) (N := some 26) (v := ?_) (a' := ?_) #[true, true, false, false, false, false, false, false, false, false, false, false] rfl rfl (by kernel_rfl) (fun _ _ _ h => h) (Or.inl ⟨by rfl, ?_⟩) hHeld ?_ ?_
      rotate_left
      · rintro w' ⟨s1, s2⟩
        refine run_load_op 40 (.tmp 2) ?_ w.heap.size 40 pcs.toArray _ ?_ s1 hu1 rfl hi1 <;> rfl
      rotate_left
      · simp only [Act.put, List.setIfInBounds_toArray, List.set_cons_zero, List.set_cons_succ, i64_w, i32_w]
        rfl
      refine pure_ (i := 2) (N := some 27) (v := ?_) (a' := ?_) #[true, true, true, false, false, false, false, false, false, false, false, false] rfl rfl (by kernel_rfl) (fun _ _ _ h => h) (Or.inl ⟨by rfl, ?_⟩) ?_ ?_
      rotate_left
      · intro w'
        go_simp
        with_reducible rfl
      rotate_left
      · simp only [Act.put, List.setIfInBounds_toArray, List.set_cons_zero, List.set_cons_succ, i64_w, i32_w]
        rfl
      refine pure_ (i := 3) (N := some 28) (v := ?_) (a' := ?_) #[true, true, true, true, false, false, false, false, false, false, false, false] rfl rfl (by kernel_rfl) (fun _ _ _ h => h) (Or.inl ⟨by rfl, ?_⟩) ?_ ?_
      rotate_left
      · intro w'
        go_simp
        with_reducible rfl
      rotate_left
      · simp only [Act.put, List.setIfInBounds_toArray, List.set_cons_zero, List.set_cons_succ, i64_w, i32_w]
        rfl
      refine pure_ (i := 4) (N := some 29) (v := ?_) (a' := ?_) #[true, true, true, true, true, false, false, false, false, false, false, false] rfl rfl (by kernel_rfl) (fun _ _ _ h => h) (Or.inl ⟨by rfl, ?_⟩) ?_ ?_
      rotate_left
      · intro w'
        go_simp
        with_reducible rfl
      rotate_left
      · simp only [Act.put, List.setIfInBounds_toArray, List.set_cons_zero, List.set_cons_succ, i64_w, i32_w]
        rfl
      refine pure_ (i := 5) (N := some 30) (v := ?_) (a' := ?_) #[true, true, true, true, true, true, false, false, false, false, false, false] rfl rfl (by kernel_rfl) (fun _ _ _ h => h) (Or.inl ⟨by rfl, ?_⟩) ?_ ?_
      rotate_left
      · intro w'
        go_simp
        with_reducible rfl
      rotate_left
      · simp only [Act.put, List.setIfInBounds_toArray, List.set_cons_zero, List.set_cons_succ, i64_w, i32_w]
        rfl
      refine pure_ (i := 6) (N := some 31) (v := ?_) (a' := ?_) #[true, true, true, true, true, true, true, false, false, false, false, false] rfl rfl (by kernel_rfl) (fun _ _ _ h => h) (Or.inl ⟨by rfl, ?_⟩) ?_ ?_
      rotate_left
      · intro w'
        go_simp
        with_reducible rfl
      rotate_left
      · simp only [Act.put, List.setIfInBounds_toArray, List.set_cons_zero, List.set_cons_succ, i64_w, i32_w]
        rfl
      refine take_ (i := 7) (N := some 32) (v := ?_) (a' := ?_) #[true, true, true, true, true, true, true, true, false, false, false, false] rfl rfl (by kernel_rfl) (fun _ _ _ h => h) (Or.inl ⟨by rfl, ?_⟩) hHeld ?_ ?_
      rotate_left
      · rintro w' ⟨s1, s2⟩
        go_simp
        with_reducible rfl
      rotate_left
      · simp only [Act.put, List.setIfInBounds_toArray, List.set_cons_zero, List.set_cons_succ, i64_w, i32_w]
        rfl
      refine one_ (i := 8) (N := some 33) #[true, true, true, true, true, true, true, true, true, false, false, false] rfl rfl (by kernel_rfl) (by decide) (fun K hK => ?_)
      refine goes_ Tryz.func26 (by kernel_rfl) rfl #[.agg pcs.toArray, .int .i64 i, .int .i64 s.f0] (by rfl) rfl rfl (by (try simp only [List.map_toArray, List.map_cons, List.map_nil]); first | done | rfl) ?_
      refine (reftime_calls p hp (small_of p) pcs _ (kProblem.K_below (bthen hW.out (bthen hb.out (below_drew (Below.refl _ _)) (Nat.le_refl _)) (Nat.le_refl _)) hPK.out) i s.f0 _ hva.out).mono ?_
      rintro e w5 ⟨rfl, hb5⟩
      have hw5 := Aside0.mk (below_then (below_drew (Below.refl _ _)) (Nat.le_refl _) hb5)
      refine ⟨_, rfl, ?_⟩
      refine hK.out _ _ ⟨blk_on hXq hw5.out, cell_on hw5.out f0⟩ (fun hHeld => ?_)
      clear hK K
      refine norm_ (a' := ?_) ?_ ?_
      rotate_left
      · show Act.put _ (some 33) _ = _
        simp only [Act.put, List.setIfInBounds_toArray, List.set_cons_zero, List.set_cons_succ, i64_w, i32_w]
        rfl
      refine one_ (i := 9) (N := some 34) #[true, true, true, true, true, true, true, true, true, true, false, false] rfl rfl (by kernel_rfl) (by decide) (fun K hK => ?_)
      refine value_ (w1 := ?_) (v := ?_) (by rfl) rfl ?_ ?_
      rotate_left 2
      · go_simp
        constructor
        · rfl
        · rfl
      refine hK.out _ _ ⟨blk_on hXq (below_alloc hw5.out _), cell_on (below_alloc hw5.out _) f0⟩ (fun hHeld => ?_)
      clear hK K
      refine norm_ (a' := ?_) ?_ ?_
      rotate_left
      · show Act.put _ (some 34) _ = _
        simp only [Act.put, List.setIfInBounds_toArray, List.set_cons_zero, List.set_cons_succ, i64_w, i32_w]
        rfl
      refine one_ (i := 10) (N := some 35) #[true, true, true, true, true, true, true, true, true, true, true, false] rfl rfl (by kernel_rfl) (by decide) (fun K hK => ?_)
      refine Kd.R_append_step kI (w0 := W0) (W := w5) W0.heap.size (by rfl) (.tmp 25) (.tmp 34) 22 3 (.int .i64 0) 8 rfl Tryz.underlying22 infoI64 rfl (by decide) (by omega) _ _ _ [_] (fun _ => True) (fun _ => False) rfl (by rfl) (kI_mkM _ _ _ _) (fun _ hk => hk.elim) (fun _ _ => trivial) (Kd.R_below hR.out hw5.out) (bthen hb.out hw5.out (Nat.le_refl _)) (bthen hb.out hw5.out (Nat.le_refl _)).size hlq.out ?_
      intro v1 w6 hR6 hb6 hg6 hat6
      obtain ⟨An, cn, hvn⟩ := Kd.R_slice hR6
      subst hvn
      simp only [List.length_append, List.length_singleton] at hR6
      replace hR6 := Aside0.mk hR6
      replace hb6 := Aside0.mk hb6
      have hc6 := Aside0.mk (cell_on hb6.out (hCW.out))
      refine hK.out _ _ ⟨blk_on hX.out hb6.out, hc6.out⟩ (fun hHeld => ?_)
      clear hK K
      refine norm_ (a' := ?_) ?_ ?_
      rotate_left
      · show Act.put _ (some 35) _ = _
        simp only [Act.put, List.setIfInBounds_toArray, List.set_cons_zero, List.set_cons_succ, i64_w, i32_w]
        rfl
      refine pure_ (i := 11) (N := some 5) (v := ?_) (a' := ?_) #[true, true, true, true, true, true, true, true, true, true, true, true] rfl rfl (by kernel_rfl) (fun _ _ _ h => h) (Or.inl ⟨by rfl, ?_⟩) ?_ ?_
      rotate_left
      · intro w'
        go_simp
        with_reducible rfl
      rotate_left
      · simp only [Act.put, List.setIfInBounds_toArray, List.set_cons_zero, List.set_cons_succ, i64_w, i32_w]
        rfl
      refine done_ (by kernel_rfl) ?_
      clear hXq
      replace hR := hR6
      replace hb := hb6
      clear hR6 hb6 hlq hc6
      clear f1
      have f1 := cell_on hb.out G1.out
      by_cases h1 : 0 ≤ s.f1
      · go_wp2_with fail
        have hCW := G1
        -- one number appended: region 10
        have hlq := Aside0.mk (show (((eachTo (refAt (allOf p)) l i ++ [va] : List Int)).length + 1) * 8 ≤ 140737488355328 by have := hlR.out; (try simp only [List.length_append, List.length_cons, List.length_nil]); omega)
        have hXq := blk_on hX.out hb.out
        refine start_ (n := 12) (S := (fun w' => w'.heap[w.heap.size]? = some (.cells pcs.toArray 40 (0, 0)) ∧ w'.cell? ⟨(ae.add (i * 2)).block, (ae.add (i * 2)).off + 1, none⟩ = some (.int .i64 s.f1))) (ds := []) #[false, false, false, false, false, false, false, false, false, false, false, false] (by kernel_rfl) rfl rfl (⟨hXq, f1⟩) (fun hHeld => ?_)
        refine pure_ (i := 0) (N := some 42) (v := ?_) (a' := ?_) #[true, false, false, false, false, false, false, false, false, false, false, false] rfl rfl (by kernel_rfl) (fun _ _ _ h => h) (Or.inl ⟨by rfl, ?_⟩) ?_ ?_
        rotate_left
        · intro w'
          go_simp
          with_reducible rfl
        rotate_left
        · simp only [Act.put, List.setIfInBounds_toArray, List.set_cons_zero, List.set_cons_succ, i64_w, i32_w]
          rfl
        refine take_ (i := 1) (N := some 43) (v := ?_) (a' := ?_) #[true, true, false, false, false, false, false, false, false, false, false, false] rfl rfl (by kernel_rfl) (fun _ _ _ h => h) (Or.inl ⟨by rfl, ?_⟩) hHeld ?_ ?_
        rotate_left
        · rintro w' ⟨s1, s2⟩
          refine run_load_op 40 (.tmp 2) ?_ w.heap.size 40 pcs.toArray _ ?_ s1 hu1 rfl hi1 <;> rfl
        rotate_left
        · simp only [Act.put, List.setIfInBounds_toArray, List.set_cons_zero, List.set_cons_succ, i64_w, i32_w]
          rfl
        refine pure_ (i := 2) (N := some 44) (v := ?_) (a' := ?_) #[true, true, true, false, false, false, false, false, false, false, false, false] rfl rfl (by kernel_rfl) (fun _ _ _ h => h) (Or.inl ⟨by rfl, ?_⟩) ?_ ?_
        rotate_left
        · intro w'
          go_simp
          with_reducible rfl
        rotate_left
        · simp only [Act.put, List.setIfInBounds_toArray, List.set_cons_zero, List.set_cons_succ, i64_w, i32_w]
          rfl
        refine pure_ (i := 3) (N := some 45) (v := ?_) (a' := ?_) #[true, true, true, true, false, false, false, false, false, false, false, false] rfl rfl (by kernel_rfl) (fun _ _ _ h => h) (Or.inl ⟨by rfl, ?_⟩) ?_ ?_
        rotate_left
        · intro w'
          go_simp
          with_reducible rfl
        rotate_left
        · simp only [Act.put, List.setIfInBounds_toArray, List.set_cons_zero, List.set_cons_succ, i64_w, i32_w]
          rfl
        refine pure_ (i := 4) (N := some 46) (v := ?_) (a' := ?_) #[true, true, true, true, true, false, false, false, false, false, false, false] rfl rfl (by kernel_rfl) (fun _ _ _ h => h) (Or.inl ⟨by rfl, ?_⟩) ?_ ?_
        rotate_left
        · intro w'
          go_simp
          with_reducible rfl
        rotate_left
        · simp only [Act.put, List.setIfInBounds_toArray, List.set_cons_zero, List.set_cons_succ, i64_w, i32_w]
          rfl
        refine pure_ (i := 5) (N := some 47) (v := ?_) (a' := ?_) #[true, true, true, true, true, true, false, false, false, false, false, false] rfl rfl (by kernel_rfl) (fun _ _ _ h => h) (Or.inl ⟨by rfl, ?_⟩) ?_ ?_
        rotate_left
        · intro w'
          go_simp
          with_reducible rfl
        rotate_left
        · simp only [Act.put, List.setIfInBounds_toArray, List.set_cons_zero, List.set_cons_succ, i64_w, i32_w]
          rfl
        refine pure_ (i := 6) (N := some 48) (v := ?_) (a' := ?_) #[true, true, true, true, true, true, true, false, false, false, false, false] rfl rfl (by kernel_rfl) (fun _ _ _ h => h) (Or.inl ⟨by rfl, ?_⟩) ?_ ?_
        rotate_left
        · intro w'
          go_simp
          with_reducible rfl
        rotate_left
        · simp only [Act.put, List.setIfInBounds_toArray, List.set_cons_zero, List.set_cons_succ, i64_w, i32_w]
          rfl
        refine take_ (i := 7) (N := some 49) (v := ?_) (a' := ?_) #[true, true, true, true, true, true, true, true, false, false, false, false] rfl rfl (by kernel_rfl) (fun _ _ _ h => h) (Or.inl ⟨by rfl, ?_⟩) hHeld ?_ ?_
        rotate_left
        · rintro w' ⟨s1, s2⟩
          go_simp
          with_reducible rfl
        rotate_left
        · simp only [Act.put, List.setIfInBounds_toArray, List.set_cons_zero, List.set_cons_succ, i64_w, i32_w]
          rfl
        refine one_ (i := 8) (N := some 50) #[true, true, true, true, true, true, true, true, true, false, false, false] rfl rfl (by kernel_rfl) (by decide) (fun K hK => ?_)
        refine goes_ Tryz.func28 (by kernel_rfl) rfl #[.agg pcs.toArray, .int .i64 i, .int .i64 s.f1] (by rfl) rfl rfl (by (try simp only [List.map_toArray, List.map_cons, List.map_nil]); first | done | rfl) ?_
        refine (refplace_calls p hp (small_of p) pcs _ (kProblem.K_below (bthen hW.out (bthen hb.out (below_drew (Below.refl _ _)) (Nat.le_refl _)) (Nat.le_refl _)) hPK.out) i s.f1 _ hvb.out).mono ?_
        rintro e w5 ⟨rfl, hb5⟩
        have hw5 := Aside0.mk (below_then (below_drew (Below.refl _ _)) (Nat.le_refl _) hb5)
        refine ⟨_, rfl, ?_⟩
        refine hK.out _ _ ⟨blk_on hXq hw5.out, cell_on hw5.out f1⟩ (fun hHeld => ?_)
        clear hK K
        refine norm_ (a' := ?_) ?_ ?_
        rotate_left
        · show Act.put _ (some 50) _ = _
          simp only [Act.put, List.setIfInBounds_toArray, List.set_cons_zero, List.set_cons_succ, i64_w, i32_w]
          rfl
        refine one_ (i := 9) (N := some 51) #[true, true, true, true, true, true, true, true, true, true, false, false] rfl rfl (by kernel_rfl) (by decide) (fun K hK => ?_)
        refine value_ (w1 := ?_) (v := ?_) (by rfl) rfl ?_ ?_
        rotate_left 2
        · go_simp
          constructor
          · rfl
          · rfl
        refine hK.out _ _ ⟨blk_on hXq (below_alloc hw5.out _), cell_on (below_alloc hw5.out _) f1⟩ (fun hHeld => ?_)
        clear hK K
        refine norm_ (a' := ?_) ?_ ?_
        rotate_left
        · show Act.put _ (some 51) _ = _
          simp only [Act.put, List.setIfInBounds_toArray, List.set_cons_zero, List.set_cons_succ, i64_w, i32_w]
          rfl
        refine one_ (i := 10) (N := some 52) #[true, true, true, true, true, true, true, true, true, true, true, false] rfl rfl (by kernel_rfl) (by decide) (fun K hK => ?_)
        refine Kd.R_append_step kI (w0 := W0) (W := w5) W0.heap.size (by rfl) (.tmp 42) (.tmp 51) 22 3 (.int .i64 0) 8 rfl Tryz.underlying22 infoI64 rfl (by decide) (by omega) _ _ _ [_] (fun _ => True) (fun _ => False) rfl (by rfl) (kI_mkM _ _ _ _) (fun _ hk => hk.elim) (fun _ _ => trivial) (Kd.R_below hR.out hw5.out) (bthen hb.out hw5.out (Nat.le_refl _)) (bthen hb.out hw5.out (Nat.le_refl _)).size hlq.out ?_
        intro v1 w6 hR6 hb6 hg6 hat6
        obtain ⟨An, cn, hvn⟩ := Kd.R_slice hR6
        subst hvn
        simp only [List.length_append, List.length_singleton] at hR6
        replace hR6 := Aside0.mk hR6
        replace hb6 := Aside0.mk hb6
        have hc6 := Aside0.mk (cell_on hb6.out (hCW.out))
        refine hK.out _ _ ⟨blk_on hX.out hb6.out, hc6.out⟩ (fun hHeld => ?_)
        clear hK K
        refine norm_ (a' := ?_) ?_ ?_
        rotate_left
        · show Act.put _ (some 52) _ = _
          simp only [Act.put, List.setIfInBounds_toArray, List.set_cons_zero, List.set_cons_succ, i64_w, i32_w]
          rfl
        refine pure_ (i := 11) (N := some 5) (v := ?_) (a' := ?_) #[true, true, true, true, true, true, true, true, true, true, true, true] rfl rfl (by kernel_rfl) (fun _ _ _ h => h) (Or.inl ⟨by rfl, ?_⟩) ?_ ?_
        rotate_left
        · intro w'
          go_simp
          with_reducible rfl
        rotate_left
        · simp only [Act.put, List.setIfInBounds_toArray, List.set_cons_zero, List.set_cons_succ, i64_w, i32_w]
          rfl
        refine done_ (by kernel_rfl) ?_
        clear hXq
        replace hR := hR6
        replace hb := hb6
        clear hR6 hb6 hlq hc6
        go_wp2_with fail
        go_roundw
        case rel => exact ⟨i + 1, by go_num, by omega, ⟨by rw [eachTo_succ hs.out, hat.out, if_pos h0, if_pos h1]; simpa using hR.out⟩, hb⟩
        case measure => simp [intOf]; omega
      · go_wp2_with fail
        go_roundw
        case rel => exact ⟨i + 1, by go_num, by omega, ⟨by rw [eachTo_succ hs.out, hat.out, if_pos h0, if_neg (by omega)]; simpa using hR.out⟩, hb⟩
        case measure => simp [intOf]; omega
    · clear f0 f1
      have f0 := cell_on hb.out G0.out
      have f1 := cell_on hb.out G1.out
      by_cases h1 : 0 ≤ s.f1
      · go_wp2_with fail
        have hCW := G1
        -- one number appended: region 10
        have hlq := Aside0.mk (show (((eachTo (refAt (allOf p)) l i : List Int)).length + 1) * 8 ≤ 140737488355328 by have := hlR.out; (try simp only [List.length_append, List.length_cons, List.length_nil]); omega)
        have hXq := blk_on hX.out hb.out
        refine start_ (n := 12) (S := (fun w' => w'.heap[w.heap.size]? = some (.cells pcs.toArray 40 (0, 0)) ∧ w'.cell? ⟨(ae.add (i * 2)).block, (ae.add (i * 2)).off + 1, none⟩ = some (.int .i64 s.f1))) (ds := []) #[false, false, false, false, false, false, false, false, false, false, false, false] (by kernel_rfl) rfl rfl (⟨hXq, f1⟩) (fun hHeld => ?_)
        refine pure_ (i := 0) (N := some 42) (v := ?_) (a' := ?_) #[true, false, false, false, false, false, false, false, false, false, false, false] rfl rfl (by kernel_rfl) (fun _ _ _ h => h) (Or.inl ⟨by rfl, ?_⟩) ?_ ?_
        rotate_left
        · intro w'
          go_simp
          with_reducible rfl
        rotate_left
        · simp only [Act.put, List.setIfInBounds_toArray, List.set_cons_zero, List.set_cons_succ, i64_w, i32_w]
          rfl
        refine take_ (i := 1) (N := some 43) (v := ?_) (a' := ?_) #[true, true, false, false, false, false, false, false, false, false, false, false] rfl rfl (by kernel_rfl) (fun _ _ _ h => h) (Or.inl ⟨by rfl, ?_⟩) hHeld ?_ ?_
        rotate_left
        · rintro w' ⟨s1, s2⟩
          refine run_load_op 40 (.tmp 2) ?_ w.heap.size 40 pcs.toArray _ ?_ s1 hu1 rfl hi1 <;> rfl
        rotate_left
        · simp only [Act.put, List.setIfInBounds_toArray, List.set_cons_zero, List.set_cons_succ, i64_w, i32_w]
          rfl
        refine pure_ (i := 2) (N := some 44) (v := ?_) (a' := ?_) #[true, true, true, false, false, false, false, false, false, false, false, false] rfl rfl (by kernel_rfl) (fun _ _ _ h => h) (Or.inl ⟨by rfl, ?_⟩) ?_ ?_
        rotate_left
        · intro w'
          go_simp
          with_reducible rfl
        rotate_left
        · simp only [Act.put, List.setIfInBounds_toArray, List.set_cons_zero, List.set_cons_succ, i64_w, i32_w]
          rfl
        refine pure_ (i := 3) (N := some 45) (v := ?_) (a' := ?_) #[true, true, true, true, false, false, false, false, false, false, false, false] rfl rfl (by kernel_rfl) (fun _ _ _ h => h) (Or.inl ⟨by rfl, ?_⟩) ?_ ?_
        rotate_left
        · intro w'
          go_simp
          with_reducible rfl
        rotate_left
        · simp only [Act.put, List.setIfInBounds_toArray, List.set_cons_zero, List.set_cons_succ, i64_w, i32_w]
          rfl
        refine pure_ (i := 4) (N := some 46) (v := ?_) (a' := ?_) #[true, true, true, true, true, false, false, false, false, false, false, false] rfl rfl (by kernel_rfl) (fun _ _ _ h => h) (Or.inl ⟨by rfl, ?_⟩) ?_ ?_
        rotate_left
        · intro w'
          go_simp
          with_reducible rfl
        rotate_left
        · simp only [Act.put, List.setIfInBounds_toArray, List.set_cons_zero, List.set_cons_succ, i64_w, i32_w]
          rfl
        refine pure_ (i := 5) (N := some 47) (v := ?_) (a' := ?_) #[true, true, true, true, true, true, false, false, false, false, false, false] rfl rfl (by kernel_rfl) (fun _ _ _ h => h) (Or.inl ⟨by rfl, ?_⟩) ?_ ?_
        rotate_left
        · intro w'
          go_simp
          with_reducible rfl
        rotate_left
        · simp only [Act.put, List.setIfInBounds_toArray, List.set_cons_zero, List.set_cons_succ, i64_w, i32_w]
          rfl
        refine pure_ (i := 6) (N := some 48) (v := ?_) (a' := ?_) #[true, true, true, true, true, true, true, false, false, false, false, false] rfl rfl (by kernel_rfl) (fun _ _ _ h => h) (Or.inl ⟨by rfl, ?_⟩) ?_ ?_
        rotate_left
        · intro w'
          go_simp
          with_reducible rfl
        rotate_left
        · simp only [Act.put, List.setIfInBounds_toArray, List.set_cons_zero, List.set_cons_succ, i64_w, i32_w]
          rfl
        refine take_ (i := 7) (N := some 49) (v := ?_) (a' := ?_) #[true, true, true, true, true, true, true, true, false, false, false, false] rfl rfl (by kernel_rfl) (fun _ _ _ h => h) (Or.inl ⟨by rfl, ?_⟩) hHeld ?_ ?_
        rotate_left
        · rintro w' ⟨s1, s2⟩
          go_simp
          with_reducible rfl
        rotate_left
        · simp only [Act.put, List.setIfInBounds_toArray, List.set_cons_zero, List.set_cons_succ, i64_w, i32_w]
          rfl
        refine one_ (i := 8) (N := some 50) #[true, true, true, true, true, true, true, true, true, false, false, false] rfl rfl (by kernel_rfl) (by decide) (fun K hK => ?_)
        refine goes_ Tryz.func28 (by kernel_rfl) rfl #[.agg pcs.toArray, .int .i64 i, .int .i64 s.f1] (by rfl) rfl rfl (by (try simp only [List.map_toArray, List.map_cons, List.map_nil]); first | done | rfl) ?_
        refine (refplace_calls p hp (small_of p) pcs _ (kProblem.K_below (bthen hW.out (bthen hb.out (below_drew (Below.refl _ _)) (Nat.le_refl _)) (Nat.le_refl _)) hPK.out) i s.f1 _ hvb.out).mono ?_
        rintro e w5 ⟨rfl, hb5⟩
        have hw5 := Aside0.mk (below_then (below_drew (Below.refl _ _)) (Nat.le_refl _) hb5)
        refine ⟨_, rfl, ?_⟩
        refine hK.out _ _ ⟨blk_on hXq hw5.out, cell_on hw5.out f1⟩ (fun hHeld => ?_)
        clear hK K
        refine norm_ (a' := ?_) ?_ ?_
        rotate_left
        · show Act.put _ (some 50) _ = _
          simp only [Act.put, List.setIfInBounds_toArray, List.set_cons_zero, List.set_cons_succ, i64_w, i32_w]
          rfl
        refine one_ (i := 9) (N := some 51) #[true, true, true, true, true, true, true, true, true, true, false, false] rfl rfl (by kernel_rfl) (by decide) (fun K hK => ?_)
        refine value_ (w1 := ?_) (v := ?_) (by rfl) rfl ?_ ?_
        rotate_left 2
        · go_simp
          constructor
          · rfl
          · rfl
        refine hK.out _ _ ⟨blk_on hXq (below_alloc hw5.out _), cell_on (below_alloc hw5.out _) f1⟩ (fun hHeld => ?_)
        clear hK K
        refine norm_ (a' := ?_) ?_ ?_
        rotate_left
        · show Act.put _ (some 51) _ = _
          simp only [Act.put, List.setIfInBounds_toArray, List.set_cons_zero, List.set_cons_succ, i64_w, i32_w]
          rfl
        refine one_ (i := 10) (N := some 52) #[true, true, true, true, true, true, true, true, true, true, true, false] rfl rfl (by kernel_rfl) (by decide) (fun K hK => ?_)
        refine Kd.R_append_step kI (w0 := W0) (W := w5) W0.heap.size (by rfl) (.tmp 42) (.tmp 51) 22 3 (.int .i64 0) 8 rfl Tryz.underlying22 infoI64 rfl (by decide) (by omega) _ _ _ [_] (fun _ => True) (fun _ => False) rfl (by rfl) (kI_mkM _ _ _ _) (fun _ hk => hk.elim) (fun _ _ => trivial) (Kd.R_below hR.out hw5.out) (bthen hb.out hw5.out (Nat.le_refl _)) (bthen hb.out hw5.out (Nat.le_refl _)).size hlq.out ?_
        intro v1 w6 hR6 hb6 hg6 hat6
        obtain ⟨An, cn, hvn⟩ := Kd.R_slice hR6
        subst hvn
        simp only [List.length_append, List.length_singleton] at hR6
        replace hR6 := Aside0.mk hR6
        replace hb6 := Aside0.mk hb6
        have hc6 := Aside0.mk (cell_on hb6.out (hCW.out))
        refine hK.out _ _ ⟨blk_on hX.out hb6.out, hc6.out⟩ (fun hHeld => ?_)
        clear hK K
        refine norm_ (a' := ?_) ?_ ?_
        rotate_left
        · show Act.put _ (some 52) _ = _
          simp only [Act.put, List.setIfInBounds_toArray, List.set_cons_zero, List.set_cons_succ, i64_w, i32_w]
          rfl
        refine pure_ (i := 11) (N := some 5) (v := ?_) (a' := ?_) #[true, true, true, true, true, true, true, true, true, true, true, true] rfl rfl (by kernel_rfl) (fun _ _ _ h => h) (Or.inl ⟨by rfl, ?_⟩) ?_ ?_
        rotate_left
        · intro w'
          go_simp
          with_reducible rfl
        rotate_left
        · simp only [Act.put, List.setIfInBounds_toArray, List.set_cons_zero, List.set_cons_succ, i64_w, i32_w]
          rfl
        refine done_ (by kernel_rfl) ?_
        clear hXq
        replace hR := hR6
        replace hb := hb6
        clear hR6 hb6 hlq hc6
        go_wp2_with fail
        go_roundw
        case rel => exact ⟨i + 1, by go_num, by omega, ⟨by rw [eachTo_succ hs.out, hat.out, if_neg (by omega), if_pos h1]; simpa using hR.out⟩, hb⟩
        case measure => simp [intOf]; omega
      · go_wp2_with fail
        go_roundw
        case rel => exact ⟨i + 1, by go_num, by omega, ⟨by rw [eachTo_succ hs.out, hat.out, if_neg (by omega), if_neg (by omega)]; simpa using hR.out⟩, hb⟩
        case measure => simp [intOf]; omega
end Go.Proofs.YthalgemkblkhgaaGreat
