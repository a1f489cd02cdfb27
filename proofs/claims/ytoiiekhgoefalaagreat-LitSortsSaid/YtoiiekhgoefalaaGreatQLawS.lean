/- The law LitSorts, walked: it answers true. -/
import Derived.Test.YtoiiekhgoefalaaGreatQHeads
import Derived.Test.YtoiiekhgoefalaaGreatQRefSort
namespace Go.Proofs.YtoiiekhgoefalaaGreat
open Go.Proofs Go.RowKit Go.Proofs.YtoiiekhgoefalaaGreatW.PrintWords Go.Proofs.YtoiiekhgoefalaaGreatW.PrintLast
set_option linter.unusedVariables false
set_option linter.unusedSimpArgs false

theorem sortA_wf {l : List Int} (h : ∀ x ∈ l, wfInt .i64 x) : ∀ x ∈ sortA l, wfInt .i64 x := fun x hx => h x ((mem_sortA l x).1 hx).1
theorem rises_at {l : List Int} (h : Rises l) {k : Nat} {x y : Int} (hx : l[k]? = some x) (hy : l[k + 1]? = some y) : ahead x y = true := by
  obtain ⟨h1, rfl⟩ := List.getElem?_eq_some_iff.1 hx
  obtain ⟨h2, rfl⟩ := List.getElem?_eq_some_iff.1 hy
  exact List.pairwise_iff_getElem.1 h k (k + 1) h1 h2 (by omega)
set_option maxRecDepth 100000 in
set_option maxHeartbeats 8000000 in
theorem sorts_calls (l : List Int) (hl : ∀ x ∈ l, wfInt .i64 x) (A : Option Addr) (c : Nat) (n : Int) (w : World) (hA : (Kd.int .i64).C w A l.length l) :
    Calls Tryz.prog 3 #[.slice A l.length c, .int .i64 n] w fun e w' => e = .returned (.bool true) ∧ Below w.heap.size w w' := by
  have hmx := Kd.C_max hA
  have HL := Aside0.mk hl
  have HC := Aside0.mk hA
  clear hl hA
  by_cases h60 : 60 < l.length
  · go_enter Tryz.func3, Tryz.ntmps3
    go_wp2_with fail
    refine (heads_calls _).mono ?_
    rintro e w1 ⟨rfl, hb⟩
    go_wp2_with fail
    go_ret
    exact ⟨rfl, hb⟩
  have hn := Aside0.mk (show l.length ≤ 1000000000 by omega)
  obtain ⟨s, hs⟩ : ∃ s, s = sortA l := ⟨_, rfl⟩
  have hsl : s.length ≤ 60 := by have := length_sortA l; rw [hs]; omega
  have HS := Aside0.mk hs
  have hc1 := sort_calls l HL.out hn.out A c w HC.out
  rw [← hs] at hc1
  have hc1 := Aside0.mk hc1
  clear hs
  go_enter Tryz.func3, Tryz.ntmps3
  go_wp2_with fail
  refine hc1.out.mono ?_
  rintro e w1 ⟨⟨A', c', rfl, hC1⟩, hb1⟩
  have HC1 := Aside0.mk hC1
  have hb1 := Aside0.mk hb1
  clear hC1 hc1
  go_wp2_with fail
  go_loopw [6] (fun v wr => ∃ k : Nat, v = .int .i64 ((k : Int) + 1) ∧ (k = 0 ∨ k + 1 ≤ s.length) ∧ Aside0 (Below w1.heap.size w1 wr)) (fun v _ => s.length + 1 - (intOf v).toNat)
  case atStart => exact ⟨0, rfl, .inl rfl, ⟨Below.refl _ _⟩⟩
  case round =>
    obtain ⟨k, rfl, hk, hb⟩ := hrel
    have hk60 : k ≤ 60 := by omega
    by_cases hlt : k + 1 < s.length
    · obtain ⟨x, hx⟩ : ∃ x, s[k]? = some x := ⟨_, List.getElem?_eq_getElem (by omega)⟩
      obtain ⟨y, hy⟩ : ∃ y, s[k + 1]? = some y := ⟨_, List.getElem?_eq_getElem hlt⟩
      obtain ⟨ad, rfl, e1⟩ := el_int (Kd.C_below HC1.out hb.out) k x hx
      obtain ⟨ad', had, e2⟩ := el_int (Kd.C_below HC1.out hb.out) (k + 1) y hy
      cases had
      have hxy := Aside0.mk (rises_at (by rw [HS.out]; exact sortA_rises l) hx hy)
      have hwx := Aside0.mk (sortA_wf HL.out x (by rw [← HS.out]; exact List.mem_of_getElem? hx))
      have hwy := Aside0.mk (sortA_wf HL.out y (by rw [← HS.out]; exact List.mem_of_getElem? hy))
      have e2' : wr.cell? ⟨ad.block, ad.off + (k + 1), none⟩ = some (.int .i64 y) := by unfold Addr.add at e2; rwa [if_neg (by omega)] at e2
      have hwk : wrap64 (k : Int) = k := by unfold wrap64; omega
      have h0k : (0 : Int) ≤ (k : Int) + 1 := by omega
      have hks : k < s.length := by omega
      clear hx hy hk e2
      have hlt' : (k : Int) + 1 < s.length := by omega
      go_wp2
      refine start_ (n := 11) (S := (fun w' => w'.cell? (ad.add k) = some (.int .i64 x) ∧ w'.cell? ⟨ad.block, ad.off + (k + 1), none⟩ = some (.int .i64 y))) (ds := []) #[false, false, false, false, false, false, false, false, false, false, false] (by kernel_rfl) rfl rfl (⟨e1, e2'⟩) (fun hHeld => ?_)
      refine pure_ (i := 0) (N := some 19) (v := ?_) (a' := ?_) #[true, false, false, false, false, false, false, false, false, false, false] rfl rfl (by kernel_rfl) (fun _ _ _ h => h) (Or.inl ⟨by rfl, ?_⟩) ?_ ?_
      rotate_left
      · intro w'
        go_simp
        with_reducible rfl
      rotate_left
      · simp only [Act.put, List.setIfInBounds_toArray, List.set_cons_zero, List.set_cons_succ, i64_w, i32_w]
        rfl
      refine pure_ (i := 1) (N := some 20) (v := ?_) (a' := ?_) #[true, true, false, false, false, false, false, false, false, false, false] rfl rfl (by kernel_rfl) (fun _ _ _ h => h) (Or.inl ⟨by rfl, ?_⟩) ?_ ?_
      rotate_left
      · intro w'
        go_simp
        with_reducible rfl
      rotate_left
      · simp only [Act.put, List.setIfInBounds_toArray, List.set_cons_zero, List.set_cons_succ, i64_w, i32_w]
        rfl
      refine pure_ (i := 2) (N := some 21) (v := ?_) (a' := ?_) #[true, true, true, false, false, false, false, false, false, false, false] rfl rfl (by kernel_rfl) (fun _ _ _ h => h) (Or.inl ⟨by rfl, ?_⟩) ?_ ?_
      rotate_left
      · intro w'
        go_simp
        with_reducible rfl
      rotate_left
      · simp only [Act.put, List.setIfInBounds_toArray, List.set_cons_zero, List.set_cons_succ, i64_w, i32_w]
        rfl
      refine pure_ (i := 3) (N := some 22) (v := ?_) (a' := ?_) #[true, true, true, true, false, false, false, false, false, false, false] rfl rfl (by kernel_rfl) (fun _ _ _ h => h) (Or.inl ⟨by rfl, ?_⟩) ?_ ?_
      rotate_left
      · intro w'
        go_simp
        with_reducible rfl
      rotate_left
      · simp only [Act.put, List.setIfInBounds_toArray, List.set_cons_zero, List.set_cons_succ, i64_w, i32_w]
        rfl
      refine take_ (i := 4) (N := some 23) (v := ?_) (a' := ?_) #[true, true, true, true, true, false, false, false, false, false, false] rfl rfl (by kernel_rfl) (fun _ _ _ h => h) (Or.inl ⟨by rfl, ?_⟩) hHeld ?_ ?_
      rotate_left
      · rintro w' ⟨s1, s2⟩
        go_simp
        with_reducible rfl
      rotate_left
      · simp only [Act.put, List.setIfInBounds_toArray, List.set_cons_zero, List.set_cons_succ, i64_w, i32_w]
        rfl
      refine pure_ (i := 5) (N := some 24) (v := ?_) (a' := ?_) #[true, true, true, true, true, true, false, false, false, false, false] rfl rfl (by kernel_rfl) (fun _ _ _ h => h) (Or.inl ⟨by rfl, ?_⟩) ?_ ?_
      rotate_left
      · intro w'
        go_simp
        with_reducible rfl
      rotate_left
      · simp only [Act.put, List.setIfInBounds_toArray, List.set_cons_zero, List.set_cons_succ, i64_w, i32_w]
        rfl
      refine pure_ (i := 6) (N := some 25) (v := ?_) (a' := ?_) #[true, true, true, true, true, true, true, false, false, false, false] rfl rfl (by kernel_rfl) (fun _ _ _ h => h) (Or.inl ⟨by rfl, ?_⟩) ?_ ?_
      rotate_left
      · intro w'
        go_simp
        with_reducible rfl
      rotate_left
      · simp only [Act.put, List.setIfInBounds_toArray, List.set_cons_zero, List.set_cons_succ, i64_w, i32_w]
        rfl
      refine pure_ (i := 7) (N := some 26) (v := ?_) (a' := ?_) #[true, true, true, true, true, true, true, true, false, false, false] rfl rfl (by kernel_rfl) (fun _ _ _ h => h) (Or.inl ⟨by rfl, ?_⟩) ?_ ?_
      rotate_left
      · intro w'
        go_simp
        with_reducible rfl
      rotate_left
      · simp only [Act.put, List.setIfInBounds_toArray, List.set_cons_zero, List.set_cons_succ, i64_w, i32_w]
        rfl
      refine take_ (i := 8) (N := some 27) (v := ?_) (a' := ?_) #[true, true, true, true, true, true, true, true, true, false, false] rfl rfl (by kernel_rfl) (fun _ _ _ h => h) (Or.inl ⟨by rfl, ?_⟩) hHeld ?_ ?_
      rotate_left
      · rintro w' ⟨s1, s2⟩
        go_simp
        with_reducible rfl
      rotate_left
      · simp only [Act.put, List.setIfInBounds_toArray, List.set_cons_zero, List.set_cons_succ, i64_w, i32_w]
        rfl
      refine one_ (i := 9) (N := some 28) #[true, true, true, true, true, true, true, true, true, true, false] rfl rfl (by kernel_rfl) (by decide) (fun K hK => ?_)
      refine goes_ Tryz.func10 (by kernel_rfl) rfl #[.int .i64 x, .int .i64 y] (by rfl) rfl rfl (by (try simp only [List.map_toArray, List.map_cons, List.map_nil]); first | done | rfl) ?_
      refine (ahead_ref x y hwx.out hwy.out _ hxy.out _).mono ?_
      rintro e w1 ⟨rfl, rfl⟩
      refine ⟨_, rfl, ?_⟩
      refine hK.out _ _ ⟨e1, e2'⟩ (fun hHeld => ?_)
      clear hK K
      refine norm_ (a' := ?_) ?_ ?_
      rotate_left
      · show Act.put _ (some 28) _ = _
        simp only [Act.put, List.setIfInBounds_toArray, List.set_cons_zero, List.set_cons_succ, i64_w, i32_w]
        rfl
      refine pure_ (i := 10) (N := some 29) (v := ?_) (a' := ?_) #[true, true, true, true, true, true, true, true, true, true, true] rfl rfl (by kernel_rfl) (fun _ _ _ h => h) (Or.inl ⟨by rfl, ?_⟩) ?_ ?_
      rotate_left
      · intro w'
        go_simp
        with_reducible rfl
      rotate_left
      · simp only [Act.put, List.setIfInBounds_toArray, List.set_cons_zero, List.set_cons_succ, i64_w, i32_w]
        rfl
      refine done_ (by kernel_rfl) ?_
      clear e1 e2'
      go_wp2
      go_roundw
      case rel => exact ⟨k + 1, by go_num, .inr (by omega), ⟨below_drew hb.out⟩⟩
      case measure => simp [intOf]; omega
    · have hbw := Aside0.mk (bthen hb1.out hb.out (Nat.le_refl _))
      clear hk
      have hc1' := Aside0.mk (Kd.C_below HC1.out hb.out)
      have hr := refsort_calls l HL.out hn.out A c wr (Kd.C_below HC.out hbw.out)
      rw [← HS.out] at hr
      replace hr := Aside0.mk hr
      have hwf := Aside0.mk (show ∀ x ∈ s, wfInt .i64 x from by rw [HS.out]; exact sortA_wf HL.out)
      have hss := Aside0.mk (sortA_self HS.out)
      have hltd : decide ((k : Int) + 1 < s.length) = false := decide_eq_false (by omega)
      go_wp2_with fail
      refine hr.out.mono ?_
      rintro e w2 ⟨⟨A2, c2, rfl, hC2⟩, hb2⟩
      have hC2 := Aside0.mk hC2
      have hCs2 := Aside0.mk (Kd.C_below hc1'.out hb2)
      have hB2 := Aside0.mk (bthen hbw.out hb2 (Nat.le_refl _))
      clear hr
      go_wp2_with fail
      refine (same_ref s s A' A2 _ _ c' c2 rfl rfl _ hCs2.out hC2.out true (by simp)).mono ?_
      rintro e w3 ⟨rfl, hb3⟩
      have hCs3 := Aside0.mk (Kd.C_below hCs2.out hb3)
      have hB3 := Aside0.mk (bthen hB2.out hb3 (Nat.le_refl _))
      have hsr := sort_calls s hwf.out (by omega) A' c' w3 hCs3.out
      rw [hss.out] at hsr
      replace hsr := Aside0.mk hsr
      by_cases hn0 : n = 0
      · subst hn0
        go_wp2_with fail
        refine hsr.out.mono ?_
        rintro e w4 ⟨⟨A4, c4, rfl, hC4⟩, hb4⟩
        have hCs4 := Aside0.mk (Kd.C_below hCs3.out hb4)
        have hB4 := Aside0.mk (bthen hB3.out hb4 (Nat.le_refl _))
        replace hC4 := Aside0.mk hC4
        go_wp2_with fail
        refine (same_ref s s A4 A' _ _ c4 c' rfl rfl _ hC4.out hCs4.out true (by simp)).mono ?_
        rintro e w5 ⟨rfl, hb5⟩
        have hB5 := Aside0.mk (bthen hB4.out hb5 (Nat.le_refl _))
        go_wp2_with fail
        refine (heads_calls _).mono ?_
        rintro e w6 ⟨rfl, hb6⟩
        have hB6 := Aside0.mk (bthen hB5.out hb6 (Nat.le_refl _))
        go_wp2_with fail
        go_ret
        exact ⟨rfl, hB6.out⟩
      · have hd : (n == 0) = false := beq_eq_false_iff_ne.2 hn0
        have hmem : decide (n ∈ s) = decide (n ∈ l) := decide_eq_decide.2 (by rw [HS.out, mem_sortA]; exact ⟨fun q => q.1, fun q => ⟨q, hn0⟩⟩)
        have HCl3 := Aside0.mk (Kd.C_below HC.out hB3.out)
        generalize hq : decide (n ∈ l) = q at hmem
        replace hmem := Aside0.mk hmem
        replace hq := Aside0.mk hq
        go_wp2_with fail
        refine (hass_ref s A' _ c' rfl n _ hCs3.out _ hmem.out).mono ?_
        rintro e w' ⟨rfl, rfl⟩
        go_wp2_with fail
        refine (hass_ref l A _ c rfl n _ HCl3.out _ hq.out).mono ?_
        rintro e w' ⟨rfl, rfl⟩
        have hqq : (q == q) = true := by simp
        go_wp2_with fail
        refine hsr.out.mono ?_
        rintro e w4 ⟨⟨A4, c4, rfl, hC4⟩, hb4⟩
        have hCs4 := Aside0.mk (Kd.C_below hCs3.out hb4)
        have hB4 := Aside0.mk (bthen hB3.out hb4 (Nat.le_refl _))
        replace hC4 := Aside0.mk hC4
        go_wp2_with fail
        refine (same_ref s s A4 A' _ _ c4 c' rfl rfl _ hC4.out hCs4.out true (by simp)).mono ?_
        rintro e w5 ⟨rfl, hb5⟩
        have hB5 := Aside0.mk (bthen hB4.out hb5 (Nat.le_refl _))
        go_wp2_with fail
        refine (heads_calls _).mono ?_
        rintro e w6 ⟨rfl, hb6⟩
        have hB6 := Aside0.mk (bthen hB5.out hb6 (Nat.le_refl _))
        go_wp2_with fail
        go_ret
        exact ⟨rfl, hB6.out⟩
end Go.Proofs.YtoiiekhgoefalaaGreat
