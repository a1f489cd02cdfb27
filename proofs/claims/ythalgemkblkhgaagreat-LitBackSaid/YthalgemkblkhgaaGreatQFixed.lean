/- Which literals a plan has fixed: lit.Map.Fixed and the document's Fixed. -/
import Derived.Test.YthalgemkblkhgaaGreatQFixP
namespace Go.Proofs.YthalgemkblkhgaaGreat
open Go.Proofs Go.RowKit Go.Proofs.YthalgemkblkhgaaGreatW.PrintWords Go.Proofs.YthalgemkblkhgaaGreatW.PrintLast
set_option linter.unusedVariables false
set_option linter.unusedSimpArgs false

theorem planOk_no {p : Problem} (h : problemOk p = false) (l : List Seat) : planOk p l = false := by simp [planOk, h]
theorem kI_mkM (w : World) (base : Nat) (ok : Nat → Prop) (x : Int) : kI.M w base ok x [.int .i64 x] := rfl
theorem pair_C {w : World} {k : Nat} {a b : Int} (h : w.heap[k]? = some (.cells #[.int .i64 a, .int .i64 b] 3 (0, 0))) : kI.C w (some ⟨k, 0, none⟩) ([a, b] : List Int).length [a, b] := C_of h (by simp) (fun j x hj => by
  match j, hj with
  | 0, hj => simp at hj; subst hj; rfl
  | 1, hj => simp at hj; subst hj; rfl
  | j + 2, hj => simp at hj)
theorem take_flat {l : List Int} {j : Nat} {x : Int} (h : l[j]? = some x) : (l.take (j + 1)).flatMap pos1 = (l.take j).flatMap pos1 ++ pos1 x := by
  rw [List.take_add_one, h]
  simp
theorem fix_pair (L : List Choice) (c : Nat) (s : Seat) : ([ofIn L ⟨c, false, s.f0⟩, ofIn L ⟨c, true, s.f1⟩] : List Int).flatMap pos1 = fixAt L c s := by simp [fixAt]
set_option maxRecDepth 100000 in
set_option maxHeartbeats 8000000 in
theorem fixed_calls (p : Problem) (hp : wfProblem p) (hok : problemOk p = true) (b : Nat) (w : World) (hM : MBox w b (mapOf p)) (l : List Seat) (A : Option Addr) (c : Nat) (hA : kSeat.C w A l.length l) :
    Calls Tryz.prog 32 #[.pointer (some ⟨b, 0, none⟩), .slice A l.length c] w fun e w' => (∃ A' c', e = .returned (.slice A' (fixedOf p l).length c') ∧ kI.C w' A' (fixedOf p l).length (fixedOf p l)) ∧ Below w.heap.size w w' := by
  have hAns := Aside0.mk (show Ans p (.pointer (some ⟨b, 0, none⟩)) w from .inr ⟨hok, b, rfl, hM⟩)
  obtain ⟨pcs, hK, h15, hcell⟩ := hM.problem
  have hlt := World.block_lt_of_cell? w _ (hcell 0 _ (List.getElem?_eq_getElem (by omega)))
  have hmx := Kd.C_max hA
  have HA := Aside0.mk hA
  have HK := Aside0.mk hK
  have hcell := Aside0.mk hcell
  have hu1 := Tryz.underlying40
  have hu5 := Tryz.underlying103
  clear hM hA hK
  go_enter Tryz.func32, Tryz.ntmps32
  go_wp2_with (refine gate_ (.load 40 (.tmp 15)) rfl ?_; refine load_ev2 (by rfl) _ _ rfl b pcs _ rfl hcell.out hu1 rfl (by rw [h15]; exact infoProblem) ?_)
  refine (planright_calls p hp pcs w HK.out l A c HA.out _ rfl).mono ?_
  rintro e w1 ⟨rfl, hb1⟩
  have hb := Aside0.mk hb1
  clear hb1
  cases hpl : planOk p l
  · have hz : fixedOf p l = [] := by rw [fixedOf, if_neg (by rw [hpl]; simp)]
    replace hpl := Aside0.mk hpl
    replace hz := Aside0.mk hz
    go_wp2_with fail
    go_ret
    rw [hz.out]
    exact ⟨⟨none, 0, rfl, rfl, by simp, fun h => absurd h (by simp)⟩, hb.out⟩
  have hsp : Aside0 (fixedOf p l = eachTo (fixAt (allOf p)) l l.length) := ⟨by rw [fixedOf, if_pos hpl]⟩
  obtain ⟨-, hlen, -⟩ := planOk_iff hpl
  have hl1000 : l.length ≤ 1000 := by rw [hlen]; exact (small_of p hok).n
  replace hpl := Aside0.mk hpl
  clear hlen hok
  go_wp2_with fail
  go_loopw [5, 23] (fun v5 v wr => ∃ i : Nat, v = .int .i64 i ∧ i ≤ l.length ∧ Aside0 (kI.R 3 wr w.heap.size (fun _ => True) v5 (eachTo (fixAt (allOf p)) l i)) ∧ Aside0 (Below w.heap.size w wr)) (fun _ v _ => l.length - (intOf v).toNat)
  case atStart => exact ⟨0, rfl, by omega, ⟨Kd.R_nil _ _ _ _ _⟩, hb⟩
  case round =>
    clear hb
    obtain ⟨i, rfl, hi, hR, hb⟩ := hrel
    by_cases hlt : i < l.length
    rotate_left
    · obtain rfl : i = l.length := by omega
      obtain ⟨A5, c5, rfl, -, hC5⟩ := Kd.R_reads hR.out
      replace hC5 := Aside0.mk hC5
      go_wp2_with fail
      go_ret
      rw [hsp.out]
      exact ⟨⟨A5, c5, rfl, hC5.out⟩, hb.out⟩
    obtain ⟨s, hs⟩ : ∃ s, l[i]? = some s := ⟨_, List.getElem?_eq_getElem hlt⟩
    obtain ⟨ae, rfl, f0, f1⟩ := el_Seat (Kd.C_below HA.out hb.out) i s hs
    have hB2 := Aside0.mk (below_alloc (Below.refl wr.heap.size wr) (.cells #[.int .i64 s.f0, .int .i64 s.f1] 103))
    have hb2 := Aside0.mk (bthen hb.out hB2.out (Nat.le_refl _))
    have hZ := blk_new wr (.cells #[.int .i64 s.f0, .int .i64 s.f1] 103)
    have z0 := (blk_cell hZ 0).trans (show _ = some (Value.int .i64 s.f0) from rfl)
    have z1 := (blk_cell hZ 1).trans (show _ = some (Value.int .i64 s.f1) from rfl)
    obtain ⟨va, hva⟩ : ∃ v, ofIn (allOf p) ⟨i, false, s.f0⟩ = v := ⟨_, rfl⟩
    obtain ⟨vb, hvb⟩ : ∃ v, ofIn (allOf p) ⟨i, true, s.f1⟩ = v := ⟨_, rfl⟩
    have hat := Aside0.mk (show fixAt (allOf p) i s = ([va, vb] : List Int).flatMap pos1 by rw [← hva, ← hvb, fix_pair])
    replace hs := Aside0.mk hs
    replace hva := Aside0.mk hva
    replace hvb := Aside0.mk hvb
    have hlR := Aside0.mk (length_eachTo (length_fixAt (allOf p)) l i)
    clear hZ
    go_wp2_with fail
    clear f0 f1
    refine start_ (n := 13) (S := (fun w' => w'.cell? ⟨wr.heap.size, 0, none⟩ = some (.int .i64 s.f0) ∧ w'.cell? ⟨wr.heap.size, 1, none⟩ = some (.int .i64 s.f1))) (ds := []) #[false, false, false, false, false, false, false, false, false, false, false, false, false] (by kernel_rfl) rfl rfl (⟨z0, z1⟩) (fun hHeld => ?_)
    refine pure_ (i := 0) (N := some 28) (v := ?_) (a' := ?_) #[true, false, false, false, false, false, false, false, false, false, false, false, false] rfl rfl (by kernel_rfl) (fun _ _ _ h => h) (Or.inl ⟨by rfl, ?_⟩) ?_ ?_
    rotate_left
    · intro w'
      go_simp
      with_reducible rfl
    rotate_left
    · simp only [Act.put, List.setIfInBounds_toArray, List.set_cons_zero, List.set_cons_succ, i64_w, i32_w]
      rfl
    refine pure_ (i := 1) (N := some 29) (v := ?_) (a' := ?_) #[true, true, false, false, false, false, false, false, false, false, false, false, false] rfl rfl (by kernel_rfl) (fun _ _ _ h => h) (Or.inl ⟨by rfl, ?_⟩) ?_ ?_
    rotate_left
    · intro w'
      go_simp
      with_reducible rfl
    rotate_left
    · simp only [Act.put, List.setIfInBounds_toArray, List.set_cons_zero, List.set_cons_succ, i64_w, i32_w]
      rfl
    refine pure_ (i := 2) (N := some 30) (v := ?_) (a' := ?_) #[true, true, true, false, false, false, false, false, false, false, false, false, false] rfl rfl (by kernel_rfl) (fun _ _ _ h => h) (Or.inl ⟨by rfl, ?_⟩) ?_ ?_
    rotate_left
    · intro w'
      go_simp
      with_reducible rfl
    rotate_left
    · simp only [Act.put, List.setIfInBounds_toArray, List.set_cons_zero, List.set_cons_succ, i64_w, i32_w]
      rfl
    refine take_ (i := 3) (N := some 31) (v := ?_) (a' := ?_) #[true, true, true, true, false, false, false, false, false, false, false, false, false] rfl rfl (by kernel_rfl) (fun _ _ _ h => h) (Or.inl ⟨by rfl, ?_⟩) hHeld ?_ ?_
    rotate_left
    · rintro w' ⟨s1, s2⟩
      go_simp
      with_reducible rfl
    rotate_left
    · simp only [Act.put, List.setIfInBounds_toArray, List.set_cons_zero, List.set_cons_succ, i64_w, i32_w]
      rfl
    refine pure_ (i := 5) (N := some 33) (v := ?_) (a' := ?_) #[true, true, true, true, false, true, false, false, false, false, false, false, false] rfl rfl (by kernel_rfl) (fun _ _ _ h => h) (Or.inl ⟨by rfl, ?_⟩) ?_ ?_
    rotate_left
    · intro w'
      go_simp
      with_reducible rfl
    rotate_left
    · simp only [Act.put, List.setIfInBounds_toArray, List.set_cons_zero, List.set_cons_succ, i64_w, i32_w]
      rfl
    refine pure_ (i := 6) (N := some 34) (v := ?_) (a' := ?_) #[true, true, true, true, false, true, true, false, false, false, false, false, false] rfl rfl (by kernel_rfl) (fun _ _ _ h => h) (Or.inl ⟨by rfl, ?_⟩) ?_ ?_
    rotate_left
    · intro w'
      go_simp
      with_reducible rfl
    rotate_left
    · simp only [Act.put, List.setIfInBounds_toArray, List.set_cons_zero, List.set_cons_succ, i64_w, i32_w]
      rfl
    refine pure_ (i := 7) (N := some 35) (v := ?_) (a' := ?_) #[true, true, true, true, false, true, true, true, false, false, false, false, false] rfl rfl (by kernel_rfl) (fun _ _ _ h => h) (Or.inl ⟨by rfl, ?_⟩) ?_ ?_
    rotate_left
    · intro w'
      go_simp
      with_reducible rfl
    rotate_left
    · simp only [Act.put, List.setIfInBounds_toArray, List.set_cons_zero, List.set_cons_succ, i64_w, i32_w]
      rfl
    refine take_ (i := 8) (N := some 36) (v := ?_) (a' := ?_) #[true, true, true, true, false, true, true, true, true, false, false, false, false] rfl rfl (by kernel_rfl) (fun _ _ _ h => h) (Or.inl ⟨by rfl, ?_⟩) hHeld ?_ ?_
    rotate_left
    · rintro w' ⟨s1, s2⟩
      go_simp
      with_reducible rfl
    rotate_left
    · simp only [Act.put, List.setIfInBounds_toArray, List.set_cons_zero, List.set_cons_succ, i64_w, i32_w]
      rfl
    refine pure_ (i := 12) (N := some 40) (v := ?_) (a' := ?_) #[true, true, true, true, false, true, true, true, true, false, false, false, true] rfl rfl (by kernel_rfl) (fun _ _ _ h => h) (Or.inl ⟨by rfl, ?_⟩) ?_ ?_
    rotate_left
    · intro w'
      go_simp
      with_reducible rfl
    rotate_left
    · simp only [Act.put, List.setIfInBounds_toArray, List.set_cons_zero, List.set_cons_succ, i64_w, i32_w]
      rfl
    refine one_ (i := 4) (N := some 32) #[true, true, true, true, true, true, true, true, true, false, false, false, true] rfl rfl (by kernel_rfl) (by decide) (fun K hK => ?_)
    refine goes_ Tryz.func25 (by kernel_rfl) rfl #[.pointer (some ⟨b, 0, none⟩), .int .i64 i, .int .i64 s.f0] (by rfl) rfl rfl (by (try simp only [List.map_toArray, List.map_cons, List.map_nil]); first | done | rfl) ?_
    refine (ans_time (hAns.out.below (bthen hb2.out (below_drew (Below.refl _ _)) (Nat.le_refl _))) i s.f0 _ hva.out).mono ?_
    rintro e w5 ⟨rfl, hb5⟩
    have hw5 := Aside0.mk (below_then (below_drew (Below.refl _ _)) (Nat.le_refl _) hb5)
    refine ⟨_, rfl, ?_⟩
    refine hK.out _ _ ⟨cell_on hw5.out z0, cell_on hw5.out z1⟩ (fun hHeld => ?_)
    clear hK K
    refine norm_ (a' := ?_) ?_ ?_
    rotate_left
    · show Act.put _ (some 32) _ = _
      simp only [Act.put, List.setIfInBounds_toArray, List.set_cons_zero, List.set_cons_succ, i64_w, i32_w]
      rfl
    refine one_ (i := 9) (N := some 37) #[true, true, true, true, true, true, true, true, true, true, false, false, true] rfl rfl (by kernel_rfl) (by decide) (fun K hK => ?_)
    refine goes_ Tryz.func27 (by kernel_rfl) rfl #[.pointer (some ⟨b, 0, none⟩), .int .i64 i, .int .i64 s.f1] (by rfl) rfl rfl (by (try simp only [List.map_toArray, List.map_cons, List.map_nil]); first | done | rfl) ?_
    refine (ans_place (hAns.out.below (bthen hb2.out hw5.out (Nat.le_refl _))) i s.f1 _ hvb.out).mono ?_
    rintro e w6 ⟨rfl, hb6⟩
    have hw6 := Aside0.mk (bthen hw5.out hb6 (Nat.le_refl _))
    refine ⟨_, rfl, ?_⟩
    refine hK.out _ _ ⟨cell_on hw6.out z0, cell_on hw6.out z1⟩ (fun hHeld => ?_)
    clear hK K
    refine norm_ (a' := ?_) ?_ ?_
    rotate_left
    · show Act.put _ (some 37) _ = _
      simp only [Act.put, List.setIfInBounds_toArray, List.set_cons_zero, List.set_cons_succ, i64_w, i32_w]
      rfl
    refine one_ (i := 10) (N := some 38) #[true, true, true, true, true, true, true, true, true, true, true, false, true] rfl rfl (by kernel_rfl) (by decide) (fun K hK => ?_)
    refine value_ (w1 := ?_) (v := ?_) (by rfl) rfl ?_ ?_
    rotate_left 2
    · go_simp
      constructor
      · rfl
      · rfl
    refine hK.out _ _ ⟨cell_on (below_alloc hw6.out _) z0, cell_on (below_alloc hw6.out _) z1⟩ (fun hHeld => ?_)
    clear hK K
    refine norm_ (a' := ?_) ?_ ?_
    rotate_left
    · show Act.put _ (some 38) _ = _
      simp only [Act.put, List.setIfInBounds_toArray, List.set_cons_zero, List.set_cons_succ, i64_w, i32_w]
      rfl
    refine pure_ (i := 11) (N := some 39) (v := ?_) (a' := ?_) #[true, true, true, true, true, true, true, true, true, true, true, true, true] rfl rfl (by kernel_rfl) (fun _ _ _ h => h) (Or.inl ⟨by rfl, ?_⟩) ?_ ?_
    rotate_left
    · intro w'
      go_simp
      with_reducible rfl
    rotate_left
    · simp only [Act.put, List.setIfInBounds_toArray, List.set_cons_zero, List.set_cons_succ, i64_w, i32_w]
      rfl
    refine done_ (by kernel_rfl) ?_
    clear z0 z1
    have hb6 := Aside0.mk (bthen hb2.out hw6.out (Nat.le_refl _))
    have hR6 := Aside0.mk (Kd.R_mono (Kd.R_bound (Kd.R_below hR.out (bthen hB2.out hw6.out (Nat.le_refl _)))) (fun k hk => (show k ≠ w6.heap.size by have := hk.2.2.1; omega)))
    have hP6 := Aside0.mk (blk_new w6 (.cells #[.int .i64 va, .int .i64 vb] 3))
    have hR7 := Aside0.mk (Kd.R_below hR6.out (below_alloc (Below.refl w6.heap.size w6) (.cells #[.int .i64 va, .int .i64 vb] 3)))
    have hb7 := Aside0.mk (bthen hb6.out (below_alloc (Below.refl w6.heap.size w6) (.cells #[.int .i64 va, .int .i64 vb] 3)) (Nat.le_refl _))
    have hPw := Aside0.mk (show w.heap.size ≤ w6.heap.size from hb6.out.size)
    obtain ⟨k6, hk6⟩ : ∃ k6, k6 = w6.heap.size := ⟨_, rfl⟩
    rw [← hk6] at hR7 hP6
    rw [← hk6]
    replace hk6 := Aside0.mk hk6
    clear hR hR6
    go_wp2_with fail
    go_loopw [5, 40] (fun v5 v40 wz => ∃ j : Nat, v40 = .int .i64 j ∧ j ≤ 2 ∧ Aside0 (kI.R 3 wz w.heap.size (fun q => q ≠ k6) v5 (eachTo (fixAt (allOf p)) l i ++ (([va, vb] : List Int).take j).flatMap pos1)) ∧ Aside0 (wz.heap[k6]? = some (.cells #[.int .i64 va, .int .i64 vb] 3 (0, 0))) ∧ Aside0 (Below w.heap.size w wz)) (fun _ v _ => 2 - (intOf v).toNat)
    case atStart => exact ⟨0, rfl, by omega, ⟨by simpa using hR7.out⟩, hP6, hb7⟩
    case round =>
      clear hR7 hP6 hb7
      obtain ⟨j, rfl, hj, hR, hP, hb⟩ := hrel
      by_cases hjt : j < 2
      rotate_left
      · obtain rfl : j = 2 := by omega
        go_wp2_with fail
        go_roundw
        case rel => exact ⟨i + 1, by go_num, by omega, ⟨Kd.R_mono (by rw [eachTo_succ hs.out, hat.out]; exact hR.out) (fun _ _ => trivial)⟩, hb⟩
        case measure => simp [intOf]; omega
      obtain ⟨x, hx⟩ : ∃ x, ([va, vb] : List Int)[j]? = some x := ⟨_, List.getElem?_eq_getElem (by simpa using hjt)⟩
      obtain ⟨ap, hap, e0⟩ := el_int (pair_C hP.out) j x hx
      injection hap with hap
      have e1 : wr.cell? ⟨k6, j, none⟩ = some (.int .i64 x) := by rw [← add_plain, hap]; exact e0
      have htk := Aside0.mk (take_flat hx)
      replace hx := Aside0.mk hx
      clear e0 hap
      by_cases hpos : 0 < x
      · have hlq : Aside0 (((eachTo (fixAt (allOf p)) l i ++ (([va, vb] : List Int).take j).flatMap pos1).length + 1) * 8 ≤ 140737488355328) := ⟨by
          have h1 := hlR.out
          have h2 : ((([va, vb] : List Int).take j).flatMap pos1).length ≤ 2 := by
            have : j = 0 ∨ j = 1 := by omega
            rcases this with rfl | rfl
            · simp
            · simp [pos1]; split <;> simp
          rw [List.length_append]
          omega⟩
        have hx1 := Aside0.mk (show pos1 x = [x] by rw [pos1, if_pos hpos])
        go_wp2_with (first | ((with_reducible refine gate_builtin (b := .append) (xs := #[.tmp 46, .tmp 48]) rfl ?_); at_builtin; refine Kd.R_append kI (w0 := w) (W := wr) w.heap.size rfl (.tmp 46) (.tmp 48) 22 3 (.int .i64 0) 8 rfl Tryz.underlying22 infoI64 rfl (by decide) (by omega) _ _ x [.int .i64 x] (fun q => q ≠ k6) (fun _ => False) rfl rfl (kI_mkM _ _ _ _) (fun _ hk => hk.elim) (fun q hq => by have := blk_lt hP.out; omega) hR.out hb.out hb.out.size hlq.out ?_; intro v1 w9 hR9 hb9 hg9 hat9; replace hR9 := Aside0.mk hR9; replace hb9 := Aside0.mk hb9; have hP9 := Aside0.mk ((hg9.block k6 (blk_lt hP.out) (fun e => hR.out.1 k6 e.symm rfl)).trans hP.out); clear hg9 hat9))
        go_roundw
        case rel => exact ⟨j + 1, by go_num, by omega, ⟨by rw [htk.out, hx1.out, ← List.append_assoc]; exact hR9.out⟩, hP9, hb9⟩
        case measure => simp [intOf]; omega
      · have hx1 := Aside0.mk (show pos1 x = [] by rw [pos1, if_neg hpos])
        go_wp2_with fail
        go_roundw
        case rel => exact ⟨j + 1, by go_num, by omega, ⟨by rw [htk.out, hx1.out, List.append_nil]; exact hR.out⟩, hP, hb⟩
        case measure => simp [intOf]; omega
section
variable {p : Problem} {mv : Value} {w : World}
theorem ans_fixed (hp : wfProblem p) (h : Ans p mv w) (l : List Seat) (A : Option Addr) (c : Nat) (hA : kSeat.C w A l.length l) :
    Calls Tryz.prog 32 #[mv, .slice A l.length c] w fun e w' => (∃ A' c', e = .returned (.slice A' (fixedOf p l).length c') ∧ kI.C w' A' (fixedOf p l).length (fixedOf p l)) ∧ Below w.heap.size w w' := by
  rcases h with ⟨rfl, h⟩ | ⟨h, b, rfl, hM⟩
  · have e : fixedOf p l = [] := by rw [fixedOf, planOk_no h]; rfl
    rw [e]
    exact (fixed_nil A l.length c w).mono (fun e w' ⟨h1, h2⟩ => ⟨⟨none, 0, h1, rfl, by simp, fun h => absurd h (by simp)⟩, by rw [← h2]; exact Below.refl _ _⟩)
  · exact fixed_calls p hp h b w hM l A c hA
end
end Go.Proofs.YthalgemkblkhgaaGreat
