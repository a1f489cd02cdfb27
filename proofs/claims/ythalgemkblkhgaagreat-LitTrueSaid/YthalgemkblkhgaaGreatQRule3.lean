/- What the document's check of a rule comes to. -/
import Derived.Test.YthalgemkblkhgaaGreatQMF
namespace Go.Proofs.YthalgemkblkhgaaGreat
open Go.RowKit Go.Proofs.YthalgemkblkhgaaGreatW.PrintWords Go.Proofs.YthalgemkblkhgaaGreatW.PrintLast
set_option linter.unusedVariables false
set_option linter.unusedSimpArgs false


theorem has_ref_n (l : List Int) (n : Int) (A : Option Addr) (m c : Nat) (w : World) (hm : l.length = m) (hA : (Kd.int .i64).C w A l.length l) (r : Bool) (h : decide (n ∈ l) = r) :
    Calls Tryz.prog 190 #[.slice A m c, .int .i64 n] w fun e w' => e = .returned (.bool r) ∧ w = w' := by
  subst hm
  exact has_ref l n A c w hA r h

set_option maxRecDepth 100000 in
set_option maxHeartbeats 4000000 in
theorem ruleOk_ref (n : Int) (x : Rule) (hx : wfRule x) (cs : List Value) (w : World) (hK : kRule.K w x cs) (r : Bool) (h : ruleOk n x = r) :
    Calls Tryz.prog 159 #[.int .i64 n, .agg cs.toArray] w fun e w' => e = .returned (.bool r) ∧ Below w.heap.size w w' := by
  subst h
  obtain ⟨A1, c1, rfl, l1, g1⟩ := kRule_open hK
  clear hK
  have hm := Kd.C_max g1
  have HC := Aside0.mk g1
  clear g1
  have hu1 := Tryz.underlying133
  go_enter Tryz.func159, Tryz.ntmps159
  go_wp2_with fail
  have hkn : ∀ b, (inR 1 14 x.f0 || inR 21 24 x.f0) = b → ruleOk n x = (b && (numsOk x.f0 x.f2 x.f3 && (decide (2 ≤ x.f1.length) && (decide (x.f1.length ≤ 12) && (distOk n x.f1 && (if x.f4 = true then decide (x.f5 = 0) else inR 1 1000 x.f5)))))) := fun b h => by rw [ruleOk, h]
  replace hkn := Aside0.mk hkn
  cases h1 : inR 1 14 x.f0
  · replace h1 := Aside0.mk h1
    (refine (pairKnown_ref _ _ h1.out _).mono ?_; rintro e w' ⟨rfl, rfl⟩; go_wp2_with fail)
    cases h2 : inR 21 24 x.f0
    · replace h2 := Aside0.mk h2
      (refine (manyKnown_ref _ _ h2.out _).mono ?_; rintro e w' ⟨rfl, rfl⟩; go_wp2_with fail)
      go_ret
      exact ⟨ret_bool (by rw [hkn.out false (by rw [h1.out, h2.out]; rfl)]; rfl), below1 (Below.refl _ _)⟩
    replace h2 := Aside0.mk h2
    have hsp := Aside0.mk (hkn.out true (by rw [h1.out, h2.out]; rfl))
    by_cases c2 : x.f1.length < 2
    · (refine (manyKnown_ref _ _ h2.out _).mono ?_; rintro e w' ⟨rfl, rfl⟩; go_wp2_with fail)
      go_ret
      exact ⟨ret_bool (by rw [hsp.out, decide_eq_false (by omega : ¬ 2 ≤ x.f1.length)]; simp), below1 (Below.refl _ _)⟩
    by_cases c12 : 12 < x.f1.length
    · (refine (manyKnown_ref _ _ h2.out _).mono ?_; rintro e w' ⟨rfl, rfl⟩; go_wp2_with fail)
      go_ret
      exact ⟨ret_bool (by rw [hsp.out, decide_eq_false (by omega : ¬ x.f1.length ≤ 12)]; simp), below1 (Below.refl _ _)⟩
    (refine (manyKnown_ref _ _ h2.out _).mono ?_; rintro e w' ⟨rfl, rfl⟩; go_wp2_with fail)
    replace hsp := Aside0.mk (hsp.out.trans (show _ = (numsOk x.f0 x.f2 x.f3 && (distOk n x.f1 && (if x.f4 = true then decide (x.f5 = 0) else inR 1 1000 x.f5))) by rw [decide_eq_true (by omega : 2 ≤ x.f1.length), decide_eq_true (by omega : x.f1.length ≤ 12)]; simp))
    cases h3 : numsOk x.f0 x.f2 x.f3
    · replace h3 := Aside0.mk h3
      (refine (nums_ref _ _ _ _ h3.out _).mono ?_; rintro e w' ⟨rfl, rfl⟩; go_wp2_with fail)
      go_ret
      exact ⟨ret_bool (by rw [hsp.out, h3.out]; rfl), below1 (Below.refl _ _)⟩
    replace h3 := Aside0.mk h3
    (refine (nums_ref _ _ _ _ h3.out _).mono ?_; rintro e w' ⟨rfl, rfl⟩; go_wp2_with fail)
    replace hsp := Aside0.mk (hsp.out.trans (show _ = (distOk n x.f1 && (if x.f4 = true then decide (x.f5 = 0) else inR 1 1000 x.f5)) by rw [h3.out]; rfl))
    go_loopw [5] (fun v wr => ∃ (i : Nat), v = .int .i64 i ∧ i ≤ x.f1.length ∧ Aside0 (upTo (distAt n x.f1) i) ∧ Aside0 (Below (w.alloc (.cells #[.int .i64 x.f0, .slice A1 x.f1.length c1, .int .i64 x.f2, .int .i64 x.f3, .bool x.f4, .int .i64 x.f5] 133)).heap.size (w.alloc (.cells #[.int .i64 x.f0, .slice A1 x.f1.length c1, .int .i64 x.f2, .int .i64 x.f3, .bool x.f4, .int .i64 x.f5] 133)) wr)) (fun v _ => x.f1.length - (intOf v).toNat)
    case atStart => exact ⟨0, rfl, by omega, ⟨upTo_zero _⟩, ⟨Below.refl _ _⟩⟩
    case round =>
      obtain ⟨i, rfl, hi, hno, hb⟩ := hrel
      have hc := (bcell hb.out).1
      have b1 : wr.cell? ⟨w.heap.size, 1, none⟩ = some (.slice A1 x.f1.length c1) := by rw [hc _ _ (by simp)]; go_simp
      by_cases hlt : i < x.f1.length
      · have hx' : x.f1[i]? = some x.f1[i] := List.getElem?_eq_getElem hlt
        generalize x.f1[i] = y at hx'
        obtain ⟨ad, rfl, h0⟩ := el_int (Kd.C_below HC.out (below1 hb.out)) i y hx'
        have hsd : distAt n x.f1 i = (decide (0 ≤ y) && (decide (y < n) && !decide (y ∈ x.f1.take i))) := by simp only [distAt, hx']
        replace hsd := Aside0.mk hsd
        clear hx' hc
        by_cases e1 : y < 0
        · have d1 : decide (y < 0) = true := decide_eq_true e1
          replace hsd := Aside0.mk (hsd.out.trans (show _ = false by rw [decide_eq_false (by omega)]; rfl))
          replace e1 := Aside0.mk e1
          go_wp2
          go_big_quiet (fail)
          go_wp2
          go_ret
          exact ⟨ret_bool (by rw [hsp.out, distOk, allB_no hlt hsd.out]; rfl), below1 (pw_below_drewN hb.out _)⟩
        have d1 : decide (y < 0) = false := decide_eq_false e1
        by_cases e2 : n ≤ y
        · have d2 : decide (n ≤ y) = true := decide_eq_true e2
          replace hsd := Aside0.mk (hsd.out.trans (show _ = false by rw [decide_eq_false (by omega : ¬ y < n)]; simp))
          replace e1 := Aside0.mk e1
          replace e2 := Aside0.mk e2
          go_wp2
          go_big_quiet (fail)
          go_wp2
          go_ret
          exact ⟨ret_bool (by rw [hsp.out, distOk, allB_no hlt hsd.out]; rfl), below1 (pw_below_drewN hb.out _)⟩
        have d2 : decide (n ≤ y) = false := decide_eq_false e2
        replace hsd := Aside0.mk (hsd.out.trans (show _ = !decide (y ∈ x.f1.take i) by rw [decide_eq_true (by omega : 0 ≤ y), decide_eq_true (by omega : y < n)]; rfl))
        replace e1 := Aside0.mk e1
        replace e2 := Aside0.mk e2
        have hlen := Aside0.mk (List.length_take_of_le hi)
        obtain ⟨q, hq⟩ : ∃ q, decide (y ∈ x.f1.take i) = q := ⟨_, rfl⟩
        replace hq := Aside0.mk hq
        go_wp2
        have hic : i ≤ c1 := Nat.le_trans hi l1
        have hb2 : Aside0 (Below (w.alloc (.cells #[.int .i64 x.f0, .slice (some ad) x.f1.length c1, .int .i64 x.f2, .int .i64 x.f3, .bool x.f4, .int .i64 x.f5] 133)).heap.size (w.alloc (.cells #[.int .i64 x.f0, .slice (some ad) x.f1.length c1, .int .i64 x.f2, .int .i64 x.f3, .bool x.f4, .int .i64 x.f5] 133)) wr.drew) := ⟨below_drew hb.out⟩
        refine start_ (n := 27) (S := (fun w' => Aside0 (Below (w.alloc (.cells #[.int .i64 x.f0, .slice (some ad) x.f1.length c1, .int .i64 x.f2, .int .i64 x.f3, .bool x.f4, .int .i64 x.f5] 133)).heap.size (w.alloc (.cells #[.int .i64 x.f0, .slice (some ad) x.f1.length c1, .int .i64 x.f2, .int .i64 x.f3, .bool x.f4, .int .i64 x.f5] 133)) w') ∧ w'.cell? ⟨w.heap.size, 1, none⟩ = some (.slice (some ad) x.f1.length c1) ∧ w'.cell? (ad.add i) = some (.int .i64 y))) (ds := []) #[false, false, false, false, false, false, false, false, false, false, false, false, false, false, false, false, false, false, false, false, false, false, false, false, false, false, false] (by kernel_rfl) rfl rfl (⟨hb2, b1, h0⟩) (fun hHeld => ?_)
        refine pure_ (i := 0) (N := some 45) (v := ?_) (a' := ?_) #[true, false, false, false, false, false, false, false, false, false, false, false, false, false, false, false, false, false, false, false, false, false, false, false, false, false, false] rfl rfl (by kernel_rfl) (fun _ _ _ h => h) (Or.inl ⟨by rfl, ?_⟩) ?_ ?_
        rotate_left
        · intro w'
          go_simp
          with_reducible rfl
        rotate_left
        · simp only [Act.put, List.setIfInBounds_toArray, List.set_cons_zero, List.set_cons_succ, i64_w, i32_w]
          rfl
        refine take_ (i := 1) (N := some 46) (v := ?_) (a' := ?_) #[true, true, false, false, false, false, false, false, false, false, false, false, false, false, false, false, false, false, false, false, false, false, false, false, false, false, false] rfl rfl (by kernel_rfl) (fun _ _ _ h => h) (Or.inl ⟨by rfl, ?_⟩) hHeld ?_ ?_
        rotate_left
        · rintro w' ⟨-, s1, s2⟩
          go_simp
          with_reducible rfl
        rotate_left
        · simp only [Act.put, List.setIfInBounds_toArray, List.set_cons_zero, List.set_cons_succ, i64_w, i32_w]
          rfl
        refine pure_ (i := 2) (N := some 47) (v := ?_) (a' := ?_) #[true, true, true, false, false, false, false, false, false, false, false, false, false, false, false, false, false, false, false, false, false, false, false, false, false, false, false] rfl rfl (by kernel_rfl) (fun _ _ _ h => h) (Or.inl ⟨by rfl, ?_⟩) ?_ ?_
        rotate_left
        · intro w'
          go_simp
          with_reducible rfl
        rotate_left
        · simp only [Act.put, List.setIfInBounds_toArray, List.set_cons_zero, List.set_cons_succ, i64_w, i32_w]
          rfl
        refine pure_ (i := 3) (N := some 48) (v := ?_) (a' := ?_) #[true, true, true, true, false, false, false, false, false, false, false, false, false, false, false, false, false, false, false, false, false, false, false, false, false, false, false] rfl rfl (by kernel_rfl) (fun _ _ _ h => h) (Or.inl ⟨by rfl, ?_⟩) ?_ ?_
        rotate_left
        · intro w'
          go_simp
          with_reducible rfl
        rotate_left
        · simp only [Act.put, List.setIfInBounds_toArray, List.set_cons_zero, List.set_cons_succ, i64_w, i32_w]
          rfl
        refine take_ (i := 4) (N := some 49) (v := ?_) (a' := ?_) #[true, true, true, true, true, false, false, false, false, false, false, false, false, false, false, false, false, false, false, false, false, false, false, false, false, false, false] rfl rfl (by kernel_rfl) (fun _ _ _ h => h) (Or.inl ⟨by rfl, ?_⟩) hHeld ?_ ?_
        rotate_left
        · rintro w' ⟨-, s1, s2⟩
          go_simp
          with_reducible rfl
        rotate_left
        · simp only [Act.put, List.setIfInBounds_toArray, List.set_cons_zero, List.set_cons_succ, i64_w, i32_w]
          rfl
        refine pure_ (i := 5) (N := some 50) (v := ?_) (a' := ?_) #[true, true, true, true, true, true, false, false, false, false, false, false, false, false, false, false, false, false, false, false, false, false, false, false, false, false, false] rfl rfl (by kernel_rfl) (fun _ _ _ h => h) (Or.inl ⟨by rfl, ?_⟩) ?_ ?_
        rotate_left
        · intro w'
          go_simp
          with_reducible rfl
        rotate_left
        · simp only [Act.put, List.setIfInBounds_toArray, List.set_cons_zero, List.set_cons_succ, i64_w, i32_w]
          rfl
        refine pure_ (i := 6) (N := some 51) (v := ?_) (a' := ?_) #[true, true, true, true, true, true, true, false, false, false, false, false, false, false, false, false, false, false, false, false, false, false, false, false, false, false, false] rfl rfl (by kernel_rfl) (fun _ _ _ h => h) (Or.inl ⟨by rfl, ?_⟩) ?_ ?_
        rotate_left
        · intro w'
          go_simp
          with_reducible rfl
        rotate_left
        · simp only [Act.put, List.setIfInBounds_toArray, List.set_cons_zero, List.set_cons_succ, i64_w, i32_w]
          rfl
        refine pure_ (i := 7) (N := some 52) (v := ?_) (a' := ?_) #[true, true, true, true, true, true, true, true, false, false, false, false, false, false, false, false, false, false, false, false, false, false, false, false, false, false, false] rfl rfl (by kernel_rfl) (fun _ _ _ h => h) (Or.inl ⟨by rfl, ?_⟩) ?_ ?_
        rotate_left
        · intro w'
          go_simp
          with_reducible rfl
        rotate_left
        · simp only [Act.put, List.setIfInBounds_toArray, List.set_cons_zero, List.set_cons_succ, i64_w, i32_w]
          rfl
        refine take_ (i := 8) (N := some 53) (v := ?_) (a' := ?_) #[true, true, true, true, true, true, true, true, true, false, false, false, false, false, false, false, false, false, false, false, false, false, false, false, false, false, false] rfl rfl (by kernel_rfl) (fun _ _ _ h => h) (Or.inl ⟨by rfl, ?_⟩) hHeld ?_ ?_
        rotate_left
        · rintro w' ⟨-, s1, s2⟩
          go_simp
          with_reducible rfl
        rotate_left
        · simp only [Act.put, List.setIfInBounds_toArray, List.set_cons_zero, List.set_cons_succ, i64_w, i32_w]
          rfl
        refine pure_ (i := 9) (N := some 54) (v := ?_) (a' := ?_) #[true, true, true, true, true, true, true, true, true, true, false, false, false, false, false, false, false, false, false, false, false, false, false, false, false, false, false] rfl rfl (by kernel_rfl) (fun _ _ _ h => h) (Or.inl ⟨by rfl, ?_⟩) ?_ ?_
        rotate_left
        · intro w'
          go_simp
          with_reducible rfl
        rotate_left
        · simp only [Act.put, List.setIfInBounds_toArray, List.set_cons_zero, List.set_cons_succ, i64_w, i32_w]
          rfl
        refine pure_ (i := 10) (N := some 55) (v := ?_) (a' := ?_) #[true, true, true, true, true, true, true, true, true, true, true, false, false, false, false, false, false, false, false, false, false, false, false, false, false, false, false] rfl rfl (by kernel_rfl) (fun _ _ _ h => h) (Or.inl ⟨by rfl, ?_⟩) ?_ ?_
        rotate_left
        · intro w'
          go_simp
          with_reducible rfl
        rotate_left
        · simp only [Act.put, List.setIfInBounds_toArray, List.set_cons_zero, List.set_cons_succ, i64_w, i32_w]
          rfl
        refine take_ (i := 11) (N := some 56) (v := ?_) (a' := ?_) #[true, true, true, true, true, true, true, true, true, true, true, true, false, false, false, false, false, false, false, false, false, false, false, false, false, false, false] rfl rfl (by kernel_rfl) (fun _ _ _ h => h) (Or.inl ⟨by rfl, ?_⟩) hHeld ?_ ?_
        rotate_left
        · rintro w' ⟨-, s1, s2⟩
          go_simp
          with_reducible rfl
        rotate_left
        · simp only [Act.put, List.setIfInBounds_toArray, List.set_cons_zero, List.set_cons_succ, i64_w, i32_w]
          rfl
        refine pure_ (i := 12) (N := some 57) (v := ?_) (a' := ?_) #[true, true, true, true, true, true, true, true, true, true, true, true, true, false, false, false, false, false, false, false, false, false, false, false, false, false, false] rfl rfl (by kernel_rfl) (fun _ _ _ h => h) (Or.inl ⟨by rfl, ?_⟩) ?_ ?_
        rotate_left
        · intro w'
          go_simp
          with_reducible rfl
        rotate_left
        · simp only [Act.put, List.setIfInBounds_toArray, List.set_cons_zero, List.set_cons_succ, i64_w, i32_w]
          rfl
        refine pure_ (i := 13) (N := some 58) (v := ?_) (a' := ?_) #[true, true, true, true, true, true, true, true, true, true, true, true, true, true, false, false, false, false, false, false, false, false, false, false, false, false, false] rfl rfl (by kernel_rfl) (fun _ _ _ h => h) (Or.inl ⟨by rfl, ?_⟩) ?_ ?_
        rotate_left
        · intro w'
          go_simp
          with_reducible rfl
        rotate_left
        · simp only [Act.put, List.setIfInBounds_toArray, List.set_cons_zero, List.set_cons_succ, i64_w, i32_w]
          rfl
        refine pure_ (i := 14) (N := some 59) (v := ?_) (a' := ?_) #[true, true, true, true, true, true, true, true, true, true, true, true, true, true, true, false, false, false, false, false, false, false, false, false, false, false, false] rfl rfl (by kernel_rfl) (fun _ _ _ h => h) (Or.inl ⟨by rfl, ?_⟩) ?_ ?_
        rotate_left
        · intro w'
          go_simp
          with_reducible rfl
        rotate_left
        · simp only [Act.put, List.setIfInBounds_toArray, List.set_cons_zero, List.set_cons_succ, i64_w, i32_w]
          rfl
        refine pure_ (i := 15) (N := some 60) (v := ?_) (a' := ?_) #[true, true, true, true, true, true, true, true, true, true, true, true, true, true, true, true, false, false, false, false, false, false, false, false, false, false, false] rfl rfl (by kernel_rfl) (fun _ _ _ h => h) (Or.inl ⟨by rfl, ?_⟩) ?_ ?_
        rotate_left
        · intro w'
          go_simp
          with_reducible rfl
        rotate_left
        · simp only [Act.put, List.setIfInBounds_toArray, List.set_cons_zero, List.set_cons_succ, i64_w, i32_w]
          rfl
        refine pure_ (i := 16) (N := some 61) (v := ?_) (a' := ?_) #[true, true, true, true, true, true, true, true, true, true, true, true, true, true, true, true, true, false, false, false, false, false, false, false, false, false, false] rfl rfl (by kernel_rfl) (fun _ _ _ h => h) (Or.inl ⟨by rfl, ?_⟩) ?_ ?_
        rotate_left
        · intro w'
          go_simp
          with_reducible rfl
        rotate_left
        · simp only [Act.put, List.setIfInBounds_toArray, List.set_cons_zero, List.set_cons_succ, i64_w, i32_w]
          rfl
        refine take_ (i := 17) (N := some 62) (v := ?_) (a' := ?_) #[true, true, true, true, true, true, true, true, true, true, true, true, true, true, true, true, true, true, false, false, false, false, false, false, false, false, false] rfl rfl (by kernel_rfl) (fun _ _ _ h => h) (Or.inl ⟨by rfl, ?_⟩) hHeld ?_ ?_
        rotate_left
        · rintro w' ⟨-, s1, s2⟩
          go_simp
          with_reducible rfl
        rotate_left
        · simp only [Act.put, List.setIfInBounds_toArray, List.set_cons_zero, List.set_cons_succ, i64_w, i32_w]
          rfl
        refine pure_ (i := 18) (N := some 63) (v := ?_) (a' := ?_) #[true, true, true, true, true, true, true, true, true, true, true, true, true, true, true, true, true, true, true, false, false, false, false, false, false, false, false] rfl rfl (by kernel_rfl) (fun _ _ _ h => h) (Or.inl ⟨by rfl, ?_⟩) ?_ ?_
        rotate_left
        · intro w'
          go_simp
          with_reducible rfl
        rotate_left
        · simp only [Act.put, List.setIfInBounds_toArray, List.set_cons_zero, List.set_cons_succ, i64_w, i32_w]
          rfl
        refine pure_ (i := 19) (N := some 64) (v := ?_) (a' := ?_) #[true, true, true, true, true, true, true, true, true, true, true, true, true, true, true, true, true, true, true, true, false, false, false, false, false, false, false] rfl rfl (by kernel_rfl) (fun _ _ _ h => h) (Or.inl ⟨by rfl, ?_⟩) ?_ ?_
        rotate_left
        · intro w'
          go_simp
          with_reducible rfl
        rotate_left
        · simp only [Act.put, List.setIfInBounds_toArray, List.set_cons_zero, List.set_cons_succ, i64_w, i32_w]
          rfl
        refine pure_ (i := 20) (N := some 65) (v := ?_) (a' := ?_) #[true, true, true, true, true, true, true, true, true, true, true, true, true, true, true, true, true, true, true, true, true, false, false, false, false, false, false] rfl rfl (by kernel_rfl) (fun _ _ _ h => h) (Or.inl ⟨by rfl, ?_⟩) ?_ ?_
        rotate_left
        · intro w'
          go_simp
          with_reducible rfl
        rotate_left
        · simp only [Act.put, List.setIfInBounds_toArray, List.set_cons_zero, List.set_cons_succ, i64_w, i32_w]
          rfl
        refine take_ (i := 21) (N := some 66) (v := ?_) (a' := ?_) #[true, true, true, true, true, true, true, true, true, true, true, true, true, true, true, true, true, true, true, true, true, true, false, false, false, false, false] rfl rfl (by kernel_rfl) (fun _ _ _ h => h) (Or.inl ⟨by rfl, ?_⟩) hHeld ?_ ?_
        rotate_left
        · rintro w' ⟨-, s1, s2⟩
          go_simp
          with_reducible rfl
        rotate_left
        · simp only [Act.put, List.setIfInBounds_toArray, List.set_cons_zero, List.set_cons_succ, i64_w, i32_w]
          rfl
        refine pure_ (i := 22) (N := some 67) (v := ?_) (a' := ?_) #[true, true, true, true, true, true, true, true, true, true, true, true, true, true, true, true, true, true, true, true, true, true, true, false, false, false, false] rfl rfl (by kernel_rfl) (fun _ _ _ h => h) (Or.inl ⟨by rfl, ?_⟩) ?_ ?_
        rotate_left
        · intro w'
          go_simp
          with_reducible rfl
        rotate_left
        · simp only [Act.put, List.setIfInBounds_toArray, List.set_cons_zero, List.set_cons_succ, i64_w, i32_w]
          rfl
        refine pure_ (i := 23) (N := some 68) (v := ?_) (a' := ?_) #[true, true, true, true, true, true, true, true, true, true, true, true, true, true, true, true, true, true, true, true, true, true, true, true, false, false, false] rfl rfl (by kernel_rfl) (fun _ _ _ h => h) (Or.inl ⟨by rfl, ?_⟩) ?_ ?_
        rotate_left
        · intro w'
          go_simp
          with_reducible rfl
        rotate_left
        · simp only [Act.put, List.setIfInBounds_toArray, List.set_cons_zero, List.set_cons_succ, i64_w, i32_w]
          rfl
        refine take_ (i := 24) (N := some 69) (v := ?_) (a' := ?_) #[true, true, true, true, true, true, true, true, true, true, true, true, true, true, true, true, true, true, true, true, true, true, true, true, true, false, false] rfl rfl (by kernel_rfl) (fun _ _ _ h => h) (Or.inl ⟨by rfl, ?_⟩) hHeld ?_ ?_
        rotate_left
        · rintro w' ⟨-, s1, s2⟩
          go_simp
          with_reducible rfl
        rotate_left
        · simp only [Act.put, List.setIfInBounds_toArray, List.set_cons_zero, List.set_cons_succ, i64_w, i32_w]
          rfl
        refine one_ (i := 25) (N := some 70) #[true, true, true, true, true, true, true, true, true, true, true, true, true, true, true, true, true, true, true, true, true, true, true, true, true, true, false] rfl rfl (by kernel_rfl) (by decide) (fun K hK => ?_)
        refine goes_ Tryz.func190 (by kernel_rfl) rfl #[.slice (some ad) i c1, .int .i64 y] (by rfl) rfl rfl (by (try simp only [List.map_toArray, List.map_cons, List.map_nil]); first | done | rfl) ?_
        refine (has_ref_n (x.f1.take i) y _ _ _ _ hlen.out (Kd.C_take (Kd.C_below HC.out (below1 hb2.out)) hi) _ hq.out).mono ?_
        rintro e w' ⟨rfl, rfl⟩
        refine ⟨_, rfl, ?_⟩
        refine hK.out _ _ ⟨hb2, b1, h0⟩ (fun hHeld => ?_)
        clear hK K
        refine norm_ (a' := ?_) ?_ ?_
        rotate_left
        · show Act.put _ (some 70) _ = _
          simp only [Act.put, List.setIfInBounds_toArray, List.set_cons_zero, List.set_cons_succ, i64_w, i32_w]
          rfl
        refine pure_ (i := 26) (N := some 71) (v := ?_) (a' := ?_) #[true, true, true, true, true, true, true, true, true, true, true, true, true, true, true, true, true, true, true, true, true, true, true, true, true, true, true] rfl rfl (by kernel_rfl) (fun _ _ _ h => h) (Or.inl ⟨by rfl, ?_⟩) ?_ ?_
        rotate_left
        · intro w'
          go_simp
          with_reducible rfl
        rotate_left
        · simp only [Act.put, List.setIfInBounds_toArray, List.set_cons_zero, List.set_cons_succ, i64_w, i32_w]
          rfl
        refine done_ (by kernel_rfl) ?_
        clear b1 h0
        cases q
        · go_wp2_with fail
          go_roundw
          case rel => exact ⟨i + 1, by go_num, by omega, ⟨upTo_snoc hno.out (by rw [hsd.out, hq.out]; rfl)⟩, hb2⟩
          case measure => simp [intOf]; omega
        · go_wp2_with fail
          go_ret
          exact ⟨ret_bool (by rw [hsp.out, distOk, allB_no hlt (by rw [hsd.out, hq.out]; rfl)]; rfl), below1 hb2.out⟩
      · obtain rfl : i = x.f1.length := by omega
        have b4 : wr.cell? ⟨w.heap.size, 4, none⟩ = some (.bool x.f4) := by rw [hc _ _ (by simp)]; go_simp
        have b5 : wr.cell? ⟨w.heap.size, 5, none⟩ = some (.int .i64 x.f5) := by rw [hc _ _ (by simp)]; go_simp
        clear hc
        replace hsp := Aside0.mk (hsp.out.trans (show _ = (if x.f4 = true then decide (x.f5 = 0) else inR 1 1000 x.f5) by rw [distOk, allB_yes hno.out]; rfl))
        cases h5 : x.f4
        · rw [h5] at b4
          replace h5 := Aside0.mk h5
          by_cases c5 : x.f5 < 1
          all_goals
            go_wp2
            go_ret
            exact ⟨ret_bool (by rw [hsp.out, h5.out, Bool.eq_iff_iff]; simp [inR]; try omega), below1 hb.out⟩
        · rw [h5] at b4
          replace h5 := Aside0.mk h5
          go_wp2
          go_ret
          exact ⟨ret_bool (by rw [hsp.out, h5.out]; simp [beq_dec]), below1 hb.out⟩
  · replace h1 := Aside0.mk h1
    have hsp := Aside0.mk (hkn.out true (by rw [h1.out]; rfl))
    by_cases c2 : x.f1.length < 2
    · (refine (pairKnown_ref _ _ h1.out _).mono ?_; rintro e w' ⟨rfl, rfl⟩; go_wp2_with fail)
      go_ret
      exact ⟨ret_bool (by rw [hsp.out, decide_eq_false (by omega : ¬ 2 ≤ x.f1.length)]; simp), below1 (Below.refl _ _)⟩
    by_cases c12 : 12 < x.f1.length
    · (refine (pairKnown_ref _ _ h1.out _).mono ?_; rintro e w' ⟨rfl, rfl⟩; go_wp2_with fail)
      go_ret
      exact ⟨ret_bool (by rw [hsp.out, decide_eq_false (by omega : ¬ x.f1.length ≤ 12)]; simp), below1 (Below.refl _ _)⟩
    (refine (pairKnown_ref _ _ h1.out _).mono ?_; rintro e w' ⟨rfl, rfl⟩; go_wp2_with fail)
    replace hsp := Aside0.mk (hsp.out.trans (show _ = (numsOk x.f0 x.f2 x.f3 && (distOk n x.f1 && (if x.f4 = true then decide (x.f5 = 0) else inR 1 1000 x.f5))) by rw [decide_eq_true (by omega : 2 ≤ x.f1.length), decide_eq_true (by omega : x.f1.length ≤ 12)]; simp))
    cases h3 : numsOk x.f0 x.f2 x.f3
    · replace h3 := Aside0.mk h3
      (refine (nums_ref _ _ _ _ h3.out _).mono ?_; rintro e w' ⟨rfl, rfl⟩; go_wp2_with fail)
      go_ret
      exact ⟨ret_bool (by rw [hsp.out, h3.out]; rfl), below1 (Below.refl _ _)⟩
    replace h3 := Aside0.mk h3
    (refine (nums_ref _ _ _ _ h3.out _).mono ?_; rintro e w' ⟨rfl, rfl⟩; go_wp2_with fail)
    replace hsp := Aside0.mk (hsp.out.trans (show _ = (distOk n x.f1 && (if x.f4 = true then decide (x.f5 = 0) else inR 1 1000 x.f5)) by rw [h3.out]; rfl))
    go_loopw [5] (fun v wr => ∃ (i : Nat), v = .int .i64 i ∧ i ≤ x.f1.length ∧ Aside0 (upTo (distAt n x.f1) i) ∧ Aside0 (Below (w.alloc (.cells #[.int .i64 x.f0, .slice A1 x.f1.length c1, .int .i64 x.f2, .int .i64 x.f3, .bool x.f4, .int .i64 x.f5] 133)).heap.size (w.alloc (.cells #[.int .i64 x.f0, .slice A1 x.f1.length c1, .int .i64 x.f2, .int .i64 x.f3, .bool x.f4, .int .i64 x.f5] 133)) wr)) (fun v _ => x.f1.length - (intOf v).toNat)
    case atStart => exact ⟨0, rfl, by omega, ⟨upTo_zero _⟩, ⟨Below.refl _ _⟩⟩
    case round =>
      obtain ⟨i, rfl, hi, hno, hb⟩ := hrel
      have hc := (bcell hb.out).1
      have b1 : wr.cell? ⟨w.heap.size, 1, none⟩ = some (.slice A1 x.f1.length c1) := by rw [hc _ _ (by simp)]; go_simp
      by_cases hlt : i < x.f1.length
      · have hx' : x.f1[i]? = some x.f1[i] := List.getElem?_eq_getElem hlt
        generalize x.f1[i] = y at hx'
        obtain ⟨ad, rfl, h0⟩ := el_int (Kd.C_below HC.out (below1 hb.out)) i y hx'
        have hsd : distAt n x.f1 i = (decide (0 ≤ y) && (decide (y < n) && !decide (y ∈ x.f1.take i))) := by simp only [distAt, hx']
        replace hsd := Aside0.mk hsd
        clear hx' hc
        by_cases e1 : y < 0
        · have d1 : decide (y < 0) = true := decide_eq_true e1
          replace hsd := Aside0.mk (hsd.out.trans (show _ = false by rw [decide_eq_false (by omega)]; rfl))
          replace e1 := Aside0.mk e1
          go_wp2
          go_big_quiet (fail)
          go_wp2
          go_ret
          exact ⟨ret_bool (by rw [hsp.out, distOk, allB_no hlt hsd.out]; rfl), below1 (pw_below_drewN hb.out _)⟩
        have d1 : decide (y < 0) = false := decide_eq_false e1
        by_cases e2 : n ≤ y
        · have d2 : decide (n ≤ y) = true := decide_eq_true e2
          replace hsd := Aside0.mk (hsd.out.trans (show _ = false by rw [decide_eq_false (by omega : ¬ y < n)]; simp))
          replace e1 := Aside0.mk e1
          replace e2 := Aside0.mk e2
          go_wp2
          go_big_quiet (fail)
          go_wp2
          go_ret
          exact ⟨ret_bool (by rw [hsp.out, distOk, allB_no hlt hsd.out]; rfl), below1 (pw_below_drewN hb.out _)⟩
        have d2 : decide (n ≤ y) = false := decide_eq_false e2
        replace hsd := Aside0.mk (hsd.out.trans (show _ = !decide (y ∈ x.f1.take i) by rw [decide_eq_true (by omega : 0 ≤ y), decide_eq_true (by omega : y < n)]; rfl))
        replace e1 := Aside0.mk e1
        replace e2 := Aside0.mk e2
        have hlen := Aside0.mk (List.length_take_of_le hi)
        obtain ⟨q, hq⟩ : ∃ q, decide (y ∈ x.f1.take i) = q := ⟨_, rfl⟩
        replace hq := Aside0.mk hq
        go_wp2
        have hic : i ≤ c1 := Nat.le_trans hi l1
        have hb2 : Aside0 (Below (w.alloc (.cells #[.int .i64 x.f0, .slice (some ad) x.f1.length c1, .int .i64 x.f2, .int .i64 x.f3, .bool x.f4, .int .i64 x.f5] 133)).heap.size (w.alloc (.cells #[.int .i64 x.f0, .slice (some ad) x.f1.length c1, .int .i64 x.f2, .int .i64 x.f3, .bool x.f4, .int .i64 x.f5] 133)) wr.drew) := ⟨below_drew hb.out⟩
        refine start_ (n := 27) (S := (fun w' => Aside0 (Below (w.alloc (.cells #[.int .i64 x.f0, .slice (some ad) x.f1.length c1, .int .i64 x.f2, .int .i64 x.f3, .bool x.f4, .int .i64 x.f5] 133)).heap.size (w.alloc (.cells #[.int .i64 x.f0, .slice (some ad) x.f1.length c1, .int .i64 x.f2, .int .i64 x.f3, .bool x.f4, .int .i64 x.f5] 133)) w') ∧ w'.cell? ⟨w.heap.size, 1, none⟩ = some (.slice (some ad) x.f1.length c1) ∧ w'.cell? (ad.add i) = some (.int .i64 y))) (ds := []) #[false, false, false, false, false, false, false, false, false, false, false, false, false, false, false, false, false, false, false, false, false, false, false, false, false, false, false] (by kernel_rfl) rfl rfl (⟨hb2, b1, h0⟩) (fun hHeld => ?_)
        refine pure_ (i := 0) (N := some 45) (v := ?_) (a' := ?_) #[true, false, false, false, false, false, false, false, false, false, false, false, false, false, false, false, false, false, false, false, false, false, false, false, false, false, false] rfl rfl (by kernel_rfl) (fun _ _ _ h => h) (Or.inl ⟨by rfl, ?_⟩) ?_ ?_
        rotate_left
        · intro w'
          go_simp
          with_reducible rfl
        rotate_left
        · simp only [Act.put, List.setIfInBounds_toArray, List.set_cons_zero, List.set_cons_succ, i64_w, i32_w]
          rfl
        refine take_ (i := 1) (N := some 46) (v := ?_) (a' := ?_) #[true, true, false, false, false, false, false, false, false, false, false, false, false, false, false, false, false, false, false, false, false, false, false, false, false, false, false] rfl rfl (by kernel_rfl) (fun _ _ _ h => h) (Or.inl ⟨by rfl, ?_⟩) hHeld ?_ ?_
        rotate_left
        · rintro w' ⟨-, s1, s2⟩
          go_simp
          with_reducible rfl
        rotate_left
        · simp only [Act.put, List.setIfInBounds_toArray, List.set_cons_zero, List.set_cons_succ, i64_w, i32_w]
          rfl
        refine pure_ (i := 2) (N := some 47) (v := ?_) (a' := ?_) #[true, true, true, false, false, false, false, false, false, false, false, false, false, false, false, false, false, false, false, false, false, false, false, false, false, false, false] rfl rfl (by kernel_rfl) (fun _ _ _ h => h) (Or.inl ⟨by rfl, ?_⟩) ?_ ?_
        rotate_left
        · intro w'
          go_simp
          with_reducible rfl
        rotate_left
        · simp only [Act.put, List.setIfInBounds_toArray, List.set_cons_zero, List.set_cons_succ, i64_w, i32_w]
          rfl
        refine pure_ (i := 3) (N := some 48) (v := ?_) (a' := ?_) #[true, true, true, true, false, false, false, false, false, false, false, false, false, false, false, false, false, false, false, false, false, false, false, false, false, false, false] rfl rfl (by kernel_rfl) (fun _ _ _ h => h) (Or.inl ⟨by rfl, ?_⟩) ?_ ?_
        rotate_left
        · intro w'
          go_simp
          with_reducible rfl
        rotate_left
        · simp only [Act.put, List.setIfInBounds_toArray, List.set_cons_zero, List.set_cons_succ, i64_w, i32_w]
          rfl
        refine take_ (i := 4) (N := some 49) (v := ?_) (a' := ?_) #[true, true, true, true, true, false, false, false, false, false, false, false, false, false, false, false, false, false, false, false, false, false, false, false, false, false, false] rfl rfl (by kernel_rfl) (fun _ _ _ h => h) (Or.inl ⟨by rfl, ?_⟩) hHeld ?_ ?_
        rotate_left
        · rintro w' ⟨-, s1, s2⟩
          go_simp
          with_reducible rfl
        rotate_left
        · simp only [Act.put, List.setIfInBounds_toArray, List.set_cons_zero, List.set_cons_succ, i64_w, i32_w]
          rfl
        refine pure_ (i := 5) (N := some 50) (v := ?_) (a' := ?_) #[true, true, true, true, true, true, false, false, false, false, false, false, false, false, false, false, false, false, false, false, false, false, false, false, false, false, false] rfl rfl (by kernel_rfl) (fun _ _ _ h => h) (Or.inl ⟨by rfl, ?_⟩) ?_ ?_
        rotate_left
        · intro w'
          go_simp
          with_reducible rfl
        rotate_left
        · simp only [Act.put, List.setIfInBounds_toArray, List.set_cons_zero, List.set_cons_succ, i64_w, i32_w]
          rfl
        refine pure_ (i := 6) (N := some 51) (v := ?_) (a' := ?_) #[true, true, true, true, true, true, true, false, false, false, false, false, false, false, false, false, false, false, false, false, false, false, false, false, false, false, false] rfl rfl (by kernel_rfl) (fun _ _ _ h => h) (Or.inl ⟨by rfl, ?_⟩) ?_ ?_
        rotate_left
        · intro w'
          go_simp
          with_reducible rfl
        rotate_left
        · simp only [Act.put, List.setIfInBounds_toArray, List.set_cons_zero, List.set_cons_succ, i64_w, i32_w]
          rfl
        refine pure_ (i := 7) (N := some 52) (v := ?_) (a' := ?_) #[true, true, true, true, true, true, true, true, false, false, false, false, false, false, false, false, false, false, false, false, false, false, false, false, false, false, false] rfl rfl (by kernel_rfl) (fun _ _ _ h => h) (Or.inl ⟨by rfl, ?_⟩) ?_ ?_
        rotate_left
        · intro w'
          go_simp
          with_reducible rfl
        rotate_left
        · simp only [Act.put, List.setIfInBounds_toArray, List.set_cons_zero, List.set_cons_succ, i64_w, i32_w]
          rfl
        refine take_ (i := 8) (N := some 53) (v := ?_) (a' := ?_) #[true, true, true, true, true, true, true, true, true, false, false, false, false, false, false, false, false, false, false, false, false, false, false, false, false, false, false] rfl rfl (by kernel_rfl) (fun _ _ _ h => h) (Or.inl ⟨by rfl, ?_⟩) hHeld ?_ ?_
        rotate_left
        · rintro w' ⟨-, s1, s2⟩
          go_simp
          with_reducible rfl
        rotate_left
        · simp only [Act.put, List.setIfInBounds_toArray, List.set_cons_zero, List.set_cons_succ, i64_w, i32_w]
          rfl
        refine pure_ (i := 9) (N := some 54) (v := ?_) (a' := ?_) #[true, true, true, true, true, true, true, true, true, true, false, false, false, false, false, false, false, false, false, false, false, false, false, false, false, false, false] rfl rfl (by kernel_rfl) (fun _ _ _ h => h) (Or.inl ⟨by rfl, ?_⟩) ?_ ?_
        rotate_left
        · intro w'
          go_simp
          with_reducible rfl
        rotate_left
        · simp only [Act.put, List.setIfInBounds_toArray, List.set_cons_zero, List.set_cons_succ, i64_w, i32_w]
          rfl
        refine pure_ (i := 10) (N := some 55) (v := ?_) (a' := ?_) #[true, true, true, true, true, true, true, true, true, true, true, false, false, false, false, false, false, false, false, false, false, false, false, false, false, false, false] rfl rfl (by kernel_rfl) (fun _ _ _ h => h) (Or.inl ⟨by rfl, ?_⟩) ?_ ?_
        rotate_left
        · intro w'
          go_simp
          with_reducible rfl
        rotate_left
        · simp only [Act.put, List.setIfInBounds_toArray, List.set_cons_zero, List.set_cons_succ, i64_w, i32_w]
          rfl
        refine take_ (i := 11) (N := some 56) (v := ?_) (a' := ?_) #[true, true, true, true, true, true, true, true, true, true, true, true, false, false, false, false, false, false, false, false, false, false, false, false, false, false, false] rfl rfl (by kernel_rfl) (fun _ _ _ h => h) (Or.inl ⟨by rfl, ?_⟩) hHeld ?_ ?_
        rotate_left
        · rintro w' ⟨-, s1, s2⟩
          go_simp
          with_reducible rfl
        rotate_left
        · simp only [Act.put, List.setIfInBounds_toArray, List.set_cons_zero, List.set_cons_succ, i64_w, i32_w]
          rfl
        refine pure_ (i := 12) (N := some 57) (v := ?_) (a' := ?_) #[true, true, true, true, true, true, true, true, true, true, true, true, true, false, false, false, false, false, false, false, false, false, false, false, false, false, false] rfl rfl (by kernel_rfl) (fun _ _ _ h => h) (Or.inl ⟨by rfl, ?_⟩) ?_ ?_
        rotate_left
        · intro w'
          go_simp
          with_reducible rfl
        rotate_left
        · simp only [Act.put, List.setIfInBounds_toArray, List.set_cons_zero, List.set_cons_succ, i64_w, i32_w]
          rfl
        refine pure_ (i := 13) (N := some 58) (v := ?_) (a' := ?_) #[true, true, true, true, true, true, true, true, true, true, true, true, true, true, false, false, false, false, false, false, false, false, false, false, false, false, false] rfl rfl (by kernel_rfl) (fun _ _ _ h => h) (Or.inl ⟨by rfl, ?_⟩) ?_ ?_
        rotate_left
        · intro w'
          go_simp
          with_reducible rfl
        rotate_left
        · simp only [Act.put, List.setIfInBounds_toArray, List.set_cons_zero, List.set_cons_succ, i64_w, i32_w]
          rfl
        refine pure_ (i := 14) (N := some 59) (v := ?_) (a' := ?_) #[true, true, true, true, true, true, true, true, true, true, true, true, true, true, true, false, false, false, false, false, false, false, false, false, false, false, false] rfl rfl (by kernel_rfl) (fun _ _ _ h => h) (Or.inl ⟨by rfl, ?_⟩) ?_ ?_
        rotate_left
        · intro w'
          go_simp
          with_reducible rfl
        rotate_left
        · simp only [Act.put, List.setIfInBounds_toArray, List.set_cons_zero, List.set_cons_succ, i64_w, i32_w]
          rfl
        refine pure_ (i := 15) (N := some 60) (v := ?_) (a' := ?_) #[true, true, true, true, true, true, true, true, true, true, true, true, true, true, true, true, false, false, false, false, false, false, false, false, false, false, false] rfl rfl (by kernel_rfl) (fun _ _ _ h => h) (Or.inl ⟨by rfl, ?_⟩) ?_ ?_
        rotate_left
        · intro w'
          go_simp
          with_reducible rfl
        rotate_left
        · simp only [Act.put, List.setIfInBounds_toArray, List.set_cons_zero, List.set_cons_succ, i64_w, i32_w]
          rfl
        refine pure_ (i := 16) (N := some 61) (v := ?_) (a' := ?_) #[true, true, true, true, true, true, true, true, true, true, true, true, true, true, true, true, true, false, false, false, false, false, false, false, false, false, false] rfl rfl (by kernel_rfl) (fun _ _ _ h => h) (Or.inl ⟨by rfl, ?_⟩) ?_ ?_
        rotate_left
        · intro w'
          go_simp
          with_reducible rfl
        rotate_left
        · simp only [Act.put, List.setIfInBounds_toArray, List.set_cons_zero, List.set_cons_succ, i64_w, i32_w]
          rfl
        refine take_ (i := 17) (N := some 62) (v := ?_) (a' := ?_) #[true, true, true, true, true, true, true, true, true, true, true, true, true, true, true, true, true, true, false, false, false, false, false, false, false, false, false] rfl rfl (by kernel_rfl) (fun _ _ _ h => h) (Or.inl ⟨by rfl, ?_⟩) hHeld ?_ ?_
        rotate_left
        · rintro w' ⟨-, s1, s2⟩
          go_simp
          with_reducible rfl
        rotate_left
        · simp only [Act.put, List.setIfInBounds_toArray, List.set_cons_zero, List.set_cons_succ, i64_w, i32_w]
          rfl
        refine pure_ (i := 18) (N := some 63) (v := ?_) (a' := ?_) #[true, true, true, true, true, true, true, true, true, true, true, true, true, true, true, true, true, true, true, false, false, false, false, false, false, false, false] rfl rfl (by kernel_rfl) (fun _ _ _ h => h) (Or.inl ⟨by rfl, ?_⟩) ?_ ?_
        rotate_left
        · intro w'
          go_simp
          with_reducible rfl
        rotate_left
        · simp only [Act.put, List.setIfInBounds_toArray, List.set_cons_zero, List.set_cons_succ, i64_w, i32_w]
          rfl
        refine pure_ (i := 19) (N := some 64) (v := ?_) (a' := ?_) #[true, true, true, true, true, true, true, true, true, true, true, true, true, true, true, true, true, true, true, true, false, false, false, false, false, false, false] rfl rfl (by kernel_rfl) (fun _ _ _ h => h) (Or.inl ⟨by rfl, ?_⟩) ?_ ?_
        rotate_left
        · intro w'
          go_simp
          with_reducible rfl
        rotate_left
        · simp only [Act.put, List.setIfInBounds_toArray, List.set_cons_zero, List.set_cons_succ, i64_w, i32_w]
          rfl
        refine pure_ (i := 20) (N := some 65) (v := ?_) (a' := ?_) #[true, true, true, true, true, true, true, true, true, true, true, true, true, true, true, true, true, true, true, true, true, false, false, false, false, false, false] rfl rfl (by kernel_rfl) (fun _ _ _ h => h) (Or.inl ⟨by rfl, ?_⟩) ?_ ?_
        rotate_left
        · intro w'
          go_simp
          with_reducible rfl
        rotate_left
        · simp only [Act.put, List.setIfInBounds_toArray, List.set_cons_zero, List.set_cons_succ, i64_w, i32_w]
          rfl
        refine take_ (i := 21) (N := some 66) (v := ?_) (a' := ?_) #[true, true, true, true, true, true, true, true, true, true, true, true, true, true, true, true, true, true, true, true, true, true, false, false, false, false, false] rfl rfl (by kernel_rfl) (fun _ _ _ h => h) (Or.inl ⟨by rfl, ?_⟩) hHeld ?_ ?_
        rotate_left
        · rintro w' ⟨-, s1, s2⟩
          go_simp
          with_reducible rfl
        rotate_left
        · simp only [Act.put, List.setIfInBounds_toArray, List.set_cons_zero, List.set_cons_succ, i64_w, i32_w]
          rfl
        refine pure_ (i := 22) (N := some 67) (v := ?_) (a' := ?_) #[true, true, true, true, true, true, true, true, true, true, true, true, true, true, true, true, true, true, true, true, true, true, true, false, false, false, false] rfl rfl (by kernel_rfl) (fun _ _ _ h => h) (Or.inl ⟨by rfl, ?_⟩) ?_ ?_
        rotate_left
        · intro w'
          go_simp
          with_reducible rfl
        rotate_left
        · simp only [Act.put, List.setIfInBounds_toArray, List.set_cons_zero, List.set_cons_succ, i64_w, i32_w]
          rfl
        refine pure_ (i := 23) (N := some 68) (v := ?_) (a' := ?_) #[true, true, true, true, true, true, true, true, true, true, true, true, true, true, true, true, true, true, true, true, true, true, true, true, false, false, false] rfl rfl (by kernel_rfl) (fun _ _ _ h => h) (Or.inl ⟨by rfl, ?_⟩) ?_ ?_
        rotate_left
        · intro w'
          go_simp
          with_reducible rfl
        rotate_left
        · simp only [Act.put, List.setIfInBounds_toArray, List.set_cons_zero, List.set_cons_succ, i64_w, i32_w]
          rfl
        refine take_ (i := 24) (N := some 69) (v := ?_) (a' := ?_) #[true, true, true, true, true, true, true, true, true, true, true, true, true, true, true, true, true, true, true, true, true, true, true, true, true, false, false] rfl rfl (by kernel_rfl) (fun _ _ _ h => h) (Or.inl ⟨by rfl, ?_⟩) hHeld ?_ ?_
        rotate_left
        · rintro w' ⟨-, s1, s2⟩
          go_simp
          with_reducible rfl
        rotate_left
        · simp only [Act.put, List.setIfInBounds_toArray, List.set_cons_zero, List.set_cons_succ, i64_w, i32_w]
          rfl
        refine one_ (i := 25) (N := some 70) #[true, true, true, true, true, true, true, true, true, true, true, true, true, true, true, true, true, true, true, true, true, true, true, true, true, true, false] rfl rfl (by kernel_rfl) (by decide) (fun K hK => ?_)
        refine goes_ Tryz.func190 (by kernel_rfl) rfl #[.slice (some ad) i c1, .int .i64 y] (by rfl) rfl rfl (by (try simp only [List.map_toArray, List.map_cons, List.map_nil]); first | done | rfl) ?_
        refine (has_ref_n (x.f1.take i) y _ _ _ _ hlen.out (Kd.C_take (Kd.C_below HC.out (below1 hb2.out)) hi) _ hq.out).mono ?_
        rintro e w' ⟨rfl, rfl⟩
        refine ⟨_, rfl, ?_⟩
        refine hK.out _ _ ⟨hb2, b1, h0⟩ (fun hHeld => ?_)
        clear hK K
        refine norm_ (a' := ?_) ?_ ?_
        rotate_left
        · show Act.put _ (some 70) _ = _
          simp only [Act.put, List.setIfInBounds_toArray, List.set_cons_zero, List.set_cons_succ, i64_w, i32_w]
          rfl
        refine pure_ (i := 26) (N := some 71) (v := ?_) (a' := ?_) #[true, true, true, true, true, true, true, true, true, true, true, true, true, true, true, true, true, true, true, true, true, true, true, true, true, true, true] rfl rfl (by kernel_rfl) (fun _ _ _ h => h) (Or.inl ⟨by rfl, ?_⟩) ?_ ?_
        rotate_left
        · intro w'
          go_simp
          with_reducible rfl
        rotate_left
        · simp only [Act.put, List.setIfInBounds_toArray, List.set_cons_zero, List.set_cons_succ, i64_w, i32_w]
          rfl
        refine done_ (by kernel_rfl) ?_
        clear b1 h0
        cases q
        · go_wp2_with fail
          go_roundw
          case rel => exact ⟨i + 1, by go_num, by omega, ⟨upTo_snoc hno.out (by rw [hsd.out, hq.out]; rfl)⟩, hb2⟩
          case measure => simp [intOf]; omega
        · go_wp2_with fail
          go_ret
          exact ⟨ret_bool (by rw [hsp.out, distOk, allB_no hlt (by rw [hsd.out, hq.out]; rfl)]; rfl), below1 hb2.out⟩
      · obtain rfl : i = x.f1.length := by omega
        have b4 : wr.cell? ⟨w.heap.size, 4, none⟩ = some (.bool x.f4) := by rw [hc _ _ (by simp)]; go_simp
        have b5 : wr.cell? ⟨w.heap.size, 5, none⟩ = some (.int .i64 x.f5) := by rw [hc _ _ (by simp)]; go_simp
        clear hc
        replace hsp := Aside0.mk (hsp.out.trans (show _ = (if x.f4 = true then decide (x.f5 = 0) else inR 1 1000 x.f5) by rw [distOk, allB_yes hno.out]; rfl))
        cases h5 : x.f4
        · rw [h5] at b4
          replace h5 := Aside0.mk h5
          by_cases c5 : x.f5 < 1
          all_goals
            go_wp2
            go_ret
            exact ⟨ret_bool (by rw [hsp.out, h5.out, Bool.eq_iff_iff]; simp [inR]; try omega), below1 hb.out⟩
        · rw [h5] at b4
          replace h5 := Aside0.mk h5
          go_wp2
          go_ret
          exact ⟨ret_bool (by rw [hsp.out, h5.out]; simp [beq_dec]), below1 hb.out⟩
end Go.Proofs.YthalgemkblkhgaaGreat
