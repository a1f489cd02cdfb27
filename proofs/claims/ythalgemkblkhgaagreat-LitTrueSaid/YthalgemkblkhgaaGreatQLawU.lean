/- The law LitTrue, walked: it answers true. -/
import Derived.Test.YthalgemkblkhgaaGreatQTrue
namespace Go.Proofs.YthalgemkblkhgaaGreat
open Go.Proofs Go.RowKit Go.Proofs.YthalgemkblkhgaaGreatW.PrintWords Go.Proofs.YthalgemkblkhgaaGreatW.PrintLast
set_option linter.unusedVariables false
set_option linter.unusedSimpArgs false

def trueR.T : Bool × List (List Nat × List Nat) := (true, [([], []), ([], []), ([0, 1], [0, 1]), ([], []), ([], []), ([3, 4, 2], [3, 4]), ([2, 5, 5], [2, 5]), ([6, 6], [6]), ([7], [7]), ([7], [7]), ([7], [7]), ([8, 9, 10, 7, 7], [7, 8, 9, 10]), ([7], [7]), ([7], [7]), ([7], [7]), ([12, 13, 14, 11, 7], [7, 12, 13, 14]), ([11, 15, 7], [7, 11, 15]), ([7, 16], [7, 16]), ([17, 15], [17]), ([18], [18]), ([18], [18]), ([18], [18]), ([19, 20, 21, 18, 18], [18, 19, 20, 21]), ([18], [18]), ([18], [18]), ([18], [18]), ([23, 24, 25, 22, 18], [18, 23, 24, 25]), ([22, 26, 18], [18, 22, 26]), ([18, 27], [18, 27]), ([28, 26], [28]), ([29, 29], [29]), ([29, 30], [29, 30]), ([31, 30, 0, 1, 2, 3, 4, 5, 6, 7, 8, 9, 10, 11, 12, 13, 14, 15, 16, 17, 18, 19, 20, 21, 22, 23, 24, 25, 26, 27, 28, 29, 30, 31], [31])])
def trueR.B : List Nat := [0, 0, 3, 0, 0, 31, 63, 127, 255, 255, 255, 2047, 255, 255, 255, 32767, 65535, 131071, 262143, 524287, 524287, 524287, 4194303, 524287, 524287, 524287, 67108863, 134217727, 268435455, 536870911, 1073741823, 2147483647, 4294967295]
theorem trueR.tab : rtab .any (opsOf Tryz.f6 4) = trueR.T := by kernel_rfl
theorem trueR.bits : waitsOk trueR.T.2 trueR.B = true := by kernel_rfl
set_option maxRecDepth 100000 in
set_option maxHeartbeats 8000000 in
theorem ltrue_calls (p : Problem) (hp : wfProblem p) (pcs : List Value) (w : World) (hP : kProblem.K w p pcs) (l : List Seat) (A : Option Addr) (c : Nat) (hA : kSeat.C w A l.length l) (n : Int) (hn : wfInt .i64 n) (cl : List Int) (hcl : ∀ x ∈ cl, wfInt .i64 x) (B : Option Addr) (d : Nat) (hB : (Kd.int .i64).C w B cl.length cl) :
    Calls Tryz.prog 6 #[.agg pcs.toArray, .slice A l.length c, .int .i64 n, .slice B cl.length d] w fun e w' => e = .returned (.bool true) ∧ Below w.heap.size w w' := by
  have h15 : pcs.length = 15 := kProblem.K_len hP
  have hi1 : (Tryz.prog.info? 40).map (·.size) = some pcs.toArray.size := by rw [List.size_toArray, h15]; exact infoProblem
  have hmx := Kd.C_max hA
  have hmb := Kd.C_max hB
  have hPK := Aside0.mk hP
  have HA := Aside0.mk hA
  have HB := Aside0.mk hB
  have HL := Aside0.mk hcl
  have HN := Aside0.mk hn
  have hu1 := Tryz.underlying40
  have hX := Aside0.mk (blk_new w (.cells pcs.toArray 40))
  have hb := Aside0.mk (below_alloc (Below.refl w.heap.size w) (.cells pcs.toArray 40))
  clear hP hA hB hcl hn h15
  go_enter Tryz.func6, Tryz.ntmps6
  go_wp2_with (refine gate_ (.load 40 (.tmp 4)) rfl ?_; refine load_ev rfl _ _ rfl _ _ _ _ rfl hX.out hu1 rfl hi1 ?_)
  refine (few27_calls p pcs _ (kProblem.K_below hb.out hPK.out) B cl.length d hmb).mono ?_
  rintro e w1 ⟨⟨b, rfl, -⟩, hb1⟩
  replace hX := Aside0.mk (blk_on hX.out (hb1))
  replace hb := Aside0.mk (bthen hb.out (hb1) (Nat.le_refl _))
  clear hb1
  cases b
  · go_wp2_with fail
    refine (heads_calls _).mono ?_
    rintro e w6 ⟨rfl, hb6⟩
    replace hX := Aside0.mk (blk_on hX.out (hb6))
    replace hb := Aside0.mk (bthen hb.out (hb6) (Nat.le_refl _))
    go_wp2_with fail
    go_ret
    exact ⟨rfl, hb.out⟩
  by_cases h60 : l.length ≤ 60
  rotate_left
  · have hd : decide ((60 : Int) < l.length) = true := decide_eq_true (by omega)
    go_wp2_with fail
    refine (heads_calls _).mono ?_
    rintro e w6 ⟨rfl, hb6⟩
    replace hX := Aside0.mk (blk_on hX.out (hb6))
    replace hb := Aside0.mk (bthen hb.out (hb6) (Nat.le_refl _))
    go_wp2_with fail
    go_ret
    exact ⟨rfl, hb.out⟩
  have hd : decide ((60 : Int) < l.length) = false := decide_eq_false (by omega)
  go_wp2_with (refine gate_ (.load 40 (.tmp 4)) rfl ?_; refine load_ev rfl _ _ rfl _ _ _ _ rfl hX.out hu1 rfl hi1 ?_)
  refine (new_ans p hp pcs _ (kProblem.K_below hb.out hPK.out)).mono ?_
  rintro e w2 ⟨⟨mv, rfl, hM⟩, hb2⟩
  replace hX := Aside0.mk (blk_on hX.out (hb2))
  replace hb := Aside0.mk (bthen hb.out (hb2) (Nat.le_refl _))
  replace hM := Aside0.mk hM
  have hW2 := Aside0.mk (Below.refl w2.heap.size w2)
  have hb20 := hb
  clear hb2
  obtain ⟨r1, hr1⟩ : ∃ r, trueOf p l n = r := ⟨_, rfl⟩
  obtain ⟨r2, hr2⟩ : ∃ r, holdsOf p l cl = r := ⟨_, rfl⟩
  obtain ⟨fx, hfx⟩ : ∃ fx, fixedOf p l = fx := ⟨_, rfl⟩
  replace hr1 := Aside0.mk hr1
  replace hr2 := Aside0.mk hr2
  replace hfx := Aside0.mk hfx
  go_wp2_with fail
  have hbd := Aside0.mk (below_drew (Below.refl w2.heap.size w2))
  replace hX := Aside0.mk (blk_on hX.out (hbd.out))
  replace hb := Aside0.mk (bthen hb.out (hbd.out) (Nat.le_refl _))
  refine start_ (n := 33) (S := (fun w' => w'.heap[w.heap.size]? = some (.cells pcs.toArray 40 (0, 0)))) (ds := []) #[false, false, false, false, false, false, false, false, false, false, false, false, false, false, false, false, false, false, false, false, false, false, false, false, false, false, false, false, false, false, false, false, false] (by kernel_rfl) rfl rfl (hX.out) (fun hHeld => ?_)
  refine with_tabW trueR.tab trueR.bits (fun HT_ HW_ => ?_)
  refine pure_ (i := 0) (N := some 22) (v := ?_) (a' := ?_) #[true, false, false, false, false, false, false, false, false, false, false, false, false, false, false, false, false, false, false, false, false, false, false, false, false, false, false, false, false, false, false, false, false] rfl rfl (any_of HT_.out (by kernel_rfl)) (fun _ _ _ h => h) (Or.inl ⟨by rfl, ?_⟩) ?_ ?_
  rotate_left
  · intro w'
    go_simp
    with_reducible rfl
  rotate_left
  · simp only [Act.put, List.setIfInBounds_toArray, List.set_cons_zero, List.set_cons_succ, i64_w, i32_w]
    rfl
  refine pure_ (i := 1) (N := some 23) (v := ?_) (a' := ?_) #[true, true, false, false, false, false, false, false, false, false, false, false, false, false, false, false, false, false, false, false, false, false, false, false, false, false, false, false, false, false, false, false, false] rfl rfl (any_of HT_.out (by kernel_rfl)) (fun _ _ _ h => h) (Or.inl ⟨by rfl, ?_⟩) ?_ ?_
  rotate_left
  · intro w'
    go_simp
    with_reducible rfl
  rotate_left
  · simp only [Act.put, List.setIfInBounds_toArray, List.set_cons_zero, List.set_cons_succ, i64_w, i32_w]
    rfl
  refine take_ (i := 3) (N := some 25) (v := ?_) (a' := ?_) #[true, true, false, true, false, false, false, false, false, false, false, false, false, false, false, false, false, false, false, false, false, false, false, false, false, false, false, false, false, false, false, false, false] rfl rfl (take_ofW HT_.out HW_.out (by kernel_rfl)) (fun _ _ _ h => h) (Or.inl ⟨by rfl, ?_⟩) hHeld ?_ ?_
  rotate_left
  · rintro w' s1
    refine run_load_op 40 (.tmp 4) ?_ w.heap.size 40 pcs.toArray _ ?_ s1 hu1 rfl hi1 <;> rfl
  rotate_left
  · simp only [Act.put, List.setIfInBounds_toArray, List.set_cons_zero, List.set_cons_succ, i64_w, i32_w]
    rfl
  refine pure_ (i := 4) (N := some 26) (v := ?_) (a' := ?_) #[true, true, false, true, true, false, false, false, false, false, false, false, false, false, false, false, false, false, false, false, false, false, false, false, false, false, false, false, false, false, false, false, false] rfl rfl (any_of HT_.out (by kernel_rfl)) (fun _ _ _ h => h) (Or.inl ⟨by rfl, ?_⟩) ?_ ?_
  rotate_left
  · intro w'
    go_simp
    with_reducible rfl
  rotate_left
  · simp only [Act.put, List.setIfInBounds_toArray, List.set_cons_zero, List.set_cons_succ, i64_w, i32_w]
    rfl
  refine one_ (i := 2) (N := some 24) #[true, true, true, true, true, false, false, false, false, false, false, false, false, false, false, false, false, false, false, false, false, false, false, false, false, false, false, false, false, false, false, false, false] rfl rfl (one_of HT_.out (by kernel_rfl)) (by decide) (fun K hK => ?_)
  have hcf := ans_fixed hp (hM.out.below hbd.out) l A c (Kd.C_below HA.out hb.out)
  rw [hfx.out] at hcf
  refine goes_ Tryz.func32 (by kernel_rfl) rfl #[mv, .slice A l.length c] (by rfl) rfl rfl (by (try simp only [List.map_toArray, List.map_cons, List.map_nil]); first | done | rfl) ?_
  refine (hcf).mono ?_
  clear hcf
  rintro e w3 ⟨⟨A3, c3, rfl, hC3⟩, hbn⟩
  replace hC3 := Aside0.mk hC3
  have hw3 := Aside0.mk (bthen hbd.out hbn (Nat.le_refl _))
  replace hX := Aside0.mk (blk_on hX.out (hbn))
  replace hb := Aside0.mk (bthen hb.out (hbn) (Nat.le_refl _))
  have hx9 := hX
  clear hbn
  refine ⟨_, rfl, ?_⟩
  refine hK.out _ _ hx9.out (fun hHeld => ?_)
  clear hx9
  clear hK K
  refine norm_ (a' := ?_) ?_ ?_
  rotate_left
  · show Act.put _ (some 24) _ = _
    simp only [Act.put, List.setIfInBounds_toArray, List.set_cons_zero, List.set_cons_succ, i64_w, i32_w]
    rfl
  refine one_ (i := 5) (N := some 27) #[true, true, true, true, true, true, false, false, false, false, false, false, false, false, false, false, false, false, false, false, false, false, false, false, false, false, false, false, false, false, false, false, false] rfl rfl (one_of HT_.out (by kernel_rfl)) (by decide) (fun K hK => ?_)
  have hcf := reffixed_calls p hp pcs _ (kProblem.K_below hb.out hPK.out) l A c (Kd.C_below HA.out hb.out)
  rw [fixed_law, hfx.out] at hcf
  refine goes_ Tryz.func33 (by kernel_rfl) rfl #[.agg pcs.toArray, .slice A l.length c] (by rfl) rfl rfl (by (try simp only [List.map_toArray, List.map_cons, List.map_nil]); first | done | rfl) ?_
  refine (hcf).mono ?_
  clear hcf
  rintro e w4 ⟨⟨A4, c4, rfl, hC4⟩, hbn⟩
  replace hC4 := Aside0.mk hC4
  replace hC3 := Aside0.mk (Kd.C_below hC3.out hbn)
  have hw4 := Aside0.mk (bthen hw3.out hbn (Nat.le_refl _))
  replace hX := Aside0.mk (blk_on hX.out (hbn))
  replace hb := Aside0.mk (bthen hb.out (hbn) (Nat.le_refl _))
  have hx9 := hX
  clear hbn
  refine ⟨_, rfl, ?_⟩
  refine hK.out _ _ hx9.out (fun hHeld => ?_)
  clear hx9
  clear hK K
  refine norm_ (a' := ?_) ?_ ?_
  rotate_left
  · show Act.put _ (some 27) _ = _
    simp only [Act.put, List.setIfInBounds_toArray, List.set_cons_zero, List.set_cons_succ, i64_w, i32_w]
    rfl
  refine one_ (i := 6) (N := some 28) #[true, true, true, true, true, true, true, false, false, false, false, false, false, false, false, false, false, false, false, false, false, false, false, false, false, false, false, false, false, false, false, false, false] rfl rfl (one_of HT_.out (by kernel_rfl)) (by decide) (fun K hK => ?_)
  refine goes_ Tryz.func13 (by kernel_rfl) rfl #[.slice A3 fx.length c3, .slice A4 fx.length c4] (by rfl) rfl rfl (by (try simp only [List.map_toArray, List.map_cons, List.map_nil]); first | done | rfl) ?_
  refine (same_ref fx fx A3 A4 _ _ c3 c4 rfl rfl _ hC3.out hC4.out true (by simp)).mono ?_
  rintro e w5 ⟨rfl, hbn⟩
  have hw5 := Aside0.mk (bthen hw4.out hbn (Nat.le_refl _))
  replace hX := Aside0.mk (blk_on hX.out (hbn))
  replace hb := Aside0.mk (bthen hb.out (hbn) (Nat.le_refl _))
  have hx9 := hX
  clear hbn
  refine ⟨_, rfl, ?_⟩
  refine hK.out _ _ hx9.out (fun hHeld => ?_)
  clear hx9
  clear hK K
  refine norm_ (a' := ?_) ?_ ?_
  rotate_left
  · show Act.put _ (some 28) _ = _
    simp only [Act.put, List.setIfInBounds_toArray, List.set_cons_zero, List.set_cons_succ, i64_w, i32_w]
    rfl
  refine pure_ (i := 7) (N := some 29) (v := ?_) (a' := ?_) #[true, true, true, true, true, true, true, true, false, false, false, false, false, false, false, false, false, false, false, false, false, false, false, false, false, false, false, false, false, false, false, false, false] rfl rfl (any_of HT_.out (by kernel_rfl)) (fun _ _ _ h => h) (Or.inl ⟨by rfl, ?_⟩) ?_ ?_
  rotate_left
  · intro w'
    go_simp
    with_reducible rfl
  rotate_left
  · simp only [Act.put, List.setIfInBounds_toArray, List.set_cons_zero, List.set_cons_succ, i64_w, i32_w]
    rfl
  refine pure_ (i := 8) (N := some 30) (v := ?_) (a' := ?_) #[true, true, true, true, true, true, true, true, true, false, false, false, false, false, false, false, false, false, false, false, false, false, false, false, false, false, false, false, false, false, false, false, false] rfl rfl (any_of HT_.out (by kernel_rfl)) (fun _ _ _ h => h) (Or.inl ⟨by rfl, ?_⟩) ?_ ?_
  rotate_left
  · intro w'
    go_simp
    with_reducible rfl
  rotate_left
  · simp only [Act.put, List.setIfInBounds_toArray, List.set_cons_zero, List.set_cons_succ, i64_w, i32_w]
    rfl
  refine pure_ (i := 9) (N := some 31) (v := ?_) (a' := ?_) #[true, true, true, true, true, true, true, true, true, true, false, false, false, false, false, false, false, false, false, false, false, false, false, false, false, false, false, false, false, false, false, false, false] rfl rfl (any_of HT_.out (by kernel_rfl)) (fun _ _ _ h => h) (Or.inl ⟨by rfl, ?_⟩) ?_ ?_
  rotate_left
  · intro w'
    go_simp
    with_reducible rfl
  rotate_left
  · simp only [Act.put, List.setIfInBounds_toArray, List.set_cons_zero, List.set_cons_succ, i64_w, i32_w]
    rfl
  refine pure_ (i := 10) (N := some 32) (v := ?_) (a' := ?_) #[true, true, true, true, true, true, true, true, true, true, true, false, false, false, false, false, false, false, false, false, false, false, false, false, false, false, false, false, false, false, false, false, false] rfl rfl (any_of HT_.out (by kernel_rfl)) (fun _ _ _ h => h) (Or.inl ⟨by rfl, ?_⟩) ?_ ?_
  rotate_left
  · intro w'
    go_simp
    with_reducible rfl
  rotate_left
  · simp only [Act.put, List.setIfInBounds_toArray, List.set_cons_zero, List.set_cons_succ, i64_w, i32_w]
    rfl
  refine take_ (i := 12) (N := some 34) (v := ?_) (a' := ?_) #[true, true, true, true, true, true, true, true, true, true, true, false, true, false, false, false, false, false, false, false, false, false, false, false, false, false, false, false, false, false, false, false, false] rfl rfl (take_ofW HT_.out HW_.out (by kernel_rfl)) (fun _ _ _ h => h) (Or.inl ⟨by rfl, ?_⟩) hHeld ?_ ?_
  rotate_left
  · rintro w' s1
    refine run_load_op 40 (.tmp 4) ?_ w.heap.size 40 pcs.toArray _ ?_ s1 hu1 rfl hi1 <;> rfl
  rotate_left
  · simp only [Act.put, List.setIfInBounds_toArray, List.set_cons_zero, List.set_cons_succ, i64_w, i32_w]
    rfl
  refine pure_ (i := 13) (N := some 35) (v := ?_) (a' := ?_) #[true, true, true, true, true, true, true, true, true, true, true, false, true, true, false, false, false, false, false, false, false, false, false, false, false, false, false, false, false, false, false, false, false] rfl rfl (any_of HT_.out (by kernel_rfl)) (fun _ _ _ h => h) (Or.inl ⟨by rfl, ?_⟩) ?_ ?_
  rotate_left
  · intro w'
    go_simp
    with_reducible rfl
  rotate_left
  · simp only [Act.put, List.setIfInBounds_toArray, List.set_cons_zero, List.set_cons_succ, i64_w, i32_w]
    rfl
  refine pure_ (i := 14) (N := some 36) (v := ?_) (a' := ?_) #[true, true, true, true, true, true, true, true, true, true, true, false, true, true, true, false, false, false, false, false, false, false, false, false, false, false, false, false, false, false, false, false, false] rfl rfl (any_of HT_.out (by kernel_rfl)) (fun _ _ _ h => h) (Or.inl ⟨by rfl, ?_⟩) ?_ ?_
  rotate_left
  · intro w'
    go_simp
    with_reducible rfl
  rotate_left
  · simp only [Act.put, List.setIfInBounds_toArray, List.set_cons_zero, List.set_cons_succ, i64_w, i32_w]
    rfl
  refine one_ (i := 11) (N := some 33) #[true, true, true, true, true, true, true, true, true, true, true, true, true, true, true, false, false, false, false, false, false, false, false, false, false, false, false, false, false, false, false, false, false] rfl rfl (one_of HT_.out (by kernel_rfl)) (by decide) (fun K hK => ?_)
  refine goes_ Tryz.func34 (by kernel_rfl) rfl #[mv, .slice A l.length c, .int .i64 n] (by rfl) rfl rfl (by (try simp only [List.map_toArray, List.map_cons, List.map_nil]); first | done | rfl) ?_
  refine (ans_true hp (hM.out.below hw5.out) l A c (Kd.C_below HA.out hb.out) n HN.out _ hr1.out).mono ?_
  rintro e w6 ⟨rfl, hbn⟩
  have hw6 := Aside0.mk (bthen hw5.out hbn (Nat.le_refl _))
  replace hX := Aside0.mk (blk_on hX.out (hbn))
  replace hb := Aside0.mk (bthen hb.out (hbn) (Nat.le_refl _))
  have hx9 := hX
  clear hbn
  refine ⟨_, rfl, ?_⟩
  refine hK.out _ _ hx9.out (fun hHeld => ?_)
  clear hx9
  clear hK K
  refine norm_ (a' := ?_) ?_ ?_
  rotate_left
  · show Act.put _ (some 33) _ = _
    simp only [Act.put, List.setIfInBounds_toArray, List.set_cons_zero, List.set_cons_succ, i64_w, i32_w]
    rfl
  refine one_ (i := 15) (N := some 37) #[true, true, true, true, true, true, true, true, true, true, true, true, true, true, true, true, false, false, false, false, false, false, false, false, false, false, false, false, false, false, false, false, false] rfl rfl (one_of HT_.out (by kernel_rfl)) (by decide) (fun K hK => ?_)
  refine goes_ Tryz.func35 (by kernel_rfl) rfl #[.agg pcs.toArray, .slice A l.length c, .int .i64 n] (by rfl) rfl rfl (by (try simp only [List.map_toArray, List.map_cons, List.map_nil]); first | done | rfl) ?_
  refine (reftrue_calls p hp pcs _ (kProblem.K_below hb.out hPK.out) l A c (Kd.C_below HA.out hb.out) n HN.out _ hr1.out).mono ?_
  rintro e w7 ⟨rfl, hbn⟩
  have hw7 := Aside0.mk (bthen hw6.out hbn (Nat.le_refl _))
  replace hX := Aside0.mk (blk_on hX.out (hbn))
  replace hb := Aside0.mk (bthen hb.out (hbn) (Nat.le_refl _))
  have hx9 := hX
  clear hbn
  refine ⟨_, rfl, ?_⟩
  refine hK.out _ _ hx9.out (fun hHeld => ?_)
  clear hx9
  clear hK K
  refine norm_ (a' := ?_) ?_ ?_
  rotate_left
  · show Act.put _ (some 37) _ = _
    simp only [Act.put, List.setIfInBounds_toArray, List.set_cons_zero, List.set_cons_succ, i64_w, i32_w]
    rfl
  refine pure_ (i := 16) (N := some 38) (v := ?_) (a' := ?_) #[true, true, true, true, true, true, true, true, true, true, true, true, true, true, true, true, true, false, false, false, false, false, false, false, false, false, false, false, false, false, false, false, false] rfl rfl (any_of HT_.out (by kernel_rfl)) (fun _ _ _ h => h) (Or.inl ⟨by rfl, ?_⟩) ?_ ?_
  rotate_left
  · intro w'
    go_simp
    with_reducible rfl
  rotate_left
  · simp only [Act.put, List.setIfInBounds_toArray, List.set_cons_zero, List.set_cons_succ, i64_w, i32_w]
    rfl
  refine pure_ (i := 17) (N := some 39) (v := ?_) (a' := ?_) #[true, true, true, true, true, true, true, true, true, true, true, true, true, true, true, true, true, true, false, false, false, false, false, false, false, false, false, false, false, false, false, false, false] rfl rfl (any_of HT_.out (by kernel_rfl)) (fun _ _ _ h => h) (Or.inl ⟨by rfl, ?_⟩) ?_ ?_
  rotate_left
  · intro w'
    go_simp
    with_reducible rfl
  rotate_left
  · simp only [Act.put, List.setIfInBounds_toArray, List.set_cons_zero, List.set_cons_succ, i64_w, i32_w]
    rfl
  refine pure_ (i := 18) (N := some 40) (v := ?_) (a' := ?_) #[true, true, true, true, true, true, true, true, true, true, true, true, true, true, true, true, true, true, true, false, false, false, false, false, false, false, false, false, false, false, false, false, false] rfl rfl (any_of HT_.out (by kernel_rfl)) (fun _ _ _ h => h) (Or.inl ⟨by rfl, ?_⟩) ?_ ?_
  rotate_left
  · intro w'
    go_simp
    with_reducible rfl
  rotate_left
  · simp only [Act.put, List.setIfInBounds_toArray, List.set_cons_zero, List.set_cons_succ, i64_w, i32_w]
    rfl
  refine pure_ (i := 19) (N := some 41) (v := ?_) (a' := ?_) #[true, true, true, true, true, true, true, true, true, true, true, true, true, true, true, true, true, true, true, true, false, false, false, false, false, false, false, false, false, false, false, false, false] rfl rfl (any_of HT_.out (by kernel_rfl)) (fun _ _ _ h => h) (Or.inl ⟨by rfl, ?_⟩) ?_ ?_
  rotate_left
  · intro w'
    go_simp
    with_reducible rfl
  rotate_left
  · simp only [Act.put, List.setIfInBounds_toArray, List.set_cons_zero, List.set_cons_succ, i64_w, i32_w]
    rfl
  refine pure_ (i := 20) (N := some 42) (v := ?_) (a' := ?_) #[true, true, true, true, true, true, true, true, true, true, true, true, true, true, true, true, true, true, true, true, true, false, false, false, false, false, false, false, false, false, false, false, false] rfl rfl (any_of HT_.out (by kernel_rfl)) (fun _ _ _ h => h) (Or.inl ⟨by rfl, ?_⟩) ?_ ?_
  rotate_left
  · intro w'
    go_simp
    with_reducible rfl
  rotate_left
  · simp only [Act.put, List.setIfInBounds_toArray, List.set_cons_zero, List.set_cons_succ, i64_w, i32_w]
    rfl
  refine pure_ (i := 21) (N := some 43) (v := ?_) (a' := ?_) #[true, true, true, true, true, true, true, true, true, true, true, true, true, true, true, true, true, true, true, true, true, true, false, false, false, false, false, false, false, false, false, false, false] rfl rfl (any_of HT_.out (by kernel_rfl)) (fun _ _ _ h => h) (Or.inl ⟨by rfl, ?_⟩) ?_ ?_
  rotate_left
  · intro w'
    go_simp
    with_reducible rfl
  rotate_left
  · simp only [Act.put, List.setIfInBounds_toArray, List.set_cons_zero, List.set_cons_succ, i64_w, i32_w]
    rfl
  refine take_ (i := 23) (N := some 45) (v := ?_) (a' := ?_) #[true, true, true, true, true, true, true, true, true, true, true, true, true, true, true, true, true, true, true, true, true, true, false, true, false, false, false, false, false, false, false, false, false] rfl rfl (take_ofW HT_.out HW_.out (by kernel_rfl)) (fun _ _ _ h => h) (Or.inl ⟨by rfl, ?_⟩) hHeld ?_ ?_
  rotate_left
  · rintro w' s1
    refine run_load_op 40 (.tmp 4) ?_ w.heap.size 40 pcs.toArray _ ?_ s1 hu1 rfl hi1 <;> rfl
  rotate_left
  · simp only [Act.put, List.setIfInBounds_toArray, List.set_cons_zero, List.set_cons_succ, i64_w, i32_w]
    rfl
  refine pure_ (i := 24) (N := some 46) (v := ?_) (a' := ?_) #[true, true, true, true, true, true, true, true, true, true, true, true, true, true, true, true, true, true, true, true, true, true, false, true, true, false, false, false, false, false, false, false, false] rfl rfl (any_of HT_.out (by kernel_rfl)) (fun _ _ _ h => h) (Or.inl ⟨by rfl, ?_⟩) ?_ ?_
  rotate_left
  · intro w'
    go_simp
    with_reducible rfl
  rotate_left
  · simp only [Act.put, List.setIfInBounds_toArray, List.set_cons_zero, List.set_cons_succ, i64_w, i32_w]
    rfl
  refine pure_ (i := 25) (N := some 47) (v := ?_) (a' := ?_) #[true, true, true, true, true, true, true, true, true, true, true, true, true, true, true, true, true, true, true, true, true, true, false, true, true, true, false, false, false, false, false, false, false] rfl rfl (any_of HT_.out (by kernel_rfl)) (fun _ _ _ h => h) (Or.inl ⟨by rfl, ?_⟩) ?_ ?_
  rotate_left
  · intro w'
    go_simp
    with_reducible rfl
  rotate_left
  · simp only [Act.put, List.setIfInBounds_toArray, List.set_cons_zero, List.set_cons_succ, i64_w, i32_w]
    rfl
  refine one_ (i := 22) (N := some 44) #[true, true, true, true, true, true, true, true, true, true, true, true, true, true, true, true, true, true, true, true, true, true, true, true, true, true, false, false, false, false, false, false, false] rfl rfl (one_of HT_.out (by kernel_rfl)) (by decide) (fun K hK => ?_)
  refine goes_ Tryz.func36 (by kernel_rfl) rfl #[mv, .slice A l.length c, .slice B cl.length d] (by rfl) rfl rfl (by (try simp only [List.map_toArray, List.map_cons, List.map_nil]); first | done | rfl) ?_
  refine (ans_holds hp (hM.out.below hw7.out) l A c (Kd.C_below HA.out hb.out) cl HL.out B d (Kd.C_below HB.out hb.out) _ hr2.out).mono ?_
  rintro e w8 ⟨rfl, hbn⟩
  have hw8 := Aside0.mk (bthen hw7.out hbn (Nat.le_refl _))
  replace hX := Aside0.mk (blk_on hX.out (hbn))
  replace hb := Aside0.mk (bthen hb.out (hbn) (Nat.le_refl _))
  have hx9 := hX
  clear hbn
  refine ⟨_, rfl, ?_⟩
  refine hK.out _ _ hx9.out (fun hHeld => ?_)
  clear hx9
  clear hK K
  refine norm_ (a' := ?_) ?_ ?_
  rotate_left
  · show Act.put _ (some 44) _ = _
    simp only [Act.put, List.setIfInBounds_toArray, List.set_cons_zero, List.set_cons_succ, i64_w, i32_w]
    rfl
  refine one_ (i := 26) (N := some 48) #[true, true, true, true, true, true, true, true, true, true, true, true, true, true, true, true, true, true, true, true, true, true, true, true, true, true, true, false, false, false, false, false, false] rfl rfl (one_of HT_.out (by kernel_rfl)) (by decide) (fun K hK => ?_)
  refine goes_ Tryz.func37 (by kernel_rfl) rfl #[.agg pcs.toArray, .slice A l.length c, .slice B cl.length d] (by rfl) rfl rfl (by (try simp only [List.map_toArray, List.map_cons, List.map_nil]); first | done | rfl) ?_
  refine (refholds_calls p hp pcs _ (kProblem.K_below hb.out hPK.out) l A c (Kd.C_below HA.out hb.out) cl HL.out B d (Kd.C_below HB.out hb.out) _ hr2.out).mono ?_
  rintro e w9 ⟨rfl, hbn⟩
  replace hX := Aside0.mk (blk_on hX.out (hbn))
  replace hb := Aside0.mk (bthen hb.out (hbn) (Nat.le_refl _))
  have hx9 := hX
  clear hbn
  refine ⟨_, rfl, ?_⟩
  refine hK.out _ _ hx9.out (fun hHeld => ?_)
  clear hx9
  clear hK K
  refine norm_ (a' := ?_) ?_ ?_
  rotate_left
  · show Act.put _ (some 48) _ = _
    simp only [Act.put, List.setIfInBounds_toArray, List.set_cons_zero, List.set_cons_succ, i64_w, i32_w]
    rfl
  refine pure_ (i := 27) (N := some 49) (v := ?_) (a' := ?_) #[true, true, true, true, true, true, true, true, true, true, true, true, true, true, true, true, true, true, true, true, true, true, true, true, true, true, true, true, false, false, false, false, false] rfl rfl (any_of HT_.out (by kernel_rfl)) (fun _ _ _ h => h) (Or.inl ⟨by rfl, ?_⟩) ?_ ?_
  rotate_left
  · intro w'
    go_simp
    with_reducible rfl
  rotate_left
  · simp only [Act.put, List.setIfInBounds_toArray, List.set_cons_zero, List.set_cons_succ, i64_w, i32_w]
    rfl
  refine pure_ (i := 28) (N := some 50) (v := ?_) (a' := ?_) #[true, true, true, true, true, true, true, true, true, true, true, true, true, true, true, true, true, true, true, true, true, true, true, true, true, true, true, true, true, false, false, false, false] rfl rfl (any_of HT_.out (by kernel_rfl)) (fun _ _ _ h => h) (Or.inl ⟨by rfl, ?_⟩) ?_ ?_
  rotate_left
  · intro w'
    go_simp
    with_reducible rfl
  rotate_left
  · simp only [Act.put, List.setIfInBounds_toArray, List.set_cons_zero, List.set_cons_succ, i64_w, i32_w]
    rfl
  refine pure_ (i := 29) (N := some 51) (v := ?_) (a' := ?_) #[true, true, true, true, true, true, true, true, true, true, true, true, true, true, true, true, true, true, true, true, true, true, true, true, true, true, true, true, true, true, false, false, false] rfl rfl (any_of HT_.out (by kernel_rfl)) (fun _ _ _ h => h) (Or.inl ⟨by rfl, ?_⟩) ?_ ?_
  rotate_left
  · intro w'
    go_simp
    with_reducible rfl
  rotate_left
  · simp only [Act.put, List.setIfInBounds_toArray, List.set_cons_zero, List.set_cons_succ, i64_w, i32_w]
    rfl
  refine one_ (i := 30) (N := some 52) #[true, true, true, true, true, true, true, true, true, true, true, true, true, true, true, true, true, true, true, true, true, true, true, true, true, true, true, true, true, true, true, false, false] rfl rfl (one_of HT_.out (by kernel_rfl)) (by decide) (fun K hK => ?_)
  refine goes_ Tryz.func10 (by kernel_rfl) rfl #[] (by rfl) rfl rfl (by (try simp only [List.map_toArray, List.map_cons, List.map_nil]); first | done | rfl) ?_
  refine (heads_calls _).mono ?_
  rintro e w10 ⟨rfl, hbn⟩
  replace hX := Aside0.mk (blk_on hX.out (hbn))
  replace hb := Aside0.mk (bthen hb.out (hbn) (Nat.le_refl _))
  have hx9 := hX
  clear hbn
  refine ⟨_, rfl, ?_⟩
  refine hK.out _ _ hx9.out (fun hHeld => ?_)
  clear hx9
  clear hK K
  refine norm_ (a' := ?_) ?_ ?_
  rotate_left
  · show Act.put _ (some 52) _ = _
    simp only [Act.put, List.setIfInBounds_toArray, List.set_cons_zero, List.set_cons_succ, i64_w, i32_w]
    rfl
  refine pure_ (i := 31) (N := some 53) (v := ?_) (a' := ?_) #[true, true, true, true, true, true, true, true, true, true, true, true, true, true, true, true, true, true, true, true, true, true, true, true, true, true, true, true, true, true, true, true, false] rfl rfl (any_of HT_.out (by kernel_rfl)) (fun _ _ _ h => h) (Or.inl ⟨by rfl, ?_⟩) ?_ ?_
  rotate_left
  · intro w'
    go_simp
    with_reducible rfl
  rotate_left
  · simp only [Act.put, List.setIfInBounds_toArray, List.set_cons_zero, List.set_cons_succ, i64_w, i32_w]
    rfl
  refine pure_ (i := 32) (N := some 8) (v := ?_) (a' := ?_) #[true, true, true, true, true, true, true, true, true, true, true, true, true, true, true, true, true, true, true, true, true, true, true, true, true, true, true, true, true, true, true, true, true] rfl rfl (any_of HT_.out (by kernel_rfl)) (fun _ _ _ h => h) (Or.inl ⟨by rfl, ?_⟩) ?_ ?_
  rotate_left
  · intro w'
    go_simp
    with_reducible rfl
  rotate_left
  · simp only [Act.put, List.setIfInBounds_toArray, List.set_cons_zero, List.set_cons_succ, i64_w, i32_w]
    rfl
  refine done_ (done_of HT_.out (by kernel_rfl)) ?_
  go_wp2
  go_ret
  exact ⟨rfl, hb.out⟩
end Go.Proofs.YthalgemkblkhgaaGreat
