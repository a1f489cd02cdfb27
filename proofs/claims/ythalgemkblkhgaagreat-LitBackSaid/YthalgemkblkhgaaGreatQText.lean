/- lit.Text: the text of any literal. -/
import Derived.Test.YthalgemkblkhgaaGreatQAns
import Derived.Test.YthalgemkblkhgaaGreatQSeatsP
import Derived.Test.YthalgemkblkhgaaGreatQDig2
namespace Go.Proofs.YthalgemkblkhgaaGreat
open Go.Proofs Go.RowKit Go.Proofs.YthalgemkblkhgaaGreatW.PrintWords Go.Proofs.YthalgemkblkhgaaGreatW.PrintLast
set_option linter.unusedVariables false
set_option linter.unusedSimpArgs false

theorem mem_block_small {c : Nat} {x : Class} {y : Choice} (h : y ∈ blockOf c x) (hx : x.f4.length ≤ 1000 ∧ x.f5.length ≤ 1000) : y.f2 < 1000 := by
  unfold blockOf at h
  rcases List.mem_append.1 h with h | h
  all_goals
    obtain ⟨i, hi, rfl⟩ := List.mem_map.1 h
    have := List.mem_range.1 hi
    show (i : Int) < 1000
    omega
theorem mem_choices_small {l : List Class} (hl : ∀ x ∈ l, x.f4.length ≤ 1000 ∧ x.f5.length ≤ 1000) {y : Choice} : ∀ {k : Nat}, y ∈ choicesTo l k → y.f2 < 1000
  | 0, h => by simp [choicesTo] at h
  | k + 1, h => by
    rw [choicesTo_succ] at h
    rcases List.mem_append.1 h with h | h
    · exact mem_choices_small hl h
    · unfold blockAt at h
      cases hx : l[k]? with
      | none => rw [hx] at h; cases h
      | some x =>
        rw [hx] at h
        exact mem_block_small h (hl x (List.mem_of_getElem? hx))
/-- A choice of a problem has small numbers. -/
theorem choice_nat {p : Problem} {y : Choice} (h : y ∈ allOf p) : ∃ c i : Nat, y.f0 = c ∧ y.f2 = i ∧ c < 1000 ∧ i < 1000 ∧ problemOk p = true := by
  have hok : problemOk p = true := by
    cases hq : problemOk p
    · rw [allOf_no hq] at h; cases h
    · rfl
  rw [allOf_ok hok] at h
  have hs := small_of p hok
  have h1 := (fair_choices p.f5).at_ y h
  have h2 := mem_choices_small hs.all h
  have h3 := hs.n
  exact ⟨y.f0.toNat, y.f2.toNat, by omega, by omega, by omega, by omega, hok⟩
def bareL (c : Nat) (b : Bool) (i : Nat) : List UInt8 := decL c ++ (if b = true then 112 else 116) :: decL i
def litL (y : Choice) (n : Int) : List UInt8 := if n < 0 then 45 :: bareL y.f0.toNat y.f1 y.f2.toNat else bareL y.f0.toNat y.f1 y.f2.toNat
def textL (p : Problem) (n : Int) : List UInt8 := if (whatIn (allOf p) n).2 = true then litL (whatIn (allOf p) n).1 n else []
section
variable {p : Problem} {mv : Value} {w : World}
set_option maxRecDepth 100000 in
set_option maxHeartbeats 4000000 in
theorem ans_text (h : Ans p mv w) (n : Int) (hn : wfInt .i64 n) :
    Calls Tryz.prog 38 #[mv, .int .i64 n] w fun e w' => e = .returned (.string (strB (textL p n))) ∧ Below w.heap.size w w' := by
  have hu := Tryz.underlying42
  obtain ⟨⟨⟨y0, y1, y2⟩, k⟩, hz⟩ : ∃ z, whatIn (allOf p) n = z := ⟨_, rfl⟩
  cases k
  · have hsp : Aside0 (textL p n = []) := ⟨by rw [textL, hz]; rfl⟩
    have hA := Aside0.mk h
    have HN := Aside0.mk hn
    replace hz := Aside0.mk hz
    clear h hn
    go_enter Tryz.func38, Tryz.ntmps38
    go_wp2_with fail
    refine (ans_what hA.out n HN.out _ hz.out).mono ?_
    rintro e w1 ⟨he, hb⟩
    change e = Ending.returned (.tuple #[.agg #[.int .i64 y0, .bool y1, .int .i64 y2], .bool false]) at he
    subst he
    have hb := Aside0.mk hb
    go_wp2_with fail
    go_ret
    exact ⟨by rw [hsp.out]; rfl, below_alloc hb.out _⟩
  have hm := whatIn_mem (L := allOf p) (n := n) (by rw [hz])
  rw [hz] at hm
  obtain ⟨c, i, e0, e2, hc, hi, -⟩ := choice_nat hm
  simp only at e0 e2
  subst e0 e2
  have hsp : Aside0 (textL p n = litL ⟨c, y1, i⟩ n) := ⟨by rw [textL, hz]; rfl⟩
  obtain ⟨A, hA⟩ : ∃ A, A = decL c := ⟨_, rfl⟩
  obtain ⟨B, hB⟩ : ∃ B, B = decL i := ⟨_, rfl⟩
  have hlA : A.length ≤ 3 := by rw [hA]; exact decL_len 2 c (by omega)
  have hlB : B.length ≤ 3 := by rw [hB]; exact decL_len 2 i (by omega)
  have hpA : Aside0 (∀ W, Calls Tryz.prog 65 #[.int .i64 c] W fun e w' => e = .returned (.string (strB A)) ∧ Below W.heap.size W w') := ⟨fun W => by
    have := print_calls (c : Int) (i64_wf ⟨by omega, by omega⟩) W
    rwa [intL, if_neg (by omega), Int.natAbs_natCast, ← hA] at this⟩
  have hpB : Aside0 (∀ W, Calls Tryz.prog 65 #[.int .i64 i] W fun e w' => e = .returned (.string (strB B)) ∧ Below W.heap.size W w') := ⟨fun W => by
    have := print_calls (i : Int) (i64_wf ⟨by omega, by omega⟩) W
    rwa [intL, if_neg (by omega), Int.natAbs_natCast, ← hB] at this⟩
  replace hA := Aside0.mk hA
  replace hB := Aside0.mk hB
  have hAn := Aside0.mk h
  have HN := Aside0.mk hn
  replace hz := Aside0.mk hz
  clear h hn hm
  go_enter Tryz.func38, Tryz.ntmps38
  go_wp2_with fail
  refine (ans_what hAn.out n HN.out _ hz.out).mono ?_
  rintro e w1 ⟨he, hb⟩
  change e = Ending.returned (.tuple #[.agg #[.int .i64 c, .bool y1, .int .i64 i], .bool true]) at he
  subst he
  have hb := Aside0.mk hb
  cases y1
  · skip
    go_wp2
    have z0 := blk_cell (blk_new w1 (.cells #[.int .i64 c, .bool false, .int .i64 i] 42)) 0
    have z2 := blk_cell (blk_new w1 (.cells #[.int .i64 c, .bool false, .int .i64 i] 42)) 2
    change World.cell? _ _ = some (.int .i64 c) at z0
    change World.cell? _ _ = some (.int .i64 i) at z2
    have hc1 : strB A ++ (⟨#[116]⟩ : ByteArray) = strB (A ++ [116]) := strB_append A [116]
    have hc2 : strB (A ++ [116]) ++ strB B = strB (A ++ [116] ++ B) := strB_append _ _
    have hs1 : (strB A).size = A.length := strB_size A
    have hs2 : (strB B).size = B.length := strB_size B
    have hs3 : (strB (A ++ [116])).size = A.length + 1 := by rw [strB_size, List.length_append]; rfl
    have hn1 : ¬ (9223372036854775807 < A.length + 1) := by omega
    have hn2 : ¬ (9223372036854775807 < A.length + 1 + B.length) := by omega
    refine start_ (n := 10) (S := (fun w' => w'.cell? ⟨w1.heap.size, 0, none⟩ = some (.int .i64 c) ∧ w'.cell? ⟨w1.heap.size, 2, none⟩ = some (.int .i64 i))) (ds := []) #[false, false, false, false, false, false, false, false, false, false] (by kernel_rfl) rfl rfl (⟨z0, z2⟩) (fun hHeld => ?_)
    refine pure_ (i := 0) (N := some 18) (v := ?_) (a' := ?_) #[true, false, false, false, false, false, false, false, false, false] rfl rfl (by kernel_rfl) (fun _ _ _ h => h) (Or.inl ⟨by rfl, ?_⟩) ?_ ?_
    rotate_left
    · intro w'
      go_simp
      with_reducible rfl
    rotate_left
    · simp only [Act.put, List.setIfInBounds_toArray, List.set_cons_zero, List.set_cons_succ, i64_w, i32_w]
      rfl
    refine take_ (i := 1) (N := some 19) (v := ?_) (a' := ?_) #[true, true, false, false, false, false, false, false, false, false] rfl rfl (by kernel_rfl) (fun _ _ _ h => h) (Or.inl ⟨by rfl, ?_⟩) hHeld ?_ ?_
    rotate_left
    · rintro w' ⟨s1, s2⟩
      go_simp
      with_reducible rfl
    rotate_left
    · simp only [Act.put, List.setIfInBounds_toArray, List.set_cons_zero, List.set_cons_succ, i64_w, i32_w]
      rfl
    refine pure_ (i := 5) (N := some 23) (v := ?_) (a' := ?_) #[true, true, false, false, false, true, false, false, false, false] rfl rfl (by kernel_rfl) (fun _ _ _ h => h) (Or.inl ⟨by rfl, ?_⟩) ?_ ?_
    rotate_left
    · intro w'
      go_simp
      with_reducible rfl
    rotate_left
    · simp only [Act.put, List.setIfInBounds_toArray, List.set_cons_zero, List.set_cons_succ, i64_w, i32_w]
      rfl
    refine take_ (i := 6) (N := some 24) (v := ?_) (a' := ?_) #[true, true, false, false, false, true, true, false, false, false] rfl rfl (by kernel_rfl) (fun _ _ _ h => h) (Or.inl ⟨by rfl, ?_⟩) hHeld ?_ ?_
    rotate_left
    · rintro w' ⟨s1, s2⟩
      go_simp
      with_reducible rfl
    rotate_left
    · simp only [Act.put, List.setIfInBounds_toArray, List.set_cons_zero, List.set_cons_succ, i64_w, i32_w]
      rfl
    refine pure_ (i := 3) (N := some 21) (v := ?_) (a' := ?_) #[true, true, false, true, false, true, true, false, false, false] rfl rfl (by kernel_rfl) (fun _ _ _ h => h) (Or.inl ⟨by rfl, ?_⟩) ?_ ?_
    rotate_left
    · intro w'
      go_simp
      with_reducible rfl
    rotate_left
    · simp only [Act.put, List.setIfInBounds_toArray, List.set_cons_zero, List.set_cons_succ, i64_w, i32_w]
      rfl
    refine one_ (i := 2) (N := some 20) #[true, true, true, true, false, true, true, false, false, false] rfl rfl (by kernel_rfl) (by decide) (fun K hK => ?_)
    refine goes_ Tryz.func65 (by kernel_rfl) rfl #[.int .i64 c] (by rfl) rfl rfl (by (try simp only [List.map_toArray, List.map_cons, List.map_nil]); first | done | rfl) ?_
    refine (hpA.out _).mono ?_
    rintro e w2 ⟨rfl, hb2⟩
    have y0 : w2.cell? ⟨w1.heap.size, 0, none⟩ = some (.int .i64 c) := cell_on hb2 z0
    have y2 : w2.cell? ⟨w1.heap.size, 2, none⟩ = some (.int .i64 i) := cell_on hb2 z2
    replace hb2 := Aside0.mk (bthen (below_drew (below_alloc hb.out (.cells #[.int .i64 c, .bool false, .int .i64 i] 42))) hb2 (Nat.le_refl _))
    refine ⟨_, rfl, ?_⟩
    refine hK.out _ _ ⟨y0, y2⟩ (fun hHeld => ?_)
    clear hK K
    refine norm_ (a' := ?_) ?_ ?_
    rotate_left
    · show Act.put _ (some 20) _ = _
      simp only [Act.put, List.setIfInBounds_toArray, List.set_cons_zero, List.set_cons_succ, i64_w, i32_w]
      rfl
    refine pure_ (i := 4) (N := some 22) (v := ?_) (a' := ?_) #[true, true, true, true, true, true, true, false, false, false] rfl rfl (by kernel_rfl) (fun _ _ _ h => h) (Or.inl ⟨by rfl, ?_⟩) ?_ ?_
    rotate_left
    · intro w'
      go_simp
      with_reducible rfl
    rotate_left
    · simp only [Act.put, List.setIfInBounds_toArray, List.set_cons_zero, List.set_cons_succ, i64_w, i32_w]
      rfl
    refine one_ (i := 7) (N := some 25) #[true, true, true, true, true, true, true, true, false, false] rfl rfl (by kernel_rfl) (by decide) (fun K hK => ?_)
    refine goes_ Tryz.func65 (by kernel_rfl) rfl #[.int .i64 i] (by rfl) rfl rfl (by (try simp only [List.map_toArray, List.map_cons, List.map_nil]); first | done | rfl) ?_
    refine (hpB.out _).mono ?_
    rintro e w3 ⟨rfl, hb3⟩
    have y3 := cell_on hb3 y0
    have y4 := cell_on hb3 y2
    replace hb3 := Aside0.mk (bthen hb2.out hb3 (Nat.le_refl _))
    refine ⟨_, rfl, ?_⟩
    refine hK.out _ _ ⟨y3, y4⟩ (fun hHeld => ?_)
    clear hK K
    refine norm_ (a' := ?_) ?_ ?_
    rotate_left
    · show Act.put _ (some 25) _ = _
      simp only [Act.put, List.setIfInBounds_toArray, List.set_cons_zero, List.set_cons_succ, i64_w, i32_w]
      rfl
    refine pure_ (i := 8) (N := some 26) (v := ?_) (a' := ?_) #[true, true, true, true, true, true, true, true, true, false] rfl rfl (by kernel_rfl) (fun _ _ _ h => h) (Or.inl ⟨by rfl, ?_⟩) ?_ ?_
    rotate_left
    · intro w'
      go_simp
      with_reducible rfl
    rotate_left
    · simp only [Act.put, List.setIfInBounds_toArray, List.set_cons_zero, List.set_cons_succ, i64_w, i32_w]
      rfl
    refine pure_ (i := 9) (N := some 7) (v := ?_) (a' := ?_) #[true, true, true, true, true, true, true, true, true, true] rfl rfl (by kernel_rfl) (fun _ _ _ h => h) (Or.inl ⟨by rfl, ?_⟩) ?_ ?_
    rotate_left
    · intro w'
      go_simp
      with_reducible rfl
    rotate_left
    · simp only [Act.put, List.setIfInBounds_toArray, List.set_cons_zero, List.set_cons_succ, i64_w, i32_w]
      rfl
    refine done_ (by kernel_rfl) ?_
    clear z0 z2 y0 y2 y3 y4 hc1 hc2 hs1 hs2 hs3 hn1 hn2
    obtain ⟨T, hT⟩ : ∃ T, T = A ++ 116 :: B := ⟨_, rfl⟩
    rw [← hT]
    have hc3 : (⟨#[45]⟩ : ByteArray) ++ strB T = strB (45 :: T) := strB_append [45] T
    have hs4 : (strB T).size = T.length := strB_size T
    have hs5 : T.length ≤ 100 := by rw [hT]; simp; omega
    have hbare : Aside0 (bareL c false i = T) := ⟨by rw [hT, bareL, hA.out, hB.out]; simp⟩
    replace hT := Aside0.mk hT
    by_cases h0 : n < 0
    · go_wp2_with fail
      go_ret
      exact ⟨by rw [hsp.out, litL, if_pos h0]; show _ = Ending.returned (.string (strB (45 :: bareL (c : Int).toNat false (i : Int).toNat))); rw [Int.toNat_natCast, Int.toNat_natCast, hbare.out]; rfl, hb3.out⟩
    · go_wp2_with fail
      go_ret
      exact ⟨by rw [hsp.out, litL, if_neg (by omega)]; show _ = Ending.returned (.string (strB (bareL (c : Int).toNat false (i : Int).toNat))); rw [Int.toNat_natCast, Int.toNat_natCast, hbare.out]; rfl, hb3.out⟩
  · skip
    go_wp2
    have z0 := blk_cell (blk_new w1 (.cells #[.int .i64 c, .bool true, .int .i64 i] 42)) 0
    have z2 := blk_cell (blk_new w1 (.cells #[.int .i64 c, .bool true, .int .i64 i] 42)) 2
    change World.cell? _ _ = some (.int .i64 c) at z0
    change World.cell? _ _ = some (.int .i64 i) at z2
    have hc1 : strB A ++ (⟨#[112]⟩ : ByteArray) = strB (A ++ [112]) := strB_append A [112]
    have hc2 : strB (A ++ [112]) ++ strB B = strB (A ++ [112] ++ B) := strB_append _ _
    have hs1 : (strB A).size = A.length := strB_size A
    have hs2 : (strB B).size = B.length := strB_size B
    have hs3 : (strB (A ++ [112])).size = A.length + 1 := by rw [strB_size, List.length_append]; rfl
    have hn1 : ¬ (9223372036854775807 < A.length + 1) := by omega
    have hn2 : ¬ (9223372036854775807 < A.length + 1 + B.length) := by omega
    refine start_ (n := 10) (S := (fun w' => w'.cell? ⟨w1.heap.size, 0, none⟩ = some (.int .i64 c) ∧ w'.cell? ⟨w1.heap.size, 2, none⟩ = some (.int .i64 i))) (ds := []) #[false, false, false, false, false, false, false, false, false, false] (by kernel_rfl) rfl rfl (⟨z0, z2⟩) (fun hHeld => ?_)
    refine pure_ (i := 0) (N := some 18) (v := ?_) (a' := ?_) #[true, false, false, false, false, false, false, false, false, false] rfl rfl (by kernel_rfl) (fun _ _ _ h => h) (Or.inl ⟨by rfl, ?_⟩) ?_ ?_
    rotate_left
    · intro w'
      go_simp
      with_reducible rfl
    rotate_left
    · simp only [Act.put, List.setIfInBounds_toArray, List.set_cons_zero, List.set_cons_succ, i64_w, i32_w]
      rfl
    refine take_ (i := 1) (N := some 19) (v := ?_) (a' := ?_) #[true, true, false, false, false, false, false, false, false, false] rfl rfl (by kernel_rfl) (fun _ _ _ h => h) (Or.inl ⟨by rfl, ?_⟩) hHeld ?_ ?_
    rotate_left
    · rintro w' ⟨s1, s2⟩
      go_simp
      with_reducible rfl
    rotate_left
    · simp only [Act.put, List.setIfInBounds_toArray, List.set_cons_zero, List.set_cons_succ, i64_w, i32_w]
      rfl
    refine pure_ (i := 5) (N := some 23) (v := ?_) (a' := ?_) #[true, true, false, false, false, true, false, false, false, false] rfl rfl (by kernel_rfl) (fun _ _ _ h => h) (Or.inl ⟨by rfl, ?_⟩) ?_ ?_
    rotate_left
    · intro w'
      go_simp
      with_reducible rfl
    rotate_left
    · simp only [Act.put, List.setIfInBounds_toArray, List.set_cons_zero, List.set_cons_succ, i64_w, i32_w]
      rfl
    refine take_ (i := 6) (N := some 24) (v := ?_) (a' := ?_) #[true, true, false, false, false, true, true, false, false, false] rfl rfl (by kernel_rfl) (fun _ _ _ h => h) (Or.inl ⟨by rfl, ?_⟩) hHeld ?_ ?_
    rotate_left
    · rintro w' ⟨s1, s2⟩
      go_simp
      with_reducible rfl
    rotate_left
    · simp only [Act.put, List.setIfInBounds_toArray, List.set_cons_zero, List.set_cons_succ, i64_w, i32_w]
      rfl
    refine pure_ (i := 3) (N := some 21) (v := ?_) (a' := ?_) #[true, true, false, true, false, true, true, false, false, false] rfl rfl (by kernel_rfl) (fun _ _ _ h => h) (Or.inl ⟨by rfl, ?_⟩) ?_ ?_
    rotate_left
    · intro w'
      go_simp
      with_reducible rfl
    rotate_left
    · simp only [Act.put, List.setIfInBounds_toArray, List.set_cons_zero, List.set_cons_succ, i64_w, i32_w]
      rfl
    refine one_ (i := 2) (N := some 20) #[true, true, true, true, false, true, true, false, false, false] rfl rfl (by kernel_rfl) (by decide) (fun K hK => ?_)
    refine goes_ Tryz.func65 (by kernel_rfl) rfl #[.int .i64 c] (by rfl) rfl rfl (by (try simp only [List.map_toArray, List.map_cons, List.map_nil]); first | done | rfl) ?_
    refine (hpA.out _).mono ?_
    rintro e w2 ⟨rfl, hb2⟩
    have y0 : w2.cell? ⟨w1.heap.size, 0, none⟩ = some (.int .i64 c) := cell_on hb2 z0
    have y2 : w2.cell? ⟨w1.heap.size, 2, none⟩ = some (.int .i64 i) := cell_on hb2 z2
    replace hb2 := Aside0.mk (bthen (below_drew (below_alloc hb.out (.cells #[.int .i64 c, .bool true, .int .i64 i] 42))) hb2 (Nat.le_refl _))
    refine ⟨_, rfl, ?_⟩
    refine hK.out _ _ ⟨y0, y2⟩ (fun hHeld => ?_)
    clear hK K
    refine norm_ (a' := ?_) ?_ ?_
    rotate_left
    · show Act.put _ (some 20) _ = _
      simp only [Act.put, List.setIfInBounds_toArray, List.set_cons_zero, List.set_cons_succ, i64_w, i32_w]
      rfl
    refine pure_ (i := 4) (N := some 22) (v := ?_) (a' := ?_) #[true, true, true, true, true, true, true, false, false, false] rfl rfl (by kernel_rfl) (fun _ _ _ h => h) (Or.inl ⟨by rfl, ?_⟩) ?_ ?_
    rotate_left
    · intro w'
      go_simp
      with_reducible rfl
    rotate_left
    · simp only [Act.put, List.setIfInBounds_toArray, List.set_cons_zero, List.set_cons_succ, i64_w, i32_w]
      rfl
    refine one_ (i := 7) (N := some 25) #[true, true, true, true, true, true, true, true, false, false] rfl rfl (by kernel_rfl) (by decide) (fun K hK => ?_)
    refine goes_ Tryz.func65 (by kernel_rfl) rfl #[.int .i64 i] (by rfl) rfl rfl (by (try simp only [List.map_toArray, List.map_cons, List.map_nil]); first | done | rfl) ?_
    refine (hpB.out _).mono ?_
    rintro e w3 ⟨rfl, hb3⟩
    have y3 := cell_on hb3 y0
    have y4 := cell_on hb3 y2
    replace hb3 := Aside0.mk (bthen hb2.out hb3 (Nat.le_refl _))
    refine ⟨_, rfl, ?_⟩
    refine hK.out _ _ ⟨y3, y4⟩ (fun hHeld => ?_)
    clear hK K
    refine norm_ (a' := ?_) ?_ ?_
    rotate_left
    · show Act.put _ (some 25) _ = _
      simp only [Act.put, List.setIfInBounds_toArray, List.set_cons_zero, List.set_cons_succ, i64_w, i32_w]
      rfl
    refine pure_ (i := 8) (N := some 26) (v := ?_) (a' := ?_) #[true, true, true, true, true, true, true, true, true, false] rfl rfl (by kernel_rfl) (fun _ _ _ h => h) (Or.inl ⟨by rfl, ?_⟩) ?_ ?_
    rotate_left
    · intro w'
      go_simp
      with_reducible rfl
    rotate_left
    · simp only [Act.put, List.setIfInBounds_toArray, List.set_cons_zero, List.set_cons_succ, i64_w, i32_w]
      rfl
    refine pure_ (i := 9) (N := some 7) (v := ?_) (a' := ?_) #[true, true, true, true, true, true, true, true, true, true] rfl rfl (by kernel_rfl) (fun _ _ _ h => h) (Or.inl ⟨by rfl, ?_⟩) ?_ ?_
    rotate_left
    · intro w'
      go_simp
      with_reducible rfl
    rotate_left
    · simp only [Act.put, List.setIfInBounds_toArray, List.set_cons_zero, List.set_cons_succ, i64_w, i32_w]
      rfl
    refine done_ (by kernel_rfl) ?_
    clear z0 z2 y0 y2 y3 y4 hc1 hc2 hs1 hs2 hs3 hn1 hn2
    obtain ⟨T, hT⟩ : ∃ T, T = A ++ 112 :: B := ⟨_, rfl⟩
    rw [← hT]
    have hc3 : (⟨#[45]⟩ : ByteArray) ++ strB T = strB (45 :: T) := strB_append [45] T
    have hs4 : (strB T).size = T.length := strB_size T
    have hs5 : T.length ≤ 100 := by rw [hT]; simp; omega
    have hbare : Aside0 (bareL c true i = T) := ⟨by rw [hT, bareL, hA.out, hB.out]; simp⟩
    replace hT := Aside0.mk hT
    by_cases h0 : n < 0
    · go_wp2_with fail
      go_ret
      exact ⟨by rw [hsp.out, litL, if_pos h0]; show _ = Ending.returned (.string (strB (45 :: bareL (c : Int).toNat true (i : Int).toNat))); rw [Int.toNat_natCast, Int.toNat_natCast, hbare.out]; rfl, hb3.out⟩
    · go_wp2_with fail
      go_ret
      exact ⟨by rw [hsp.out, litL, if_neg (by omega)]; show _ = Ending.returned (.string (strB (bareL (c : Int).toNat true (i : Int).toNat))); rw [Int.toNat_natCast, Int.toNat_natCast, hbare.out]; rfl, hb3.out⟩
end
end Go.Proofs.YthalgemkblkhgaaGreat
