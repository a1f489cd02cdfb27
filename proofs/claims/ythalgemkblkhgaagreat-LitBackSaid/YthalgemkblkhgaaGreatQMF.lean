/- What the checks of rules and students come to, the program's and the reference's. What the checks of students and weights come to; the reference's first. What the checks of a rule and of a student come to. -/
import Derived.Test.YthalgemkblkhgaaGreatQME
namespace Go.Proofs.YthalgemkblkhgaaGreat
open Go.RowKit Go.Proofs.YthalgemkblkhgaaGreatW.PrintWords Go.Proofs.YthalgemkblkhgaaGreatW.PrintLast
set_option linter.unusedVariables false
set_option linter.unusedSimpArgs false

theorem beq_dec (a b : Int) : (a == b) = decide (a = b) := by rw [Bool.eq_iff_iff]; simp
def inR (lo hi n : Int) : Bool := decide (lo ≤ n) && decide (n ≤ hi)
theorem inR_no1 {lo hi n : Int} (h : n < lo) : inR lo hi n = false := by rw [inR, decide_eq_false (by omega)]; rfl
theorem inR_no2 {lo hi n : Int} (h : hi < n) : inR lo hi n = false := by rw [inR, decide_eq_false (by omega : ¬ n ≤ hi)]; simp
theorem inR_yes {lo hi n : Int} (h : lo ≤ n) (h2 : n ≤ hi) : inR lo hi n = true := by rw [inR, decide_eq_true h, decide_eq_true h2]; rfl
set_option maxHeartbeats 400000 in
theorem pairKnown_calls (n : Int) (r : Bool) (h : inR 1 14 n = r) (w : World) : Calls Tryz.prog 183 #[.int .i64 n] w fun e w' => e = .returned (.bool r) ∧ w = w' := by
  subst h
  by_cases h1 : 1 ≤ n
  all_goals
    go_enter Tryz.func183, Tryz.ntmps183
    go_wp2
    go_ret
    exact ⟨ret_bool (by rw [Bool.eq_iff_iff]; simp [inR]; try omega), rfl⟩
set_option maxHeartbeats 400000 in
theorem pairKnown_ref (n : Int) (r : Bool) (h : inR 1 14 n = r) (w : World) : Calls Tryz.prog 191 #[.int .i64 n] w fun e w' => e = .returned (.bool r) ∧ w = w' := by
  subst h
  by_cases h1 : 1 ≤ n
  all_goals
    go_enter Tryz.func191, Tryz.ntmps191
    go_wp2
    go_ret
    exact ⟨ret_bool (by rw [Bool.eq_iff_iff]; simp [inR]; try omega), rfl⟩
set_option maxHeartbeats 400000 in
theorem manyKnown_calls (n : Int) (r : Bool) (h : inR 21 24 n = r) (w : World) : Calls Tryz.prog 184 #[.int .i64 n] w fun e w' => e = .returned (.bool r) ∧ w = w' := by
  subst h
  by_cases h1 : 21 ≤ n
  all_goals
    go_enter Tryz.func184, Tryz.ntmps184
    go_wp2
    go_ret
    exact ⟨ret_bool (by rw [Bool.eq_iff_iff]; simp [inR]; try omega), rfl⟩
set_option maxHeartbeats 400000 in
theorem manyKnown_ref (n : Int) (r : Bool) (h : inR 21 24 n = r) (w : World) : Calls Tryz.prog 192 #[.int .i64 n] w fun e w' => e = .returned (.bool r) ∧ w = w' := by
  subst h
  by_cases h1 : 21 ≤ n
  all_goals
    go_enter Tryz.func192, Tryz.ntmps192
    go_wp2
    go_ret
    exact ⟨ret_bool (by rw [Bool.eq_iff_iff]; simp [inR]; try omega), rfl⟩
set_option maxHeartbeats 400000 in
theorem pcost_calls (n : Int) (r : Bool) (h : inR 0 1000 n = r) (w : World) : Calls Tryz.prog 151 #[.int .i64 n] w fun e w' => e = .returned (.bool r) ∧ w = w' := by
  subst h
  by_cases h1 : 0 ≤ n
  all_goals
    go_enter Tryz.func151, Tryz.ntmps151
    go_wp2
    go_ret
    exact ⟨ret_bool (by rw [Bool.eq_iff_iff]; simp [inR]; try omega), rfl⟩
set_option maxHeartbeats 400000 in
theorem mwithin_calls (n lo hi : Int) (r : Bool) (h : inR lo hi n = r) (w : World) : Calls Tryz.prog 200 #[.int .i64 n, .int .i64 lo, .int .i64 hi] w fun e w' => e = .returned (.bool r) ∧ w = w' := by
  subst h
  by_cases h1 : lo ≤ n
  all_goals
    go_enter Tryz.func200, Tryz.ntmps200
    go_wp2
    go_ret
    exact ⟨ret_bool (by rw [Bool.eq_iff_iff]; simp [inR]; try omega), rfl⟩
set_option maxHeartbeats 400000 in
theorem mwithin_ref (n lo hi : Int) (r : Bool) (h : inR lo hi n = r) (w : World) : Calls Tryz.prog 203 #[.int .i64 n, .int .i64 lo, .int .i64 hi] w fun e w' => e = .returned (.bool r) ∧ w = w' := by
  subst h
  by_cases h1 : lo ≤ n
  all_goals
    go_enter Tryz.func203, Tryz.ntmps203
    go_wp2
    go_ret
    exact ⟨ret_bool (by rw [Bool.eq_iff_iff]; simp [inR]; try omega), rfl⟩

def numsOk (k a b : Int) : Bool :=
  if k = 21 then inR 1 7 a && decide (b = 0)
  else if k = 22 ∨ k = 13 then inR 1 96 a && decide (b = 0)
  else if k = 23 then inR 0 48 a && inR 0 96 b
  else if k = 24 then inR 1 96 a && inR 0 96 b
  else inR 1 14 k && (decide (a = 0) && decide (b = 0))
theorem nums23 (a b : Int) : numsOk 23 a b = (inR 0 48 a && inR 0 96 b) := by simp [numsOk]
theorem nums24 (a b : Int) : numsOk 24 a b = (inR 1 96 a && inR 0 96 b) := by simp [numsOk]
set_option maxRecDepth 100000 in
set_option maxHeartbeats 2000000 in
theorem nums_calls (k a b : Int) (r : Bool) (h : numsOk k a b = r) (w : World) : Calls Tryz.prog 185 #[.int .i64 k, .int .i64 a, .int .i64 b] w fun e w' => e = .returned (.bool r) ∧ w = w' := by
  subst h
  go_enter Tryz.func185, Tryz.ntmps185
  by_cases k21 : k = 21
  · subst k21
    cases h1 : inR 1 7 a
    all_goals
      replace h1 := Aside0.mk h1
      go_wp2_with (first | (go_at_call 200; refine (mwithin_calls _ _ _ _ h1.out _).mono ?_; rintro e w' ⟨rfl, rfl⟩))
      go_ret
      exact ⟨ret_bool (by rw [numsOk]; simp only [if_true, if_pos]; rw [h1.out]; simp [beq_dec]), rfl⟩
  by_cases k22 : k = 22
  · subst k22
    cases h1 : inR 1 96 a
    all_goals
      replace h1 := Aside0.mk h1
      go_wp2_with (first | (go_at_call 200; refine (mwithin_calls _ _ _ _ h1.out _).mono ?_; rintro e w' ⟨rfl, rfl⟩))
      go_ret
      exact ⟨ret_bool (by rw [numsOk]; simp only [if_true, if_pos]; rw [h1.out]; simp [beq_dec]), rfl⟩
  by_cases k13 : k = 13
  · subst k13
    cases h1 : inR 1 96 a
    all_goals
      replace h1 := Aside0.mk h1
      go_wp2_with (first | (go_at_call 200; refine (mwithin_calls _ _ _ _ h1.out _).mono ?_; rintro e w' ⟨rfl, rfl⟩))
      go_ret
      exact ⟨ret_bool (by rw [numsOk]; simp only [if_true, if_pos]; rw [h1.out]; simp [beq_dec]), rfl⟩
  by_cases k23 : k = 23
  · subst k23
    go_wp2_with fail
    cases h1 : inR 0 48 a
    · replace h1 := Aside0.mk h1
      (refine (mwithin_calls _ _ _ _ h1.out _).mono ?_; rintro e w' ⟨rfl, rfl⟩; go_wp2_with fail)
      go_ret
      exact ⟨ret_bool (by rw [nums23, h1.out]; rfl), rfl⟩
    replace h1 := Aside0.mk h1
    (refine (mwithin_calls _ _ _ _ h1.out _).mono ?_; rintro e w' ⟨rfl, rfl⟩; go_wp2_with fail)
    cases h2 : inR 0 96 b
    all_goals
      replace h2 := Aside0.mk h2
      (refine (mwithin_calls _ _ _ _ h2.out _).mono ?_; rintro e w' ⟨rfl, rfl⟩; go_wp2_with fail)
      go_ret
      exact ⟨ret_bool (by rw [nums23, h1.out, h2.out]; rfl), rfl⟩
  by_cases k24 : k = 24
  · subst k24
    go_wp2_with fail
    cases h1 : inR 1 96 a
    · replace h1 := Aside0.mk h1
      (refine (mwithin_calls _ _ _ _ h1.out _).mono ?_; rintro e w' ⟨rfl, rfl⟩; go_wp2_with fail)
      go_ret
      exact ⟨ret_bool (by rw [nums24, h1.out]; rfl), rfl⟩
    replace h1 := Aside0.mk h1
    (refine (mwithin_calls _ _ _ _ h1.out _).mono ?_; rintro e w' ⟨rfl, rfl⟩; go_wp2_with fail)
    cases h2 : inR 0 96 b
    all_goals
      replace h2 := Aside0.mk h2
      (refine (mwithin_calls _ _ _ _ h2.out _).mono ?_; rintro e w' ⟨rfl, rfl⟩; go_wp2_with fail)
      go_ret
      exact ⟨ret_bool (by rw [nums24, h1.out, h2.out]; rfl), rfl⟩
  have b21 : ((k : Int) == 21) = false := beq_eq_false_iff_ne.2 k21
  have b22 : ((k : Int) == 22) = false := beq_eq_false_iff_ne.2 k22
  have b13 : ((k : Int) == 13) = false := beq_eq_false_iff_ne.2 k13
  have b23 : ((k : Int) == 23) = false := beq_eq_false_iff_ne.2 k23
  have b24 : ((k : Int) == 24) = false := beq_eq_false_iff_ne.2 k24
  have hsp : numsOk k a b = (inR 1 14 k && (decide (a = 0) && decide (b = 0))) := by simp [numsOk, k21, k22, k13, k23, k24]
  replace hsp := Aside0.mk hsp
  clear k21 k22 k13 k23 k24
  by_cases ca : a = 0
  all_goals
    have ba := beq_dec a 0
    cases h1 : inR 1 14 k
    all_goals
      replace h1 := Aside0.mk h1
      go_wp2_with (first | (go_at_call 200; refine (mwithin_calls _ _ _ _ h1.out _).mono ?_; rintro e w' ⟨rfl, rfl⟩))
      go_ret
      exact ⟨ret_bool (by rw [hsp.out, h1.out]; simp [ca, beq_dec]), rfl⟩
set_option maxRecDepth 100000 in
set_option maxHeartbeats 2000000 in
theorem nums_ref (k a b : Int) (r : Bool) (h : numsOk k a b = r) (w : World) : Calls Tryz.prog 193 #[.int .i64 k, .int .i64 a, .int .i64 b] w fun e w' => e = .returned (.bool r) ∧ w = w' := by
  subst h
  go_enter Tryz.func193, Tryz.ntmps193
  by_cases k21 : k = 21
  · subst k21
    cases h1 : inR 1 7 a
    all_goals
      replace h1 := Aside0.mk h1
      go_wp2_with (first | (go_at_call 203; refine (mwithin_ref _ _ _ _ h1.out _).mono ?_; rintro e w' ⟨rfl, rfl⟩))
      go_ret
      exact ⟨ret_bool (by rw [numsOk]; simp only [if_true, if_pos]; rw [h1.out]; simp [beq_dec]), rfl⟩
  by_cases k22 : k = 22
  · subst k22
    cases h1 : inR 1 96 a
    all_goals
      replace h1 := Aside0.mk h1
      go_wp2_with (first | (go_at_call 203; refine (mwithin_ref _ _ _ _ h1.out _).mono ?_; rintro e w' ⟨rfl, rfl⟩))
      go_ret
      exact ⟨ret_bool (by rw [numsOk]; simp only [if_true, if_pos]; rw [h1.out]; simp [beq_dec]), rfl⟩
  by_cases k13 : k = 13
  · subst k13
    cases h1 : inR 1 96 a
    all_goals
      replace h1 := Aside0.mk h1
      go_wp2_with (first | (go_at_call 203; refine (mwithin_ref _ _ _ _ h1.out _).mono ?_; rintro e w' ⟨rfl, rfl⟩))
      go_ret
      exact ⟨ret_bool (by rw [numsOk]; simp only [if_true, if_pos]; rw [h1.out]; simp [beq_dec]), rfl⟩
  by_cases k23 : k = 23
  · subst k23
    go_wp2_with fail
    cases h1 : inR 0 48 a
    · replace h1 := Aside0.mk h1
      (refine (mwithin_ref _ _ _ _ h1.out _).mono ?_; rintro e w' ⟨rfl, rfl⟩; go_wp2_with fail)
      go_ret
      exact ⟨ret_bool (by rw [nums23, h1.out]; rfl), rfl⟩
    replace h1 := Aside0.mk h1
    (refine (mwithin_ref _ _ _ _ h1.out _).mono ?_; rintro e w' ⟨rfl, rfl⟩; go_wp2_with fail)
    cases h2 : inR 0 96 b
    all_goals
      replace h2 := Aside0.mk h2
      (refine (mwithin_ref _ _ _ _ h2.out _).mono ?_; rintro e w' ⟨rfl, rfl⟩; go_wp2_with fail)
      go_ret
      exact ⟨ret_bool (by rw [nums23, h1.out, h2.out]; rfl), rfl⟩
  by_cases k24 : k = 24
  · subst k24
    go_wp2_with fail
    cases h1 : inR 1 96 a
    · replace h1 := Aside0.mk h1
      (refine (mwithin_ref _ _ _ _ h1.out _).mono ?_; rintro e w' ⟨rfl, rfl⟩; go_wp2_with fail)
      go_ret
      exact ⟨ret_bool (by rw [nums24, h1.out]; rfl), rfl⟩
    replace h1 := Aside0.mk h1
    (refine (mwithin_ref _ _ _ _ h1.out _).mono ?_; rintro e w' ⟨rfl, rfl⟩; go_wp2_with fail)
    cases h2 : inR 0 96 b
    all_goals
      replace h2 := Aside0.mk h2
      (refine (mwithin_ref _ _ _ _ h2.out _).mono ?_; rintro e w' ⟨rfl, rfl⟩; go_wp2_with fail)
      go_ret
      exact ⟨ret_bool (by rw [nums24, h1.out, h2.out]; rfl), rfl⟩
  have b21 : ((k : Int) == 21) = false := beq_eq_false_iff_ne.2 k21
  have b22 : ((k : Int) == 22) = false := beq_eq_false_iff_ne.2 k22
  have b13 : ((k : Int) == 13) = false := beq_eq_false_iff_ne.2 k13
  have b23 : ((k : Int) == 23) = false := beq_eq_false_iff_ne.2 k23
  have b24 : ((k : Int) == 24) = false := beq_eq_false_iff_ne.2 k24
  have hsp : numsOk k a b = (inR 1 14 k && (decide (a = 0) && decide (b = 0))) := by simp [numsOk, k21, k22, k13, k23, k24]
  replace hsp := Aside0.mk hsp
  clear k21 k22 k13 k23 k24
  by_cases ca : a = 0
  all_goals
    have ba := beq_dec a 0
    cases h1 : inR 1 14 k
    all_goals
      replace h1 := Aside0.mk h1
      go_wp2_with (first | (go_at_call 191; refine (pairKnown_ref _ _ h1.out _).mono ?_; rintro e w' ⟨rfl, rfl⟩))
      go_ret
      exact ⟨ret_bool (by rw [hsp.out, h1.out]; simp [ca, beq_dec]), rfl⟩

/-- Is the number at place i from 0 below n, and none of those ahead? -/
def distAt (n : Int) (l : List Int) (i : Nat) : Bool := match l[i]? with | some x => decide (0 ≤ x) && (decide (x < n) && !decide (x ∈ l.take i)) | none => true
def distOk (n : Int) (l : List Int) : Bool := allB l.length (distAt n l)
set_option maxRecDepth 100000 in
set_option maxHeartbeats 2000000 in
theorem distinct_calls (n : Int) (l : List Int) (hl : wfL 8 (wfInt .i64) l) (A : Option Addr) (c : Nat) (w : World) (hA : (Kd.int .i64).C w A l.length l) (r : Bool) (h : distOk n l = r) :
    Calls Tryz.prog 182 #[.slice A l.length c, .int .i64 n] w fun e w' => e = .returned (.bool r) ∧ Below w.heap.size w w' := by
  subst h
  have hm := Kd.C_max hA
  have hpl := hl.len
  have HA := Aside0.mk hA
  clear hA
  have hmm := @run_makeMap Tryz.prog
  go_enter Tryz.func182, Tryz.ntmps182
  go_wp2
  go_loopw [11] (fun v wr => ∃ (i m : Nat) (S : List Int), v = .int .i64 i ∧ i ≤ l.length ∧ m ≤ i ∧ Aside0 (upTo (distAt n l) i) ∧ Aside0 (Below w.heap.size w wr) ∧ Aside0 (OwnsSet eInt 3 wr w.heap.size m S) ∧ Aside0 (∀ x, x ∈ S ↔ x ∈ l.take i)) (fun v _ => l.length - (intOf v).toNat)
  case atStart => exact ⟨0, 0, [], rfl, by omega, by omega, ⟨upTo_zero _⟩, ⟨(Below.refl _ _).alloc (by simp) _⟩, ⟨OwnsSet.made w eInt 3⟩, ⟨fun x => by simp⟩⟩
  case round =>
    obtain ⟨i, m, S, rfl, hi, hn, hno, hb, HS, hS⟩ := hrel
    by_cases hlt : i < l.length
    · have hx : l[i]? = some l[i] := List.getElem?_eq_getElem hlt
      generalize l[i] = x at hx
      obtain ⟨ad, rfl, h0⟩ := el_int (Kd.C_below HA.out hb.out) i x hx
      have hkl := Aside0.mk (key_int (hl.all x (List.mem_of_getElem? hx)))
      have hsp : distAt n l i = (decide (0 ≤ x) && (decide (x < n) && !decide (x ∈ l.take i))) := by simp only [distAt, hx]
      replace hsp := Aside0.mk hsp
      have HX := Aside0.mk hx
      have hwl : w.heap.size ≤ wr.heap.size := hb.out.size
      clear hx
      by_cases c1 : x < 0
      · go_wp2_with fail
        go_ret
        exact ⟨ret_bool (by rw [distOk, allB_no hlt (by rw [hsp.out, decide_eq_false (by omega)]; rfl)]), hb.out⟩
      by_cases c2 : n ≤ x
      · go_wp2_with fail
        go_ret
        exact ⟨ret_bool (by rw [distOk, allB_no hlt (by rw [hsp.out, decide_eq_true (by omega : 0 ≤ x), decide_eq_false (by omega : ¬ x < n)]; rfl)]), hb.out⟩
      have hsp2 : distAt n l i = !decide (x ∈ l.take i) := by rw [hsp.out, decide_eq_true (by omega : 0 ≤ x), decide_eq_true (by omega : x < n)]; rfl
      replace hsp := Aside0.mk hsp2
      clear hsp2
      go_wp2_with (first | (at_lookup; refine wpList_set_lookup eInt 3 (by rfl) _ _ _ rfl HS.out kInt Tryz.underlying226 rfl x rfl hkl.out ?_) | (at_mapUpdate; refine wpList_set_put eInt 3 (by rfl) _ _ _ _ rfl HS.out kInt Tryz.underlying226 rfl x rfl rfl hkl.out (by unfold maxLen; omega) eInt_inj ?_; intro w2 HS2 hg2))
      · go_ret
        have hin : x ∈ S := by assumption
        exact ⟨ret_bool (by rw [distOk, allB_no hlt (by rw [hsp.out, decide_eq_true ((hS.out _).1 hin)]; rfl)]), hb.out⟩
      · have hin : ¬ x ∈ S := by assumption
        go_roundw
        case rel => exact ⟨i + 1, m + 1, x :: S, by go_num, by omega, by omega, ⟨upTo_snoc hno.out (by rw [hsp.out, decide_eq_false (fun h => hin ((hS.out _).2 h))]; rfl)⟩, ⟨pw_below_grown hb.out _ hwl hg2 (fun k e => by cases e; exact Nat.le_refl _)⟩, ⟨HS2⟩, ⟨fun y => by rw [List.take_add_one, HX.out, List.mem_cons, List.mem_append, hS.out]; simp; exact Or.comm⟩⟩
        case measure => simp [intOf]; omega
    · obtain rfl : i = l.length := by omega
      go_wp2
      go_ret
      exact ⟨ret_bool (by rw [distOk, allB_yes hno.out]), hb.out⟩

/-- Is the number at place i greater than the one ahead? -/
def upAt (l : List Int) (i : Nat) : Bool := decide (i = 0) || decide (l.getD (i - 1) 0 < l.getD i 0)
def upOk (l : List Int) : Bool := allB l.length (upAt l)
set_option maxRecDepth 100000 in
set_option maxHeartbeats 1000000 in
theorem prising_calls (l : List Int) (A : Option Addr) (c : Nat) (w : World) (hA : (Kd.int .i64).C w A l.length l) (r : Bool) (h : upOk l = r) :
    Calls Tryz.prog 181 #[.slice A l.length c] w fun e w' => e = .returned (.bool r) ∧ Below w.heap.size w w' := by
  subst h
  have hm := Kd.C_max hA
  have HA := Aside0.mk hA
  clear hA
  go_enter Tryz.func181, Tryz.ntmps181
  go_wp2
  go_loopw [3] (fun v wr => ∃ (i : Nat), v = .int .i64 i ∧ 1 ≤ i ∧ (i ≤ l.length ∨ i = 1) ∧ Aside0 (upTo (upAt l) (min i l.length)) ∧ Aside0 (Below w.heap.size w wr)) (fun v _ => l.length + 1 - (intOf v).toNat)
  case atStart => exact ⟨1, rfl, by omega, .inr rfl, ⟨fun j hj => by simp [upAt, show j = 0 by omega]⟩, ⟨Below.refl _ _⟩⟩
  case round =>
    obtain ⟨i, rfl, h1, hi, hno, hb⟩ := hrel
    by_cases hlt : i < l.length
    · have hx : l[i]? = some l[i] := List.getElem?_eq_getElem hlt
      generalize l[i] = x at hx
      obtain ⟨ad, rfl, h0⟩ := el_int (Kd.C_below HA.out hb.out) i x hx
      obtain ⟨k, hk⟩ : ∃ k, k = i - 1 := ⟨_, rfl⟩
      have hkl : k < l.length := by omega
      have hy : l[k]? = some l[k] := List.getElem?_eq_getElem hkl
      generalize l[k] = y at hy
      obtain ⟨ad2, e2, h02⟩ := el_int (Kd.C_below HA.out hb.out) k y hy
      cases e2
      have hsp : upAt l i = decide (y < x) := by
        simp only [upAt, ← hk, getD_of hx, getD_of hy]
        rw [decide_eq_false (by omega)]
        rfl
      replace hsp := Aside0.mk hsp
      have s1 : IntKind.i64.wrap ((i : Int) - 1) = (k : Int) := by rw [IntWalk.i64_in _ (by omega)]; omega
      replace hk := Aside0.mk hk
      clear hx hy
      by_cases c4 : x ≤ y
      · have d3 : decide (x ≤ y) = true := decide_eq_true c4
        replace c4 := Aside0.mk c4
        go_wp2
        go_big_quiet (fail)
        clear s1
        go_wp2
        go_ret
        exact ⟨ret_bool (by rw [upOk, allB_no hlt (by rw [hsp.out]; exact decide_eq_false (by have := c4.out; omega))]), pw_below_drewN hb.out _⟩
      · have d3 : decide (x ≤ y) = false := decide_eq_false c4
        replace c4 := Aside0.mk c4
        go_wp2
        go_big_quiet (fail)
        clear s1
        go_wp2
        go_roundw
        case rel => exact ⟨i + 1, by go_num, by omega, .inl (by omega), ⟨by rw [show min (i + 1) l.length = i + 1 by omega]; rw [show min i l.length = i by omega] at hno; exact upTo_snoc hno.out (by rw [hsp.out]; exact decide_eq_true (by have := c4.out; omega))⟩, ⟨pw_below_drewN hb.out _⟩⟩
        case measure => simp [intOf]; omega
    · go_wp2
      go_ret
      exact ⟨ret_bool (by rw [show min i l.length = l.length by omega] at hno; rw [upOk, allB_yes hno.out]), hb.out⟩
end Go.Proofs.YthalgemkblkhgaaGreat
namespace Go.Proofs.YthalgemkblkhgaaGreat
open Go.RowKit Go.Proofs.YthalgemkblkhgaaGreatW.PrintWords Go.Proofs.YthalgemkblkhgaaGreatW.PrintLast
set_option linter.unusedVariables false
set_option linter.unusedSimpArgs false

instance decBytes : DecidableEq ByteArray := fun a b => decidable_of_iff (a.data = b.data) ⟨fun h => by cases a; cases b; simp_all, fun h => by rw [h]⟩
instance memBytes (x : ByteArray) (l : List ByteArray) : Decidable (x ∈ l) := decidable_of_iff (∃ y, y ∈ l ∧ y = x) (by simp)
theorem str_eqB (z x : ByteArray) : (z.toList == x.toList) = decide (z = x) := by
  rw [Bool.eq_iff_iff, beq_iff_eq, decide_eq_true_iff, ByteArray.toList_eq, ByteArray.toList_eq]
  constructor
  · intro h
    cases z; cases x
    simpa using h
  · intro h
    rw [h]
theorem el_str {w : World} {A : Option Addr} {n : Nat} {xs : List ByteArray} (h : Kd.string.C w A n xs) (i : Nat) (x : ByteArray) (hx : xs[i]? = some x) : ∃ ad, A = some ad ∧ w.cell? (ad.add i) = some (.string x) := by
  have hl : i < xs.length := (List.getElem?_eq_some_iff.1 hx).1
  obtain ⟨ad, e, hc⟩ := Kd.at_string h (i : Int) (by omega) (by have := Kd.C_len h; omega)
  refine ⟨ad, e, ?_⟩
  simpa [rdOf, hx] using hc
theorem el_boo {w : World} {A : Option Addr} {n : Nat} {xs : List Bool} (h : Kd.bool.C w A n xs) (i : Nat) (x : Bool) (hx : xs[i]? = some x) : ∃ ad, A = some ad ∧ w.cell? (ad.add i) = some (.bool x) := by
  have hl : i < xs.length := (List.getElem?_eq_some_iff.1 hx).1
  obtain ⟨ad, e, hc⟩ := Kd.at_bool h (i : Int) (by omega) (by have := Kd.C_len h; omega)
  refine ⟨ad, e, ?_⟩
  simpa [rdOf, hx] using hc

theorem up_dist (l : List Int) (n : Int) : (upOk l && distOk n l) = risingOk l n := by
  rw [Bool.eq_iff_iff, Bool.and_eq_true]
  unfold upOk distOk risingOk
  rw [allB_iff, allB_iff, allB_iff]
  constructor
  · rintro ⟨h1, h2⟩ i hi
    have hx : l[i]? = some l[i] := List.getElem?_eq_getElem hi
    generalize l[i] = x at hx
    have a := h1 i hi
    have b := h2 i hi
    simp only [distAt, hx, Bool.and_eq_true, decide_eq_true_eq] at b
    simp only [upAt] at a
    simp only [riseAt, getD_of hx, Bool.and_eq_true, decide_eq_true_eq]
    simp only [getD_of hx] at a
    exact ⟨b.1, b.2.1, a⟩
  · intro h
    refine ⟨fun i hi => ?_, fun i hi => ?_⟩
    · have a := h i hi
      simp only [riseAt, Bool.and_eq_true] at a
      exact a.2.2
    · have hx : l[i]? = some l[i] := List.getElem?_eq_getElem hi
      generalize hxx : l[i] = x at hx
      have a := h i hi
      simp only [riseAt, getD_of hx, Bool.and_eq_true, decide_eq_true_eq] at a
      simp only [distAt, hx, Bool.and_eq_true, decide_eq_true_eq, Bool.not_eq_true', decide_eq_false_iff_not]
      refine ⟨a.1, a.2.1, fun hm => ?_⟩
      have key : ∀ d j, j + d + 1 = i → l.getD j 0 < l.getD i 0 := by
        intro d
        induction d with
        | zero =>
          intro j hj
          have b := h i hi
          simp only [riseAt, Bool.and_eq_true, Bool.or_eq_true, decide_eq_true_eq] at b
          rcases b.2.2 with b | b
          · omega
          · rwa [show i - 1 = j by omega] at b
        | succ d ih =>
          intro j hj
          have b := h (j + 1) (by omega)
          simp only [riseAt, Bool.and_eq_true, Bool.or_eq_true, decide_eq_true_eq] at b
          have c := ih (j + 1) (by omega)
          rcases b.2.2 with b | b
          · omega
          · rw [show j + 1 - 1 = j by omega] at b
            omega
      obtain ⟨j, hj, e⟩ := List.mem_take_iff_getElem.1 hm
      have c := key (i - j - 1) j (by omega)
      have hj2 : l[j]? = some x := by rw [List.getElem?_eq_getElem (by omega), e]
      rw [getD_of hj2, getD_of hx] at c
      omega

def studentOk (n : Int) (x : Student) : Bool := nameOk x.f0 && (decide (x.f1.length ≤ 6) && risingOk x.f1 n)
set_option maxRecDepth 100000 in
set_option maxHeartbeats 2000000 in
theorem studentOk_calls (p : Problem) (pcs : List Value) (x : Student) (hx : wfStudent x) (cs : List Value) (w : World) (hP : kProblem.K w p pcs) (hK : kStudent.K w x cs) (r : Bool) (h : studentOk p.f6.length x = r) :
    Calls Tryz.prog 147 #[.agg pcs.toArray, .agg cs.toArray] w fun e w' => e = .returned (.bool r) ∧ Below w.heap.size w w' := by
  subst h
  obtain ⟨A1, c1, rfl, l1, g1⟩ := kStudent_open hK
  obtain ⟨A4, c4, A5, c5, A6, c6, A7, c7, A8, c8, A9, c9, A10, c10, rfl, l4, g4, l5, g5, l6, g6, l7, g7, l8, g8, l9, g9, l10, g10⟩ := kProblem_open hP
  clear hK hP g4 g5 g6 g7 g9 g10
  have hm := Kd.C_max g1
  have hm8 := Kd.C_max g8
  have HC := Aside0.mk g1
  clear g1 g8
  have hu1 := Tryz.underlying130
  have hu2 := Tryz.underlying40
  go_enter Tryz.func147, Tryz.ntmps147
  go_wp2_with fail
  cases h1 : nameOk x.f0
  · (refine (name_calls _ _ h1 _).mono ?_; rintro e w' ⟨rfl, rfl⟩; go_wp2_with fail)
    go_ret
    exact ⟨ret_bool (by simp [studentOk, h1]), below2 (Below.refl _ _)⟩
  replace h1 := Aside0.mk h1
  by_cases c6' : 6 < x.f1.length
  · (refine (name_calls _ _ h1.out _).mono ?_; rintro e w' ⟨rfl, rfl⟩; go_wp2_with fail)
    go_ret
    exact ⟨ret_bool (by rw [studentOk, decide_eq_false (by omega : ¬ x.f1.length ≤ 6)]; simp), below2 (Below.refl _ _)⟩
  (refine (name_calls _ _ h1.out _).mono ?_; rintro e w' ⟨rfl, rfl⟩; go_wp2_with fail)
  have hsp : studentOk p.f6.length x = (upOk x.f1 && distOk p.f6.length x.f1) := by rw [up_dist, studentOk, h1.out, decide_eq_true (by omega : x.f1.length ≤ 6)]; rfl
  replace hsp := Aside0.mk hsp
  cases h2 : upOk x.f1
  · replace h2 := Aside0.mk h2
    (refine (prising_calls x.f1 _ _ _ (Kd.C_below HC.out (below2 (Below.refl _ _))) _ h2.out).mono ?_; rintro e w1 ⟨rfl, hb⟩; have hc_hb := (bcell hb).1; go_wp2_with fail)
    go_ret
    exact ⟨ret_bool (by rw [hsp.out, h2.out]; rfl), below2 hb⟩
  replace h2 := Aside0.mk h2
  (refine (prising_calls x.f1 _ _ _ (Kd.C_below HC.out (below2 (Below.refl _ _))) _ h2.out).mono ?_; rintro e w1 ⟨rfl, hb⟩; have hc_hb := (bcell hb).1; go_wp2_with fail)
  cases h3 : distOk p.f6.length x.f1
  all_goals
    replace h3 := Aside0.mk h3
    (refine (distinct_calls p.f6.length x.f1 hx.h1 _ _ _ (Kd.C_below HC.out (below2 hb)) _ h3.out).mono ?_; rintro e w1 ⟨rfl, hb_⟩; replace hb := bthen hb hb_ (Nat.le_refl _); clear hb_; replace hc_hb := (bcell hb).1; go_wp2_with fail)
    go_ret
    exact ⟨ret_bool (by rw [hsp.out, h2.out, h3.out]; rfl), below2 hb⟩

set_option maxRecDepth 100000 in
set_option maxHeartbeats 2000000 in
theorem studentOk_ref (n : Int) (x : Student) (hx : wfStudent x) (cs : List Value) (w : World) (hK : kStudent.K w x cs) (r : Bool) (h : studentOk n x = r) :
    Calls Tryz.prog 158 #[.int .i64 n, .agg cs.toArray] w fun e w' => e = .returned (.bool r) ∧ Below w.heap.size w w' := by
  subst h
  obtain ⟨A1, c1, rfl, l1, g1⟩ := kStudent_open hK
  clear hK
  have hm := Kd.C_max g1
  have HC := Aside0.mk g1
  clear g1
  have hu1 := Tryz.underlying130
  go_enter Tryz.func158, Tryz.ntmps158
  go_wp2_with fail
  cases h1 : nameOk x.f0
  · (refine (name_ref _ _ h1 _).mono ?_; rintro e w' ⟨rfl, rfl⟩; go_wp2_with fail)
    go_ret
    exact ⟨ret_bool (by simp [studentOk, h1]), below1 (Below.refl _ _)⟩
  replace h1 := Aside0.mk h1
  by_cases c6' : 6 < x.f1.length
  · (refine (name_ref _ _ h1.out _).mono ?_; rintro e w' ⟨rfl, rfl⟩; go_wp2_with fail)
    go_ret
    exact ⟨ret_bool (by rw [studentOk, decide_eq_false (by omega : ¬ x.f1.length ≤ 6)]; simp), below1 (Below.refl _ _)⟩
  (refine (name_ref _ _ h1.out _).mono ?_; rintro e w' ⟨rfl, rfl⟩; go_wp2_with fail)
  have hsp : studentOk n x = risingOk x.f1 n := by rw [studentOk, h1.out, decide_eq_true (by omega : x.f1.length ≤ 6)]; rfl
  replace hsp := Aside0.mk hsp
  cases h2 : risingOk x.f1 n
  all_goals
    replace h2 := Aside0.mk h2
    (refine (rising_ref x.f1 n _ _ _ (Kd.C_below HC.out (below1 (Below.refl _ _))) _ h2.out).mono ?_; rintro e w1 ⟨rfl, hb⟩; have hc_hb := (bcell hb).1; go_wp2_with fail)
    go_ret
    exact ⟨ret_bool (by rw [hsp.out, h2.out]), below1 hb⟩

def weighOk (x : Weigh) : Bool := inR 0 1000 x.f0 && (inR 0 1000 x.f1 && (inR 0 1000 x.f2 && inR 0 1000 x.f3))

/-- The first number from s, of k, of which P holds. -/
def firstFrom (P : Nat → Bool) : Nat → Nat → Option Nat
  | 0, _ => none
  | k + 1, s => if P s = true then some s else firstFrom P k (s + 1)
def firstBad (n : Nat) (P : Nat → Bool) : Option Nat := firstFrom P n 0
theorem firstFrom_some {P : Nat → Bool} : ∀ (k s i : Nat), s ≤ i → i < s + k → (∀ j, s ≤ j → j < i → P j = false) → P i = true → firstFrom P k s = some i
  | 0, s, i, h1, h2, _, _ => by omega
  | k + 1, s, i, h1, h2, h3, h4 => by
    unfold firstFrom
    by_cases e : s = i
    · subst e; rw [if_pos h4]
    · rw [if_neg (by rw [h3 s (Nat.le_refl _) (by omega)]; simp)]
      exact firstFrom_some k (s + 1) i (by omega) (by omega) (fun j a b => h3 j (by omega) b) h4
theorem firstFrom_none {P : Nat → Bool} : ∀ (k s : Nat), (∀ j, s ≤ j → j < s + k → P j = false) → firstFrom P k s = none
  | 0, s, _ => rfl
  | k + 1, s, h => by
    unfold firstFrom
    rw [if_neg (by rw [h s (Nat.le_refl _) (by omega)]; simp)]
    exact firstFrom_none k (s + 1) (fun j a b => h j (by omega) (by omega))
theorem firstBad_some {P : Nat → Bool} {n i : Nat} (hi : i < n) (hno : upTo (fun j => !P j) i) (hp : P i = true) : firstBad n P = some i :=
  firstFrom_some n 0 i (Nat.zero_le _) (by omega) (fun j _ h => by simpa using hno j h) hp
theorem firstBad_none {P : Nat → Bool} {n : Nat} (hno : upTo (fun j => !P j) n) : firstBad n P = none := firstFrom_none n 0 (fun j _ h => by simpa using hno j (by omega))
theorem firstBad_congr {P Q : Nat → Bool} {n : Nat} (h : ∀ i, i < n → P i = Q i) : firstBad n P = firstBad n Q := by
  have : ∀ (k s : Nat), s + k ≤ n → firstFrom P k s = firstFrom Q k s := by
    intro k
    induction k with
    | zero => intro s _; rfl
    | succ k ih =>
      intro s hs
      unfold firstFrom
      rw [h s (by omega), ih (s + 1) (by omega)]
  exact this n 0 (by omega)
/-- Is the thing at place i not right, or has it the name of one ahead, or is it one too many? -/
def badAt (names : List ByteArray) (rights : List Bool) (most : Int) (i : Nat) : Bool := decide ((i : Int) = most) || (!rights.getD i true || decide (names.getD i ByteArray.empty ∈ names.take i))
def firstOf (o : Option Nat) : Int := match o with | some i => i | none => -1

set_option maxRecDepth 100000 in
set_option maxHeartbeats 4000000 in
theorem first_ref (names : List ByteArray) (rights : List Bool) (hlen : rights.length = names.length) (most : Int) (A B : Option Addr) (c d m : Nat) (hmm : rights.length = m) (w : World) (hA : Kd.string.C w A names.length names) (hB : Kd.bool.C w B rights.length rights)
    (r : Int) (h : firstOf (firstBad names.length (badAt names rights most)) = r) :
    Calls Tryz.prog 154 #[.slice A names.length c, .slice B m d, .int .i64 most] w fun e w' => e = .returned (.int .i64 r) ∧ Below w.heap.size w w' := by
  subst h
  have hm := Kd.C_max hA
  have HA := Aside0.mk hA
  have HB := Aside0.mk hB
  clear hA hB
  go_enter Tryz.func154, Tryz.ntmps154
  go_wp2
  go_loopw [7] (fun v wr => ∃ i : Nat, v = .int .i64 i ∧ i ≤ names.length ∧ Aside0 (upTo (fun j => !badAt names rights most j) i) ∧ Aside0 (Below w.heap.size w wr)) (fun v _ => names.length - (intOf v).toNat)
  case atStart => exact ⟨0, rfl, by omega, ⟨upTo_zero _⟩, ⟨Below.refl _ _⟩⟩
  case round =>
    obtain ⟨i, rfl, hi, hno, hb⟩ := hrel
    by_cases hlt : i < names.length
    · have hx : names[i]? = some names[i] := List.getElem?_eq_getElem hlt
      generalize names[i] = x at hx
      have hrt : i < rights.length := by omega
      have hy : rights[i]? = some rights[i] := List.getElem?_eq_getElem hrt
      generalize rights[i] = y at hy
      obtain ⟨ad, rfl, h0⟩ := el_str (Kd.C_below HA.out hb.out) i x hx
      obtain ⟨ad2, rfl, h2⟩ := el_boo (Kd.C_below HB.out hb.out) i y hy
      have hsp : badAt names rights most i = (decide ((i : Int) = most) || (!y || decide (x ∈ names.take i))) := by simp only [badAt, getD_of hx, getD_of hy]
      replace hsp := Aside0.mk hsp
      have HX := Aside0.mk hx
      clear hx hy
      by_cases c1 : (i : Int) = most
      · have e1 : ((i : Int) == most) = true := beq_iff_eq.2 c1
        replace c1 := Aside0.mk c1
        go_wp2
        go_ret
        exact ⟨ret_i64 (by rw [firstBad_some hlt hno.out (by rw [hsp.out, decide_eq_true c1.out]; rfl)]; rfl), hb.out⟩
      have e1 : ((i : Int) == most) = false := beq_eq_false_iff_ne.2 c1
      replace hsp := Aside0.mk (hsp.out.trans (show _ = (!y || decide (x ∈ names.take i)) by rw [decide_eq_false c1]; rfl))
      replace c1 := Aside0.mk c1
      cases y
      · go_wp2
        go_ret
        exact ⟨ret_i64 (by rw [firstBad_some hlt hno.out (by rw [hsp.out]; rfl)]; rfl), hb.out⟩
      replace hsp := Aside0.mk (hsp.out.trans (show _ = decide (x ∈ names.take i) by rfl))
      go_wp2_with fail
      clear h0 h2
      go_loopw [8] (fun v wr => ∃ k : Nat, v = .int .i64 k ∧ k ≤ i ∧ Aside0 (¬ x ∈ names.take k) ∧ Aside0 (Below w.heap.size w wr)) (fun v _ => i - (intOf v).toNat)
      case atStart => exact ⟨0, rfl, by omega, ⟨by simp⟩, hb⟩
      case round =>
        obtain ⟨k, rfl, hk, hnn, hb⟩ := hrel
        by_cases hkt : k < i
        · have hkl : k < names.length := by omega
          have hz : names[k]? = some names[k] := List.getElem?_eq_getElem hkl
          generalize names[k] = z at hz
          obtain ⟨ad3, e3, h0⟩ := el_str (Kd.C_below HA.out hb.out) i x HX.out
          cases e3
          obtain ⟨ad4, e4, h2⟩ := el_str (Kd.C_below HA.out hb.out) k z hz
          cases e4
          replace hz := Aside0.mk hz
          by_cases he : z = x
          · have hq : (z.toList == x.toList) = true := by rw [str_eqB]; exact decide_eq_true he
            have hq2 : decide (z = x) = true := decide_eq_true he
            replace he := Aside0.mk he
            go_wp2
            go_big_quiet (fail)
            go_wp2
            all_goals go_ret
            all_goals exact ⟨ret_i64 (by rw [firstBad_some hlt hno.out (by rw [hsp.out]; exact decide_eq_true (by rw [← he.out]; exact List.mem_take_iff_getElem.2 ⟨k, by omega, (List.getElem?_eq_some_iff.1 hz.out).2⟩))]; rfl), pw_below_drewN hb.out _⟩
          · have hq : (z.toList == x.toList) = false := by rw [str_eqB]; exact decide_eq_false he
            have hq2 : decide (z = x) = false := decide_eq_false he
            replace he := Aside0.mk he
            go_wp2
            go_big_quiet (fail)
            go_wp2
            go_roundw
            case rel => exact ⟨k + 1, by go_num, by omega, ⟨by rw [List.take_add_one, hz.out, List.mem_append]; exact fun h => h.elim hnn.out (fun h => by simp at h; exact he.out h.symm)⟩, ⟨pw_below_drewN hb.out _⟩⟩
            case measure => simp [intOf]; omega
        · obtain rfl : k = i := by omega
          go_wp2
          go_roundw
          case rel => exact ⟨k + 1, by go_num, by omega, ⟨upTo_snoc hno.out (by rw [hsp.out, decide_eq_false hnn.out]; rfl)⟩, hb⟩
          case measure => simp [intOf]; omega
    · obtain rfl : i = names.length := by omega
      go_wp2
      go_ret
      exact ⟨ret_i64 (by rw [firstBad_none hno.out]; rfl), hb.out⟩
end Go.Proofs.YthalgemkblkhgaaGreat
namespace Go.Proofs.YthalgemkblkhgaaGreat
open Go.RowKit Go.Proofs.YthalgemkblkhgaaGreatW.PrintWords Go.Proofs.YthalgemkblkhgaaGreatW.PrintLast
set_option linter.unusedVariables false
set_option linter.unusedSimpArgs false

def ruleOk (n : Int) (x : Rule) : Bool := (inR 1 14 x.f0 || inR 21 24 x.f0) && (numsOk x.f0 x.f2 x.f3 && (decide (2 ≤ x.f1.length) && (decide (x.f1.length ≤ 12) && (distOk n x.f1 && (if x.f4 = true then decide (x.f5 = 0) else inR 1 1000 x.f5)))))

set_option maxRecDepth 100000 in
set_option maxHeartbeats 2000000 in
theorem ruleOk_calls (n : Int) (x : Rule) (hx : wfRule x) (cs : List Value) (w : World) (hK : kRule.K w x cs) (r : Bool) (h : ruleOk n x = r) :
    Calls Tryz.prog 150 #[.int .i64 n, .agg cs.toArray] w fun e w' => e = .returned (.bool r) ∧ Below w.heap.size w w' := by
  subst h
  obtain ⟨A1, c1, rfl, l1, g1⟩ := kRule_open hK
  clear hK
  have hm := Kd.C_max g1
  have HC := Aside0.mk g1
  clear g1
  have hu1 := Tryz.underlying133
  go_enter Tryz.func150, Tryz.ntmps150
  go_wp2_with fail
  have hkn : ∀ b, (inR 1 14 x.f0 || inR 21 24 x.f0) = b → ruleOk n x = (b && (numsOk x.f0 x.f2 x.f3 && (decide (2 ≤ x.f1.length) && (decide (x.f1.length ≤ 12) && (distOk n x.f1 && (if x.f4 = true then decide (x.f5 = 0) else inR 1 1000 x.f5)))))) := fun b h => by rw [ruleOk, h]
  replace hkn := Aside0.mk hkn
  cases h1 : inR 1 14 x.f0
  · replace h1 := Aside0.mk h1
    (refine (pairKnown_calls _ _ h1.out _).mono ?_; rintro e w' ⟨rfl, rfl⟩; go_wp2_with fail)
    cases h2 : inR 21 24 x.f0
    · replace h2 := Aside0.mk h2
      (refine (manyKnown_calls _ _ h2.out _).mono ?_; rintro e w' ⟨rfl, rfl⟩; go_wp2_with fail)
      go_ret
      exact ⟨ret_bool (by rw [hkn.out false (by rw [h1.out, h2.out]; rfl)]; rfl), below1 (Below.refl _ _)⟩
    replace h2 := Aside0.mk h2
    (refine (manyKnown_calls _ _ h2.out _).mono ?_; rintro e w' ⟨rfl, rfl⟩; go_wp2_with fail)
    have hsp := Aside0.mk (hkn.out true (by rw [h1.out, h2.out]; rfl))
    cases h3 : numsOk x.f0 x.f2 x.f3
    · replace h3 := Aside0.mk h3
      (refine (nums_calls _ _ _ _ h3.out _).mono ?_; rintro e w' ⟨rfl, rfl⟩; go_wp2_with fail)
      go_ret
      exact ⟨ret_bool (by rw [hsp.out, h3.out]; rfl), below1 (Below.refl _ _)⟩
    replace h3 := Aside0.mk h3
    by_cases c2 : x.f1.length < 2
    · (refine (nums_calls _ _ _ _ h3.out _).mono ?_; rintro e w' ⟨rfl, rfl⟩; go_wp2_with fail)
      go_ret
      exact ⟨ret_bool (by rw [hsp.out, decide_eq_false (by omega : ¬ 2 ≤ x.f1.length)]; simp), below1 (Below.refl _ _)⟩
    by_cases c12 : 12 < x.f1.length
    · (refine (nums_calls _ _ _ _ h3.out _).mono ?_; rintro e w' ⟨rfl, rfl⟩; go_wp2_with fail)
      go_ret
      exact ⟨ret_bool (by rw [hsp.out, decide_eq_false (by omega : ¬ x.f1.length ≤ 12)]; simp), below1 (Below.refl _ _)⟩
    (refine (nums_calls _ _ _ _ h3.out _).mono ?_; rintro e w' ⟨rfl, rfl⟩; go_wp2_with fail)
    replace hsp := Aside0.mk (hsp.out.trans (show _ = (distOk n x.f1 && (if x.f4 = true then decide (x.f5 = 0) else inR 1 1000 x.f5)) by rw [h3.out, decide_eq_true (by omega : 2 ≤ x.f1.length), decide_eq_true (by omega : x.f1.length ≤ 12)]; rfl))
    cases h4 : distOk n x.f1
    · replace h4 := Aside0.mk h4
      (refine (distinct_calls n x.f1 hx.h1 _ _ _ (Kd.C_below HC.out (below1 (Below.refl _ _))) _ h4.out).mono ?_; rintro e w1 ⟨rfl, hb⟩; have hc_hb := (bcell hb).1; go_wp2_with fail)
      go_ret
      exact ⟨ret_bool (by rw [hsp.out, h4.out]; rfl), below1 hb⟩
    replace h4 := Aside0.mk h4
    have e4 : x.f4 = x.f4 := rfl
    cases h5 : x.f4
    · replace h5 := Aside0.mk h5
      by_cases c5 : x.f5 < 1
      · (refine (distinct_calls n x.f1 hx.h1 _ _ _ (Kd.C_below HC.out (below1 (Below.refl _ _))) _ h4.out).mono ?_; rintro e w1 ⟨rfl, hb⟩; have hc_hb := (bcell hb).1; go_wp2_with fail)
        go_ret
        exact ⟨ret_bool (by rw [hsp.out, h4.out, h5.out, inR_no1 c5]; rfl), below1 hb⟩
      (refine (distinct_calls n x.f1 hx.h1 _ _ _ (Kd.C_below HC.out (below1 (Below.refl _ _))) _ h4.out).mono ?_; rintro e w1 ⟨rfl, hb⟩; have hc_hb := (bcell hb).1; go_wp2_with fail)
      have hin : inR 0 1000 x.f5 = inR 1 1000 x.f5 := by rw [inR, inR, decide_eq_true (by omega : 0 ≤ x.f5), decide_eq_true (by omega : 1 ≤ x.f5)]
      replace hin := Aside0.mk hin
      cases h6 : inR 0 1000 x.f5
      all_goals
        replace h6 := Aside0.mk h6
        (refine (pcost_calls _ _ h6.out _).mono ?_; rintro e w' ⟨rfl, rfl⟩; go_wp2_with fail)
        go_ret
        exact ⟨ret_bool (by rw [hsp.out, h4.out, h5.out, ← hin.out, h6.out]; rfl), below1 hb⟩
    · replace h5 := Aside0.mk h5
      (refine (distinct_calls n x.f1 hx.h1 _ _ _ (Kd.C_below HC.out (below1 (Below.refl _ _))) _ h4.out).mono ?_; rintro e w1 ⟨rfl, hb⟩; have hc_hb := (bcell hb).1; go_wp2_with fail)
      go_ret
      exact ⟨ret_bool (by rw [hsp.out, h4.out, h5.out]; simp [beq_dec]), below1 hb⟩
  · replace h1 := Aside0.mk h1
    (refine (pairKnown_calls _ _ h1.out _).mono ?_; rintro e w' ⟨rfl, rfl⟩; go_wp2_with fail)
    have hsp := Aside0.mk (hkn.out true (by rw [h1.out]; rfl))
    cases h3 : numsOk x.f0 x.f2 x.f3
    · replace h3 := Aside0.mk h3
      (refine (nums_calls _ _ _ _ h3.out _).mono ?_; rintro e w' ⟨rfl, rfl⟩; go_wp2_with fail)
      go_ret
      exact ⟨ret_bool (by rw [hsp.out, h3.out]; rfl), below1 (Below.refl _ _)⟩
    replace h3 := Aside0.mk h3
    by_cases c2 : x.f1.length < 2
    · (refine (nums_calls _ _ _ _ h3.out _).mono ?_; rintro e w' ⟨rfl, rfl⟩; go_wp2_with fail)
      go_ret
      exact ⟨ret_bool (by rw [hsp.out, decide_eq_false (by omega : ¬ 2 ≤ x.f1.length)]; simp), below1 (Below.refl _ _)⟩
    by_cases c12 : 12 < x.f1.length
    · (refine (nums_calls _ _ _ _ h3.out _).mono ?_; rintro e w' ⟨rfl, rfl⟩; go_wp2_with fail)
      go_ret
      exact ⟨ret_bool (by rw [hsp.out, decide_eq_false (by omega : ¬ x.f1.length ≤ 12)]; simp), below1 (Below.refl _ _)⟩
    (refine (nums_calls _ _ _ _ h3.out _).mono ?_; rintro e w' ⟨rfl, rfl⟩; go_wp2_with fail)
    replace hsp := Aside0.mk (hsp.out.trans (show _ = (distOk n x.f1 && (if x.f4 = true then decide (x.f5 = 0) else inR 1 1000 x.f5)) by rw [h3.out, decide_eq_true (by omega : 2 ≤ x.f1.length), decide_eq_true (by omega : x.f1.length ≤ 12)]; rfl))
    cases h4 : distOk n x.f1
    · replace h4 := Aside0.mk h4
      (refine (distinct_calls n x.f1 hx.h1 _ _ _ (Kd.C_below HC.out (below1 (Below.refl _ _))) _ h4.out).mono ?_; rintro e w1 ⟨rfl, hb⟩; have hc_hb := (bcell hb).1; go_wp2_with fail)
      go_ret
      exact ⟨ret_bool (by rw [hsp.out, h4.out]; rfl), below1 hb⟩
    replace h4 := Aside0.mk h4
    have e4 : x.f4 = x.f4 := rfl
    cases h5 : x.f4
    · replace h5 := Aside0.mk h5
      by_cases c5 : x.f5 < 1
      · (refine (distinct_calls n x.f1 hx.h1 _ _ _ (Kd.C_below HC.out (below1 (Below.refl _ _))) _ h4.out).mono ?_; rintro e w1 ⟨rfl, hb⟩; have hc_hb := (bcell hb).1; go_wp2_with fail)
        go_ret
        exact ⟨ret_bool (by rw [hsp.out, h4.out, h5.out, inR_no1 c5]; rfl), below1 hb⟩
      (refine (distinct_calls n x.f1 hx.h1 _ _ _ (Kd.C_below HC.out (below1 (Below.refl _ _))) _ h4.out).mono ?_; rintro e w1 ⟨rfl, hb⟩; have hc_hb := (bcell hb).1; go_wp2_with fail)
      have hin : inR 0 1000 x.f5 = inR 1 1000 x.f5 := by rw [inR, inR, decide_eq_true (by omega : 0 ≤ x.f5), decide_eq_true (by omega : 1 ≤ x.f5)]
      replace hin := Aside0.mk hin
      cases h6 : inR 0 1000 x.f5
      all_goals
        replace h6 := Aside0.mk h6
        (refine (pcost_calls _ _ h6.out _).mono ?_; rintro e w' ⟨rfl, rfl⟩; go_wp2_with fail)
        go_ret
        exact ⟨ret_bool (by rw [hsp.out, h4.out, h5.out, ← hin.out, h6.out]; rfl), below1 hb⟩
    · replace h5 := Aside0.mk h5
      (refine (distinct_calls n x.f1 hx.h1 _ _ _ (Kd.C_below HC.out (below1 (Below.refl _ _))) _ h4.out).mono ?_; rintro e w1 ⟨rfl, hb⟩; have hc_hb := (bcell hb).1; go_wp2_with fail)
      go_ret
      exact ⟨ret_bool (by rw [hsp.out, h4.out, h5.out]; simp [beq_dec]), below1 hb⟩

end Go.Proofs.YthalgemkblkhgaaGreat
