/- The document's size, Ahead, Has, Same of chapter 27. -/
import Derived.Test.YthalgemkblkhgaaGreatQMS
import Derived.Test.YthalgemkblkhgaaGreatQML
import Derived.Test.YthalgemkblkhgaaGreatQMA
namespace Go.Proofs.YthalgemkblkhgaaGreat
open Go.Proofs Go.RowKit Go.Proofs.YthalgemkblkhgaaGreatW.PrintWords Go.Proofs.YthalgemkblkhgaaGreatW.PrintLast
set_option linter.unusedVariables false
set_option linter.unusedSimpArgs false

set_option maxHeartbeats 400000 in
theorem rsize_calls (l : Int) (h0 : wfInt .i64 l) (r : Int) (hr : (l.natAbs : Int) = r) (w : World) :
    Calls Tryz.prog 53 #[.int .i64 l] w fun e w' => e = .returned (.int .u64 r) ∧ w = w' := by
  subst hr
  have hi := wf_i64 h0
  by_cases h : l < 0
  · go_enter Tryz.func53, Tryz.ntmps53
    go_wp2
    go_ret
    exact ⟨by show Ending.returned (.int .u64 _) = _; congr 2; omega, rfl⟩
  · go_enter Tryz.func53, Tryz.ntmps53
    go_wp2
    go_ret
    exact ⟨by show Ending.returned (.int .u64 _) = _; congr 2; omega, rfl⟩
set_option maxHeartbeats 1000000 in
theorem ahead_ref (a b : Int) (ha : wfInt .i64 a) (hb : wfInt .i64 b) (r : Bool) (hr : ahead a b = r) (w : World) :
    Calls Tryz.prog 12 #[.int .i64 a, .int .i64 b] w fun e w' => e = .returned (.bool r) ∧ w = w' := by
  subst hr
  have HA := Aside0.mk ha
  have HB := Aside0.mk hb
  obtain ⟨x, hx⟩ : ∃ x : Nat, a.natAbs = x := ⟨_, rfl⟩
  obtain ⟨y, hy⟩ : ∃ y : Nat, b.natAbs = y := ⟨_, rfl⟩
  have hsp := Aside0.mk (show ahead a b = (decide (x < y) || (decide (x = y) && decide (a < b))) by rw [ahead, hx, hy])
  have HX := Aside0.mk hx
  have HY := Aside0.mk hy
  clear ha hb hx hy
  by_cases h1 : x < y
  · go_enter Tryz.func12, Tryz.ntmps12
    go_wp2_with fail
    (refine (rsize_calls a HA.out x (by rw [HX.out]) _).mono ?_; rintro e w' ⟨rfl, rfl⟩; go_wp2_with fail)
    (refine (rsize_calls b HB.out y (by rw [HY.out]) _).mono ?_; rintro e w' ⟨rfl, rfl⟩; go_wp2_with fail)
    go_ret
    exact ⟨ret_bool (by rw [hsp.out]; simp [h1]), rfl⟩
  by_cases h2 : x = y
  · subst h2
    have hd : ((x : Int) == x) = true := by simp
    go_enter Tryz.func12, Tryz.ntmps12
    go_wp2_with fail
    (refine (rsize_calls a HA.out x (by rw [HX.out]) _).mono ?_; rintro e w' ⟨rfl, rfl⟩; go_wp2_with fail)
    (refine (rsize_calls b HB.out x (by rw [HY.out]) _).mono ?_; rintro e w' ⟨rfl, rfl⟩; go_wp2_with fail)
    (refine (rsize_calls a HA.out x (by rw [HX.out]) _).mono ?_; rintro e w' ⟨rfl, rfl⟩; go_wp2_with fail)
    (refine (rsize_calls b HB.out x (by rw [HY.out]) _).mono ?_; rintro e w' ⟨rfl, rfl⟩; go_wp2_with fail)
    go_ret
    exact ⟨ret_bool (by rw [hsp.out]; simp), rfl⟩
  · have hd : ((x : Int) == y) = false := beq_eq_false_iff_ne.2 (by omega)
    go_enter Tryz.func12, Tryz.ntmps12
    go_wp2_with fail
    (refine (rsize_calls a HA.out x (by rw [HX.out]) _).mono ?_; rintro e w' ⟨rfl, rfl⟩; go_wp2_with fail)
    (refine (rsize_calls b HB.out y (by rw [HY.out]) _).mono ?_; rintro e w' ⟨rfl, rfl⟩; go_wp2_with fail)
    (refine (rsize_calls a HA.out x (by rw [HX.out]) _).mono ?_; rintro e w' ⟨rfl, rfl⟩; go_wp2_with fail)
    (refine (rsize_calls b HB.out y (by rw [HY.out]) _).mono ?_; rintro e w' ⟨rfl, rfl⟩; go_wp2_with fail)
    go_ret
    exact ⟨ret_bool (by rw [hsp.out]; simp [h1, h2]), rfl⟩
set_option maxHeartbeats 1000000 in
theorem hass_ref (l : List Int) (A : Option Addr) (n c : Nat) (hn : l.length = n) (y : Int) (w : World) (hA : (Kd.int .i64).C w A l.length l) (r : Bool) (hr : decide (y ∈ l) = r) :
    Calls Tryz.prog 15 #[.slice A n c, .int .i64 y] w fun e w' => e = .returned (.bool r) ∧ w = w' := by
  subst hr hn
  have hmx := Kd.C_max hA
  have HA := Aside0.mk hA
  clear hA
  go_enter Tryz.func15, Tryz.ntmps15
  go_wp2_with fail
  go_loopw [5] (fun v wr => ∃ i : Nat, v = .int .i64 i ∧ i ≤ l.length ∧ Aside0 (∀ j, j < i → l[j]? ≠ some y) ∧ Aside0 (wr = w)) (fun v _ => l.length - (intOf v).toNat)
  case atStart => exact ⟨0, rfl, by omega, ⟨fun j h => by omega⟩, ⟨rfl⟩⟩
  case round =>
    obtain ⟨i, rfl, hi, hno, hw⟩ := hrel
    obtain rfl := hw.out
    by_cases hlt : i < l.length
    · obtain ⟨x, hx⟩ : ∃ x, l[i]? = some x := ⟨_, List.getElem?_eq_getElem hlt⟩
      obtain ⟨ad, rfl, e1⟩ := el_int HA.out i x hx
      have HX := Aside0.mk hx
      clear hx
      by_cases hxy : x = y
      · subst hxy
        go_wp2_with fail
        go_ret
        exact ⟨ret_bool (decide_eq_true (List.mem_of_getElem? HX.out)).symm, rfl⟩
      · have hd : (x == y) = false := beq_eq_false_iff_ne.2 hxy
        have hxy' := Aside0.mk hxy
        go_wp2_with fail
        go_roundw
        case rel => exact ⟨i + 1, by go_num, by omega, ⟨fun j hj e => by
          by_cases h : j = i
          · subst h; rw [HX.out] at e; cases e; exact hxy'.out rfl
          · exact hno.out j (by omega) e⟩, ⟨by first | rfl | trivial⟩⟩
        case measure => simp [intOf]; omega
    · obtain rfl : i = l.length := by omega
      go_wp2_with fail
      go_ret
      exact ⟨ret_bool (decide_eq_false (fun h => by
        obtain ⟨j, hj⟩ := List.mem_iff_getElem?.1 h
        exact hno.out j (List.getElem?_eq_some_iff.1 hj).1 hj)).symm, rfl⟩
set_option maxHeartbeats 1000000 in
theorem same_ref (a b : List Int) (A B : Option Addr) (n m c c' : Nat) (hn : a.length = n) (hm : b.length = m) (w : World) (hA : (Kd.int .i64).C w A a.length a) (hB : (Kd.int .i64).C w B b.length b) (r : Bool) (hr : decide (a = b) = r) :
    Calls Tryz.prog 13 #[.slice A n c, .slice B m c'] w fun e w' => e = .returned (.bool r) ∧ Below w.heap.size w w' := by
  subst hr hn hm
  have hmx := Kd.C_max hA
  have HA := Aside0.mk hA
  have HB := Aside0.mk hB
  clear hA hB
  by_cases hl : a.length = b.length
  · have hl' := Aside0.mk hl
    rw [← hl]
    clear hl
    go_enter Tryz.func13, Tryz.ntmps13
    go_wp2_with fail
    go_loopw [5] (fun v wr => ∃ i : Nat, v = .int .i64 i ∧ i ≤ a.length ∧ Aside0 (∀ j, j < i → a[j]? = b[j]?) ∧ Aside0 (Below w.heap.size w wr)) (fun v _ => a.length - (intOf v).toNat)
    case atStart => exact ⟨0, rfl, by omega, ⟨fun j h => by omega⟩, ⟨Below.refl _ _⟩⟩
    case round =>
      obtain ⟨i, rfl, hi, hno, hb⟩ := hrel
      by_cases hlt : i < a.length
      · obtain ⟨x, hx⟩ : ∃ x, a[i]? = some x := ⟨_, List.getElem?_eq_getElem hlt⟩
        obtain ⟨y, hy⟩ : ∃ y, b[i]? = some y := ⟨_, List.getElem?_eq_getElem (by have := hl'.out; omega)⟩
        obtain ⟨ad, rfl, e1⟩ := el_int (Kd.C_below HA.out hb.out) i x hx
        obtain ⟨ad', rfl, e2⟩ := el_int (Kd.C_below HB.out hb.out) i y hy
        have HX := Aside0.mk hx
        have HY := Aside0.mk hy
        clear hx hy
        by_cases hxy : x = y
        · subst hxy
          go_wp2
          go_big_quiet (fail)
          go_wp2
          go_roundw
          case rel => exact ⟨i + 1, by go_num, by omega, ⟨fun j hj => by
            by_cases h : j = i
            · subst h; rw [HX.out, HY.out]
            · exact hno.out j (by omega)⟩, ⟨pw_below_drewN hb.out _⟩⟩
          case measure => simp [intOf]; omega
        · have hd : (x != y) = true := bne_iff_ne.2 hxy
          have hxy' := Aside0.mk hxy
          go_wp2
          go_big_quiet (fail)
          go_wp2
          all_goals
            go_ret
            exact ⟨ret_bool (decide_eq_false (fun h => by
              have e := HX.out
              rw [h, HY.out] at e
              cases e
              exact hxy'.out rfl)).symm, pw_below_drewN hb.out _⟩
      · obtain rfl : i = a.length := by omega
        go_wp2_with fail
        go_ret
        exact ⟨ret_bool (decide_eq_true (List.ext_getElem? (fun j => by
          rcases Nat.lt_or_ge j a.length with h | h
          · exact hno.out j h
          · rw [List.getElem?_eq_none h, List.getElem?_eq_none (by have := hl'.out; omega)]))).symm, hb.out⟩
  · have hd : ((a.length : Int) != b.length) = true := bne_iff_ne.2 (by omega)
    go_enter Tryz.func13, Tryz.ntmps13
    go_wp2_with fail
    all_goals
      go_ret
      exact ⟨ret_bool (decide_eq_false (fun h => hl (by rw [h]))).symm, Below.refl _ _⟩
end Go.Proofs.YthalgemkblkhgaaGreat
