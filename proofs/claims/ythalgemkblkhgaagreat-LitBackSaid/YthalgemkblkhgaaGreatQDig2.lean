/- digits.Print and ParseWord: what they come to, for any number and any text. -/
import Derived.Test.YthalgemkblkhgaaGreatQDig
import Derived.Test.YthalgemkblkhgaaGreatQMA
namespace Go.Proofs.YthalgemkblkhgaaGreat
open Go.Proofs Go.RowKit Go.Proofs.YthalgemkblkhgaaGreatW.PrintWords Go.Proofs.YthalgemkblkhgaaGreatW.PrintLast
set_option linter.unusedVariables false
set_option linter.unusedSimpArgs false

/-- The text of an int. -/
def intL (n : Int) : List UInt8 := if n < 0 then 45 :: decL n.natAbs else decL n.natAbs
theorem u64_w (n : Int) : IntKind.u64.wrap n = n % 18446744073709551616 := by
  simp [IntKind.wrap, IntKind.bits, IntKind.signed]
set_option maxRecDepth 100000 in
set_option maxHeartbeats 1000000 in
theorem print_calls (n : Int) (hn : wfInt .i64 n) (w : World) :
    Calls Tryz.prog 65 #[.int .i64 n] w fun e w' => e = .returned (.string (strB (intL n))) ∧ Below w.heap.size w w' := by
  have hi := wf_i64 hn
  by_cases h0 : n < 0
  · obtain ⟨k, rfl⟩ : ∃ k : Nat, n = -(k : Int) := ⟨n.natAbs, by omega⟩
    have hk : k < 18446744073709551616 := by omega
    have hsp : intL (-(k : Int)) = 45 :: decL k := by rw [intL, if_pos h0, show (-(k : Int)).natAbs = k from by omega]
    rw [hsp]
    have hcat := strB_append [45] (decL k)
    have hcat2 : (⟨#[45]⟩ : ByteArray) ++ strB (decL k) = strB (45 :: decL k) := hcat
    have hl := decL_len 19 k (by omega)
    have hsz := strB_size (decL k)
    have hwr : IntKind.u64.wrap (-IntKind.u64.wrap (-(k : Int))) = k := by rw [u64_w, u64_w]; omega
    clear hcat
    go_enter Tryz.func65, Tryz.ntmps65
    go_wp2_with fail
    refine (word_calls k hk w).mono ?_
    rintro e w1 ⟨rfl, hb⟩
    have hb := Aside0.mk hb
    go_wp2_with fail
    go_ret
    exact ⟨rfl, hb.out⟩
  · obtain ⟨k, rfl⟩ : ∃ k : Nat, n = (k : Int) := ⟨n.natAbs, by omega⟩
    have hk : k < 18446744073709551616 := by omega
    have hsp : intL (k : Int) = decL k := by rw [intL, if_neg h0, show ((k : Int)).natAbs = k from by omega]
    rw [hsp]
    go_enter Tryz.func65, Tryz.ntmps65
    go_wp2_with fail
    refine (word_calls k hk w).mono ?_
    rintro e w1 ⟨rfl, hb⟩
    have hb := Aside0.mk hb
    go_wp2_with fail
    go_ret
    exact ⟨rfl, hb.out⟩
theorem strB_at (l : List UInt8) (i : Nat) (h : i < (strB l).size) (x : UInt8) (hx : l[i]? = some x) : (strB l)[i]'h = x := by
  obtain ⟨h1, rfl⟩ := List.getElem?_eq_some_iff.1 hx
  rfl
theorem strB_nil (l : List UInt8) : (strB l).toList = l := by
  rw [ByteArray.toList_eq]
  rfl
theorem not_isDig {x : UInt8} : isDig x = true ↔ ¬ ((x.toNat : Int) < 48) ∧ ¬ ((57 : Int) < x.toNat) := by
  unfold isDig
  simp
  omega
set_option maxRecDepth 100000 in
set_option maxHeartbeats 2000000 in
theorem shaped_calls (l : List UInt8) (hl : l.length ≤ 1000000000) (r : Bool) (hr : shapedL l = r) (w : World) :
    Calls Tryz.prog 113 #[.string (strB l)] w fun e w' => e = .returned (.bool r) ∧ w = w' := by
  subst hr
  cases l with
  | nil =>
    have hsz := strB_size []
    have hlist := strB_nil []
    go_enter Tryz.func113, Tryz.ntmps113
    go_wp2_with fail
    go_ret
    exact ⟨rfl, rfl⟩
  | cons b t =>
    obtain ⟨m, hm⟩ : ∃ m, m = (b :: t).length := ⟨_, rfl⟩
    have hp : 0 < m := by rw [hm]; simp
    have hsz : (strB (b :: t)).size = m := by rw [strB_size, hm]
    have hx0 := strB_at (b :: t) 0 (by rw [hsz]; exact hp) b rfl
    have hne : (strB (b :: t)).toList.isEmpty = false := by rw [strB_nil]; rfl
    have hsp := Aside0.mk (show shapedL (b :: t) = ((!(b == 48) || t.isEmpty) && (b :: t).all isDig) from rfl)
    have hbz : ((b.toNat : Int) == 48) = (b == 48) := by
      rw [Bool.eq_iff_iff, beq_iff_eq, beq_iff_eq]
      constructor
      · intro h; exact UInt8.toNat_inj.1 (by rw [show (48 : UInt8).toNat = 48 from rfl]; omega)
      · intro h; rw [h]; rfl
    have htm : t.isEmpty = decide (m = 1) := by rw [hm]; cases t <;> simp
    rw [← hm] at hl
    replace hm := Aside0.mk hm
    have hp2 : (0 : Int) < m := by omega
    cases hb : (b == 48)
    · rw [hb] at hbz
      have hhead : Aside0 ((!(b == 48) || t.isEmpty) = true) := ⟨by rw [hb]; rfl⟩
      replace hb := Aside0.mk hb
      clear htm
      go_enter Tryz.func113, Tryz.ntmps113
      go_wp2_with fail
      go_loopw [18] (fun v wr => ∃ i : Nat, v = .int .i64 i ∧ i ≤ m ∧ wr = w ∧ Aside0 (∀ (j : Nat) (c : UInt8), j < i → (b :: t)[j]? = some c → isDig c = true)) (fun v _ => m - (intOf v).toNat)
      case atStart => exact ⟨0, rfl, by omega, by first | rfl | trivial, ⟨fun j c h => by omega⟩⟩
      case round =>
        obtain ⟨i, rfl, hi, rfl, hno⟩ := hrel
        by_cases hlt : i < m
        · obtain ⟨x, hx⟩ : ∃ x, (b :: t)[i]? = some x := ⟨_, List.getElem?_eq_getElem (by rw [← hm.out]; exact hlt)⟩
          have hxi := strB_at (b :: t) i (by rw [hsz]; exact hlt) x hx
          have HX := Aside0.mk hx
          clear hx
          cases hd : isDig x
          · have hd2 : ((x.toNat : Int) < 48) ∨ ((57 : Int) < x.toNat) := by
              apply Classical.byContradiction
              intro h
              rw [not_isDig.2 ⟨fun q => h (.inl q), fun q => h (.inr q)⟩] at hd
              cases hd
            have hfin : Aside0 (shapedL (b :: t) = false) := ⟨by
              rw [hsp.out]
              have : (b :: t).all isDig = false := by
                rw [Bool.eq_false_iff]
                intro q
                rw [List.all_eq_true] at q
                rw [q x (List.mem_of_getElem? HX.out)] at hd
                cases hd
              rw [this, Bool.and_false]⟩
            replace hd := Aside0.mk hd
            by_cases h48 : (x.toNat : Int) < 48
            · go_wp2_with fail
              go_ret
              exact ⟨ret_bool hfin.out.symm, rfl⟩
            · have h57 : (57 : Int) < x.toNat := by omega
              go_wp2_with fail
              go_ret
              exact ⟨ret_bool hfin.out.symm, rfl⟩
          · obtain ⟨h48, h57⟩ := not_isDig.1 hd
            replace hd := Aside0.mk hd
            go_wp2_with fail
            go_roundw
            case rel => exact ⟨i + 1, by go_num, by omega, by first | rfl | trivial, ⟨fun j c hj hc => by
              by_cases e : j = i
              · subst e; rw [HX.out] at hc; cases hc; exact hd.out
              · exact hno.out j c (by omega) hc⟩⟩
            case measure => simp [intOf]; omega
        · have hfin : Aside0 (shapedL (b :: t) = true) := ⟨by
            rw [hsp.out, hhead.out, Bool.true_and, List.all_eq_true]
            intro c hc
            obtain ⟨j, hj⟩ := List.mem_iff_getElem?.1 hc
            exact hno.out j c (by have := (List.getElem?_eq_some_iff.1 hj).1; rw [← hm.out] at this; omega) hj⟩
          go_wp2_with fail
          go_ret
          exact ⟨ret_bool hfin.out.symm, rfl⟩
    · rw [hb] at hbz
      by_cases h1 : 1 < m
      · have hd1 : decide ((1 : Int) < m) = true := decide_eq_true (by omega)
        have hfin : Aside0 (shapedL (b :: t) = false) := ⟨by rw [hsp.out, hb, htm, decide_eq_false (by omega)]; rfl⟩
        replace hb := Aside0.mk hb
        clear htm
        go_enter Tryz.func113, Tryz.ntmps113
        go_wp2_with fail
        go_ret
        exact ⟨ret_bool hfin.out.symm, rfl⟩
      · have hd1 : decide ((1 : Int) < m) = false := decide_eq_false (by omega)
        have hhead : Aside0 ((!(b == 48) || t.isEmpty) = true) := ⟨by rw [htm, decide_eq_true (by omega)]; simp⟩
        replace hb := Aside0.mk hb
        clear htm
        go_enter Tryz.func113, Tryz.ntmps113
        go_wp2_with fail
        go_loopw [18] (fun v wr => ∃ i : Nat, v = .int .i64 i ∧ i ≤ m ∧ wr = w ∧ Aside0 (∀ (j : Nat) (c : UInt8), j < i → (b :: t)[j]? = some c → isDig c = true)) (fun v _ => m - (intOf v).toNat)
        case atStart => exact ⟨0, rfl, by omega, by first | rfl | trivial, ⟨fun j c h => by omega⟩⟩
        case round =>
          obtain ⟨i, rfl, hi, rfl, hno⟩ := hrel
          by_cases hlt : i < m
          · obtain ⟨x, hx⟩ : ∃ x, (b :: t)[i]? = some x := ⟨_, List.getElem?_eq_getElem (by rw [← hm.out]; exact hlt)⟩
            have hxi := strB_at (b :: t) i (by rw [hsz]; exact hlt) x hx
            have HX := Aside0.mk hx
            clear hx
            cases hd : isDig x
            · have hd2 : ((x.toNat : Int) < 48) ∨ ((57 : Int) < x.toNat) := by
                apply Classical.byContradiction
                intro h
                rw [not_isDig.2 ⟨fun q => h (.inl q), fun q => h (.inr q)⟩] at hd
                cases hd
              have hfin : Aside0 (shapedL (b :: t) = false) := ⟨by
                rw [hsp.out]
                have : (b :: t).all isDig = false := by
                  rw [Bool.eq_false_iff]
                  intro q
                  rw [List.all_eq_true] at q
                  rw [q x (List.mem_of_getElem? HX.out)] at hd
                  cases hd
                rw [this, Bool.and_false]⟩
              replace hd := Aside0.mk hd
              by_cases h48 : (x.toNat : Int) < 48
              · go_wp2_with fail
                go_ret
                exact ⟨ret_bool hfin.out.symm, rfl⟩
              · have h57 : (57 : Int) < x.toNat := by omega
                go_wp2_with fail
                go_ret
                exact ⟨ret_bool hfin.out.symm, rfl⟩
            · obtain ⟨h48, h57⟩ := not_isDig.1 hd
              replace hd := Aside0.mk hd
              go_wp2_with fail
              go_roundw
              case rel => exact ⟨i + 1, by go_num, by omega, by first | rfl | trivial, ⟨fun j c hj hc => by
                by_cases e : j = i
                · subst e; rw [HX.out] at hc; cases hc; exact hd.out
                · exact hno.out j c (by omega) hc⟩⟩
              case measure => simp [intOf]; omega
          · have hfin : Aside0 (shapedL (b :: t) = true) := ⟨by
              rw [hsp.out, hhead.out, Bool.true_and, List.all_eq_true]
              intro c hc
              obtain ⟨j, hj⟩ := List.mem_iff_getElem?.1 hc
              exact hno.out j c (by have := (List.getElem?_eq_some_iff.1 hj).1; rw [← hm.out] at this; omega) hj⟩
            go_wp2_with fail
            go_ret
            exact ⟨ret_bool hfin.out.symm, rfl⟩
theorem valL_take {l : List UInt8} {i : Nat} {x : UInt8} (h : l[i]? = some x) : valL 0 (l.take (i + 1)) = 10 * valL 0 (l.take i) + (x.toNat - 48) := by
  rw [List.take_add_one, h, valL_append]
  rfl
theorem valL_ge (l : List UInt8) (i : Nat) : valL 0 (l.take i) ≤ valL 0 l := by
  conv => rhs; rw [← List.take_append_drop i l, valL_append]
  exact valL_mono _ _
theorem shaped_all {l : List UInt8} (h : shapedL l = true) : ∀ (i : Nat) (x : UInt8), l[i]? = some x → isDig x = true := by
  intro i x hx
  cases l with
  | nil => cases h
  | cons b t =>
    have h' : ((!(b == 48) || t.isEmpty) && (b :: t).all isDig) = true := h
    rw [Bool.and_eq_true, List.all_eq_true] at h'
    exact h'.2 x (List.mem_of_getElem? hx)
def retW (r : Int × Int) : Ending := .returned (.tuple #[.int .u64 r.1, .int .i64 r.2])
set_option maxRecDepth 100000 in
set_option maxHeartbeats 2000000 in
theorem parseword_calls (l : List UInt8) (hl : l.length ≤ 1000000000) (w : World) :
    Calls Tryz.prog 69 #[.string (strB l)] w fun e w' => e = retW (wordOf l) ∧ w = w' := by
  cases hsh : shapedL l
  · have hsp : Aside0 (wordOf l = (0, 3)) := ⟨by rw [wordOf, if_neg (by rw [hsh]; simp)]⟩
    replace hsh := Aside0.mk hsh
    go_enter Tryz.func69, Tryz.ntmps69
    go_wp2_with fail
    refine (shaped_calls l hl _ hsh.out w).mono ?_
    rintro e w1 ⟨rfl, rfl⟩
    go_wp2_with fail
    go_ret2
    exact ⟨by rw [hsp.out]; rfl, rfl⟩
  have hall := Aside0.mk (shaped_all hsh)
  have hsp : Aside0 (wordOf l = (if valL 0 l < 18446744073709551616 then (((valL 0 l : Nat) : Int), (0 : Int)) else (0, 6))) := ⟨by rw [wordOf, if_pos hsh]⟩
  replace hsh := Aside0.mk hsh
  have hsz := strB_size l
  go_enter Tryz.func69, Tryz.ntmps69
  go_wp2_with fail
  refine (shaped_calls l hl _ hsh.out w).mono ?_
  rintro e w1 ⟨rfl, rfl⟩
  go_wp2_with fail
  go_loopw [4, 12] (fun v4 v wr => ∃ (i a : Nat), v = .int .i64 i ∧ v4 = .int .u64 a ∧ i ≤ l.length ∧ a < 18446744073709551616 ∧ wr = w ∧ Aside0 (valL 0 (l.take i) = a)) (fun _ v _ => l.length - (intOf v).toNat)
  case atStart => exact ⟨0, 0, rfl, rfl, by omega, by omega, by first | rfl | trivial, ⟨rfl⟩⟩
  case round =>
    obtain ⟨i, a, rfl, rfl, hi, ha, rfl, hva⟩ := hrel
    by_cases hlt : i < l.length
    · obtain ⟨x, hx⟩ : ∃ x, l[i]? = some x := ⟨_, List.getElem?_eq_getElem hlt⟩
      have hxi := strB_at l i (by rw [hsz]; exact hlt) x hx
      obtain ⟨h48, h57⟩ := not_isDig.1 (hall.out i x hx)
      obtain ⟨d, hd⟩ : ∃ d : Nat, x.toNat = 48 + d := ⟨x.toNat - 48, by omega⟩
      have hd9 : d ≤ 9 := by omega
      have hnx := Aside0.mk (show valL 0 (l.take (i + 1)) = 10 * a + d by rw [valL_take hx, hva.out, hd]; omega)
      clear hx h48 h57
      by_cases hov : 10 * a + d < 18446744073709551616
      · have hc : decide ((18446744073709551615 - (d : Int)) / 10 < a) = false := decide_eq_false (by omega)
        go_wp2_with fail
        go_roundw
        case rel => exact ⟨i + 1, 10 * a + d, by go_num, by rw [show 10 * (a : Int) + (48 + (d : Int) - 48) = ((10 * a + d : Nat) : Int) from by omega], by omega, hov, by first | rfl | trivial, hnx⟩
        case measure => simp [intOf]; omega
      · have hc : decide ((18446744073709551615 - (d : Int)) / 10 < a) = true := decide_eq_true (by omega)
        go_wp2_with fail
        go_ret2
        exact ⟨by rw [hsp.out, if_neg (by have := valL_ge l (i + 1); rw [hnx.out] at this; omega)]; rfl, rfl⟩
    · obtain rfl : i = l.length := by omega
      go_wp2_with fail
      go_ret2
      exact ⟨by rw [hsp.out]; rw [List.take_length] at hva; rw [hva.out, if_pos ha]; rfl, rfl⟩
end Go.Proofs.YthalgemkblkhgaaGreat
