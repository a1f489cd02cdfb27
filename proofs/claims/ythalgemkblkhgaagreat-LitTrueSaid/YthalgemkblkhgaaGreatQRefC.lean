/- What the reference's checks of walks, times, places and classes come to. -/
import Derived.Test.YthalgemkblkhgaaGreatQMD
namespace Go.Proofs.YthalgemkblkhgaaGreat
open Go.RowKit Go.Proofs.YthalgemkblkhgaaGreatW.PrintWords Go.Proofs.YthalgemkblkhgaaGreatW.PrintLast
set_option linter.unusedVariables false
set_option linter.unusedSimpArgs false

set_option maxRecDepth 100000 in
set_option maxHeartbeats 4000000 in
theorem walk_ref (n : Int) (W : List (List Int)) (A : Option Addr) (c : Nat) (w : World) (hA : (Kd.slice 3 (Kd.int .i64)).C w A W.length W) (r : Bool) (h : walkOk n W = r) :
    Calls Tryz.prog 92 #[.int .i64 n, .slice A W.length c] w fun e w' => e = .returned (.bool r) ∧ Below w.heap.size w w' := by
  subst h
  have hm := Kd.C_max hA
  have HA := Aside0.mk hA
  clear hA
  by_cases c1 : n < 0
  · go_enter Tryz.func92, Tryz.ntmps92
    go_wp2
    go_ret
    exact ⟨ret_bool (by simp [walkOk]; omega), Below.refl _ _⟩
  by_cases c2 : 24 < n
  · go_enter Tryz.func92, Tryz.ntmps92
    go_wp2
    go_ret
    exact ⟨ret_bool (by simp [walkOk]; omega), Below.refl _ _⟩
  by_cases c3 : (W.length : Int) = n
  rotate_left
  · have c3b : ((W.length : Int) != n) = true := by simp [c3]
    go_enter Tryz.func92, Tryz.ntmps92
    go_wp2
    go_ret
    exact ⟨ret_bool (by simp [walkOk, c3]), Below.refl _ _⟩
  subst c3
  go_enter Tryz.func92, Tryz.ntmps92
  go_wp2
  go_loopw [5] (fun v wr => ∃ i : Nat, v = .int .i64 i ∧ i ≤ W.length ∧ Aside0 (lensUpTo W W.length i) ∧ Aside0 (Below w.heap.size w wr)) (fun v _ => W.length - (intOf v).toNat)
  case atStart => exact ⟨0, rfl, by omega, ⟨fun a x h => by omega⟩, ⟨Below.refl _ _⟩⟩
  case round =>
    obtain ⟨i, rfl, hi, hls, hb⟩ := hrel
    by_cases hlt : i < W.length
    · have hx : W[i]? = some W[i] := List.getElem?_eq_getElem hlt
      generalize W[i] = x at hx
      obtain ⟨ad, A0, c0, rfl, h0, l0, g0⟩ := el_LI64 (Kd.C_below HA.out hb.out) i x hx
      clear g0
      by_cases hxl : x.length = W.length
      · have d1 : ((x.length : Int) != (W.length : Int)) = false := by simp [hxl]
        have d2 : (x.length != W.length) = false := by simp [hxl]
        replace hx := Aside0.mk hx
        replace hxl := Aside0.mk hxl
        go_wp2
        go_roundw
        case rel => exact ⟨i + 1, by go_num, by omega, ⟨lensUpTo_snoc hls.out hx.out (by rw [hxl.out])⟩, hb⟩
        case measure => simp [intOf]; omega
      · have d1 : ((x.length : Int) != (W.length : Int)) = true := by simp; omega
        have d2 : (x.length != W.length) = true := by simp; omega
        replace hx := Aside0.mk hx
        go_wp2
        go_ret
        exact ⟨ret_bool (walkOk_len hx.out (by omega)).symm, hb.out⟩
    · obtain rfl : i = W.length := by omega
      go_wp2
      go_loopw [6] (fun v wr => ∃ i : Nat, v = .int .i64 i ∧ i ≤ W.length ∧ Aside0 (rowsUpTo W i) ∧ Aside0 (Below w.heap.size w wr)) (fun v _ => W.length - (intOf v).toNat)
      case atStart => exact ⟨0, rfl, by omega, ⟨fun a x h => by omega⟩, hb⟩
      case round =>
        obtain ⟨i, rfl, hi, hrs, hb⟩ := hrel
        by_cases hlt : i < W.length
        · obtain ⟨wo, rfl⟩ : ∃ wo : World, wo = wr := ⟨_, rfl⟩
          go_wp2
          go_loopw [7] (fun v wr => ∃ k : Nat, v = .int .i64 k ∧ k ≤ W.length ∧ Aside0 (rowUpTo W i k) ∧ Aside0 (Below w.heap.size w wr)) (fun v _ => W.length - (intOf v).toNat)
          case atStart => exact ⟨0, rfl, by omega, ⟨fun a h => by omega⟩, hb⟩
          case round =>
            obtain ⟨k, rfl, hk, hro, hb⟩ := hrel
            by_cases hkw : k < W.length
            · have hx : W[i]? = some W[i] := List.getElem?_eq_getElem hlt
              generalize W[i] = x at hx
              obtain ⟨ad, A0, c0, rfl, h0, l0, g0⟩ := el_LI64 (Kd.C_below HA.out hb.out) i x hx
              have hxl : x.length = W.length := by have := hls.out i x hlt hx; omega
              have hkt : k < x.length := by omega
              have hy : x[k]? = some x[k] := List.getElem?_eq_getElem hkt
              generalize x[k] = far at hy
              obtain ⟨ad2, rfl, h02⟩ := el_int g0 k far hy
              have hz : W[k]? = some W[k] := List.getElem?_eq_getElem hkw
              generalize W[k] = z at hz
              obtain ⟨ad3, A3, c3, e3, h03, l3, g3⟩ := el_LI64 (Kd.C_below HA.out hb.out) k z hz
              cases e3
              have hzl : z.length = W.length := by have := hls.out k z hkw hz; omega
              have hzi : i < z.length := by omega
              have hu : z[i]? = some z[i] := List.getElem?_eq_getElem hzi
              generalize z[i] = far2 at hu
              obtain ⟨ad4, rfl, h04⟩ := el_int g3 i far2 hu
              clear g3 g0
              have e1 := cellW_at hx hy
              have e2 := cellW_at hz hu
              have hsp : okW W i k = (decide (0 ≤ far) && (decide (far ≤ 96) && (decide (far = far2) && !(decide (i = k) && decide (0 < far))))) := by simp only [okW, e1, e2]
              replace hsp := Aside0.mk hsp
              have hd : i = k → far = far2 := fun e => by subst e; rw [← e1, e2]
              replace hd := Aside0.mk hd
              clear e1 e2 hy hz hu hx
              replace hzl := Aside0.mk hzl
              replace hxl := Aside0.mk hxl
              by_cases d1 : far < 0
              · go_wp2
                go_big_quiet (fail)
                go_wp2
                go_ret
                exact ⟨ret_bool (walkOk_cell hlt hkw (by rw [hsp.out]; simp; omega)).symm, pw_below_drewN hb.out _⟩
              have d1b : decide (far < 0) = false := decide_eq_false d1
              replace d1 := Aside0.mk d1
              by_cases d2 : 96 < far
              · go_wp2
                go_big_quiet (fail)
                go_wp2
                go_ret
                exact ⟨ret_bool (walkOk_cell hlt hkw (by rw [hsp.out]; simp; omega)).symm, pw_below_drewN hb.out _⟩
              have d2b : decide (96 < far) = false := decide_eq_false d2
              replace d2 := Aside0.mk d2
              by_cases d3 : far = far2
              rotate_left
              · have d3b : (far != far2) = true := by simp [d3]
                replace d3 := Aside0.mk d3
                go_wp2
                go_big_quiet (fail)
                go_wp2
                go_ret
                exact ⟨ret_bool (walkOk_cell hlt hkw (by rw [hsp.out, decide_eq_false d3.out]; simp)).symm, pw_below_drewN hb.out _⟩
              subst d3
              by_cases d4 : i = k
              · have d4b : ((i : Int) == (k : Int)) = true := by simp; omega
                have d4c : (i == k) = true := by simp; omega
                replace d4 := Aside0.mk d4
                by_cases d5 : far = 0
                · have d5b : (far != 0) = false := by simp [d5]
                  replace d5 := Aside0.mk d5
                  go_wp2
                  go_big_quiet (fail)
                  go_wp2
                  go_roundw
                  case rel => exact ⟨k + 1, by go_num, by omega, ⟨rowUpTo_snoc hro.out (by rw [hsp.out]; have := d5.out; have := d2.out; simp; omega)⟩, ⟨pw_below_drewN hb.out _⟩⟩
                  case measure => simp [intOf]; omega
                · have d5b : (far != 0) = true := by simp [d5]
                  replace d5 := Aside0.mk d5
                  go_wp2
                  go_big_quiet (fail)
                  go_wp2
                  go_ret
                  exact ⟨ret_bool (walkOk_cell hlt hkw (by rw [hsp.out, decide_eq_true d4.out]; have := d5.out; have := d1.out; simp; omega)).symm, pw_below_drewN hb.out _⟩
              · have d4b : ((i : Int) == (k : Int)) = false := by simp; omega
                have d4c : (i == k) = false := by simp; omega
                replace d4 := Aside0.mk d4
                go_wp2
                go_big_quiet (fail)
                go_wp2
                go_roundw
                case rel => exact ⟨k + 1, by go_num, by omega, ⟨rowUpTo_snoc hro.out (by rw [hsp.out, decide_eq_false d4.out]; have := d1.out; have := d2.out; simp; omega)⟩, ⟨pw_below_drewN hb.out _⟩⟩
                case measure => simp [intOf]; omega
            · obtain rfl : k = W.length := by omega
              go_wp2
              go_roundw
              case rel => exact ⟨i + 1, by go_num, by omega, ⟨rowsUpTo_snoc hrs.out hro.out⟩, hb⟩
              case measure => simp [intOf]; omega
        · obtain rfl : i = W.length := by omega
          go_wp2
          go_ret
          exact ⟨ret_bool (walkOk_yes (by omega) (by omega) rfl hls.out hrs.out).symm, hb.out⟩
end Go.Proofs.YthalgemkblkhgaaGreat
