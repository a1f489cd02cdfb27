/- The reference's Few answers some bool, whatever the problem. -/
import Derived.Test.YthalgemkblkhgaaGreatQCopy
import Derived.Test.YthalgemkblkhgaaGreatQME
namespace Go.Proofs.YthalgemkblkhgaaGreat
open Go.RowKit Go.Proofs.YthalgemkblkhgaaGreatW.PrintWords Go.Proofs.YthalgemkblkhgaaGreatW.PrintLast
set_option linter.unusedVariables false
set_option linter.unusedSimpArgs false

def AnyBool (e : Ending) : Prop := ∃ b, e = .returned (.bool b)
set_option maxRecDepth 100000 in
set_option maxHeartbeats 8000000 in
theorem few_ref (p : Problem) (pcs : List Value) (w : World) (hP : kProblem.K w p pcs) :
    Calls Tryz.prog 54 #[.agg pcs.toArray] w fun e w' => AnyBool e ∧ Below w.heap.size w w' := by
  obtain ⟨A4, c4, A5, c5, A6, c6, A7, c7, A8, c8, A9, c9, A10, c10, rfl, l4, g4, l5, g5, l6, g6, l7, g7, l8, g8, l9, g9, l10, g10⟩ := kProblem_open hP
  clear hP
  have hm4 := Kd.C_max g4
  have G4 := Aside0.mk g4
  have hm5 := Kd.C_max g5
  have G5 := Aside0.mk g5
  have hm6 := Kd.C_max g6
  have G6 := Aside0.mk g6
  have hm7 := Kd.C_max g7
  have G7 := Aside0.mk g7
  have hm8 := Kd.C_max g8
  have G8 := Aside0.mk g8
  have hm9 := Kd.C_max g9
  have G9 := Aside0.mk g9
  have hm10 := Kd.C_max g10
  have G10 := Aside0.mk g10
  clear g4 g5 g6 g7 g8 g9 g10
  have hu1 := Tryz.underlying40
  go_enter Tryz.func54, Tryz.ntmps54
  by_cases q0 : p.f2.length ≤ 30
  rotate_left
  · go_wp2
    go_ret
    exact ⟨⟨_, rfl⟩, below1 (Below.refl _ _)⟩
  by_cases q1 : p.f3.length ≤ 40
  rotate_left
  · go_wp2
    go_ret
    exact ⟨⟨_, rfl⟩, below1 (Below.refl _ _)⟩
  by_cases q2 : p.f4.length ≤ 30
  rotate_left
  · go_wp2
    go_ret
    exact ⟨⟨_, rfl⟩, below1 (Below.refl _ _)⟩
  by_cases q3 : p.f5.length ≤ 50
  rotate_left
  · go_wp2
    go_ret
    exact ⟨⟨_, rfl⟩, below1 (Below.refl _ _)⟩
  by_cases q4 : p.f6.length ≤ 20
  rotate_left
  · go_wp2
    go_ret
    exact ⟨⟨_, rfl⟩, below1 (Below.refl _ _)⟩
  by_cases q5 : p.f7.length ≤ 210
  rotate_left
  · go_wp2
    go_ret
    exact ⟨⟨_, rfl⟩, below1 (Below.refl _ _)⟩
  by_cases q6 : p.f8.length ≤ 70
  rotate_left
  · go_wp2
    go_ret
    exact ⟨⟨_, rfl⟩, below1 (Below.refl _ _)⟩
  go_wp2
  clear q0 q1 q2 q3 q4 q5 q6
  obtain ⟨W0, hW0⟩ : ∃ W0, W0 = w.alloc (.cells #[.string p.f0, .int .i64 p.f1.f0, .int .i64 p.f1.f1, .int .i64 p.f1.f2, .slice A4 p.f2.length c4, .slice A5 p.f3.length c5, .slice A6 p.f4.length c6, .slice A7 p.f5.length c7, .slice A8 p.f6.length c8, .slice A9 p.f7.length c9, .slice A10 p.f8.length c10, .int .i64 p.f9.f0, .int .i64 p.f9.f1, .int .i64 p.f9.f2, .int .i64 p.f9.f3] 40) := ⟨_, rfl⟩
  have hw0 : Below w.heap.size w W0 := by rw [hW0]; exact below_alloc (Below.refl _ _) _
  have hk : ∀ wr, Below W0.heap.size W0 wr → ∀ j v, ([.string p.f0, .int .i64 p.f1.f0, .int .i64 p.f1.f1, .int .i64 p.f1.f2, .slice A4 p.f2.length c4, .slice A5 p.f3.length c5, .slice A6 p.f4.length c6, .slice A7 p.f5.length c7, .slice A8 p.f6.length c8, .slice A9 p.f7.length c9, .slice A10 p.f8.length c10] : List Value)[j]? = some v → wr.cell? ⟨w.heap.size, j, none⟩ = some v := by
    intro wr hb j v hj
    have h1 := blk_new w (.cells #[.string p.f0, .int .i64 p.f1.f0, .int .i64 p.f1.f1, .int .i64 p.f1.f2, .slice A4 p.f2.length c4, .slice A5 p.f3.length c5, .slice A6 p.f4.length c6, .slice A7 p.f5.length c7, .slice A8 p.f6.length c8, .slice A9 p.f7.length c9, .slice A10 p.f8.length c10, .int .i64 p.f9.f0, .int .i64 p.f9.f1, .int .i64 p.f9.f2, .int .i64 p.f9.f3] 40)
    rw [← hW0] at h1
    refine (blk_cell ((hb.block _ (blk_lt h1)).trans h1) j).trans ?_
    have hlt : j < 11 := (List.getElem?_eq_some_iff.1 hj).1
    rw [← hj]
    match j, hlt with
    | 0, _ => rfl
    | 1, _ => rfl
    | 2, _ => rfl
    | 3, _ => rfl
    | 4, _ => rfl
    | 5, _ => rfl
    | 6, _ => rfl
    | 7, _ => rfl
    | 8, _ => rfl
    | 9, _ => rfl
    | 10, _ => rfl
    | j + 11, h => omega
  rw [← hW0]
  replace hk := Aside0.mk hk
  replace hW0 := Aside0.mk hW0
  replace hw0 := Aside0.mk hw0
  go_loopw [3, 4] (fun v3 v wr => (∃ m : Int, v3 = .int .i64 m) ∧ ∃ i : Nat, v = .int .i64 i ∧ i ≤ p.f2.length ∧ Aside0 (Below W0.heap.size W0 wr)) (fun _ v _ => p.f2.length - (intOf v).toNat)
  case atStart => exact ⟨⟨_, rfl⟩, 0, rfl, by omega, ⟨Below.refl _ _⟩⟩
  case round =>
    obtain ⟨⟨m, rfl⟩, i, rfl, hi, hb⟩ := hrel
    have b := hk.out wr hb.out 4 _ rfl
    by_cases hlt : i < p.f2.length
    · obtain ⟨x, hx⟩ : ∃ x, p.f2[i]? = some x := ⟨_, List.getElem?_eq_getElem hlt⟩
      obtain ⟨ad, A3, c3, rfl, h0, h1, h2, h3, l3, g3⟩ := el_Room (Kd.C_below G4.out (hw0.out.trans (hb.out.mono hw0.out.size))) i x hx
      have n3 := Kd.C_max g3
      clear g3 h0 h1 h2
      clear hx
      go_wp2
      go_roundw
      case rel => exact ⟨⟨_, rfl⟩, i + 1, by go_num, by omega, hb⟩
      case measure => simp [intOf]; omega
    go_wp2
    clear b hi hlt
    go_loopw [3, 5] (fun v3 v wr => (∃ m : Int, v3 = .int .i64 m) ∧ ∃ i : Nat, v = .int .i64 i ∧ i ≤ p.f3.length ∧ Aside0 (Below W0.heap.size W0 wr)) (fun _ v _ => p.f3.length - (intOf v).toNat)
    case atStart => exact ⟨⟨_, rfl⟩, 0, rfl, by omega, hb⟩
    case round =>
      obtain ⟨⟨m, rfl⟩, i, rfl, hi, hb⟩ := hrel
      have b := hk.out wr hb.out 5 _ rfl
      by_cases hlt : i < p.f3.length
      · obtain ⟨x, hx⟩ : ∃ x, p.f3[i]? = some x := ⟨_, List.getElem?_eq_getElem hlt⟩
        obtain ⟨ad, A3, c3, rfl, h0, l3, g3⟩ := el_LI64 (Kd.C_below G5.out (hw0.out.trans (hb.out.mono hw0.out.size))) i x hx
        have n3 := Kd.C_max g3
        clear g3 
        clear hx
        go_wp2
        go_roundw
        case rel => exact ⟨⟨_, rfl⟩, i + 1, by go_num, by omega, hb⟩
        case measure => simp [intOf]; omega
      go_wp2
      clear b hi hlt
      go_loopw [3, 6] (fun v3 v wr => (∃ m : Int, v3 = .int .i64 m) ∧ ∃ i : Nat, v = .int .i64 i ∧ i ≤ p.f4.length ∧ Aside0 (Below W0.heap.size W0 wr)) (fun _ v _ => p.f4.length - (intOf v).toNat)
      case atStart => exact ⟨⟨_, rfl⟩, 0, rfl, by omega, hb⟩
      case round =>
        obtain ⟨⟨m, rfl⟩, i, rfl, hi, hb⟩ := hrel
        have b := hk.out wr hb.out 6 _ rfl
        by_cases hlt : i < p.f4.length
        · obtain ⟨x, hx⟩ : ∃ x, p.f4[i]? = some x := ⟨_, List.getElem?_eq_getElem hlt⟩
          obtain ⟨ad, A3, c3, rfl, h0, h1, l3, g3⟩ := el_Person (Kd.C_below G6.out (hw0.out.trans (hb.out.mono hw0.out.size))) i x hx
          have n3 := Kd.C_max g3
          clear g3 h0
          clear hx
          go_wp2
          go_roundw
          case rel => exact ⟨⟨_, rfl⟩, i + 1, by go_num, by omega, hb⟩
          case measure => simp [intOf]; omega
        go_wp2
        clear b hi hlt
        go_loopw [3, 7] (fun v3 v wr => (∃ m : Int, v3 = .int .i64 m) ∧ ∃ i : Nat, v = .int .i64 i ∧ i ≤ p.f5.length ∧ Aside0 (Below W0.heap.size W0 wr)) (fun _ v _ => p.f5.length - (intOf v).toNat)
        case atStart => exact ⟨⟨_, rfl⟩, 0, rfl, by omega, hb⟩
        case round =>
          obtain ⟨⟨m, rfl⟩, i, rfl, hi, hb⟩ := hrel
          have b := hk.out wr hb.out 7 _ rfl
          by_cases hlt : i < p.f5.length
          · obtain ⟨x, hx⟩ : ∃ x, p.f5[i]? = some x := ⟨_, List.getElem?_eq_getElem hlt⟩
            obtain ⟨ad, A3, c3, A4', c4', A5', c5', rfl, h0, h1, h2, h3, h4, h5, h6, l3, g3, l4', g4', l5', g5'⟩ := el_Class (Kd.C_below G7.out (hw0.out.trans (hb.out.mono hw0.out.size))) i x hx
            have n3 := Kd.C_max g3
            have n4 := Kd.C_max g4'
            have n5 := Kd.C_max g5'
            clear g3 g4' g5' h0 h1 h2 h6
            clear hx
            go_wp2
            go_big_quiet (fail)
            go_wp2
            go_roundw
            case rel => exact ⟨⟨_, rfl⟩, i + 1, by go_num, by omega, ⟨pw_below_drewN hb.out _⟩⟩
            case measure => simp [intOf]; omega
          go_wp2
          clear b hi hlt
          go_loopw [3, 8] (fun v3 v wr => (∃ m : Int, v3 = .int .i64 m) ∧ ∃ i : Nat, v = .int .i64 i ∧ i ≤ p.f7.length ∧ Aside0 (Below W0.heap.size W0 wr)) (fun _ v _ => p.f7.length - (intOf v).toNat)
          case atStart => exact ⟨⟨_, rfl⟩, 0, rfl, by omega, hb⟩
          case round =>
            obtain ⟨⟨m, rfl⟩, i, rfl, hi, hb⟩ := hrel
            have b := hk.out wr hb.out 9 _ rfl
            by_cases hlt : i < p.f7.length
            · obtain ⟨x, hx⟩ : ∃ x, p.f7[i]? = some x := ⟨_, List.getElem?_eq_getElem hlt⟩
              obtain ⟨ad, A3, c3, rfl, h0, h1, l3, g3⟩ := el_Student (Kd.C_below G9.out (hw0.out.trans (hb.out.mono hw0.out.size))) i x hx
              have n3 := Kd.C_max g3
              clear g3 h0
              clear hx
              go_wp2
              go_roundw
              case rel => exact ⟨⟨_, rfl⟩, i + 1, by go_num, by omega, hb⟩
              case measure => simp [intOf]; omega
            go_wp2
            clear b hi hlt
            go_loopw [3, 9] (fun v3 v wr => (∃ m : Int, v3 = .int .i64 m) ∧ ∃ i : Nat, v = .int .i64 i ∧ i ≤ p.f8.length ∧ Aside0 (Below W0.heap.size W0 wr)) (fun _ v _ => p.f8.length - (intOf v).toNat)
            case atStart => exact ⟨⟨_, rfl⟩, 0, rfl, by omega, hb⟩
            case round =>
              obtain ⟨⟨m, rfl⟩, i, rfl, hi, hb⟩ := hrel
              have b := hk.out wr hb.out 10 _ rfl
              by_cases hlt : i < p.f8.length
              · obtain ⟨x, hx⟩ : ∃ x, p.f8[i]? = some x := ⟨_, List.getElem?_eq_getElem hlt⟩
                obtain ⟨ad, A3, c3, rfl, h0, h1, h2, h3, h4, h5, l3, g3⟩ := el_Rule (Kd.C_below G10.out (hw0.out.trans (hb.out.mono hw0.out.size))) i x hx
                have n3 := Kd.C_max g3
                clear g3 h0 h2 h3 h4 h5
                clear hx
                go_wp2
                go_roundw
                case rel => exact ⟨⟨_, rfl⟩, i + 1, by go_num, by omega, hb⟩
                case measure => simp [intOf]; omega
              go_wp2
              clear b hi hlt
              go_loopw [3, 10] (fun v3 v wr => (∃ m : Int, v3 = .int .i64 m) ∧ ∃ i : Nat, v = .int .i64 i ∧ i ≤ p.f6.length ∧ Aside0 (Below W0.heap.size W0 wr)) (fun _ v _ => p.f6.length - (intOf v).toNat)
              case atStart => exact ⟨⟨_, rfl⟩, 0, rfl, by omega, hb⟩
              case round =>
                obtain ⟨⟨m, rfl⟩, i, rfl, hi, hb⟩ := hrel
                have b := hk.out wr hb.out 8 _ rfl
                by_cases hlt : i < p.f6.length
                rotate_left
                · go_wp2
                  go_ret
                  exact ⟨⟨_, rfl⟩, hw0.out.trans (hb.out.mono hw0.out.size)⟩
                obtain ⟨x, hx⟩ : ∃ x, p.f6[i]? = some x := ⟨_, List.getElem?_eq_getElem hlt⟩
                obtain ⟨ad, A1, d1, rfl, h0, h1, l1, g1⟩ := el_Course (Kd.C_below G8.out (hw0.out.trans (hb.out.mono hw0.out.size))) i x hx
                have n1 := Kd.C_max g1
                have g1 := Aside0.mk g1
                have h1' := Aside0.mk h1
                have hb0 := hb
                clear h0 hx
                go_wp2
                clear h1 b
                go_loopw [3, 11] (fun v3 v wz => (∃ m : Int, v3 = .int .i64 m) ∧ ∃ j : Nat, v = .int .i64 j ∧ j ≤ x.f1.length ∧ Aside0 (Below W0.heap.size W0 wz) ∧ Aside0 (Below wr.heap.size wr wz)) (fun _ v _ => x.f1.length - (intOf v).toNat)
                case atStart => exact ⟨⟨_, rfl⟩, 0, rfl, by omega, hb, ⟨Below.refl _ _⟩⟩
                case round =>
                  obtain ⟨⟨m, rfl⟩, j, rfl, hj, hb, hz⟩ := hrel
                  have b := hk.out wr hb.out 8 _ rfl
                  have h1 := pw_cell_below hz.out h1'.out
                  by_cases hlt : j < x.f1.length
                  rotate_left
                  · go_wp2
                    go_roundw
                    case rel => exact ⟨⟨_, rfl⟩, i + 1, by go_num, by omega, hb⟩
                    case measure => simp [intOf]; omega
                  obtain ⟨y, hy⟩ : ∃ y, x.f1[j]? = some y := ⟨_, List.getElem?_eq_getElem hlt⟩
                  obtain ⟨ad2, A2, d2, rfl, k0, l2, g2⟩ := el_Way (Kd.C_below g1.out hz.out) j y hy
                  have n2 := Kd.C_max g2
                  have g2 := Aside0.mk g2
                  have k0' := Aside0.mk k0
                  have h1m := Aside0.mk h1
                  have hzm := hz
                  clear hy
                  go_wp2
                  clear h1 b k0
                  go_loopw [3, 12] (fun v3 v wy => (∃ m : Int, v3 = .int .i64 m) ∧ ∃ k : Nat, v = .int .i64 k ∧ k ≤ y.f0.length ∧ Aside0 (Below W0.heap.size W0 wy) ∧ Aside0 (Below wr.heap.size wr wy)) (fun _ v _ => y.f0.length - (intOf v).toNat)
                  case atStart => exact ⟨⟨_, rfl⟩, 0, rfl, by omega, hb, ⟨Below.refl _ _⟩⟩
                  case round =>
                    obtain ⟨⟨m, rfl⟩, k, rfl, hkk, hb, hz⟩ := hrel
                    have b := hk.out wr hb.out 8 _ rfl
                    have h1 := pw_cell_below hz.out h1m.out
                    have k0 := pw_cell_below hz.out k0'.out
                    by_cases hlt : k < y.f0.length
                    rotate_left
                    · go_wp2
                      go_roundw
                      case rel => exact ⟨⟨_, rfl⟩, j + 1, by go_num, by omega, hb, ⟨hzm.out.trans (hz.out.mono hzm.out.size)⟩⟩
                      case measure => simp [intOf]; omega
                    obtain ⟨z, hzz⟩ : ∃ z, y.f0[k]? = some z := ⟨_, List.getElem?_eq_getElem hlt⟩
                    obtain ⟨ad3, A3, d3, rfl, m0, l3, g3⟩ := el_LI64 (Kd.C_below g2.out hz.out) k z hzz
                    have n3 := Kd.C_max g3
                    clear g3 hzz
                    go_wp2
                    go_roundw
                    case rel => exact ⟨⟨_, rfl⟩, k + 1, by go_num, by omega, hb, hz⟩
                    case measure => simp [intOf]; omega
end Go.Proofs.YthalgemkblkhgaaGreat
