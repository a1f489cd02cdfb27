/- What the reference's checks of a problem's parts come to. -/
import Derived.Test.YthalgemkblkhgaaGreatQMG
import Derived.Test.YthalgemkblkhgaaGreatQME
namespace Go.Proofs.YthalgemkblkhgaaGreat
open Go.RowKit Go.Proofs.YthalgemkblkhgaaGreatW.PrintWords Go.Proofs.YthalgemkblkhgaaGreatW.PrintLast
set_option linter.unusedVariables false
set_option linter.unusedSimpArgs false

def w4 (x : Weigh) (i : Nat) : Int := match i with | 0 => x.f0 | 1 => x.f1 | 2 => x.f2 | _ => x.f3
set_option maxRecDepth 100000 in
set_option maxHeartbeats 2000000 in
theorem weigh_ref (x : Weigh) (cs : List Value) (w : World) (hK : kWeigh.K w x cs) (r : Bool) (h : weighOk x = r) :
    Calls Tryz.prog 98 #[.agg cs.toArray] w fun e w' => e = .returned (.bool r) ∧ Below w.heap.size w w' := by
  subst h
  obtain rfl := kWeigh_open hK
  clear hK
  have hu4 := Tryz.underlying38
  have hsp : weighOk x = allB 4 (fun i => inR 0 1000 (w4 x i)) := by
    rw [Bool.eq_iff_iff, allB_iff]
    simp only [weighOk, Bool.and_eq_true]
    constructor
    · rintro ⟨a, b, c, d⟩ i hi
      match i, hi with
      | 0, _ => exact a
      | 1, _ => exact b
      | 2, _ => exact c
      | 3, _ => exact d
    · intro h
      exact ⟨h 0 (by omega), h 1 (by omega), h 2 (by omega), h 3 (by omega)⟩
  replace hsp := Aside0.mk hsp
  go_enter Tryz.func98, Tryz.ntmps98
  go_wp2
  go_loop [4] (fun v => ∃ i : Nat, v = .int .i64 i ∧ i ≤ 4 ∧ Aside0 (upTo (fun i => inR 0 1000 (w4 x i)) i)) (fun v => 4 - (intOf v).toNat)
  case atStart => exact ⟨0, rfl, by omega, ⟨upTo_zero _⟩⟩
  case round =>
    obtain ⟨i, rfl, hi, hno⟩ := hrel
    by_cases hlt : i < 4
    · obtain ⟨y, hy⟩ : ∃ y, y = w4 x i := ⟨_, rfl⟩
      have hcell : ∀ (W : World) (t : Nat), (W.alloc (.cells #[.int .i64 x.f0, .int .i64 x.f1, .int .i64 x.f2, .int .i64 x.f3] t)).cell? ⟨W.heap.size, i, none⟩ = some (.int .i64 y) := by
        intro W t
        rw [hy]
        match i, hlt with
        | 0, _ => go_simp; rfl
        | 1, _ => go_simp; rfl
        | 2, _ => go_simp; rfl
        | 3, _ => go_simp; rfl
      have hc1 := hcell (w.alloc (.cells #[.int .i64 x.f0, .int .i64 x.f1, .int .i64 x.f2, .int .i64 x.f3] 38)) 3
      simp only [World.size_alloc] at hc1
      replace hy := Aside0.mk hy
      clear hcell
      by_cases e1 : y < 0
      · go_wp2
        go_ret
        exact ⟨ret_bool (by rw [hsp.out, allB_no hlt (by rw [← hy.out]; exact inR_no1 e1)]), below2 (Below.refl _ _)⟩
      by_cases e2 : 1000 < y
      · go_wp2
        go_ret
        exact ⟨ret_bool (by rw [hsp.out, allB_no hlt (by rw [← hy.out]; exact inR_no2 e2)]), below2 (Below.refl _ _)⟩
      go_wp2
      go_round
      case rel => exact ⟨i + 1, by go_num, by omega, ⟨upTo_snoc hno.out (by rw [← hy.out]; exact inR_yes (by omega) (by omega))⟩⟩
      case measure => simp [intOf]; omega
    · obtain rfl : i = 4 := by omega
      go_wp2
      go_ret
      exact ⟨ret_bool (by rw [hsp.out, allB_yes hno.out]), below2 (Below.refl _ _)⟩
end Go.Proofs.YthalgemkblkhgaaGreat
