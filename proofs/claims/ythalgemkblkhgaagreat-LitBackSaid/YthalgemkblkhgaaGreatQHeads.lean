/- The laws' own example of chapter 27 holds. -/
import Derived.Test.YthalgemkblkhgaaGreatQMT
import Derived.Test.YthalgemkblkhgaaGreatQMS
import Derived.Test.YthalgemkblkhgaaGreatQRefS
namespace Go.Proofs.YthalgemkblkhgaaGreat
open Go.Proofs Go.RowKit Go.Proofs.YthalgemkblkhgaaGreatW.PrintWords Go.Proofs.YthalgemkblkhgaaGreatW.PrintLast
set_option linter.unusedVariables false
set_option linter.unusedSimpArgs false

set_option maxRecDepth 100000 in
set_option maxHeartbeats 8000000 in
theorem heads_calls (w : World) : Calls Tryz.prog 10 #[] w fun e w' => e = .returned (.bool true) ∧ Below w.heap.size w w' := by
  have hu := Tryz.underlying42
  have hs : Aside0 (sortA [2, 0, -1, 2] = [-1, 2]) := ⟨by decide +kernel⟩
  have hw : Aside0 (whatOf (mapOf headP) (-4) = (⟨1, false, 0⟩, true)) := ⟨rfl⟩
  have ht : Aside0 (timeOf (mapOf headP) 1 0 = 4) := ⟨rfl⟩
  have hpl : Aside0 (placeOf (mapOf headP) 0 0 = 3) := ⟨rfl⟩
  have hln : Aside0 (((mapOf headP).f1.length : Int) = 4) := ⟨rfl⟩
  have hmk := Aside0.mk (mok_of headP small_head)
  go_enter Tryz.func10, Tryz.ntmps10
  go_wp2_with fail
  refine (some_calls _).mono ?_
  rintro e w1 ⟨⟨cs, rfl, hK⟩, hb1⟩
  have hb1 := Aside0.mk hb1
  go_wp2_with fail
  refine (new_calls headP wf_head (fun _ => small_head) cs w1 hK true headOk).mono ?_
  rintro e w2 ⟨⟨_, hN⟩, hb2⟩
  obtain ⟨b, rfl, hM⟩ := hN rfl
  have HM := Aside0.mk hM
  have hb2 := Aside0.mk (below_then hb1.out hb1.out.size hb2)
  clear hK hM hN
  go_wp2_with fail
  refine (what_calls (mapOf headP) hmk.out b _ HM.out (-4) (wfi _ ⟨by decide, by decide⟩) _ hw.out).mono ?_
  rintro e w3 ⟨he, hb3⟩
  change e = Ending.returned (.tuple #[.agg #[.int .i64 1, .bool false, .int .i64 0], .bool true]) at he
  subst he
  replace HM := Aside0.mk (HM.out.below hb3)
  have hb3 := Aside0.mk (below_then hb2.out hb2.out.size hb3)
  go_wp2_with fail
  refine (litlen_calls (mapOf headP) b _ (HM.out.below (below_alloc (Below.refl _ _) _)) 4 hln.out).mono ?_
  rintro e w' ⟨rfl, rfl⟩
  go_wp2_with fail
  refine (time_calls (mapOf headP) hmk.out b _ (HM.out.below (below_alloc (Below.refl _ _) _)) 1 0 4 ht.out).mono ?_
  rintro e w4 ⟨rfl, hb4⟩
  have HM4 := Aside0.mk ((HM.out.below (below_alloc (Below.refl _ _) _)).below hb4)
  have hz := hb4.block w3.heap.size (by simp)
  have hz4 := Aside0.mk (hz.trans (blk_new w3 _))
  clear hz
  have hb4 := Aside0.mk (below_then (below_alloc hb3.out (.cells #[.int .i64 1, .bool false, .int .i64 0] 42)) (by have := hb3.out.size; simp; omega) hb4)
  go_wp2_with fail
  refine (place_calls (mapOf headP) hmk.out b _ HM4.out 0 0 3 hpl.out).mono ?_
  rintro e w5 ⟨rfl, hb5⟩
  have HM5 := Aside0.mk (HM4.out.below hb5)
  have hz5 := Aside0.mk ((hb5.block w3.heap.size (blk_lt hz4.out)).trans hz4.out)
  replace hb5 := Aside0.mk (below_then hb4.out hb4.out.size hb5)
  go_wp2_with fail
  refine (text3_calls b _ HM5.out).mono ?_
  rintro e w6 ⟨rfl, hb6⟩
  have hz6 := (hb6.block w3.heap.size (blk_lt hz5.out)).trans hz5.out
  have y0 := (blk_cell hz6 0).trans (show _ = some (Value.int .i64 1) from rfl)
  have y1 := (blk_cell hz6 1).trans (show _ = some (Value.bool false) from rfl)
  have y2 := (blk_cell hz6 2).trans (show _ = some (Value.int .i64 0) from rfl)
  replace hb6 := Aside0.mk (below_then hb5.out hb5.out.size hb6)
  clear hz6
  go_wp2_with fail
  clear y0 y1 y2
  have hC1 : (Kd.int .i64).C (w6.alloc (.cells #[.int .i64 2, .int .i64 0, .int .i64 (-1), .int .i64 2] 3)) (some ⟨w6.heap.size, 0, none⟩) ([2, 0, -1, 2] : List Int).length [2, 0, -1, 2] := C_of (blk_new w6 _) (by decide) (fun j x hj => by
    match j, hj with
    | 0, hj => simp at hj; subst hj; rfl
    | 1, hj => simp at hj; subst hj; rfl
    | 2, hj => simp at hj; subst hj; rfl
    | 3, hj => simp at hj; subst hj; rfl
    | j + 4, hj => simp at hj)
  have hsr := sort_calls [2, 0, -1, 2] (fun x hx => by
    simp only [List.mem_cons, List.not_mem_nil, or_false] at hx
    rcases hx with rfl | rfl | rfl | rfl <;> exact i64_wf ⟨by decide, by decide⟩) (by decide) (some ⟨w6.heap.size, 0, none⟩) 4 _ hC1
  rw [hs.out] at hsr
  refine hsr.mono ?_
  rintro e w7 ⟨⟨A', c', rfl, hC7⟩, hb7⟩
  have hb7 := Aside0.mk (below_then (below_alloc hb6.out (.cells #[.int .i64 2, .int .i64 0, .int .i64 (-1), .int .i64 2] 3)) (by have := hb6.out.size; simp; omega) hb7)
  have HC7 := Aside0.mk hC7
  clear hsr hC1 hC7
  go_wp2_with fail
  have hC2 : (Kd.int .i64).C (w7.alloc (.cells #[.int .i64 (-1), .int .i64 2] 3)) (some ⟨w7.heap.size, 0, none⟩) ([-1, 2] : List Int).length [-1, 2] := C_of (blk_new w7 _) (by decide) (fun j x hj => by
    rcases at2 hj with ⟨rfl, rfl⟩ | ⟨rfl, rfl⟩ <;> rfl)
  refine (same_ref [-1, 2] [-1, 2] A' (some ⟨w7.heap.size, 0, none⟩) 2 2 c' 2 rfl rfl _ (Kd.C_below HC7.out (below_alloc (Below.refl _ _) _)) hC2 true (by decide)).mono ?_
  rintro e w8 ⟨rfl, hb8⟩
  have hb8 := Aside0.mk (below_then (below_alloc hb7.out (.cells #[.int .i64 (-1), .int .i64 2] 3)) (by have := hb7.out.size; simp; omega) hb8)
  clear hC2
  go_wp2_with fail
  go_ret
  exact ⟨rfl, hb8.out⟩
end Go.Proofs.YthalgemkblkhgaaGreat
