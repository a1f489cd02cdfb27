/- The law LitNone, walked: it answers true. -/
import Derived.Test.YtoiiekhgoefalaaGreatQMN
namespace Go.Proofs.YtoiiekhgoefalaaGreat
open Go.Proofs Go.RowKit Go.Proofs.YtoiiekhgoefalaaGreatW.PrintWords Go.Proofs.YtoiiekhgoefalaaGreatW.PrintLast
set_option linter.unusedVariables false
set_option linter.unusedSimpArgs false

theorem of_zero (c : Int) (p : Bool) (i : Int) : (if p then placeOf zeroM c i else timeOf zeroM c i) = 0 := by cases p <;> simp [time_zero, place_zero]
set_option maxRecDepth 100000 in
set_option maxHeartbeats 8000000 in
theorem none_calls (c : Int) (p : Bool) (i n : Int) (hn : wfInt .i64 n) (A : Option Addr) (k d : Nat) (s : ByteArray) (w : World) :
    Calls Tryz.prog 7 #[.agg #[.int .i64 c, .bool p, .int .i64 i], .int .i64 n, .slice A k d, .string s] w fun e w' => e = .returned (.bool true) ∧ Below w.heap.size w w' := by
  have hu := Tryz.underlying42
  have HN := Aside0.mk hn
  clear hn
  go_enter Tryz.func7, Tryz.ntmps7
  go_wp2_with fail
  refine (what_nil n HN.out _).mono ?_
  rintro e w1 ⟨he, hb1⟩
  change e = Ending.returned (.tuple #[.agg #[.int .i64 0, .bool false, .int .i64 0], .bool false]) at he
  subst he
  have hz1 := Aside0.mk ((hb1.block w.heap.size (by simp)).trans (blk_new w (.cells #[.int .i64 c, .bool p, .int .i64 i] 42)))
  have hb1 := Aside0.mk (below1 hb1)
  go_wp2_with fail
  refine (seats_nil A k d _).mono ?_
  rintro e w' ⟨rfl, rfl⟩
  go_wp2_with fail
  refine (parse_nil s _).mono ?_
  rintro e w' ⟨rfl, rfl⟩
  have hz1' := (Below.heap_alloc w1 (.cells #[.int .i64 0, .bool false, .int .i64 0] 42) w.heap.size (blk_lt hz1.out)).trans hz1.out
  have y0 := (blk_cell (hz1') 0).trans (show _ = some (Value.int .i64 c) from rfl)
  have y1 := (blk_cell (hz1') 1).trans (show _ = some (Value.bool p) from rfl)
  have y2 := (blk_cell (hz1') 2).trans (show _ = some (Value.int .i64 i) from rfl)
  clear hz1'
  go_wp2_with fail
  (refine (litlen_nil _).mono ?_; rintro e w' ⟨rfl, rfl⟩; go_wp2_with fail)
  refine (of_nil c p i _).mono ?_
  rintro e w2 ⟨rfl, hb2⟩
  have hz2 := Aside0.mk ((hb2.block w.heap.size (by have := blk_lt hz1.out; simp; omega)).trans ((Below.heap_alloc w1 (.cells #[.int .i64 0, .bool false, .int .i64 0] 42) w.heap.size (blk_lt hz1.out)).trans hz1.out))
  replace hb2 := Aside0.mk (bthen hb1.out (below1 hb2) (Nat.le_refl _))
  clear y0 y1 y2
  have y0 := (blk_cell (hz2.out) 0).trans (show _ = some (Value.int .i64 c) from rfl)
  have y1 := (blk_cell (hz2.out) 1).trans (show _ = some (Value.bool p) from rfl)
  have y2 := (blk_cell (hz2.out) 2).trans (show _ = some (Value.int .i64 i) from rfl)
  go_wp2_with fail
  (refine (time_nil c i _).mono ?_; rintro e w' ⟨rfl, rfl⟩; go_wp2_with fail)
  (refine (place_nil c i _).mono ?_; rintro e w' ⟨rfl, rfl⟩; go_wp2_with fail)
  (refine (fixed_nil none 0 0 _).mono ?_; rintro e w' ⟨rfl, rfl⟩; go_wp2_with fail)
  refine (true_nil none 0 0 n _).mono ?_
  rintro e w3 ⟨rfl, hb3⟩
  have hz3 := Aside0.mk ((hb3.block w.heap.size (blk_lt hz2.out)).trans hz2.out)
  replace hb3 := Aside0.mk (bthen hb2.out hb3 (Nat.le_refl _))
  clear y0 y1 y2
  go_wp2_with fail
  refine (hold_nil none A 0 0 k d _).mono ?_
  rintro e w4 ⟨rfl, hb4⟩
  have hz4 := Aside0.mk ((hb4.block w.heap.size (blk_lt hz3.out)).trans hz3.out)
  replace hb4 := Aside0.mk (bthen hb3.out hb4 (Nat.le_refl _))
  go_wp2_with fail
  refine (text_nil n HN.out _).mono ?_
  rintro e w5 ⟨rfl, hb5⟩
  have hz5 := Aside0.mk ((hb5.block w.heap.size (blk_lt hz4.out)).trans hz4.out)
  replace hb5 := Aside0.mk (bthen hb4.out hb5 (Nat.le_refl _))
  go_wp2_with fail
  refine (what_calls zeroM mok_zero w5.heap.size _ (zero_box w5) n HN.out _ (what_zero n)).mono ?_
  rintro e w6 ⟨he, hb6⟩
  change e = Ending.returned (.tuple #[.agg #[.int .i64 0, .bool false, .int .i64 0], .bool false]) at he
  subst he
  have hm6 := Aside0.mk ((hb6.block w5.heap.size (by simp)).trans (blk_new w5 _))
  have hM6 := Aside0.mk ((zero_box w5).below hb6)
  have hz6 := Aside0.mk ((hb6.block w.heap.size (by have := blk_lt hz5.out; simp; omega)).trans ((Below.heap_alloc w5 _ w.heap.size (blk_lt hz5.out)).trans hz5.out))
  replace hb6 := Aside0.mk (bthen hb5.out (below1 hb6) (Nat.le_refl _))
  go_wp2_with fail
  refine (parse_zero w5.heap.size _ hM6.out).mono ?_
  rintro e w7 ⟨rfl, hb7⟩
  have hm7 := Aside0.mk ((hb7.block w5.heap.size (blk_lt hm6.out)).trans hm6.out)
  have hM7 := Aside0.mk (hM6.out.below hb7)
  have hz7 := Aside0.mk ((hb7.block w.heap.size (blk_lt hz6.out)).trans hz6.out)
  replace hb7 := Aside0.mk (bthen hb6.out hb7 (Nat.le_refl _))
  have y0 := (blk_cell (hz7.out) 0).trans (show _ = some (Value.int .i64 c) from rfl)
  have y1 := (blk_cell (hz7.out) 1).trans (show _ = some (Value.bool p) from rfl)
  have y2 := (blk_cell (hz7.out) 2).trans (show _ = some (Value.int .i64 i) from rfl)
  go_wp2_with fail
  refine (litlen_calls zeroM w5.heap.size _ hM7.out 0 rfl).mono ?_
  rintro e w' ⟨rfl, rfl⟩
  go_wp2_with fail
  refine (of_calls zeroM mok_zero w5.heap.size _ hM7.out c p i 0 (of_zero c p i)).mono ?_
  rintro e w8 ⟨rfl, hb8⟩
  have hm8 := Aside0.mk ((hb8.block w5.heap.size (blk_lt hm7.out)).trans hm7.out)
  have hM8 := Aside0.mk (hM7.out.below hb8)
  replace hb8 := Aside0.mk (bthen hb7.out hb8 (Nat.le_refl _))
  clear y0 y1 y2
  go_wp2_with fail
  refine (text_zero w5.heap.size n HN.out _ hM8.out).mono ?_
  rintro e w9 ⟨rfl, hb9⟩
  have hm9 := Aside0.mk ((hb9.block w5.heap.size (blk_lt hm8.out)).trans hm8.out)
  replace hb9 := Aside0.mk (bthen hb8.out hb9 (Nat.le_refl _))
  go_wp2_with fail
  refine (true_zero w5.heap.size n _ hm9.out).mono ?_
  rintro e w10 ⟨rfl, hb10⟩
  replace hb10 := Aside0.mk (bthen hb9.out hb10 (Nat.le_refl _))
  go_wp2_with fail
  refine (heads_calls _).mono ?_
  rintro e w11 ⟨rfl, hb11⟩
  replace hb11 := Aside0.mk (bthen hb10.out hb11 (Nat.le_refl _))
  go_wp2_with fail
  go_ret
  exact ⟨rfl, hb11.out⟩
end Go.Proofs.YtoiiekhgoefalaaGreat
