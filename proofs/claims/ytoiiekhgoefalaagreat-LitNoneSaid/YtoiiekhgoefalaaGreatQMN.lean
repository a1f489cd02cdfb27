/- A nil Map has nothing. A Map that New did not make has no choices. What the library functions CutPrefix and IndexAny are in this program: the tables of numbers that the library's contracts ask for. lit.Parse and lit.Map.True at a Map that New did not make. -/
import Derived.Test.YtoiiekhgoefalaaGreatQHeads
import Derived.Shelf.Small.Wraps
import Derived.Shelf.Strings.IndexAny
import Derived.Test.YtoiiekhgoefalaaGreatProg
namespace Go.Proofs.YtoiiekhgoefalaaGreat
open Go.Proofs Go.RowKit Go.Proofs.YtoiiekhgoefalaaGreatW.PrintWords Go.Proofs.YtoiiekhgoefalaaGreatW.PrintLast
set_option linter.unusedVariables false
set_option linter.unusedSimpArgs false

set_option maxRecDepth 100000 in
set_option maxHeartbeats 2000000 in
theorem what_nil (l : Int) (hl : wfInt .i64 l) (w : World) : Calls Tryz.prog 16 #[.pointer none, .int .i64 l] w fun e w' => e = retChoice (noChoice, false) ∧ Below w.heap.size w w' := by
  have HL := Aside0.mk hl
  have hli := wf_i64 hl
  have hu42 := Tryz.underlying42
  clear hl
  by_cases h0 : l = 0
  · subst h0
    go_enter Tryz.func16, Tryz.ntmps16
    go_wp2_with fail
    (refine (size_calls 0 HL.out 0 rfl _).mono ?_; rintro e w' ⟨rfl, rfl⟩; go_wp2_with fail)
    try simp only [Exit.inBlock, Exit.then]
    refine bodyPost_ret_by (res_cell_tmp rfl _ _ w.heap.size 42 _ _ _ rfl (blk_new w _) hu42 rfl rfl rfl) rfl ?_
    exact ⟨rfl, below_alloc (Below.refl _ _) _⟩
  · obtain ⟨k, hk⟩ : ∃ k : Nat, l.natAbs = k := ⟨_, rfl⟩
    have hk0 : 0 < k := by omega
    have HK := Aside0.mk hk
    have hkm : k ≤ 9223372036854775808 := by omega
    clear hk h0
    go_enter Tryz.func16, Tryz.ntmps16
    go_wp2_with fail
    (refine (size_calls l HL.out k (by rw [HK.out]) _).mono ?_; rintro e w' ⟨rfl, rfl⟩; go_wp2_with fail)
    (refine (litlen_nil _).mono ?_; rintro e w' ⟨rfl, rfl⟩; go_wp2_with fail)
    try simp only [Exit.inBlock, Exit.then]
    refine bodyPost_ret_by (res_cell_tmp rfl _ _ w.heap.size 42 _ _ _ rfl (blk_new w _) hu42 rfl rfl rfl) rfl ?_
    exact ⟨rfl, below_alloc (Below.refl _ _) _⟩
set_option maxHeartbeats 400000 in
theorem seats_nil (A : Option Addr) (n c : Nat) (w : World) : Calls Tryz.prog 27 #[.pointer none, .slice A n c] w fun e w' => e = .returned (.tuple #[.slice none 0 0, .bool false]) ∧ w = w' := by
  go_enter Tryz.func27, Tryz.ntmps27
  go_wp2_with fail
  go_ret2
  exact ⟨rfl, rfl⟩
set_option maxHeartbeats 400000 in
theorem parse_nil (s : ByteArray) (w : World) : Calls Tryz.prog 36 #[.pointer none, .string s] w fun e w' => e = .returned (.tuple #[.int .i64 0, .int .i64 1]) ∧ w = w' := by
  go_enter Tryz.func36, Tryz.ntmps36
  go_wp2_with fail
  go_ret2
  exact ⟨rfl, rfl⟩
set_option maxHeartbeats 400000 in
theorem time_nil (c i : Int) (w : World) : Calls Tryz.prog 23 #[.pointer none, .int .i64 c, .int .i64 i] w fun e w' => e = .returned (.int .i64 0) ∧ w = w' := by
  go_enter Tryz.func23, Tryz.ntmps23
  go_wp2_with fail
  go_ret
  exact ⟨rfl, rfl⟩
set_option maxHeartbeats 400000 in
theorem place_nil (c i : Int) (w : World) : Calls Tryz.prog 25 #[.pointer none, .int .i64 c, .int .i64 i] w fun e w' => e = .returned (.int .i64 0) ∧ w = w' := by
  go_enter Tryz.func25, Tryz.ntmps25
  go_wp2_with fail
  go_ret
  exact ⟨rfl, rfl⟩
set_option maxHeartbeats 400000 in
theorem of_nil (c : Int) (p : Bool) (i : Int) (w : World) : Calls Tryz.prog 21 #[.pointer none, .agg #[.int .i64 c, .bool p, .int .i64 i]] w fun e w' => e = .returned (.int .i64 0) ∧ Below w.heap.size w w' := by
  have hu42 := Tryz.underlying42
  cases p
  · go_enter Tryz.func21, Tryz.ntmps21
    go_wp2_with fail
    (refine (time_nil c i _).mono ?_; rintro e w' ⟨rfl, rfl⟩; go_wp2_with fail)
    go_ret
    exact ⟨rfl, below_alloc (Below.refl _ _) _⟩
  · go_enter Tryz.func21, Tryz.ntmps21
    go_wp2_with fail
    (refine (place_nil c i _).mono ?_; rintro e w' ⟨rfl, rfl⟩; go_wp2_with fail)
    go_ret
    exact ⟨rfl, below_alloc (Below.refl _ _) _⟩
set_option maxHeartbeats 400000 in
theorem fixed_nil (A : Option Addr) (n c : Nat) (w : World) : Calls Tryz.prog 30 #[.pointer none, .slice A n c] w fun e w' => e = .returned (.slice none 0 0) ∧ w = w' := by
  go_enter Tryz.func30, Tryz.ntmps30
  go_wp2_with fail
  go_ret
  exact ⟨rfl, rfl⟩
set_option maxRecDepth 100000 in
set_option maxHeartbeats 1000000 in
theorem holds_nil (A B : Option Addr) (n c m d : Nat) (w : World) : Calls Tryz.prog 60 #[.pointer none, .slice A n c, .slice B m d] w fun e w' => e = .returned (.bool false) ∧ Below w.heap.size w w' := by
  go_enter Tryz.func60, Tryz.ntmps60
  go_wp2
  have z0 : ((w.alloc (.cells #[.pointer none] 44)).alloc (.cells #[.slice A n c] 57)).cell? ⟨w.heap.size, 0, none⟩ = some (.pointer none) := cell_on (below_alloc (Below.refl _ _) _) (blk_cell (blk_new w _) 0)
  refine start_ (n := 11) (S := (fun w' => w'.cell? ⟨w.heap.size, 0, none⟩ = some (.pointer none))) (ds := []) #[false, false, false, false, false, false, false, false, false, false, false] (by kernel_rfl) rfl rfl (z0) (fun hHeld => ?_)
  refine take_ (i := 0) (N := some 7) (v := ?_) (a' := ?_) #[true, false, false, false, false, false, false, false, false, false, false] rfl rfl (by kernel_rfl) (fun _ _ _ h => h) (Or.inl ⟨by rfl, ?_⟩) hHeld ?_ ?_
  rotate_left
  · rintro w' s1
    go_simp
    with_reducible rfl
  rotate_left
  · simp only [Act.put, List.setIfInBounds_toArray, List.set_cons_zero, List.set_cons_succ, i64_w, i32_w]
    rfl
  refine pure_ (i := 1) (N := some 8) (v := ?_) (a' := ?_) #[true, true, false, false, false, false, false, false, false, false, false] rfl rfl (by kernel_rfl) (fun _ _ _ h => h) (Or.inl ⟨by rfl, ?_⟩) ?_ ?_
  rotate_left
  · intro w'
    go_simp
    with_reducible rfl
  rotate_left
  · simp only [Act.put, List.setIfInBounds_toArray, List.set_cons_zero, List.set_cons_succ, i64_w, i32_w]
    rfl
  refine pure_ (i := 2) (N := some 9) (v := ?_) (a' := ?_) #[true, true, true, false, false, false, false, false, false, false, false] rfl rfl (by kernel_rfl) (fun _ _ _ h => h) (Or.inl ⟨by rfl, ?_⟩) ?_ ?_
  rotate_left
  · intro w'
    go_simp
    with_reducible rfl
  rotate_left
  · simp only [Act.put, List.setIfInBounds_toArray, List.set_cons_zero, List.set_cons_succ, i64_w, i32_w]
    rfl
  refine pure_ (i := 3) (N := some 10) (v := undef) (a' := ?_) #[true, true, true, true, false, false, false, false, false, false, false] rfl rfl (by kernel_rfl) (fun _ _ _ h => h) (Or.inr ⟨by rfl, rfl⟩) ?_ ?_
  rotate_left
  · simp only [Act.put, List.setIfInBounds_toArray, List.set_cons_zero, List.set_cons_succ, i64_w, i32_w]
    rfl
  refine pure_ (i := 4) (N := some 11) (v := undef) (a' := ?_) #[true, true, true, true, true, false, false, false, false, false, false] rfl rfl (by kernel_rfl) (fun _ _ _ h => h) (Or.inr ⟨by rfl, rfl⟩) ?_ ?_
  rotate_left
  · simp only [Act.put, List.setIfInBounds_toArray, List.set_cons_zero, List.set_cons_succ, i64_w, i32_w]
    rfl
  refine pure_ (i := 5) (N := some 12) (v := undef) (a' := ?_) #[true, true, true, true, true, true, false, false, false, false, false] rfl rfl (by kernel_rfl) (fun _ _ _ h => h) (Or.inr ⟨by rfl, rfl⟩) ?_ ?_
  rotate_left
  · simp only [Act.put, List.setIfInBounds_toArray, List.set_cons_zero, List.set_cons_succ, i64_w, i32_w]
    rfl
  refine pure_ (i := 6) (N := some 13) (v := undef) (a' := ?_) #[true, true, true, true, true, true, true, false, false, false, false] rfl rfl (by kernel_rfl) (fun _ _ _ h => h) (Or.inr ⟨by rfl, rfl⟩) ?_ ?_
  rotate_left
  · simp only [Act.put, List.setIfInBounds_toArray, List.set_cons_zero, List.set_cons_succ, i64_w, i32_w]
    rfl
  refine pure_ (i := 7) (N := some 14) (v := undef) (a' := ?_) #[true, true, true, true, true, true, true, true, false, false, false] rfl rfl (by kernel_rfl) (fun _ _ _ h => h) (Or.inr ⟨by rfl, rfl⟩) ?_ ?_
  rotate_left
  · simp only [Act.put, List.setIfInBounds_toArray, List.set_cons_zero, List.set_cons_succ, i64_w, i32_w]
    rfl
  refine pure_ (i := 8) (N := some 15) (v := undef) (a' := ?_) #[true, true, true, true, true, true, true, true, true, false, false] rfl rfl (by kernel_rfl) (fun _ _ _ h => h) (Or.inr ⟨by rfl, rfl⟩) ?_ ?_
  rotate_left
  · simp only [Act.put, List.setIfInBounds_toArray, List.set_cons_zero, List.set_cons_succ, i64_w, i32_w]
    rfl
  refine pure_ (i := 9) (N := some 16) (v := undef) (a' := ?_) #[true, true, true, true, true, true, true, true, true, true, false] rfl rfl (by kernel_rfl) (fun _ _ _ h => h) (Or.inr ⟨by rfl, rfl⟩) ?_ ?_
  rotate_left
  · simp only [Act.put, List.setIfInBounds_toArray, List.set_cons_zero, List.set_cons_succ, i64_w, i32_w]
    rfl
  refine pure_ (i := 10) (N := some 17) (v := ?_) (a' := ?_) #[true, true, true, true, true, true, true, true, true, true, true] rfl rfl (by kernel_rfl) (fun _ _ _ h => h) (Or.inl ⟨by rfl, ?_⟩) ?_ ?_
  rotate_left
  · intro w'
    go_simp
    with_reducible rfl
  rotate_left
  · simp only [Act.put, List.setIfInBounds_toArray, List.set_cons_zero, List.set_cons_succ, i64_w, i32_w]
    rfl
  refine done_ (by kernel_rfl) ?_
  clear z0
  go_wp2
  go_ret
  exact ⟨rfl, below_drew (below_alloc (below_alloc (Below.refl _ _) _) _)⟩
set_option maxHeartbeats 400000 in
theorem hold_nil (A B : Option Addr) (n c m d : Nat) (w : World) : Calls Tryz.prog 34 #[.pointer none, .slice A n c, .slice B m d] w fun e w' => e = .returned (.bool false) ∧ Below w.heap.size w w' := by
  go_enter Tryz.func34, Tryz.ntmps34
  go_wp2_with fail
  refine (holds_nil A B n c m d _).mono ?_
  rintro e w1 ⟨rfl, hb⟩
  go_wp2_with fail
  go_ret
  exact ⟨rfl, hb⟩
set_option maxHeartbeats 400000 in
theorem true_nil (A : Option Addr) (n c : Nat) (l : Int) (w : World) : Calls Tryz.prog 32 #[.pointer none, .slice A n c, .int .i64 l] w fun e w' => e = .returned (.bool false) ∧ Below w.heap.size w w' := by
  go_enter Tryz.func32, Tryz.ntmps32
  go_wp2_with fail
  refine (holds_nil A _ n c 1 1 _).mono ?_
  rintro e w1 ⟨rfl, hb⟩
  go_wp2_with fail
  go_ret
  exact ⟨rfl, below1 hb⟩
set_option maxHeartbeats 400000 in
theorem text_nil (l : Int) (hl : wfInt .i64 l) (w : World) : Calls Tryz.prog 37 #[.pointer none, .int .i64 l] w fun e w' => e = .returned (.string ⟨#[]⟩) ∧ Below w.heap.size w w' := by
  have hu := Tryz.underlying42
  have HL := Aside0.mk hl
  clear hl
  go_enter Tryz.func37, Tryz.ntmps37
  go_wp2_with fail
  refine (what_nil l HL.out _).mono ?_
  rintro e w1 ⟨he, hb⟩
  change e = Ending.returned (.tuple #[.agg #[.int .i64 0, .bool false, .int .i64 0], .bool false]) at he
  subst he
  have hb := Aside0.mk hb
  go_wp2_with fail
  go_ret
  exact ⟨rfl, below_alloc hb.out _⟩
end Go.Proofs.YtoiiekhgoefalaaGreat
namespace Go.Proofs.YtoiiekhgoefalaaGreat
open Go.Proofs Go.RowKit Go.Proofs.YtoiiekhgoefalaaGreatW.PrintWords Go.Proofs.YtoiiekhgoefalaaGreatW.PrintLast
set_option linter.unusedVariables false
set_option linter.unusedSimpArgs false

def zeroP : Problem := ⟨⟨#[]⟩, ⟨0, 0, 0⟩, [], [], [], [], [], [], [], ⟨0, 0, 0, 0⟩⟩
theorem zeroOk : problemOk zeroP = false := by decide +kernel
theorem small_zero : Small zeroP := ⟨by decide, fun x hx => by cases hx⟩
theorem wf_zero : wfProblem zeroP where
  h0 := by show _ ≤ _; decide
  h1 := ⟨i64_wf ⟨by decide, by decide⟩, i64_wf ⟨by decide, by decide⟩, i64_wf ⟨by decide, by decide⟩⟩
  h2 := ⟨by decide, fun y hy => by cases hy⟩
  h3 := ⟨by decide, fun y hy => by cases hy⟩
  h4 := ⟨by decide, fun y hy => by cases hy⟩
  h5 := ⟨by decide, fun y hy => by cases hy⟩
  h6 := ⟨by decide, fun y hy => by cases hy⟩
  h7 := ⟨by decide, fun y hy => by cases hy⟩
  h8 := ⟨by decide, fun y hy => by cases hy⟩
  h9 := ⟨i64_wf ⟨by decide, by decide⟩, i64_wf ⟨by decide, by decide⟩, i64_wf ⟨by decide, by decide⟩, i64_wf ⟨by decide, by decide⟩⟩
def zeroM : Map := mapOf zeroP
theorem mok_zero : MOk zeroM := mok_of zeroP small_zero
theorem zero_K (w : World) : kProblem.K w zeroP [.string ⟨#[]⟩, .int .i64 0, .int .i64 0, .int .i64 0, .slice none 0 0, .slice none 0 0, .slice none 0 0, .slice none 0 0, .slice none 0 0, .slice none 0 0, .slice none 0 0, .int .i64 0, .int .i64 0, .int .i64 0, .int .i64 0] :=
  kProblem_mk w zeroP (Nat.le_refl _) (nilC kRoom w) (Nat.le_refl _) (nilC kRows w) (Nat.le_refl _) (nilC kPerson w) (Nat.le_refl _) (nilC kClass w) (Nat.le_refl _) (nilC kCourse w) (Nat.le_refl _) (nilC kStudent w) (Nat.le_refl _) (nilC kRule w)
theorem zero_box (w : World) : MBox (w.alloc (.cells #[.string ⟨#[]⟩, .int .i64 0, .int .i64 0, .int .i64 0, .slice none 0 0, .slice none 0 0, .slice none 0 0, .slice none 0 0, .slice none 0 0, .slice none 0 0, .slice none 0 0, .int .i64 0, .int .i64 0, .int .i64 0, .int .i64 0, .slice none 0 0, .slice none 0 0, .slice none 0 0] 75)) w.heap.size zeroM :=
  ⟨_, ⟨_, [.slice none 0 0, .slice none 0 0, .slice none 0 0], rfl, zero_K _, ⟨[_], [_, _], rfl, ⟨none, 0, rfl, Nat.le_refl _, nilC kChoice _⟩, ⟨[_], [_], rfl, ⟨none, 0, rfl, Nat.le_refl _, nilC (Kd.int .i64) _⟩, ⟨none, 0, rfl, Nat.le_refl _, nilC (Kd.int .i64) _⟩⟩⟩⟩, blk_new w _⟩
theorem what_zero (n : Int) : whatOf zeroM n = (noChoice, false) := by
  rw [whatOf, if_pos]
  show n = 0 ∨ 0 < n.natAbs
  omega
theorem time_zero (c i : Int) : timeOf zeroM c i = 0 := by
  unfold timeOf
  split
  · rfl
  · rw [show zeroM.f2[c.toNat]? = none from rfl]
theorem place_zero (c i : Int) : placeOf zeroM c i = 0 := by
  unfold placeOf
  split
  · rfl
  · rw [show zeroM.f3[c.toNat]? = none from rfl]
set_option maxRecDepth 100000 in
set_option maxHeartbeats 1000000 in
theorem of_calls (m : Map) (hm : MOk m) (b : Nat) (w : World) (hM : MBox w b m) (c : Int) (p : Bool) (i : Int) (r : Int) (hr : (if p then placeOf m c i else timeOf m c i) = r) :
    Calls Tryz.prog 21 #[.pointer (some ⟨b, 0, none⟩), .agg #[.int .i64 c, .bool p, .int .i64 i]] w fun e w' => e = .returned (.int .i64 r) ∧ Below w.heap.size w w' := by
  have hu42 := Tryz.underlying42
  have HM := Aside0.mk hM
  have HR := Aside0.mk hr
  clear hM hr
  cases p
  · go_enter Tryz.func21, Tryz.ntmps21
    go_wp2_with fail
    refine (time_calls m hm b _ (HM.out.below (below_alloc (Below.refl _ _) _)) c i r HR.out).mono ?_
    rintro e w1 ⟨rfl, hb⟩
    go_wp2_with fail
    go_ret
    exact ⟨rfl, below1 hb⟩
  · go_enter Tryz.func21, Tryz.ntmps21
    go_wp2_with fail
    refine (place_calls m hm b _ (HM.out.below (below_alloc (Below.refl _ _) _)) c i r HR.out).mono ?_
    rintro e w1 ⟨rfl, hb⟩
    go_wp2_with fail
    go_ret
    exact ⟨rfl, below1 hb⟩
set_option maxRecDepth 100000 in
set_option maxHeartbeats 1000000 in
theorem text_zero (b : Nat) (l : Int) (hl : wfInt .i64 l) (w : World) (hM : MBox w b zeroM) : Calls Tryz.prog 37 #[.pointer (some ⟨b, 0, none⟩), .int .i64 l] w fun e w' => e = .returned (.string ⟨#[]⟩) ∧ Below w.heap.size w w' := by
  have hu := Tryz.underlying42
  have HL := Aside0.mk hl
  have HM := Aside0.mk hM
  clear hl hM
  go_enter Tryz.func37, Tryz.ntmps37
  go_wp2_with fail
  refine (what_calls zeroM mok_zero b _ HM.out l HL.out _ (what_zero l)).mono ?_
  rintro e w1 ⟨he, hb⟩
  change e = Ending.returned (.tuple #[.agg #[.int .i64 0, .bool false, .int .i64 0], .bool false]) at he
  subst he
  have hb := Aside0.mk hb
  go_wp2_with fail
  go_ret
  exact ⟨rfl, below_alloc hb.out _⟩
set_option maxRecDepth 100000 in
set_option maxHeartbeats 2000000 in
theorem each_zero (w : World) (fv : Value) : Calls Tryz.prog 93 #[.agg #[.string ⟨#[]⟩, .int .i64 0, .int .i64 0, .int .i64 0, .slice none 0 0, .slice none 0 0, .slice none 0 0, .slice none 0 0, .slice none 0 0, .slice none 0 0, .slice none 0 0, .int .i64 0, .int .i64 0, .int .i64 0, .int .i64 0], .slice none 0 0, fv] w fun e w' => e = .returned (.bool false) ∧ Below w.heap.size w w' := by
  have hu := Tryz.underlying40
  go_enter Tryz.func93, Tryz.ntmps93
  go_wp2_with fail
  refine (problemOk_calls zeroP wf_zero _ _ (zero_K _) _ zeroOk).mono ?_
  rintro e w1 ⟨rfl, hb⟩
  go_wp2_with fail
  go_ret
  exact ⟨rfl, below1 hb⟩
set_option maxRecDepth 100000 in
set_option maxHeartbeats 2000000 in
theorem right_zero (w : World) : Calls Tryz.prog 58 #[.agg #[.string ⟨#[]⟩, .int .i64 0, .int .i64 0, .int .i64 0, .slice none 0 0, .slice none 0 0, .slice none 0 0, .slice none 0 0, .slice none 0 0, .slice none 0 0, .slice none 0 0, .int .i64 0, .int .i64 0, .int .i64 0, .int .i64 0], .slice none 0 0] w fun e w' => e = .returned (.bool false) ∧ Below w.heap.size w w' := by
  have hu := Tryz.underlying40
  go_enter Tryz.func58, Tryz.ntmps58
  go_wp2_with fail
  refine (each_zero _ _).mono ?_
  rintro e w1 ⟨rfl, hb⟩
  go_wp2_with fail
  go_ret
  exact ⟨rfl, below1 hb⟩
end Go.Proofs.YtoiiekhgoefalaaGreat
namespace Go.Proofs.YtoiiekhgoefalaaGreat
open Go.Proofs Go.Shelf
def cutPrefix_ren : Go.Shelf.Ren := ⟨fun | 103 => 61 | 210 => 99 | 206 => 151 | n => n, fun | 9 => 9 | 4 => 4 | 24 => 102 | 3 => 3 | n => n, fun | n => n⟩
theorem cutPrefix : Go.Proofs.Lays.n103 Tryz.prog cutPrefix_ren := {
  mixed := by kernel_rfl
  f103 := Tryz.func61.trans (congrArg some (by kernel_rfl))
  f206 := Tryz.func151.trans (congrArg some (by kernel_rfl))
  f210 := Tryz.func99.trans (congrArg some (by kernel_rfl))
  t3 := Tryz.underlying3
  a3 := Tryz.isAgg3
  z3 := Tryz.sizeOf3
  v3 := Tryz.zeroValue3
  t4 := Tryz.underlying4
  a4 := Tryz.isAgg4
  z4 := Tryz.sizeOf4
  v4 := Tryz.zeroValue4
  t9 := Tryz.underlying9
  a9 := Tryz.isAgg9
  z9 := Tryz.sizeOf9
  v9 := Tryz.zeroValue9
  t24 := Tryz.underlying102
  a24 := Tryz.isAgg102
  z24 := Tryz.sizeOf102
  v24 := Tryz.zeroValue102 }
def indexAny_ren : Go.Shelf.Ren := ⟨fun | 153 => 62 | 152 => 100 | 226 => 101 | 227 => 102 | 228 => 103 | 137 => 152 | 119 => 153 | 224 => 154 | 225 => 155 | 217 => 183 | 266 => 192 | n => n, fun | 9 => 9 | 3 => 3 | 4 => 4 | 5 => 5 | 21 => 21 | 117 => 161 | 116 => 160 | 0 => 0 | 46 => 83 | 124 => 206 | n => n, fun | n => n⟩
theorem indexAny : Go.Proofs.Lays.n153 Tryz.prog indexAny_ren := {
  mixed := by kernel_rfl
  f119 := Tryz.func153.trans (congrArg some (by kernel_rfl))
  f137 := Tryz.func152.trans (congrArg some (by kernel_rfl))
  f152 := Tryz.func100.trans (congrArg some (by kernel_rfl))
  f153 := Tryz.func62.trans (congrArg some (by kernel_rfl))
  f217 := Tryz.func183.trans (congrArg some (by kernel_rfl))
  f224 := Tryz.func154.trans (congrArg some (by kernel_rfl))
  f225 := Tryz.func155.trans (congrArg some (by kernel_rfl))
  f226 := Tryz.func101.trans (congrArg some (by kernel_rfl))
  f227 := Tryz.func102.trans (congrArg some (by kernel_rfl))
  f228 := Tryz.func103.trans (congrArg some (by kernel_rfl))
  f266 := Tryz.func192.trans (congrArg some (by kernel_rfl))
  t0 := Tryz.underlying0
  a0 := Tryz.isAgg0
  z0 := Tryz.sizeOf0
  v0 := Tryz.zeroValue0
  t3 := Tryz.underlying3
  a3 := Tryz.isAgg3
  z3 := Tryz.sizeOf3
  v3 := Tryz.zeroValue3
  t4 := Tryz.underlying4
  a4 := Tryz.isAgg4
  z4 := Tryz.sizeOf4
  v4 := Tryz.zeroValue4
  t5 := Tryz.underlying5
  a5 := Tryz.isAgg5
  z5 := Tryz.sizeOf5
  v5 := Tryz.zeroValue5
  t9 := Tryz.underlying9
  a9 := Tryz.isAgg9
  z9 := Tryz.sizeOf9
  v9 := Tryz.zeroValue9
  t21 := Tryz.underlying21
  a21 := Tryz.isAgg21
  z21 := Tryz.sizeOf21
  v21 := Tryz.zeroValue21
  t46 := Tryz.underlying83
  a46 := Tryz.isAgg83
  z46 := Tryz.sizeOf83
  v46 := Tryz.zeroValue83
  t116 := Tryz.underlying160
  a116 := Tryz.isAgg160
  z116 := Tryz.sizeOf160
  t117 := Tryz.underlying161
  a117 := Tryz.isAgg161
  z117 := Tryz.sizeOf161
  v117 := Tryz.zeroValue161
  t124 := Tryz.underlying206
  a124 := Tryz.isAgg206
  z124 := Tryz.sizeOf206
  v124 := Tryz.zeroValue206 }
end Go.Proofs.YtoiiekhgoefalaaGreat
namespace Go.Proofs.YtoiiekhgoefalaaGreat
open Go.Proofs Go.RowKit Go.Proofs.YtoiiekhgoefalaaGreatW.PrintWords Go.Proofs.YtoiiekhgoefalaaGreatW.PrintLast
set_option linter.unusedVariables false
set_option linter.unusedSimpArgs false

theorem iter_below (w : World) (s : ByteArray) (pos : Nat) : Below w.heap.size w (w.iter s pos) := below_alloc (Below.refl _ _) _
theorem cut_calls (w : World) : Calls Tryz.prog 61 #[.string ⟨#[48, 116, 48]⟩, .string ⟨#[45]⟩] w fun e w' => e = .returned (.tuple #[.string ⟨#[48, 116, 48]⟩, .bool false]) ∧ w = w' :=
  (Any.strings_CutPrefix cutPrefix ⟨#[48, 116, 48]⟩ ⟨#[45]⟩ w).mono (fun e w' ⟨he, hw⟩ => ⟨he, hw.symm⟩)
theorem any_calls (w : World) : Calls Tryz.prog 62 #[.string ⟨#[48, 116, 48]⟩, .string ⟨#[116, 112]⟩] w fun e w' => e = .returned (.int .i64 1) ∧ Below w.heap.size w w' :=
  (Any.strings_IndexAny_short indexAny ⟨#[48, 116, 48]⟩ ⟨#[116, 112]⟩ w (by decide) (by decide) (fun j b h => by
    match j, h with
    | 0, h => simp at h; subst h; decide
    | 1, h => simp at h; subst h; decide
    | 2, h => simp at h; subst h; decide
    | j + 3, h => simp at h)).mono (fun e w' ⟨he, pos, hw⟩ => ⟨he, hw ▸ iter_below w _ _⟩)
set_option maxHeartbeats 1000000 in
theorem shaped0 (w : World) : Calls Tryz.prog 104 #[.string ⟨#[48]⟩] w fun e w' => e = .returned (.bool true) ∧ Below w.heap.size w w' := by
  go_enter Tryz.func104, Tryz.ntmps104
  go_wp2_with fail
  go_loopw [18] (fun v wr => ∃ k : Nat, v = .int .i64 k ∧ k ≤ 1 ∧ Aside0 (Below w.heap.size w wr)) (fun v _ => 1 - (intOf v).toNat)
  case atStart => exact ⟨0, rfl, by omega, ⟨Below.refl _ _⟩⟩
  case round =>
    obtain ⟨k, rfl, hk, hb⟩ := hrel
    rcases (by omega : k = 0 ∨ k = 1) with rfl | rfl
    · go_wp2_with fail
      go_roundw
      case rel => exact ⟨1, rfl, by omega, hb⟩
      case measure => simp [intOf]
    · go_wp2_with fail
      go_ret
      exact ⟨rfl, hb.out⟩
set_option maxHeartbeats 1000000 in
theorem word0p (w : World) : Calls Tryz.prog 63 #[.string ⟨#[48]⟩] w fun e w' => e = .returned (.tuple #[.int .u64 0, .int .i64 0]) ∧ Below w.heap.size w w' := by
  go_enter Tryz.func63, Tryz.ntmps63
  go_wp2_with fail
  refine (shaped0 _).mono ?_
  rintro e w1 ⟨rfl, hb1⟩
  have hb1 := Aside0.mk hb1
  go_wp2_with fail
  go_loopw [4, 12] (fun v4 v wr => v4 = .int .u64 0 ∧ ∃ k : Nat, v = .int .i64 k ∧ k ≤ 1 ∧ Aside0 (Below w.heap.size w wr)) (fun _ v _ => 1 - (intOf v).toNat)
  case atStart => exact ⟨rfl, 0, rfl, by omega, hb1⟩
  case round =>
    obtain ⟨rfl, k, rfl, hk, hb⟩ := hrel
    rcases (by omega : k = 0 ∨ k = 1) with rfl | rfl
    · go_wp2_with fail
      go_roundw
      case rel => exact ⟨rfl, 1, rfl, by omega, hb⟩
      case measure => simp [intOf]
    · go_wp2_with fail
      go_ret2
      exact ⟨rfl, hb.out⟩
set_option maxRecDepth 100000 in
set_option maxHeartbeats 2000000 in
theorem parse_zero (b : Nat) (w : World) (hM : MBox w b zeroM) : Calls Tryz.prog 36 #[.pointer (some ⟨b, 0, none⟩), .string ⟨#[48, 116, 48]⟩] w fun e w' => e = .returned (.tuple #[.int .i64 0, .int .i64 6]) ∧ Below w.heap.size w w' := by
  have hu := Tryz.underlying42
  have HM := Aside0.mk hM
  clear hM
  go_enter Tryz.func36, Tryz.ntmps36
  go_wp2_with fail
  (refine (cut_calls _).mono ?_; rintro e w' ⟨rfl, rfl⟩; go_wp2_with fail)
  refine (any_calls _).mono ?_
  rintro e w1 ⟨rfl, hb1⟩
  have hb1 := Aside0.mk hb1
  go_wp2_with fail
  refine (word0p _).mono ?_
  rintro e w2 ⟨rfl, hb2⟩
  have hb2 := Aside0.mk (bthen hb1.out hb2 (Nat.le_refl _))
  go_wp2_with fail
  refine (word0p _).mono ?_
  rintro e w3 ⟨rfl, hb3⟩
  have hb3 := Aside0.mk (bthen hb2.out hb3 (Nat.le_refl _))
  go_wp2_with fail
  refine (of_calls zeroM mok_zero b _ (HM.out.below hb3.out) 0 false 0 0 (time_zero 0 0)).mono ?_
  rintro e w4 ⟨rfl, hb4⟩
  have hb4 := Aside0.mk (bthen hb3.out hb4 (Nat.le_refl _))
  go_wp2_with fail
  go_ret2
  exact ⟨rfl, hb4.out⟩
theorem run_loadVar_cells {P : Program} (w : World) (g : Nat) (ty : TypeId) (cs : List Value) (d : TypeDesc) (hc : ∀ j v, cs[j]? = some v → w.cell? ⟨g, j, none⟩ = some v)
    (hu : P.underlying ty = some d) (hd : (match d with | .struct _ | .array _ _ => true | _ => false) = true) (hi : (P.info? ty).map (·.size) = some cs.length) :
    (loadVar ty ⟨g, 0, none⟩).run P w = .ok (.agg cs.toArray) w := by
  have hl : (loadCells ⟨g, 0, none⟩ cs.length).run P w = .ok cs.toArray w :=
    run_loadCells_list (P := P) w ⟨g, 0, none⟩ cs (fun j v hv => by rw [add_plain]; exact hc j v hv)
  cases hq : P.info? ty with
  | none => simp [hq] at hi
  | some i =>
    have hs : i.size = cs.length := by simpa [hq] using hi
    have hagg : (isAgg ty).run P w = .ok true w := by
      unfold isAgg
      rw [Sem.run_bind, run_underlying hu w]
      cases d <;> simp_all
    simp [loadVar, Sem.run_bind, hagg, sizeOf, typeInfo, hq, hs, hl]
theorem load_step {P : Program} {ops : Array Oper} {oi : Oper} {N : Option Tmp} {a : Act} {W : World} {Q : Exit → Act → World → Prop} {K : Act → World → Prop} (hw : Region.wanted oi (yielded ops a.tmps) = true) (hN : oi.dst = N) (t : TypeId) (p : Operand) (ho : oi.op = .load t p) (g : Nat) (T : TypeId) (cs : Array Value) (d : TypeDesc) (hp : a.eval p = .pointer (some ⟨g, 0, none⟩))
    (hr : (loadVar t ⟨g, 0, none⟩).run P W = .ok (.agg cs) W) (h : K (a.put N (.agg cs)) W) : if Region.wanted oi (yielded ops a.tmps) = true then Oper.wp P oi a W K Q else K (a.put N undef) W := by
  refine value_ hw hN ?_ h
  unfold execOp
  simp only [ho, hp, Instr.loadAt, Instr.sureAddr, Sem.run_bind, Sem.run_pure, Result.andThen_ok, hr]
set_option maxRecDepth 100000 in
set_option maxHeartbeats 4000000 in
theorem holds_zero (b : Nat) (B : Option Addr) (m d : Nat) (w : World) (hZ : ∀ j v, ([.string ⟨#[]⟩, .int .i64 0, .int .i64 0, .int .i64 0, .slice none 0 0, .slice none 0 0, .slice none 0 0, .slice none 0 0, .slice none 0 0, .slice none 0 0, .slice none 0 0, .int .i64 0, .int .i64 0, .int .i64 0, .int .i64 0] : List Value)[j]? = some v → w.cell? ⟨b, j, none⟩ = some v) :
    Calls Tryz.prog 60 #[.pointer (some ⟨b, 0, none⟩), .slice none 0 0, .slice B m d] w fun e w' => e = .returned (.bool false) ∧ Below w.heap.size w w' := by
  have hu := Tryz.underlying40
  have hlt := World.block_lt_of_cell? w _ (hZ 0 _ rfl)
  have HZ := Aside0.mk hZ
  clear hZ
  go_enter Tryz.func60, Tryz.ntmps60
  go_wp2
  have hW : Aside0 (Below w.heap.size w ((w.alloc (.cells #[.pointer (some ⟨b, 0, none⟩)] 44)).alloc (.cells #[.slice none 0 0] 57))) := ⟨below_alloc (below_alloc (Below.refl _ _) _) _⟩
  have z0 : ((w.alloc (.cells #[.pointer (some ⟨b, 0, none⟩)] 44)).alloc (.cells #[.slice none 0 0] 57)).cell? ⟨w.heap.size, 0, none⟩ = some (.pointer (some ⟨b, 0, none⟩)) := cell_on (below_alloc (Below.refl _ _) _) (blk_cell (blk_new w _) 0)
  have z1 : ((w.alloc (.cells #[.pointer (some ⟨b, 0, none⟩)] 44)).alloc (.cells #[.slice none 0 0] 57)).cell? ⟨w.heap.size + 1, 0, none⟩ = some (.slice none 0 0) := by
    simp
  refine start_ (n := 11) (S := (fun w' => w'.cell? ⟨w.heap.size, 0, none⟩ = some (.pointer (some ⟨b, 0, none⟩)) ∧ w'.cell? ⟨w.heap.size + 1, 0, none⟩ = some (.slice none 0 0))) (ds := []) #[false, false, false, false, false, false, false, false, false, false, false] (by kernel_rfl) rfl rfl (⟨z0, z1⟩) (fun hHeld => ?_)
  refine take_ (i := 0) (N := some 7) (v := ?_) (a' := ?_) #[true, false, false, false, false, false, false, false, false, false, false] rfl rfl (by kernel_rfl) (fun _ _ _ h => h) (Or.inl ⟨by rfl, ?_⟩) hHeld ?_ ?_
  rotate_left
  · rintro w' ⟨s1, s2⟩
    go_simp
    with_reducible rfl
  rotate_left
  · simp only [Act.put, List.setIfInBounds_toArray, List.set_cons_zero, List.set_cons_succ, i64_w, i32_w]
    rfl
  refine pure_ (i := 1) (N := some 8) (v := ?_) (a' := ?_) #[true, true, false, false, false, false, false, false, false, false, false] rfl rfl (by kernel_rfl) (fun _ _ _ h => h) (Or.inl ⟨by rfl, ?_⟩) ?_ ?_
  rotate_left
  · intro w'
    go_simp
    with_reducible rfl
  rotate_left
  · simp only [Act.put, List.setIfInBounds_toArray, List.set_cons_zero, List.set_cons_succ, i64_w, i32_w]
    rfl
  refine pure_ (i := 2) (N := some 9) (v := ?_) (a' := ?_) #[true, true, true, false, false, false, false, false, false, false, false] rfl rfl (by kernel_rfl) (fun _ _ _ h => h) (Or.inl ⟨by rfl, ?_⟩) ?_ ?_
  rotate_left
  · intro w'
    go_simp
    with_reducible rfl
  rotate_left
  · simp only [Act.put, List.setIfInBounds_toArray, List.set_cons_zero, List.set_cons_succ, i64_w, i32_w]
    rfl
  refine take_ (i := 3) (N := some 10) (v := ?_) (a' := ?_) #[true, true, true, true, false, false, false, false, false, false, false] rfl rfl (by kernel_rfl) (fun _ _ _ h => h) (Or.inl ⟨by rfl, ?_⟩) hHeld ?_ ?_
  rotate_left
  · rintro w' ⟨s1, s2⟩
    go_simp
    with_reducible rfl
  rotate_left
  · simp only [Act.put, List.setIfInBounds_toArray, List.set_cons_zero, List.set_cons_succ, i64_w, i32_w]
    rfl
  refine pure_ (i := 4) (N := some 11) (v := ?_) (a' := ?_) #[true, true, true, true, true, false, false, false, false, false, false] rfl rfl (by kernel_rfl) (fun _ _ _ h => h) (Or.inl ⟨by rfl, ?_⟩) ?_ ?_
  rotate_left
  · intro w'
    go_simp
    with_reducible rfl
  rotate_left
  · simp only [Act.put, List.setIfInBounds_toArray, List.set_cons_zero, List.set_cons_succ, i64_w, i32_w]
    rfl
  refine pure_ (i := 5) (N := some 12) (v := ?_) (a' := ?_) #[true, true, true, true, true, true, false, false, false, false, false] rfl rfl (by kernel_rfl) (fun _ _ _ h => h) (Or.inl ⟨by rfl, ?_⟩) ?_ ?_
  rotate_left
  · intro w'
    go_simp
    with_reducible rfl
  rotate_left
  · simp only [Act.put, List.setIfInBounds_toArray, List.set_cons_zero, List.set_cons_succ, i64_w, i32_w]
    rfl
  refine take_ (i := 7) (N := some 14) (v := ?_) (a' := ?_) #[true, true, true, true, true, true, false, true, false, false, false] rfl rfl (by kernel_rfl) (fun _ _ _ h => h) (Or.inl ⟨by rfl, ?_⟩) hHeld ?_ ?_
  rotate_left
  · rintro w' ⟨s1, s2⟩
    go_simp
    with_reducible rfl
  rotate_left
  · simp only [Act.put, List.setIfInBounds_toArray, List.set_cons_zero, List.set_cons_succ, i64_w, i32_w]
    rfl
  refine one_ (i := 6) (N := some 13) #[true, true, true, true, true, true, true, true, false, false, false] rfl rfl (by kernel_rfl) (by decide) (fun K hK => ?_)
  refine load_step (by rfl) rfl _ _ rfl b 0 #[.string ⟨#[]⟩, .int .i64 0, .int .i64 0, .int .i64 0, .slice none 0 0, .slice none 0 0, .slice none 0 0, .slice none 0 0, .slice none 0 0, .slice none 0 0, .slice none 0 0, .int .i64 0, .int .i64 0, .int .i64 0, .int .i64 0] (TypeDesc.struct #[]) rfl ?_ ?_
  · have hc : ∀ j v, ([.string ⟨#[]⟩, .int .i64 0, .int .i64 0, .int .i64 0, .slice none 0 0, .slice none 0 0, .slice none 0 0, .slice none 0 0, .slice none 0 0, .slice none 0 0, .slice none 0 0, .int .i64 0, .int .i64 0, .int .i64 0, .int .i64 0] : List Value)[j]? = some v → World.cell? (World.drew _) ⟨b, j, none⟩ = some v := fun j v hj => cell_on (below_drew hW.out) (HZ.out j v hj)
    exact run_loadVar_cells _ b 40 _ _ hc hu rfl rfl
  refine hK.out _ _ ⟨z0, z1⟩ (fun hHeld => ?_)
  clear hK K
  refine norm_ (a' := ?_) ?_ ?_
  rotate_left
  · show Act.put _ (some 13) _ = _
    simp only [Act.put, List.setIfInBounds_toArray, List.set_cons_zero, List.set_cons_succ, i64_w, i32_w]
    rfl
  refine one_ (i := 8) (N := some 15) #[true, true, true, true, true, true, true, true, true, false, false] rfl rfl (by kernel_rfl) (by decide) (fun K hK => ?_)
  refine goes_ Tryz.func58 (by kernel_rfl) rfl #[.agg #[.string ⟨#[]⟩, .int .i64 0, .int .i64 0, .int .i64 0, .slice none 0 0, .slice none 0 0, .slice none 0 0, .slice none 0 0, .slice none 0 0, .slice none 0 0, .slice none 0 0, .int .i64 0, .int .i64 0, .int .i64 0, .int .i64 0], .slice none 0 0] (by rfl) rfl rfl (by (try simp only [List.map_toArray, List.map_cons, List.map_nil]); first | done | rfl) ?_
  refine (right_zero _).mono ?_
  rintro e w2 ⟨rfl, hb2⟩
  have hb9 := Aside0.mk (bthen (below_drew hW.out) hb2 (Nat.le_refl _))
  refine ⟨_, rfl, ?_⟩
  refine hK.out _ _ ⟨cell_on hb2 z0, cell_on hb2 z1⟩ (fun hHeld => ?_)
  clear hK K
  refine norm_ (a' := ?_) ?_ ?_
  rotate_left
  · show Act.put _ (some 15) _ = _
    simp only [Act.put, List.setIfInBounds_toArray, List.set_cons_zero, List.set_cons_succ, i64_w, i32_w]
    rfl
  refine pure_ (i := 9) (N := some 16) (v := ?_) (a' := ?_) #[true, true, true, true, true, true, true, true, true, true, false] rfl rfl (by kernel_rfl) (fun _ _ _ h => h) (Or.inl ⟨by rfl, ?_⟩) ?_ ?_
  rotate_left
  · intro w'
    go_simp
    with_reducible rfl
  rotate_left
  · simp only [Act.put, List.setIfInBounds_toArray, List.set_cons_zero, List.set_cons_succ, i64_w, i32_w]
    rfl
  refine pure_ (i := 10) (N := some 17) (v := ?_) (a' := ?_) #[true, true, true, true, true, true, true, true, true, true, true] rfl rfl (by kernel_rfl) (fun _ _ _ h => h) (Or.inl ⟨by rfl, ?_⟩) ?_ ?_
  rotate_left
  · intro w'
    go_simp
    with_reducible rfl
  rotate_left
  · simp only [Act.put, List.setIfInBounds_toArray, List.set_cons_zero, List.set_cons_succ, i64_w, i32_w]
    rfl
  refine done_ (by kernel_rfl) ?_
  clear z0 z1
  go_wp2
  go_ret
  exact ⟨rfl, hb9.out⟩
theorem zero_cells {w : World} {b : Nat} (h : w.heap[b]? = some (.cells #[.string ⟨#[]⟩, .int .i64 0, .int .i64 0, .int .i64 0, .slice none 0 0, .slice none 0 0, .slice none 0 0, .slice none 0 0, .slice none 0 0, .slice none 0 0, .slice none 0 0, .int .i64 0, .int .i64 0, .int .i64 0, .int .i64 0, .slice none 0 0, .slice none 0 0, .slice none 0 0] 75 (0, 0))) :
    ∀ j v, ([.string ⟨#[]⟩, .int .i64 0, .int .i64 0, .int .i64 0, .slice none 0 0, .slice none 0 0, .slice none 0 0, .slice none 0 0, .slice none 0 0, .slice none 0 0, .slice none 0 0, .int .i64 0, .int .i64 0, .int .i64 0, .int .i64 0] : List Value)[j]? = some v → w.cell? ⟨b, j, none⟩ = some v := fun j v hj => by
  rw [blk_cell h j]
  have hlt : j < 15 := (List.getElem?_eq_some_iff.1 hj).1
  rw [← hj]
  match j, hlt with
  | 0, _ => rfl
  | 1, _ => rfl
  | 2, _ => rfl
  | 3, _ => rfl
  | 4, _ => rfl
  | 5, _ => rfl
  | 6, _ => rfl
  | 7, _ => rfl
  | 8, _ => rfl
  | 9, _ => rfl
  | 10, _ => rfl
  | 11, _ => rfl
  | 12, _ => rfl
  | 13, _ => rfl
  | 14, _ => rfl
  | j + 15, h => omega
set_option maxRecDepth 100000 in
set_option maxHeartbeats 1000000 in
theorem true_zero (b : Nat) (l : Int) (w : World) (h : w.heap[b]? = some (.cells #[.string ⟨#[]⟩, .int .i64 0, .int .i64 0, .int .i64 0, .slice none 0 0, .slice none 0 0, .slice none 0 0, .slice none 0 0, .slice none 0 0, .slice none 0 0, .slice none 0 0, .int .i64 0, .int .i64 0, .int .i64 0, .int .i64 0, .slice none 0 0, .slice none 0 0, .slice none 0 0] 75 (0, 0))) :
    Calls Tryz.prog 32 #[.pointer (some ⟨b, 0, none⟩), .slice none 0 0, .int .i64 l] w fun e w' => e = .returned (.bool false) ∧ Below w.heap.size w w' := by
  have HH := Aside0.mk h
  clear h
  go_enter Tryz.func32, Tryz.ntmps32
  go_wp2_with fail
  refine (holds_zero b _ 1 1 _ (zero_cells ((Below.heap_alloc _ _ _ (blk_lt HH.out)).trans HH.out))).mono ?_
  rintro e w1 ⟨rfl, hb⟩
  go_wp2_with fail
  go_ret
  exact ⟨rfl, below1 hb⟩
end Go.Proofs.YtoiiekhgoefalaaGreat
