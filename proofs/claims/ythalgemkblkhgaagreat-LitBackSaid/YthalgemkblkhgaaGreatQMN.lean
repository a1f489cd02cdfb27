/- A nil Map has nothing. A Map that New did not make has no choices. What the library functions CutPrefix and IndexAny are in this program: the tables of numbers that the library's contracts ask for. -/
import Derived.Test.YthalgemkblkhgaaGreatQHeads
import Derived.Shelf.Small.Wraps
import Derived.Shelf.Strings.IndexAny
import Derived.Test.YthalgemkblkhgaaGreatProg
namespace Go.Proofs.YthalgemkblkhgaaGreat
open Go.Proofs Go.RowKit Go.Proofs.YthalgemkblkhgaaGreatW.PrintWords Go.Proofs.YthalgemkblkhgaaGreatW.PrintLast
set_option linter.unusedVariables false
set_option linter.unusedSimpArgs false

set_option maxRecDepth 100000 in
set_option maxHeartbeats 2000000 in
theorem what_nil (l : Int) (hl : wfInt .i64 l) (w : World) : Calls Tryz.prog 18 #[.pointer none, .int .i64 l] w fun e w' => e = retChoice (noChoice, false) ∧ Below w.heap.size w w' := by
  have HL := Aside0.mk hl
  have hli := wf_i64 hl
  have hu42 := Tryz.underlying42
  clear hl
  by_cases h0 : l = 0
  · subst h0
    go_enter Tryz.func18, Tryz.ntmps18
    go_wp2_with fail
    (refine (size_calls 0 HL.out 0 rfl _).mono ?_; rintro e w' ⟨rfl, rfl⟩; go_wp2_with fail)
    try simp only [Exit.inBlock, Exit.then]
    refine bodyPost_ret_by (res_cell_tmp rfl _ _ w.heap.size 42 _ _ _ rfl (blk_new w _) hu42 rfl rfl rfl) rfl ?_
    exact ⟨rfl, below_alloc (Below.refl _ _) _⟩
  · obtain ⟨k, hk⟩ : ∃ k : Nat, l.natAbs = k := ⟨_, rfl⟩
    have hk0 : 0 < k := by omega
    have HK := Aside0.mk hk
    have hkm : k ≤ 9223372036854775808 := by omega
    clear hk h0
    go_enter Tryz.func18, Tryz.ntmps18
    go_wp2_with fail
    (refine (size_calls l HL.out k (by rw [HK.out]) _).mono ?_; rintro e w' ⟨rfl, rfl⟩; go_wp2_with fail)
    (refine (litlen_nil _).mono ?_; rintro e w' ⟨rfl, rfl⟩; go_wp2_with fail)
    try simp only [Exit.inBlock, Exit.then]
    refine bodyPost_ret_by (res_cell_tmp rfl _ _ w.heap.size 42 _ _ _ rfl (blk_new w _) hu42 rfl rfl rfl) rfl ?_
    exact ⟨rfl, below_alloc (Below.refl _ _) _⟩
set_option maxHeartbeats 400000 in
theorem seats_nil (A : Option Addr) (n c : Nat) (w : World) : Calls Tryz.prog 29 #[.pointer none, .slice A n c] w fun e w' => e = .returned (.tuple #[.slice none 0 0, .bool false]) ∧ w = w' := by
  go_enter Tryz.func29, Tryz.ntmps29
  go_wp2_with fail
  go_ret2
  exact ⟨rfl, rfl⟩
set_option maxHeartbeats 400000 in
theorem parse_nil (s : ByteArray) (w : World) : Calls Tryz.prog 40 #[.pointer none, .string s] w fun e w' => e = .returned (.tuple #[.int .i64 0, .int .i64 1]) ∧ w = w' := by
  go_enter Tryz.func40, Tryz.ntmps40
  go_wp2_with fail
  go_ret2
  exact ⟨rfl, rfl⟩
set_option maxHeartbeats 400000 in
theorem time_nil (c i : Int) (w : World) : Calls Tryz.prog 25 #[.pointer none, .int .i64 c, .int .i64 i] w fun e w' => e = .returned (.int .i64 0) ∧ w = w' := by
  go_enter Tryz.func25, Tryz.ntmps25
  go_wp2_with fail
  go_ret
  exact ⟨rfl, rfl⟩
set_option maxHeartbeats 400000 in
theorem place_nil (c i : Int) (w : World) : Calls Tryz.prog 27 #[.pointer none, .int .i64 c, .int .i64 i] w fun e w' => e = .returned (.int .i64 0) ∧ w = w' := by
  go_enter Tryz.func27, Tryz.ntmps27
  go_wp2_with fail
  go_ret
  exact ⟨rfl, rfl⟩
set_option maxHeartbeats 400000 in
theorem of_nil (c : Int) (p : Bool) (i : Int) (w : World) : Calls Tryz.prog 23 #[.pointer none, .agg #[.int .i64 c, .bool p, .int .i64 i]] w fun e w' => e = .returned (.int .i64 0) ∧ Below w.heap.size w w' := by
  have hu42 := Tryz.underlying42
  cases p
  · go_enter Tryz.func23, Tryz.ntmps23
    go_wp2_with fail
    (refine (time_nil c i _).mono ?_; rintro e w' ⟨rfl, rfl⟩; go_wp2_with fail)
    go_ret
    exact ⟨rfl, below_alloc (Below.refl _ _) _⟩
  · go_enter Tryz.func23, Tryz.ntmps23
    go_wp2_with fail
    (refine (place_nil c i _).mono ?_; rintro e w' ⟨rfl, rfl⟩; go_wp2_with fail)
    go_ret
    exact ⟨rfl, below_alloc (Below.refl _ _) _⟩
set_option maxHeartbeats 400000 in
theorem fixed_nil (A : Option Addr) (n c : Nat) (w : World) : Calls Tryz.prog 32 #[.pointer none, .slice A n c] w fun e w' => e = .returned (.slice none 0 0) ∧ w = w' := by
  go_enter Tryz.func32, Tryz.ntmps32
  go_wp2_with fail
  go_ret
  exact ⟨rfl, rfl⟩
set_option maxRecDepth 100000 in
set_option maxHeartbeats 1000000 in
theorem holds_nil (A B : Option Addr) (n c m d : Nat) (w : World) : Calls Tryz.prog 64 #[.pointer none, .slice A n c, .slice B m d] w fun e w' => e = .returned (.bool false) ∧ Below w.heap.size w w' := by
  go_enter Tryz.func64, Tryz.ntmps64
  go_wp2
  have z0 : ((w.alloc (.cells #[.pointer none] 44)).alloc (.cells #[.slice A n c] 57)).cell? ⟨w.heap.size, 0, none⟩ = some (.pointer none) := cell_on (below_alloc (Below.refl _ _) _) (blk_cell (blk_new w _) 0)
  refine start_ (n := 11) (S := (fun w' => w'.cell? ⟨w.heap.size, 0, none⟩ = some (.pointer none))) (ds := []) #[false, false, false, false, false, false, false, false, false, false, false] (by kernel_rfl) rfl rfl (z0) (fun hHeld => ?_)
  refine take_ (i := 0) (N := some 7) (v := ?_) (a' := ?_) #[true, false, false, false, false, false, false, false, false, false, false] rfl rfl (by kernel_rfl) (fun _ _ _ h => h) (Or.inl ⟨by rfl, ?_⟩) hHeld ?_ ?_
  rotate_left
  · rintro w' s1
    go_simp
    with_reducible rfl
  rotate_left
  · simp only [Act.put, List.setIfInBounds_toArray, List.set_cons_zero, List.set_cons_succ, i64_w, i32_w]
    rfl
  refine pure_ (i := 1) (N := some 8) (v := ?_) (a' := ?_) #[true, true, false, false, false, false, false, false, false, false, false] rfl rfl (by kernel_rfl) (fun _ _ _ h => h) (Or.inl ⟨by rfl, ?_⟩) ?_ ?_
  rotate_left
  · intro w'
    go_simp
    with_reducible rfl
  rotate_left
  · simp only [Act.put, List.setIfInBounds_toArray, List.set_cons_zero, List.set_cons_succ, i64_w, i32_w]
    rfl
  refine pure_ (i := 2) (N := some 9) (v := ?_) (a' := ?_) #[true, true, true, false, false, false, false, false, false, false, false] rfl rfl (by kernel_rfl) (fun _ _ _ h => h) (Or.inl ⟨by rfl, ?_⟩) ?_ ?_
  rotate_left
  · intro w'
    go_simp
    with_reducible rfl
  rotate_left
  · simp only [Act.put, List.setIfInBounds_toArray, List.set_cons_zero, List.set_cons_succ, i64_w, i32_w]
    rfl
  refine pure_ (i := 3) (N := some 10) (v := undef) (a' := ?_) #[true, true, true, true, false, false, false, false, false, false, false] rfl rfl (by kernel_rfl) (fun _ _ _ h => h) (Or.inr ⟨by rfl, rfl⟩) ?_ ?_
  rotate_left
  · simp only [Act.put, List.setIfInBounds_toArray, List.set_cons_zero, List.set_cons_succ, i64_w, i32_w]
    rfl
  refine pure_ (i := 4) (N := some 11) (v := undef) (a' := ?_) #[true, true, true, true, true, false, false, false, false, false, false] rfl rfl (by kernel_rfl) (fun _ _ _ h => h) (Or.inr ⟨by rfl, rfl⟩) ?_ ?_
  rotate_left
  · simp only [Act.put, List.setIfInBounds_toArray, List.set_cons_zero, List.set_cons_succ, i64_w, i32_w]
    rfl
  refine pure_ (i := 5) (N := some 12) (v := undef) (a' := ?_) #[true, true, true, true, true, true, false, false, false, false, false] rfl rfl (by kernel_rfl) (fun _ _ _ h => h) (Or.inr ⟨by rfl, rfl⟩) ?_ ?_
  rotate_left
  · simp only [Act.put, List.setIfInBounds_toArray, List.set_cons_zero, List.set_cons_succ, i64_w, i32_w]
    rfl
  refine pure_ (i := 6) (N := some 13) (v := undef) (a' := ?_) #[true, true, true, true, true, true, true, false, false, false, false] rfl rfl (by kernel_rfl) (fun _ _ _ h => h) (Or.inr ⟨by rfl, rfl⟩) ?_ ?_
  rotate_left
  · simp only [Act.put, List.setIfInBounds_toArray, List.set_cons_zero, List.set_cons_succ, i64_w, i32_w]
    rfl
  refine pure_ (i := 7) (N := some 14) (v := undef) (a' := ?_) #[true, true, true, true, true, true, true, true, false, false, false] rfl rfl (by kernel_rfl) (fun _ _ _ h => h) (Or.inr ⟨by rfl, rfl⟩) ?_ ?_
  rotate_left
  · simp only [Act.put, List.setIfInBounds_toArray, List.set_cons_zero, List.set_cons_succ, i64_w, i32_w]
    rfl
  refine pure_ (i := 8) (N := some 15) (v := undef) (a' := ?_) #[true, true, true, true, true, true, true, true, true, false, false] rfl rfl (by kernel_rfl) (fun _ _ _ h => h) (Or.inr ⟨by rfl, rfl⟩) ?_ ?_
  rotate_left
  · simp only [Act.put, List.setIfInBounds_toArray, List.set_cons_zero, List.set_cons_succ, i64_w, i32_w]
    rfl
  refine pure_ (i := 9) (N := some 16) (v := undef) (a' := ?_) #[true, true, true, true, true, true, true, true, true, true, false] rfl rfl (by kernel_rfl) (fun _ _ _ h => h) (Or.inr ⟨by rfl, rfl⟩) ?_ ?_
  rotate_left
  · simp only [Act.put, List.setIfInBounds_toArray, List.set_cons_zero, List.set_cons_succ, i64_w, i32_w]
    rfl
  refine pure_ (i := 10) (N := some 17) (v := ?_) (a' := ?_) #[true, true, true, true, true, true, true, true, true, true, true] rfl rfl (by kernel_rfl) (fun _ _ _ h => h) (Or.inl ⟨by rfl, ?_⟩) ?_ ?_
  rotate_left
  · intro w'
    go_simp
    with_reducible rfl
  rotate_left
  · simp only [Act.put, List.setIfInBounds_toArray, List.set_cons_zero, List.set_cons_succ, i64_w, i32_w]
    rfl
  refine done_ (by kernel_rfl) ?_
  clear z0
  go_wp2
  go_ret
  exact ⟨rfl, below_drew (below_alloc (below_alloc (Below.refl _ _) _) _)⟩
set_option maxHeartbeats 400000 in
theorem hold_nil (A B : Option Addr) (n c m d : Nat) (w : World) : Calls Tryz.prog 36 #[.pointer none, .slice A n c, .slice B m d] w fun e w' => e = .returned (.bool false) ∧ Below w.heap.size w w' := by
  go_enter Tryz.func36, Tryz.ntmps36
  go_wp2_with fail
  refine (holds_nil A B n c m d _).mono ?_
  rintro e w1 ⟨rfl, hb⟩
  go_wp2_with fail
  go_ret
  exact ⟨rfl, hb⟩
set_option maxHeartbeats 400000 in
theorem true_nil (A : Option Addr) (n c : Nat) (l : Int) (w : World) : Calls Tryz.prog 34 #[.pointer none, .slice A n c, .int .i64 l] w fun e w' => e = .returned (.bool false) ∧ Below w.heap.size w w' := by
  go_enter Tryz.func34, Tryz.ntmps34
  go_wp2_with fail
  refine (holds_nil A _ n c 1 1 _).mono ?_
  rintro e w1 ⟨rfl, hb⟩
  go_wp2_with fail
  go_ret
  exact ⟨rfl, below1 hb⟩
set_option maxHeartbeats 400000 in
theorem text_nil (l : Int) (hl : wfInt .i64 l) (w : World) : Calls Tryz.prog 38 #[.pointer none, .int .i64 l] w fun e w' => e = .returned (.string ⟨#[]⟩) ∧ Below w.heap.size w w' := by
  have hu := Tryz.underlying42
  have HL := Aside0.mk hl
  clear hl
  go_enter Tryz.func38, Tryz.ntmps38
  go_wp2_with fail
  refine (what_nil l HL.out _).mono ?_
  rintro e w1 ⟨he, hb⟩
  change e = Ending.returned (.tuple #[.agg #[.int .i64 0, .bool false, .int .i64 0], .bool false]) at he
  subst he
  have hb := Aside0.mk hb
  go_wp2_with fail
  go_ret
  exact ⟨rfl, below_alloc hb.out _⟩
end Go.Proofs.YthalgemkblkhgaaGreat
namespace Go.Proofs.YthalgemkblkhgaaGreat
open Go.Proofs Go.RowKit Go.Proofs.YthalgemkblkhgaaGreatW.PrintWords Go.Proofs.YthalgemkblkhgaaGreatW.PrintLast
set_option linter.unusedVariables false
set_option linter.unusedSimpArgs false

def zeroP : Problem := ⟨⟨#[]⟩, ⟨0, 0, 0⟩, [], [], [], [], [], [], [], ⟨0, 0, 0, 0⟩⟩
theorem zeroOk : problemOk zeroP = false := by decide +kernel
theorem small_zero : Small zeroP := ⟨by decide, fun x hx => by cases hx⟩
theorem wf_zero : wfProblem zeroP where
  h0 := by show _ ≤ _; decide
  h1 := ⟨i64_wf ⟨by decide, by decide⟩, i64_wf ⟨by decide, by decide⟩, i64_wf ⟨by decide, by decide⟩⟩
  h2 := ⟨by decide, fun y hy => by cases hy⟩
  h3 := ⟨by decide, fun y hy => by cases hy⟩
  h4 := ⟨by decide, fun y hy => by cases hy⟩
  h5 := ⟨by decide, fun y hy => by cases hy⟩
  h6 := ⟨by decide, fun y hy => by cases hy⟩
  h7 := ⟨by decide, fun y hy => by cases hy⟩
  h8 := ⟨by decide, fun y hy => by cases hy⟩
  h9 := ⟨i64_wf ⟨by decide, by decide⟩, i64_wf ⟨by decide, by decide⟩, i64_wf ⟨by decide, by decide⟩, i64_wf ⟨by decide, by decide⟩⟩
def zeroM : Map := mapOf zeroP
theorem mok_zero : MOk zeroM := mok_of zeroP small_zero
theorem zero_K (w : World) : kProblem.K w zeroP [.string ⟨#[]⟩, .int .i64 0, .int .i64 0, .int .i64 0, .slice none 0 0, .slice none 0 0, .slice none 0 0, .slice none 0 0, .slice none 0 0, .slice none 0 0, .slice none 0 0, .int .i64 0, .int .i64 0, .int .i64 0, .int .i64 0] :=
  kProblem_mk w zeroP (Nat.le_refl _) (nilC kRoom w) (Nat.le_refl _) (nilC kRows w) (Nat.le_refl _) (nilC kPerson w) (Nat.le_refl _) (nilC kClass w) (Nat.le_refl _) (nilC kCourse w) (Nat.le_refl _) (nilC kStudent w) (Nat.le_refl _) (nilC kRule w)
theorem zero_box (w : World) : MBox (w.alloc (.cells #[.string ⟨#[]⟩, .int .i64 0, .int .i64 0, .int .i64 0, .slice none 0 0, .slice none 0 0, .slice none 0 0, .slice none 0 0, .slice none 0 0, .slice none 0 0, .slice none 0 0, .int .i64 0, .int .i64 0, .int .i64 0, .int .i64 0, .slice none 0 0, .slice none 0 0, .slice none 0 0] 79)) w.heap.size zeroM :=
  ⟨_, ⟨_, [.slice none 0 0, .slice none 0 0, .slice none 0 0], rfl, zero_K _, ⟨[_], [_, _], rfl, ⟨none, 0, rfl, Nat.le_refl _, nilC kChoice _⟩, ⟨[_], [_], rfl, ⟨none, 0, rfl, Nat.le_refl _, nilC (Kd.int .i64) _⟩, ⟨none, 0, rfl, Nat.le_refl _, nilC (Kd.int .i64) _⟩⟩⟩⟩, blk_new w _⟩
theorem what_zero (n : Int) : whatOf zeroM n = (noChoice, false) := by
  rw [whatOf, if_pos]
  show n = 0 ∨ 0 < n.natAbs
  omega
theorem time_zero (c i : Int) : timeOf zeroM c i = 0 := by
  unfold timeOf
  split
  · rfl
  · rw [show zeroM.f2[c.toNat]? = none from rfl]
theorem place_zero (c i : Int) : placeOf zeroM c i = 0 := by
  unfold placeOf
  split
  · rfl
  · rw [show zeroM.f3[c.toNat]? = none from rfl]
set_option maxRecDepth 100000 in
set_option maxHeartbeats 1000000 in
theorem of_calls (m : Map) (hm : MOk m) (b : Nat) (w : World) (hM : MBox w b m) (c : Int) (p : Bool) (i : Int) (r : Int) (hr : (if p then placeOf m c i else timeOf m c i) = r) :
    Calls Tryz.prog 23 #[.pointer (some ⟨b, 0, none⟩), .agg #[.int .i64 c, .bool p, .int .i64 i]] w fun e w' => e = .returned (.int .i64 r) ∧ Below w.heap.size w w' := by
  have hu42 := Tryz.underlying42
  have HM := Aside0.mk hM
  have HR := Aside0.mk hr
  clear hM hr
  cases p
  · go_enter Tryz.func23, Tryz.ntmps23
    go_wp2_with fail
    refine (time_calls m hm b _ (HM.out.below (below_alloc (Below.refl _ _) _)) c i r HR.out).mono ?_
    rintro e w1 ⟨rfl, hb⟩
    go_wp2_with fail
    go_ret
    exact ⟨rfl, below1 hb⟩
  · go_enter Tryz.func23, Tryz.ntmps23
    go_wp2_with fail
    refine (place_calls m hm b _ (HM.out.below (below_alloc (Below.refl _ _) _)) c i r HR.out).mono ?_
    rintro e w1 ⟨rfl, hb⟩
    go_wp2_with fail
    go_ret
    exact ⟨rfl, below1 hb⟩
set_option maxRecDepth 100000 in
set_option maxHeartbeats 1000000 in
theorem text_zero (b : Nat) (l : Int) (hl : wfInt .i64 l) (w : World) (hM : MBox w b zeroM) : Calls Tryz.prog 38 #[.pointer (some ⟨b, 0, none⟩), .int .i64 l] w fun e w' => e = .returned (.string ⟨#[]⟩) ∧ Below w.heap.size w w' := by
  have hu := Tryz.underlying42
  have HL := Aside0.mk hl
  have HM := Aside0.mk hM
  clear hl hM
  go_enter Tryz.func38, Tryz.ntmps38
  go_wp2_with fail
  refine (what_calls zeroM mok_zero b _ HM.out l HL.out _ (what_zero l)).mono ?_
  rintro e w1 ⟨he, hb⟩
  change e = Ending.returned (.tuple #[.agg #[.int .i64 0, .bool false, .int .i64 0], .bool false]) at he
  subst he
  have hb := Aside0.mk hb
  go_wp2_with fail
  go_ret
  exact ⟨rfl, below_alloc hb.out _⟩
set_option maxRecDepth 100000 in
set_option maxHeartbeats 2000000 in
theorem each_zero (w : World) (fv : Value) : Calls Tryz.prog 99 #[.agg #[.string ⟨#[]⟩, .int .i64 0, .int .i64 0, .int .i64 0, .slice none 0 0, .slice none 0 0, .slice none 0 0, .slice none 0 0, .slice none 0 0, .slice none 0 0, .slice none 0 0, .int .i64 0, .int .i64 0, .int .i64 0, .int .i64 0], .slice none 0 0, fv] w fun e w' => e = .returned (.bool false) ∧ Below w.heap.size w w' := by
  have hu := Tryz.underlying40
  go_enter Tryz.func99, Tryz.ntmps99
  go_wp2_with fail
  refine (problemOk_calls zeroP wf_zero _ _ (zero_K _) _ zeroOk).mono ?_
  rintro e w1 ⟨rfl, hb⟩
  go_wp2_with fail
  go_ret
  exact ⟨rfl, below1 hb⟩
set_option maxRecDepth 100000 in
set_option maxHeartbeats 2000000 in
theorem right_zero (w : World) : Calls Tryz.prog 62 #[.agg #[.string ⟨#[]⟩, .int .i64 0, .int .i64 0, .int .i64 0, .slice none 0 0, .slice none 0 0, .slice none 0 0, .slice none 0 0, .slice none 0 0, .slice none 0 0, .slice none 0 0, .int .i64 0, .int .i64 0, .int .i64 0, .int .i64 0], .slice none 0 0] w fun e w' => e = .returned (.bool false) ∧ Below w.heap.size w w' := by
  have hu := Tryz.underlying40
  go_enter Tryz.func62, Tryz.ntmps62
  go_wp2_with fail
  refine (each_zero _ _).mono ?_
  rintro e w1 ⟨rfl, hb⟩
  go_wp2_with fail
  go_ret
  exact ⟨rfl, below1 hb⟩
end Go.Proofs.YthalgemkblkhgaaGreat
namespace Go.Proofs.YthalgemkblkhgaaGreat
open Go.Proofs Go.Shelf
def cutPrefix_ren : Go.Shelf.Ren := ⟨fun | 103 => 67 | 210 => 108 | 206 => 161 | n => n, fun | 9 => 9 | 4 => 4 | 24 => 106 | 3 => 3 | n => n, fun | n => n⟩
theorem cutPrefix : Go.Proofs.Lays.n103 Tryz.prog cutPrefix_ren := {
  mixed := by kernel_rfl
  f103 := Tryz.func67.trans (congrArg some (by kernel_rfl))
  f206 := Tryz.func161.trans (congrArg some (by kernel_rfl))
  f210 := Tryz.func108.trans (congrArg some (by kernel_rfl))
  t3 := Tryz.underlying3
  a3 := Tryz.isAgg3
  z3 := Tryz.sizeOf3
  v3 := Tryz.zeroValue3
  t4 := Tryz.underlying4
  a4 := Tryz.isAgg4
  z4 := Tryz.sizeOf4
  v4 := Tryz.zeroValue4
  t9 := Tryz.underlying9
  a9 := Tryz.isAgg9
  z9 := Tryz.sizeOf9
  v9 := Tryz.zeroValue9
  t24 := Tryz.underlying106
  a24 := Tryz.isAgg106
  z24 := Tryz.sizeOf106
  v24 := Tryz.zeroValue106 }
def indexAny_ren : Go.Shelf.Ren := ⟨fun | 153 => 68 | 152 => 109 | 226 => 110 | 227 => 111 | 228 => 112 | 137 => 162 | 119 => 163 | 224 => 164 | 225 => 165 | 217 => 194 | 266 => 204 | n => n, fun | 9 => 9 | 3 => 3 | 4 => 4 | 5 => 5 | 21 => 21 | 117 => 166 | 116 => 165 | 0 => 0 | 46 => 87 | 124 => 212 | n => n, fun | n => n⟩
theorem indexAny : Go.Proofs.Lays.n153 Tryz.prog indexAny_ren := {
  mixed := by kernel_rfl
  f119 := Tryz.func163.trans (congrArg some (by kernel_rfl))
  f137 := Tryz.func162.trans (congrArg some (by kernel_rfl))
  f152 := Tryz.func109.trans (congrArg some (by kernel_rfl))
  f153 := Tryz.func68.trans (congrArg some (by kernel_rfl))
  f217 := Tryz.func194.trans (congrArg some (by kernel_rfl))
  f224 := Tryz.func164.trans (congrArg some (by kernel_rfl))
  f225 := Tryz.func165.trans (congrArg some (by kernel_rfl))
  f226 := Tryz.func110.trans (congrArg some (by kernel_rfl))
  f227 := Tryz.func111.trans (congrArg some (by kernel_rfl))
  f228 := Tryz.func112.trans (congrArg some (by kernel_rfl))
  f266 := Tryz.func204.trans (congrArg some (by kernel_rfl))
  t0 := Tryz.underlying0
  a0 := Tryz.isAgg0
  z0 := Tryz.sizeOf0
  v0 := Tryz.zeroValue0
  t3 := Tryz.underlying3
  a3 := Tryz.isAgg3
  z3 := Tryz.sizeOf3
  v3 := Tryz.zeroValue3
  t4 := Tryz.underlying4
  a4 := Tryz.isAgg4
  z4 := Tryz.sizeOf4
  v4 := Tryz.zeroValue4
  t5 := Tryz.underlying5
  a5 := Tryz.isAgg5
  z5 := Tryz.sizeOf5
  v5 := Tryz.zeroValue5
  t9 := Tryz.underlying9
  a9 := Tryz.isAgg9
  z9 := Tryz.sizeOf9
  v9 := Tryz.zeroValue9
  t21 := Tryz.underlying21
  a21 := Tryz.isAgg21
  z21 := Tryz.sizeOf21
  v21 := Tryz.zeroValue21
  t46 := Tryz.underlying87
  a46 := Tryz.isAgg87
  z46 := Tryz.sizeOf87
  v46 := Tryz.zeroValue87
  t116 := Tryz.underlying165
  a116 := Tryz.isAgg165
  z116 := Tryz.sizeOf165
  t117 := Tryz.underlying166
  a117 := Tryz.isAgg166
  z117 := Tryz.sizeOf166
  v117 := Tryz.zeroValue166
  t124 := Tryz.underlying212
  a124 := Tryz.isAgg212
  z124 := Tryz.sizeOf212
  v124 := Tryz.zeroValue212 }
end Go.Proofs.YthalgemkblkhgaaGreat
