/- A nil Map has nothing. A Map that New did not make has no choices. -/
import Derived.Test.YthalgemkblkhgaaGreatQHeads
namespace Go.Proofs.YthalgemkblkhgaaGreat
open Go.Proofs Go.RowKit Go.Proofs.YthalgemkblkhgaaGreatW.PrintWords Go.Proofs.YthalgemkblkhgaaGreatW.PrintLast
set_option linter.unusedVariables false
set_option linter.unusedSimpArgs false

set_option maxRecDepth 100000 in
set_option maxHeartbeats 2000000 in
theorem what_nil (l : Int) (hl : wfInt .i64 l) (w : World) : Calls Tryz.prog 18 #[.pointer none, .int .i64 l] w fun e w' => e = retChoice (noChoice, false) ∧ Below w.heap.size w w' := by
  have HL := Aside0.mk hl
  have hli := wf_i64 hl
  have hu42 := Tryz.underlying42
  clear hl
  by_cases h0 : l = 0
  · subst h0
    go_enter Tryz.func18, Tryz.ntmps18
    go_wp2_with fail
    (refine (size_calls 0 HL.out 0 rfl _).mono ?_; rintro e w' ⟨rfl, rfl⟩; go_wp2_with fail)
    try simp only [Exit.inBlock, Exit.then]
    refine bodyPost_ret_by (res_cell_tmp rfl _ _ w.heap.size 42 _ _ _ rfl (blk_new w _) hu42 rfl rfl rfl) rfl ?_
    exact ⟨rfl, below_alloc (Below.refl _ _) _⟩
  · obtain ⟨k, hk⟩ : ∃ k : Nat, l.natAbs = k := ⟨_, rfl⟩
    have hk0 : 0 < k := by omega
    have HK := Aside0.mk hk
    have hkm : k ≤ 9223372036854775808 := by omega
    clear hk h0
    go_enter Tryz.func18, Tryz.ntmps18
    go_wp2_with fail
    (refine (size_calls l HL.out k (by rw [HK.out]) _).mono ?_; rintro e w' ⟨rfl, rfl⟩; go_wp2_with fail)
    (refine (litlen_nil _).mono ?_; rintro e w' ⟨rfl, rfl⟩; go_wp2_with fail)
    try simp only [Exit.inBlock, Exit.then]
    refine bodyPost_ret_by (res_cell_tmp rfl _ _ w.heap.size 42 _ _ _ rfl (blk_new w _) hu42 rfl rfl rfl) rfl ?_
    exact ⟨rfl, below_alloc (Below.refl _ _) _⟩
set_option maxHeartbeats 400000 in
theorem seats_nil (A : Option Addr) (n c : Nat) (w : World) : Calls Tryz.prog 29 #[.pointer none, .slice A n c] w fun e w' => e = .returned (.tuple #[.slice none 0 0, .bool false]) ∧ w = w' := by
  go_enter Tryz.func29, Tryz.ntmps29
  go_wp2_with fail
  go_ret2
  exact ⟨rfl, rfl⟩
set_option maxHeartbeats 400000 in
theorem parse_nil (s : ByteArray) (w : World) : Calls Tryz.prog 40 #[.pointer none, .string s] w fun e w' => e = .returned (.tuple #[.int .i64 0, .int .i64 1]) ∧ w = w' := by
  go_enter Tryz.func40, Tryz.ntmps40
  go_wp2_with fail
  go_ret2
  exact ⟨rfl, rfl⟩
set_option maxHeartbeats 400000 in
theorem time_nil (c i : Int) (w : World) : Calls Tryz.prog 25 #[.pointer none, .int .i64 c, .int .i64 i] w fun e w' => e = .returned (.int .i64 0) ∧ w = w' := by
  go_enter Tryz.func25, Tryz.ntmps25
  go_wp2_with fail
  go_ret
  exact ⟨rfl, rfl⟩
set_option maxHeartbeats 400000 in
theorem place_nil (c i : Int) (w : World) : Calls Tryz.prog 27 #[.pointer none, .int .i64 c, .int .i64 i] w fun e w' => e = .returned (.int .i64 0) ∧ w = w' := by
  go_enter Tryz.func27, Tryz.ntmps27
  go_wp2_with fail
  go_ret
  exact ⟨rfl, rfl⟩
set_option maxHeartbeats 400000 in
theorem of_nil (c : Int) (p : Bool) (i : Int) (w : World) : Calls Tryz.prog 23 #[.pointer none, .agg #[.int .i64 c, .bool p, .int .i64 i]] w fun e w' => e = .returned (.int .i64 0) ∧ Below w.heap.size w w' := by
  have hu42 := Tryz.underlying42
  cases p
  · go_enter Tryz.func23, Tryz.ntmps23
    go_wp2_with fail
    (refine (time_nil c i _).mono ?_; rintro e w' ⟨rfl, rfl⟩; go_wp2_with fail)
    go_ret
    exact ⟨rfl, below_alloc (Below.refl _ _) _⟩
  · go_enter Tryz.func23, Tryz.ntmps23
    go_wp2_with fail
    (refine (place_nil c i _).mono ?_; rintro e w' ⟨rfl, rfl⟩; go_wp2_with fail)
    go_ret
    exact ⟨rfl, below_alloc (Below.refl _ _) _⟩
set_option maxHeartbeats 400000 in
theorem fixed_nil (A : Option Addr) (n c : Nat) (w : World) : Calls Tryz.prog 32 #[.pointer none, .slice A n c] w fun e w' => e = .returned (.slice none 0 0) ∧ w = w' := by
  go_enter Tryz.func32, Tryz.ntmps32
  go_wp2_with fail
  go_ret
  exact ⟨rfl, rfl⟩
set_option maxRecDepth 100000 in
set_option maxHeartbeats 1000000 in
theorem holds_nil (A B : Option Addr) (n c m d : Nat) (w : World) : Calls Tryz.prog 64 #[.pointer none, .slice A n c, .slice B m d] w fun e w' => e = .returned (.bool false) ∧ Below w.heap.size w w' := by
  go_enter Tryz.func64, Tryz.ntmps64
  go_wp2
  have z0 : ((w.alloc (.cells #[.pointer none] 44)).alloc (.cells #[.slice A n c] 57)).cell? ⟨w.heap.size, 0, none⟩ = some (.pointer none) := cell_on (below_alloc (Below.refl _ _) _) (blk_cell (blk_new w _) 0)
  refine start_ (n := 11) (S := (fun w' => w'.cell? ⟨w.heap.size, 0, none⟩ = some (.pointer none))) (ds := []) #[false, false, false, false, false, false, false, false, false, false, false] (by kernel_rfl) rfl rfl (z0) (fun hHeld => ?_)
  refine take_ (i := 0) (N := some 7) (v := ?_) (a' := ?_) #[true, false, false, false, false, false, false, false, false, false, false] rfl rfl (by kernel_rfl) (fun _ _ _ h => h) (Or.inl ⟨by rfl, ?_⟩) hHeld ?_ ?_
  rotate_left
  · rintro w' s1
    go_simp
    with_reducible rfl
  rotate_left
  · simp only [Act.put, List.setIfInBounds_toArray, List.set_cons_zero, List.set_cons_succ, i64_w, i32_w]
    rfl
  refine pure_ (i := 1) (N := some 8) (v := ?_) (a' := ?_) #[true, true, false, false, false, false, false, false, false, false, false] rfl rfl (by kernel_rfl) (fun _ _ _ h => h) (Or.inl ⟨by rfl, ?_⟩) ?_ ?_
  rotate_left
  · intro w'
    go_simp
    with_reducible rfl
  rotate_left
  · simp only [Act.put, List.setIfInBounds_toArray, List.set_cons_zero, List.set_cons_succ, i64_w, i32_w]
    rfl
  refine pure_ (i := 2) (N := some 9) (v := ?_) (a' := ?_) #[true, true, true, false, false, false, false, false, false, false, false] rfl rfl (by kernel_rfl) (fun _ _ _ h => h) (Or.inl ⟨by rfl, ?_⟩) ?_ ?_
  rotate_left
  · intro w'
    go_simp
    with_reducible rfl
  rotate_left
  · simp only [Act.put, List.setIfInBounds_toArray, List.set_cons_zero, List.set_cons_succ, i64_w, i32_w]
    rfl
  refine pure_ (i := 3) (N := some 10) (v := undef) (a' := ?_) #[true, true, true, true, false, false, false, false, false, false, false] rfl rfl (by kernel_rfl) (fun _ _ _ h => h) (Or.inr ⟨by rfl, rfl⟩) ?_ ?_
  rotate_left
  · simp only [Act.put, List.setIfInBounds_toArray, List.set_cons_zero, List.set_cons_succ, i64_w, i32_w]
    rfl
  refine pure_ (i := 4) (N := some 11) (v := undef) (a' := ?_) #[true, true, true, true, true, false, false, false, false, false, false] rfl rfl (by kernel_rfl) (fun _ _ _ h => h) (Or.inr ⟨by rfl, rfl⟩) ?_ ?_
  rotate_left
  · simp only [Act.put, List.setIfInBounds_toArray, List.set_cons_zero, List.set_cons_succ, i64_w, i32_w]
    rfl
  refine pure_ (i := 5) (N := some 12) (v := undef) (a' := ?_) #[true, true, true, true, true, true, false, false, false, false, false] rfl rfl (by kernel_rfl) (fun _ _ _ h => h) (Or.inr ⟨by rfl, rfl⟩) ?_ ?_
  rotate_left
  · simp only [Act.put, List.setIfInBounds_toArray, List.set_cons_zero, List.set_cons_succ, i64_w, i32_w]
    rfl
  refine pure_ (i := 6) (N := some 13) (v := undef) (a' := ?_) #[true, true, true, true, true, true, true, false, false, false, false] rfl rfl (by kernel_rfl) (fun _ _ _ h => h) (Or.inr ⟨by rfl, rfl⟩) ?_ ?_
  rotate_left
  · simp only [Act.put, List.setIfInBounds_toArray, List.set_cons_zero, List.set_cons_succ, i64_w, i32_w]
    rfl
  refine pure_ (i := 7) (N := some 14) (v := undef) (a' := ?_) #[true, true, true, true, true, true, true, true, false, false, false] rfl rfl (by kernel_rfl) (fun _ _ _ h => h) (Or.inr ⟨by rfl, rfl⟩) ?_ ?_
  rotate_left
  · simp only [Act.put, List.setIfInBounds_toArray, List.set_cons_zero, List.set_cons_succ, i64_w, i32_w]
    rfl
  refine pure_ (i := 8) (N := some 15) (v := undef) (a' := ?_) #[true, true, true, true, true, true, true, true, true, false, false] rfl rfl (by kernel_rfl) (fun _ _ _ h => h) (Or.inr ⟨by rfl, rfl⟩) ?_ ?_
  rotate_left
  · simp only [Act.put, List.setIfInBounds_toArray, List.set_cons_zero, List.set_cons_succ, i64_w, i32_w]
    rfl
  refine pure_ (i := 9) (N := some 16) (v := undef) (a' := ?_) #[true, true, true, true, true, true, true, true, true, true, false] rfl rfl (by kernel_rfl) (fun _ _ _ h => h) (Or.inr ⟨by rfl, rfl⟩) ?_ ?_
  rotate_left
  · simp only [Act.put, List.setIfInBounds_toArray, List.set_cons_zero, List.set_cons_succ, i64_w, i32_w]
    rfl
  refine pure_ (i := 10) (N := some 17) (v := ?_) (a' := ?_) #[true, true, true, true, true, true, true, true, true, true, true] rfl rfl (by kernel_rfl) (fun _ _ _ h => h) (Or.inl ⟨by rfl, ?_⟩) ?_ ?_
  rotate_left
  · intro w'
    go_simp
    with_reducible rfl
  rotate_left
  · simp only [Act.put, List.setIfInBounds_toArray, List.set_cons_zero, List.set_cons_succ, i64_w, i32_w]
    rfl
  refine done_ (by kernel_rfl) ?_
  clear z0
  go_wp2
  go_ret
  exact ⟨rfl, below_drew (below_alloc (below_alloc (Below.refl _ _) _) _)⟩
set_option maxHeartbeats 400000 in
theorem hold_nil (A B : Option Addr) (n c m d : Nat) (w : World) : Calls Tryz.prog 36 #[.pointer none, .slice A n c, .slice B m d] w fun e w' => e = .returned (.bool false) ∧ Below w.heap.size w w' := by
  go_enter Tryz.func36, Tryz.ntmps36
  go_wp2_with fail
  refine (holds_nil A B n c m d _).mono ?_
  rintro e w1 ⟨rfl, hb⟩
  go_wp2_with fail
  go_ret
  exact ⟨rfl, hb⟩
set_option maxHeartbeats 400000 in
theorem true_nil (A : Option Addr) (n c : Nat) (l : Int) (w : World) : Calls Tryz.prog 34 #[.pointer none, .slice A n c, .int .i64 l] w fun e w' => e = .returned (.bool false) ∧ Below w.heap.size w w' := by
  go_enter Tryz.func34, Tryz.ntmps34
  go_wp2_with fail
  refine (holds_nil A _ n c 1 1 _).mono ?_
  rintro e w1 ⟨rfl, hb⟩
  go_wp2_with fail
  go_ret
  exact ⟨rfl, below1 hb⟩
set_option maxHeartbeats 400000 in
theorem text_nil (l : Int) (hl : wfInt .i64 l) (w : World) : Calls Tryz.prog 38 #[.pointer none, .int .i64 l] w fun e w' => e = .returned (.string ⟨#[]⟩) ∧ Below w.heap.size w w' := by
  have hu := Tryz.underlying42
  have HL := Aside0.mk hl
  clear hl
  go_enter Tryz.func38, Tryz.ntmps38
  go_wp2_with fail
  refine (what_nil l HL.out _).mono ?_
  rintro e w1 ⟨he, hb⟩
  change e = Ending.returned (.tuple #[.agg #[.int .i64 0, .bool false, .int .i64 0], .bool false]) at he
  subst he
  have hb := Aside0.mk hb
  go_wp2_with fail
  go_ret
  exact ⟨rfl, below_alloc hb.out _⟩
end Go.Proofs.YthalgemkblkhgaaGreat
namespace Go.Proofs.YthalgemkblkhgaaGreat
open Go.Proofs Go.RowKit Go.Proofs.YthalgemkblkhgaaGreatW.PrintWords Go.Proofs.YthalgemkblkhgaaGreatW.PrintLast
set_option linter.unusedVariables false
set_option linter.unusedSimpArgs false

def zeroP : Problem := ⟨⟨#[]⟩, ⟨0, 0, 0⟩, [], [], [], [], [], [], [], ⟨0, 0, 0, 0⟩⟩
theorem zeroOk : problemOk zeroP = false := by decide +kernel
theorem small_zero : Small zeroP := ⟨by decide, fun x hx => by cases hx⟩
theorem wf_zero : wfProblem zeroP where
  h0 := by show _ ≤ _; decide
  h1 := ⟨i64_wf ⟨by decide, by decide⟩, i64_wf ⟨by decide, by decide⟩, i64_wf ⟨by decide, by decide⟩⟩
  h2 := ⟨by decide, fun y hy => by cases hy⟩
  h3 := ⟨by decide, fun y hy => by cases hy⟩
  h4 := ⟨by decide, fun y hy => by cases hy⟩
  h5 := ⟨by decide, fun y hy => by cases hy⟩
  h6 := ⟨by decide, fun y hy => by cases hy⟩
  h7 := ⟨by decide, fun y hy => by cases hy⟩
  h8 := ⟨by decide, fun y hy => by cases hy⟩
  h9 := ⟨i64_wf ⟨by decide, by decide⟩, i64_wf ⟨by decide, by decide⟩, i64_wf ⟨by decide, by decide⟩, i64_wf ⟨by decide, by decide⟩⟩
def zeroM : Map := mapOf zeroP
theorem mok_zero : MOk zeroM := mok_of zeroP small_zero
theorem zero_K (w : World) : kProblem.K w zeroP [.string ⟨#[]⟩, .int .i64 0, .int .i64 0, .int .i64 0, .slice none 0 0, .slice none 0 0, .slice none 0 0, .slice none 0 0, .slice none 0 0, .slice none 0 0, .slice none 0 0, .int .i64 0, .int .i64 0, .int .i64 0, .int .i64 0] :=
  kProblem_mk w zeroP (Nat.le_refl _) (nilC kRoom w) (Nat.le_refl _) (nilC kRows w) (Nat.le_refl _) (nilC kPerson w) (Nat.le_refl _) (nilC kClass w) (Nat.le_refl _) (nilC kCourse w) (Nat.le_refl _) (nilC kStudent w) (Nat.le_refl _) (nilC kRule w)
theorem zero_box (w : World) : MBox (w.alloc (.cells #[.string ⟨#[]⟩, .int .i64 0, .int .i64 0, .int .i64 0, .slice none 0 0, .slice none 0 0, .slice none 0 0, .slice none 0 0, .slice none 0 0, .slice none 0 0, .slice none 0 0, .int .i64 0, .int .i64 0, .int .i64 0, .int .i64 0, .slice none 0 0, .slice none 0 0, .slice none 0 0] 79)) w.heap.size zeroM :=
  ⟨_, ⟨_, [.slice none 0 0, .slice none 0 0, .slice none 0 0], rfl, zero_K _, ⟨[_], [_, _], rfl, ⟨none, 0, rfl, Nat.le_refl _, nilC kChoice _⟩, ⟨[_], [_], rfl, ⟨none, 0, rfl, Nat.le_refl _, nilC (Kd.int .i64) _⟩, ⟨none, 0, rfl, Nat.le_refl _, nilC (Kd.int .i64) _⟩⟩⟩⟩, blk_new w _⟩
theorem what_zero (n : Int) : whatOf zeroM n = (noChoice, false) := by
  rw [whatOf, if_pos]
  show n = 0 ∨ 0 < n.natAbs
  omega
theorem time_zero (c i : Int) : timeOf zeroM c i = 0 := by
  unfold timeOf
  split
  · rfl
  · rw [show zeroM.f2[c.toNat]? = none from rfl]
theorem place_zero (c i : Int) : placeOf zeroM c i = 0 := by
  unfold placeOf
  split
  · rfl
  · rw [show zeroM.f3[c.toNat]? = none from rfl]
set_option maxRecDepth 100000 in
set_option maxHeartbeats 1000000 in
theorem of_calls (m : Map) (hm : MOk m) (b : Nat) (w : World) (hM : MBox w b m) (c : Int) (p : Bool) (i : Int) (r : Int) (hr : (if p then placeOf m c i else timeOf m c i) = r) :
    Calls Tryz.prog 23 #[.pointer (some ⟨b, 0, none⟩), .agg #[.int .i64 c, .bool p, .int .i64 i]] w fun e w' => e = .returned (.int .i64 r) ∧ Below w.heap.size w w' := by
  have hu42 := Tryz.underlying42
  have HM := Aside0.mk hM
  have HR := Aside0.mk hr
  clear hM hr
  cases p
  · go_enter Tryz.func23, Tryz.ntmps23
    go_wp2_with fail
    refine (time_calls m hm b _ (HM.out.below (below_alloc (Below.refl _ _) _)) c i r HR.out).mono ?_
    rintro e w1 ⟨rfl, hb⟩
    go_wp2_with fail
    go_ret
    exact ⟨rfl, below1 hb⟩
  · go_enter Tryz.func23, Tryz.ntmps23
    go_wp2_with fail
    refine (place_calls m hm b _ (HM.out.below (below_alloc (Below.refl _ _) _)) c i r HR.out).mono ?_
    rintro e w1 ⟨rfl, hb⟩
    go_wp2_with fail
    go_ret
    exact ⟨rfl, below1 hb⟩
set_option maxRecDepth 100000 in
set_option maxHeartbeats 1000000 in
theorem text_zero (b : Nat) (l : Int) (hl : wfInt .i64 l) (w : World) (hM : MBox w b zeroM) : Calls Tryz.prog 38 #[.pointer (some ⟨b, 0, none⟩), .int .i64 l] w fun e w' => e = .returned (.string ⟨#[]⟩) ∧ Below w.heap.size w w' := by
  have hu := Tryz.underlying42
  have HL := Aside0.mk hl
  have HM := Aside0.mk hM
  clear hl hM
  go_enter Tryz.func38, Tryz.ntmps38
  go_wp2_with fail
  refine (what_calls zeroM mok_zero b _ HM.out l HL.out _ (what_zero l)).mono ?_
  rintro e w1 ⟨he, hb⟩
  change e = Ending.returned (.tuple #[.agg #[.int .i64 0, .bool false, .int .i64 0], .bool false]) at he
  subst he
  have hb := Aside0.mk hb
  go_wp2_with fail
  go_ret
  exact ⟨rfl, below_alloc hb.out _⟩
set_option maxRecDepth 100000 in
set_option maxHeartbeats 2000000 in
theorem each_zero (w : World) (fv : Value) : Calls Tryz.prog 99 #[.agg #[.string ⟨#[]⟩, .int .i64 0, .int .i64 0, .int .i64 0, .slice none 0 0, .slice none 0 0, .slice none 0 0, .slice none 0 0, .slice none 0 0, .slice none 0 0, .slice none 0 0, .int .i64 0, .int .i64 0, .int .i64 0, .int .i64 0], .slice none 0 0, fv] w fun e w' => e = .returned (.bool false) ∧ Below w.heap.size w w' := by
  have hu := Tryz.underlying40
  go_enter Tryz.func99, Tryz.ntmps99
  go_wp2_with fail
  refine (problemOk_calls zeroP wf_zero _ _ (zero_K _) _ zeroOk).mono ?_
  rintro e w1 ⟨rfl, hb⟩
  go_wp2_with fail
  go_ret
  exact ⟨rfl, below1 hb⟩
set_option maxRecDepth 100000 in
set_option maxHeartbeats 2000000 in
theorem right_zero (w : World) : Calls Tryz.prog 62 #[.agg #[.string ⟨#[]⟩, .int .i64 0, .int .i64 0, .int .i64 0, .slice none 0 0, .slice none 0 0, .slice none 0 0, .slice none 0 0, .slice none 0 0, .slice none 0 0, .slice none 0 0, .int .i64 0, .int .i64 0, .int .i64 0, .int .i64 0], .slice none 0 0] w fun e w' => e = .returned (.bool false) ∧ Below w.heap.size w w' := by
  have hu := Tryz.underlying40
  go_enter Tryz.func62, Tryz.ntmps62
  go_wp2_with fail
  refine (each_zero _ _).mono ?_
  rintro e w1 ⟨rfl, hb⟩
  go_wp2_with fail
  go_ret
  exact ⟨rfl, below1 hb⟩
end Go.Proofs.YthalgemkblkhgaaGreat
