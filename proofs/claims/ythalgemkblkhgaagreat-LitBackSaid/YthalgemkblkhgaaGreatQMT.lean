/- The laws' own problem of chapter 27. digits.Print at nought. lit.Text at the laws' own literal. -/
import Derived.Test.YthalgemkblkhgaaGreatQNew
import Derived.Test.YthalgemkblkhgaaGreatQML
import Derived.Test.YthalgemkblkhgaaGreatQMS
import Derived.Test.YthalgemkblkhgaaGreatQMA
namespace Go.Proofs.YthalgemkblkhgaaGreat
open Go.Proofs Go.RowKit Go.Proofs.YthalgemkblkhgaaGreatW.PrintWords Go.Proofs.YthalgemkblkhgaaGreatW.PrintLast
set_option linter.unusedVariables false
set_option linter.unusedSimpArgs false

def dayOf (n : Int) : When := ⟨1, 1, n, 1⟩
def headP : Problem := ⟨⟨#[112]⟩, ⟨1, 1, 4⟩, [⟨⟨#[114]⟩, 0, 0, []⟩], [[0]], [], [⟨⟨#[97]⟩, 0, 0, [], [⟨dayOf 0, 0⟩, ⟨dayOf 1, 0⟩], [⟨0, 0⟩], -1⟩, ⟨⟨#[98]⟩, 0, 0, [], [⟨dayOf 2, 0⟩], [], -1⟩], [], [], [], ⟨0, 0, 0, 0⟩⟩
theorem headOk : problemOk headP = true := by decide +kernel
set_option maxRecDepth 100000 in
set_option maxHeartbeats 400000 in
theorem day_calls (n : Int) (w : World) : Calls Tryz.prog 71 #[.int .i64 n] w fun e w' => e = .returned (.agg #[.int .u32 1, .int .u8 1, .int .i64 n, .int .i64 1]) ∧ w' = w.alloc (.cells #[.int .u32 1, .int .u8 1, .int .i64 n, .int .i64 1] 117) := by
  have hu := Tryz.underlying117
  go_enter Tryz.func71, Tryz.ntmps71
  go_wp2_with fail
  try simp only [Exit.inBlock, Exit.then]
  refine bodyPost_ret_by (results_cell_row rfl _ _ w.heap.size 117 _ (0, 0) _ rfl (blk_new w _) hu rfl rfl) rfl ?_
  exact ⟨rfl, rfl⟩
theorem C_of {α : Type} {d : Kd α} {T B : Nat} {w : World} {cur : Array Value} {xs : List α} (h : w.heap[B]? = some (.cells cur T (0, 0))) (hl : xs.length ≤ 9223372036854775807) (hx : ∀ j x, xs[j]? = some x → d.K w x ((cur.toList.drop (j * d.sz)).take d.sz)) : d.C w (some ⟨B, 0, none⟩) xs.length xs := by
  refine ⟨rfl, hl, fun hp => ⟨_, rfl, fun j x hj => ?_⟩⟩
  have hK := hx j x hj
  refine ⟨_, d.K_len hK, hK, fun i u hu => ?_⟩
  rw [add_plain]
  exact (blk_cell h _).trans (own_seg (cur := cur) (n := cur.size) (inner := cur.toList) (List.take_of_length_le (by rw [Array.length_toList]; exact Nat.le_refl _)) j i u hu)
theorem at1 {α : Type} {a x : α} {j : Nat} (h : [a][j]? = some x) : j = 0 ∧ x = a := by
  cases j with
  | zero => simp at h; exact ⟨rfl, h.symm⟩
  | succ j => simp at h
theorem at2 {α : Type} {a b x : α} {j : Nat} (h : [a, b][j]? = some x) : (j = 0 ∧ x = a) ∨ (j = 1 ∧ x = b) := by
  match j, h with
  | 0, h => simp at h; exact .inl ⟨rfl, h.symm⟩
  | 1, h => simp at h; exact .inr ⟨rfl, h.symm⟩
  | j + 2, h => simp at h
theorem nilC {α : Type} (d : Kd α) (w : World) : d.C w none 0 [] := ⟨rfl, by omega, fun h => absurd h (by omega)⟩
set_option maxRecDepth 100000 in
set_option maxHeartbeats 4000000 in
theorem some_calls (w : World) : Calls Tryz.prog 42 #[] w fun e w' => (∃ cs, e = .returned (.agg cs.toArray) ∧ kProblem.K w' headP cs) ∧ Below w.heap.size w w' := by
  have hu := Tryz.underlying40
  go_enter Tryz.func42, Tryz.ntmps42
  go_wp2_with (go_at_call 71; refine (day_calls _ _).mono ?_; rintro e w' ⟨rfl, rfl⟩)
  simp only [alloc_grow, Go.Sort.grow_grow]
  have hgr : ∀ (os : Array Obj) (i : Nat) (o : Obj), os[i]? = some o → (Go.Sort.grow w os).heap[w.heap.size + i]? = some o := fun os i o h => by
    show (w.heap ++ os)[w.heap.size + i]? = some o
    rw [Array.getElem?_append_right (by omega), Nat.add_sub_cancel_left]
    exact h
  have hbl : ∀ (os : Array Obj), Below w.heap.size w (Go.Sort.grow w os) := fun os => ⟨rfl, rfl, rfl, by show w.heap.size ≤ (w.heap ++ os).size; rw [Array.size_append]; omega, fun k hk => Go.Sort.heap_grow_old w os hk⟩
  try simp only [Exit.inBlock, Exit.then]
  refine bodyPost_ret_by (results_cell_row rfl _ _ w.heap.size 40 _ (0, 0) _ rfl (hgr _ 0 _ rfl) hu rfl rfl) rfl ?_
  refine ⟨⟨_, rfl, ?_⟩, hbl _⟩
  generalize hos : Go.Sort.grow w _ = wf
  have d1 : wf.heap[w.heap.size + 1]? = some (.cells #[.string ⟨#[114]⟩, .int .i64 0, .int .u16 0, .slice none 0 0] 114 (0, 0)) := by rw [← hos]; exact hgr _ 1 _ rfl
  have d2 : wf.heap[w.heap.size + 2]? = some (.cells #[.int .i64 0] 3 (0, 0)) := by rw [← hos]; exact hgr _ 2 _ rfl
  have d3 : wf.heap[w.heap.size + 3]? = some (.cells #[.slice (some ⟨w.heap.size + 2, 0, none⟩) 1 1] 22 (0, 0)) := by rw [← hos]; exact hgr _ 3 _ rfl
  have d6 : wf.heap[w.heap.size + 6]? = some (.cells #[.int .u32 1, .int .u8 1, .int .i64 0, .int .i64 1, .int .i64 0, .int .u32 1, .int .u8 1, .int .i64 1, .int .i64 1, .int .i64 0] 120 (0, 0)) := by rw [← hos]; exact hgr _ 6 _ rfl
  have d7 : wf.heap[w.heap.size + 7]? = some (.cells #[.int .i64 0, .int .i64 0] 122 (0, 0)) := by rw [← hos]; exact hgr _ 7 _ rfl
  have d9 : wf.heap[w.heap.size + 9]? = some (.cells #[.int .u32 1, .int .u8 1, .int .i64 2, .int .i64 1, .int .i64 0] 120 (0, 0)) := by rw [← hos]; exact hgr _ 9 _ rfl
  have d10 : wf.heap[w.heap.size + 10]? = some (.cells #[.string ⟨#[97]⟩, .int .i64 0, .int .u16 0, .slice none 0 0, .slice (some ⟨w.heap.size + 6, 0, none⟩) 2 2, .slice (some ⟨w.heap.size + 7, 0, none⟩) 1 1, .int .i64 (-1), .string ⟨#[98]⟩, .int .i64 0, .int .u16 0, .slice none 0 0, .slice (some ⟨w.heap.size + 9, 0, none⟩) 1 1, .slice none 0 0, .int .i64 (-1)] 96 (0, 0)) := by rw [← hos]; exact hgr _ 10 _ rfl
  clear hos hgr hbl
  have c1 : kRoom.C wf (some ⟨w.heap.size + 1, 0, none⟩) headP.f2.length headP.f2 := C_of d1 (by decide) (fun j x hj => by
    obtain ⟨rfl, rfl⟩ := at1 hj
    exact kRoom_mk wf _ (Nat.le_refl _) (nilC kWhen wf))
  have c2 : (Kd.int .i64).C wf (some ⟨w.heap.size + 2, 0, none⟩) ([0] : List Int).length [0] := C_of d2 (by decide) (fun j x hj => by
    obtain ⟨rfl, rfl⟩ := at1 hj
    rfl)
  have c3 : (Kd.slice 3 (Kd.int .i64)).C wf (some ⟨w.heap.size + 3, 0, none⟩) headP.f3.length headP.f3 := C_of d3 (by decide) (fun j x hj => by
    obtain ⟨rfl, rfl⟩ := at1 hj
    exact ⟨some ⟨w.heap.size + 2, 0, none⟩, 1, rfl, Nat.le_refl _, c2⟩)
  have c6 : kTime.C wf (some ⟨w.heap.size + 6, 0, none⟩) ([⟨dayOf 0, 0⟩, ⟨dayOf 1, 0⟩] : List Time).length [⟨dayOf 0, 0⟩, ⟨dayOf 1, 0⟩] := C_of d6 (by decide) (fun j x hj => by
    rcases at2 hj with ⟨rfl, rfl⟩ | ⟨rfl, rfl⟩
    · exact kTime_mk wf _
    · exact kTime_mk wf _)
  have c7 : kPlace.C wf (some ⟨w.heap.size + 7, 0, none⟩) ([⟨0, 0⟩] : List Place).length [⟨0, 0⟩] := C_of d7 (by decide) (fun j x hj => by
    obtain ⟨rfl, rfl⟩ := at1 hj
    exact kPlace_mk wf _)
  have c9 : kTime.C wf (some ⟨w.heap.size + 9, 0, none⟩) ([⟨dayOf 2, 0⟩] : List Time).length [⟨dayOf 2, 0⟩] := C_of d9 (by decide) (fun j x hj => by
    obtain ⟨rfl, rfl⟩ := at1 hj
    exact kTime_mk wf _)
  have c10 : kClass.C wf (some ⟨w.heap.size + 10, 0, none⟩) headP.f5.length headP.f5 := C_of d10 (by decide) (fun j x hj => by
    rcases at2 hj with ⟨rfl, rfl⟩ | ⟨rfl, rfl⟩
    · exact kClass_mk wf ⟨⟨#[97]⟩, 0, 0, [], [⟨dayOf 0, 0⟩, ⟨dayOf 1, 0⟩], [⟨0, 0⟩], -1⟩ (Nat.le_refl _) (nilC (Kd.int .i64) wf) (Nat.le_refl _) c6 (Nat.le_refl _) c7
    · exact kClass_mk wf ⟨⟨#[98]⟩, 0, 0, [], [⟨dayOf 2, 0⟩], [], -1⟩ (Nat.le_refl _) (nilC (Kd.int .i64) wf) (Nat.le_refl _) c9 (Nat.le_refl _) (nilC kPlace wf))
  exact kProblem_mk wf headP (Nat.le_refl _) c1 (Nat.le_refl _) c3 (Nat.le_refl _) (nilC kPerson wf) (Nat.le_refl _) c10 (Nat.le_refl _) (nilC kCourse wf) (Nat.le_refl _) (nilC kStudent wf) (Nat.le_refl _) (nilC kRule wf)
end Go.Proofs.YthalgemkblkhgaaGreat
namespace Go.Proofs.YthalgemkblkhgaaGreat
open Go.RowKit Go.Proofs.YthalgemkblkhgaaGreatW.PrintWords Go.Proofs.YthalgemkblkhgaaGreatW.PrintLast
set_option linter.unusedVariables false
set_option linter.unusedSimpArgs false

set_option maxRecDepth 100000 in
set_option maxHeartbeats 1000000 in
theorem word0_calls (w : World) :
    Calls Tryz.prog 105 #[.int .u64 0] w fun e w' => e = .returned (.string ⟨#[48]⟩) ∧ Below w.heap.size w w' := by
  go_enter Tryz.func105, Tryz.ntmps105
  go_wp2_with fail
  go_loopw [0, 4, 5] (fun v0 v4 v5 wr => v0 = .int .u64 0 ∧ v4 = .int .i64 20 ∧ v5 = .int .i64 0 ∧ wr = w.alloc (.cells #[.int .u8 0, .int .u8 0, .int .u8 0, .int .u8 0, .int .u8 0, .int .u8 0, .int .u8 0, .int .u8 0, .int .u8 0, .int .u8 0, .int .u8 0, .int .u8 0, .int .u8 0, .int .u8 0, .int .u8 0, .int .u8 0, .int .u8 0, .int .u8 0, .int .u8 0, .int .u8 0] 206)) (fun _ _ _ _ => 0)
  case atStart => exact ⟨rfl, rfl, rfl, rfl⟩
  case round =>
    obtain ⟨rfl, rfl, rfl, rfl⟩ := hrel
    have hcv : Sem.run Tryz.prog (convert 207 9 (.slice (some ⟨w.heap.size, 19, none⟩) 1 1)) (w.alloc (.cells #[.int .u8 0, .int .u8 0, .int .u8 0, .int .u8 0, .int .u8 0, .int .u8 0, .int .u8 0, .int .u8 0, .int .u8 0, .int .u8 0, .int .u8 0, .int .u8 0, .int .u8 0, .int .u8 0, .int .u8 0, .int .u8 0, .int .u8 0, .int .u8 0, .int .u8 0, .int .u8 48] 206)) = .ok (.string ⟨#[48]⟩) (w.alloc (.cells #[.int .u8 0, .int .u8 0, .int .u8 0, .int .u8 0, .int .u8 0, .int .u8 0, .int .u8 0, .int .u8 0, .int .u8 0, .int .u8 0, .int .u8 0, .int .u8 0, .int .u8 0, .int .u8 0, .int .u8 0, .int .u8 0, .int .u8 0, .int .u8 0, .int .u8 0, .int .u8 48] 206)) := by
      refine string_of_reads (xs := [48]) Tryz.underlying207 Tryz.underlying5 Tryz.underlying9 ⟨rfl, by omega, fun _ => ⟨_, rfl, fun j hj => ?_⟩⟩
      obtain rfl : j = 0 := by omega
      rw [Addr.add_lit]
      exact blk_cell (blk_new w _) 19
    go_wp2_with fail
    go_ret
    exact ⟨rfl, below_alloc (Below.refl _ _) _⟩
set_option maxRecDepth 100000 in
set_option maxHeartbeats 1000000 in
theorem print0_calls (w : World) :
    Calls Tryz.prog 65 #[.int .i64 0] w fun e w' => e = .returned (.string ⟨#[48]⟩) ∧ Below w.heap.size w w' := by
  go_enter Tryz.func65, Tryz.ntmps65
  go_wp2_with fail
  refine (word0_calls _).mono ?_
  rintro e w1 ⟨rfl, hb⟩
  go_wp2_with fail
  go_ret
  exact ⟨rfl, hb⟩
end Go.Proofs.YthalgemkblkhgaaGreat
namespace Go.Proofs.YthalgemkblkhgaaGreat
open Go.Proofs Go.RowKit Go.Proofs.YthalgemkblkhgaaGreatW.PrintWords Go.Proofs.YthalgemkblkhgaaGreatW.PrintLast
set_option linter.unusedVariables false
set_option linter.unusedSimpArgs false

theorem small_head : Small headP := ⟨by decide, fun x hx => by
  rcases List.mem_cons.1 hx with rfl | hx
  · exact ⟨by decide, by decide⟩
  · rcases List.mem_cons.1 hx with rfl | hx
    · exact ⟨by decide, by decide⟩
    · cases hx⟩
theorem mok_of (p : Problem) (h : Small p) : MOk (mapOf p) where
  h2 := by simp [mapOf]
  h3 := by simp [mapOf]
  b2 := fun v hv => by
    obtain ⟨c, hc, rfl⟩ := List.mem_map.1 hv
    have hc := List.mem_range.1 hc
    have h1 := length_choicesTo p.f5 h.all c
    have h2 := h.n
    unfold timesAt
    omega
  b3 := fun v hv => by
    obtain ⟨c, hc, rfl⟩ := List.mem_map.1 hv
    have hc := List.mem_range.1 hc
    have h1 := length_choicesTo p.f5 h.all c
    have h2 := h.n
    unfold placesAt
    cases hx : p.f5[c]? with
    | none => simp only; omega
    | some x =>
      have := (h.all x (List.mem_of_getElem? hx)).1
      simp only
      omega
  t4 := fun x hx => by have := (h.all x hx).1; omega
  t5 := fun x hx => by have := (h.all x hx).2; omega
  n := by
    have h1 := length_choicesTo p.f5 h.all p.f5.length
    have h2 := h.n
    show (choicesTo p.f5 p.f5.length).length ≤ _
    omega
  len := by have := h.n; show p.f5.length ≤ _; omega
theorem wfi (x : Int) (h : -9223372036854775808 ≤ x ∧ x ≤ 9223372036854775807) : wfInt .i64 x := i64_wf h
theorem wf_dayT (n c : Int) (h : -9223372036854775808 ≤ n ∧ n ≤ 9223372036854775807) (hc : -9223372036854775808 ≤ c ∧ c ≤ 9223372036854775807) : wfTime ⟨dayOf n, c⟩ :=
  ⟨⟨by show wfInt .u32 1; unfold wfInt; decide, by show wfInt .u8 1; unfold wfInt; decide, i64_wf h, by show wfInt .i64 1; exact i64_wf ⟨by decide, by decide⟩⟩, i64_wf hc⟩
theorem wf_head : wfProblem headP where
  h0 := by show _ ≤ _; decide
  h1 := ⟨i64_wf ⟨by decide, by decide⟩, i64_wf ⟨by decide, by decide⟩, i64_wf ⟨by decide, by decide⟩⟩
  h2 := ⟨by decide, fun x hx => by
    obtain rfl := List.mem_singleton.1 hx
    exact ⟨by show _ ≤ _; decide, i64_wf ⟨by decide, by decide⟩, by show wfInt .u16 0; unfold wfInt; decide, ⟨by decide, fun y hy => by cases hy⟩⟩⟩
  h3 := ⟨by decide, fun x hx => by
    obtain rfl := List.mem_singleton.1 hx
    exact ⟨by decide, fun y hy => by
      obtain rfl := List.mem_singleton.1 hy
      exact i64_wf ⟨by decide, by decide⟩⟩⟩
  h4 := ⟨by decide, fun y hy => by cases hy⟩
  h5 := ⟨by decide, fun x hx => by
    rcases List.mem_cons.1 hx with rfl | hx
    · exact ⟨by show _ ≤ _; decide, i64_wf ⟨by decide, by decide⟩, by show wfInt .u16 0; unfold wfInt; decide, ⟨by decide, fun y hy => by cases hy⟩, ⟨by decide, fun y hy => by
        rcases List.mem_cons.1 hy with rfl | hy
        · exact wf_dayT 0 0 ⟨by decide, by decide⟩ ⟨by decide, by decide⟩
        · obtain rfl := List.mem_singleton.1 hy
          exact wf_dayT 1 0 ⟨by decide, by decide⟩ ⟨by decide, by decide⟩⟩, ⟨by decide, fun y hy => by
        obtain rfl := List.mem_singleton.1 hy
        exact ⟨i64_wf ⟨by decide, by decide⟩, i64_wf ⟨by decide, by decide⟩⟩⟩, i64_wf ⟨by decide, by decide⟩⟩
    · obtain rfl := List.mem_singleton.1 hx
      exact ⟨by show _ ≤ _; decide, i64_wf ⟨by decide, by decide⟩, by show wfInt .u16 0; unfold wfInt; decide, ⟨by decide, fun y hy => by cases hy⟩, ⟨by decide, fun y hy => by
        obtain rfl := List.mem_singleton.1 hy
        exact wf_dayT 2 0 ⟨by decide, by decide⟩ ⟨by decide, by decide⟩⟩, ⟨by decide, fun y hy => by cases hy⟩, i64_wf ⟨by decide, by decide⟩⟩⟩
  h6 := ⟨by decide, fun y hy => by cases hy⟩
  h7 := ⟨by decide, fun y hy => by cases hy⟩
  h8 := ⟨by decide, fun y hy => by cases hy⟩
  h9 := ⟨i64_wf ⟨by decide, by decide⟩, i64_wf ⟨by decide, by decide⟩, i64_wf ⟨by decide, by decide⟩, i64_wf ⟨by decide, by decide⟩⟩
set_option maxRecDepth 100000 in
set_option maxHeartbeats 2000000 in
theorem text3_calls (b : Nat) (w : World) (hM : MBox w b (mapOf headP)) : Calls Tryz.prog 38 #[.pointer (some ⟨b, 0, none⟩), .int .i64 (-3)] w fun e w' => e = .returned (.string ⟨#[45, 48, 112, 48]⟩) ∧ Below w.heap.size w w' := by
  have hw : whatOf (mapOf headP) (-3) = (⟨0, true, 0⟩, true) := by rfl
  have hu := Tryz.underlying42
  have HM := Aside0.mk hM
  clear hM
  go_enter Tryz.func38, Tryz.ntmps38
  go_wp2_with fail
  refine (what_calls (mapOf headP) (mok_of _ small_head) b _ HM.out (-3) (wfi _ ⟨by decide, by decide⟩) _ hw).mono ?_
  rintro e w1 ⟨he, hb⟩
  change e = Ending.returned (.tuple #[.agg #[.int .i64 0, .bool true, .int .i64 0], .bool true]) at he
  subst he
  clear hw
  have hb := Aside0.mk hb
  go_wp2
  have z0 := blk_cell (blk_new w1 (.cells #[.int .i64 0, .bool true, .int .i64 0] 42)) 0
  have z2 := blk_cell (blk_new w1 (.cells #[.int .i64 0, .bool true, .int .i64 0] 42)) 2
  change World.cell? _ _ = some (.int .i64 0) at z0 z2
  refine start_ (n := 10) (S := (fun w' => w'.cell? ⟨w1.heap.size, 0, none⟩ = some (.int .i64 0) ∧ w'.cell? ⟨w1.heap.size, 2, none⟩ = some (.int .i64 0))) (ds := []) #[false, false, false, false, false, false, false, false, false, false] (by kernel_rfl) rfl rfl (⟨z0, z2⟩) (fun hHeld => ?_)
  refine pure_ (i := 0) (N := some 18) (v := ?_) (a' := ?_) #[true, false, false, false, false, false, false, false, false, false] rfl rfl (by kernel_rfl) (fun _ _ _ h => h) (Or.inl ⟨by rfl, ?_⟩) ?_ ?_
  rotate_left
  · intro w'
    go_simp
    with_reducible rfl
  rotate_left
  · simp only [Act.put, List.setIfInBounds_toArray, List.set_cons_zero, List.set_cons_succ, i64_w, i32_w]
    rfl
  refine take_ (i := 1) (N := some 19) (v := ?_) (a' := ?_) #[true, true, false, false, false, false, false, false, false, false] rfl rfl (by kernel_rfl) (fun _ _ _ h => h) (Or.inl ⟨by rfl, ?_⟩) hHeld ?_ ?_
  rotate_left
  · rintro w' ⟨s1, s2⟩
    go_simp
    with_reducible rfl
  rotate_left
  · simp only [Act.put, List.setIfInBounds_toArray, List.set_cons_zero, List.set_cons_succ, i64_w, i32_w]
    rfl
  refine pure_ (i := 5) (N := some 23) (v := ?_) (a' := ?_) #[true, true, false, false, false, true, false, false, false, false] rfl rfl (by kernel_rfl) (fun _ _ _ h => h) (Or.inl ⟨by rfl, ?_⟩) ?_ ?_
  rotate_left
  · intro w'
    go_simp
    with_reducible rfl
  rotate_left
  · simp only [Act.put, List.setIfInBounds_toArray, List.set_cons_zero, List.set_cons_succ, i64_w, i32_w]
    rfl
  refine take_ (i := 6) (N := some 24) (v := ?_) (a' := ?_) #[true, true, false, false, false, true, true, false, false, false] rfl rfl (by kernel_rfl) (fun _ _ _ h => h) (Or.inl ⟨by rfl, ?_⟩) hHeld ?_ ?_
  rotate_left
  · rintro w' ⟨s1, s2⟩
    go_simp
    with_reducible rfl
  rotate_left
  · simp only [Act.put, List.setIfInBounds_toArray, List.set_cons_zero, List.set_cons_succ, i64_w, i32_w]
    rfl
  refine pure_ (i := 3) (N := some 21) (v := ?_) (a' := ?_) #[true, true, false, true, false, true, true, false, false, false] rfl rfl (by kernel_rfl) (fun _ _ _ h => h) (Or.inl ⟨by rfl, ?_⟩) ?_ ?_
  rotate_left
  · intro w'
    go_simp
    with_reducible rfl
  rotate_left
  · simp only [Act.put, List.setIfInBounds_toArray, List.set_cons_zero, List.set_cons_succ, i64_w, i32_w]
    rfl
  refine one_ (i := 2) (N := some 20) #[true, true, true, true, false, true, true, false, false, false] rfl rfl (by kernel_rfl) (by decide) (fun K hK => ?_)
  refine goes_ Tryz.func65 (by kernel_rfl) rfl #[.int .i64 0] (by rfl) rfl rfl (by (try simp only [List.map_toArray, List.map_cons, List.map_nil]); first | done | rfl) ?_
  refine (print0_calls _).mono ?_
  rintro e w2 ⟨rfl, hb2⟩
  have y0 : w2.cell? ⟨w1.heap.size, 0, none⟩ = some (.int .i64 0) := cell_on hb2 z0
  have y2 : w2.cell? ⟨w1.heap.size, 2, none⟩ = some (.int .i64 0) := cell_on hb2 z2
  replace hb2 := Aside0.mk hb2
  refine ⟨_, rfl, ?_⟩
  refine hK.out _ _ ⟨y0, y2⟩ (fun hHeld => ?_)
  clear hK K
  refine norm_ (a' := ?_) ?_ ?_
  rotate_left
  · show Act.put _ (some 20) _ = _
    simp only [Act.put, List.setIfInBounds_toArray, List.set_cons_zero, List.set_cons_succ, i64_w, i32_w]
    rfl
  refine pure_ (i := 4) (N := some 22) (v := ?_) (a' := ?_) #[true, true, true, true, true, true, true, false, false, false] rfl rfl (by kernel_rfl) (fun _ _ _ h => h) (Or.inl ⟨by rfl, ?_⟩) ?_ ?_
  rotate_left
  · intro w'
    go_simp
    with_reducible rfl
  rotate_left
  · simp only [Act.put, List.setIfInBounds_toArray, List.set_cons_zero, List.set_cons_succ, i64_w, i32_w]
    rfl
  refine one_ (i := 7) (N := some 25) #[true, true, true, true, true, true, true, true, false, false] rfl rfl (by kernel_rfl) (by decide) (fun K hK => ?_)
  refine goes_ Tryz.func65 (by kernel_rfl) rfl #[.int .i64 0] (by rfl) rfl rfl (by (try simp only [List.map_toArray, List.map_cons, List.map_nil]); first | done | rfl) ?_
  refine (print0_calls _).mono ?_
  rintro e w3 ⟨rfl, hb3⟩
  replace hb3 := Aside0.mk hb3
  refine ⟨_, rfl, ?_⟩
  refine hK.out _ _ ⟨cell_on hb3.out y0, cell_on hb3.out y2⟩ (fun hHeld => ?_)
  clear hK K
  refine norm_ (a' := ?_) ?_ ?_
  rotate_left
  · show Act.put _ (some 25) _ = _
    simp only [Act.put, List.setIfInBounds_toArray, List.set_cons_zero, List.set_cons_succ, i64_w, i32_w]
    rfl
  refine pure_ (i := 8) (N := some 26) (v := ?_) (a' := ?_) #[true, true, true, true, true, true, true, true, true, false] rfl rfl (by kernel_rfl) (fun _ _ _ h => h) (Or.inl ⟨by rfl, ?_⟩) ?_ ?_
  rotate_left
  · intro w'
    go_simp
    with_reducible rfl
  rotate_left
  · simp only [Act.put, List.setIfInBounds_toArray, List.set_cons_zero, List.set_cons_succ, i64_w, i32_w]
    rfl
  refine pure_ (i := 9) (N := some 7) (v := ?_) (a' := ?_) #[true, true, true, true, true, true, true, true, true, true] rfl rfl (by kernel_rfl) (fun _ _ _ h => h) (Or.inl ⟨by rfl, ?_⟩) ?_ ?_
  rotate_left
  · intro w'
    go_simp
    with_reducible rfl
  rotate_left
  · simp only [Act.put, List.setIfInBounds_toArray, List.set_cons_zero, List.set_cons_succ, i64_w, i32_w]
    rfl
  refine done_ (by kernel_rfl) ?_
  clear z0 z2 y0 y2
  go_wp2
  go_ret
  exact ⟨rfl, below_then (below_then (below_drew (below_alloc hb.out _)) (by have := hb.out.size; simp; omega) hb2.out) (by have h1 := hb.out.size; have h2 := hb2.out.size; simp at h2; omega) hb3.out⟩
end Go.Proofs.YthalgemkblkhgaaGreat
