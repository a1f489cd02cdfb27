/- Whether literals hold in a plan: lit.made, lit.Map.holds, True, Holds. -/
import Derived.Test.YthalgemkblkhgaaGreatQRefFixed
namespace Go.Proofs.YthalgemkblkhgaaGreat
open Go.Proofs Go.RowKit Go.Proofs.YthalgemkblkhgaaGreatW.PrintWords Go.Proofs.YthalgemkblkhgaaGreatW.PrintLast
set_option linter.unusedVariables false
set_option linter.unusedSimpArgs false

theorem beq_deci (a b : Int) : (a == b) = decide (a = b) := by by_cases h : a = b <;> simp [h]
set_option maxRecDepth 100000 in
set_option maxHeartbeats 2000000 in
theorem made_calls (l : List Seat) (A : Option Addr) (c : Nat) (w : World) (hA : kSeat.C w A l.length l) (y : Choice) (h0 : 0 ≤ y.f0) (h1 : y.f0 < l.length) (r : Bool) (hr : madeOf l y = r) :
    Calls Tryz.prog 104 #[.slice A l.length c, .agg #[.int .i64 y.f0, .bool y.f1, .int .i64 y.f2]] w fun e w' => e = .returned (.bool r) ∧ Below w.heap.size w w' := by
  subst hr
  obtain ⟨y0, BL, v⟩ := y
  simp only at h0 h1 ⊢
  obtain ⟨c0, rfl⟩ : ∃ c0 : Nat, y0 = c0 := ⟨y0.toNat, by omega⟩
  have hcl : c0 < l.length := by omega
  obtain ⟨s, hs⟩ : ∃ s, l[c0]? = some s := ⟨_, List.getElem?_eq_getElem hcl⟩
  have hmx := Kd.C_max hA
  obtain ⟨ad, rfl, e0, e1⟩ := el_Seat hA c0 s hs
  have hu5 := Tryz.underlying42
  have hu6 := Tryz.underlying103
  replace hs := Aside0.mk hs
  replace e0 : ∀ o, (w.alloc o).cell? (ad.add (c0 * 2)) = some (.int .i64 s.f0) := fun o => cell_on (below_alloc (Below.refl _ _) o) e0
  replace e1 : ∀ o, (w.alloc o).cell? ⟨(ad.add (c0 * 2)).block, (ad.add (c0 * 2)).off + 1, none⟩ = some (.int .i64 s.f1) := fun o => cell_on (below_alloc (Below.refl _ _) o) e1
  have z0 : ∀ b : Bool, (w.alloc (.cells #[.int .i64 c0, .bool b, .int .i64 v] 42)).cell? ⟨w.heap.size, 0, none⟩ = some (.int .i64 c0) := fun b => blk_cell (blk_new w _) 0
  have z1 : ∀ b : Bool, (w.alloc (.cells #[.int .i64 c0, .bool b, .int .i64 v] 42)).cell? ⟨w.heap.size, 1, none⟩ = some (.bool b) := fun b => blk_cell (blk_new w _) 1
  have z2 : ∀ b : Bool, (w.alloc (.cells #[.int .i64 c0, .bool b, .int .i64 v] 42)).cell? ⟨w.heap.size, 2, none⟩ = some (.int .i64 v) := fun b => blk_cell (blk_new w _) 2
  clear hA h0 h1
  cases BL
  · skip
    go_enter Tryz.func104, Tryz.ntmps104
    go_wp2_with fail
    refine start_ (n := 10) (S := (fun w' => w'.cell? (ad.add (c0 * 2)) = some (.int .i64 s.f0) ∧ w'.cell? ⟨w.heap.size, 0, none⟩ = some (.int .i64 c0) ∧ w'.cell? ⟨w.heap.size, 2, none⟩ = some (.int .i64 v))) (ds := []) #[false, false, false, false, false, false, false, false, false, false] (by kernel_rfl) rfl rfl (⟨e0 (.cells #[.int .i64 c0, .bool false, .int .i64 v] 42), z0 _, z2 _⟩) (fun hHeld => ?_)
    refine pure_ (i := 0) (N := some 16) (v := ?_) (a' := ?_) #[true, false, false, false, false, false, false, false, false, false] rfl rfl (by kernel_rfl) (fun _ _ _ h => h) (Or.inl ⟨by rfl, ?_⟩) ?_ ?_
    rotate_left
    · intro w'
      go_simp
      with_reducible rfl
    rotate_left
    · simp only [Act.put, List.setIfInBounds_toArray, List.set_cons_zero, List.set_cons_succ, i64_w, i32_w]
      rfl
    refine pure_ (i := 1) (N := some 17) (v := ?_) (a' := ?_) #[true, true, false, false, false, false, false, false, false, false] rfl rfl (by kernel_rfl) (fun _ _ _ h => h) (Or.inl ⟨by rfl, ?_⟩) ?_ ?_
    rotate_left
    · intro w'
      go_simp
      with_reducible rfl
    rotate_left
    · simp only [Act.put, List.setIfInBounds_toArray, List.set_cons_zero, List.set_cons_succ, i64_w, i32_w]
      rfl
    refine take_ (i := 2) (N := some 18) (v := ?_) (a' := ?_) #[true, true, true, false, false, false, false, false, false, false] rfl rfl (by kernel_rfl) (fun _ _ _ h => h) (Or.inl ⟨by rfl, ?_⟩) hHeld ?_ ?_
    rotate_left
    · rintro w' ⟨s1, s2, s3⟩
      go_simp
      with_reducible rfl
    rotate_left
    · simp only [Act.put, List.setIfInBounds_toArray, List.set_cons_zero, List.set_cons_succ, i64_w, i32_w]
      rfl
    refine pure_ (i := 3) (N := some 19) (v := ?_) (a' := ?_) #[true, true, true, true, false, false, false, false, false, false] rfl rfl (by kernel_rfl) (fun _ _ _ h => h) (Or.inl ⟨by rfl, ?_⟩) ?_ ?_
    rotate_left
    · intro w'
      go_simp
      with_reducible rfl
    rotate_left
    · simp only [Act.put, List.setIfInBounds_toArray, List.set_cons_zero, List.set_cons_succ, i64_w, i32_w]
      rfl
    refine pure_ (i := 4) (N := some 20) (v := ?_) (a' := ?_) #[true, true, true, true, true, false, false, false, false, false] rfl rfl (by kernel_rfl) (fun _ _ _ h => h) (Or.inl ⟨by rfl, ?_⟩) ?_ ?_
    rotate_left
    · intro w'
      go_simp
      with_reducible rfl
    rotate_left
    · simp only [Act.put, List.setIfInBounds_toArray, List.set_cons_zero, List.set_cons_succ, i64_w, i32_w]
      rfl
    refine take_ (i := 5) (N := some 21) (v := ?_) (a' := ?_) #[true, true, true, true, true, true, false, false, false, false] rfl rfl (by kernel_rfl) (fun _ _ _ h => h) (Or.inl ⟨by rfl, ?_⟩) hHeld ?_ ?_
    rotate_left
    · rintro w' ⟨s1, s2, s3⟩
      go_simp
      with_reducible rfl
    rotate_left
    · simp only [Act.put, List.setIfInBounds_toArray, List.set_cons_zero, List.set_cons_succ, i64_w, i32_w]
      rfl
    refine pure_ (i := 6) (N := some 22) (v := ?_) (a' := ?_) #[true, true, true, true, true, true, true, false, false, false] rfl rfl (by kernel_rfl) (fun _ _ _ h => h) (Or.inl ⟨by rfl, ?_⟩) ?_ ?_
    rotate_left
    · intro w'
      go_simp
      with_reducible rfl
    rotate_left
    · simp only [Act.put, List.setIfInBounds_toArray, List.set_cons_zero, List.set_cons_succ, i64_w, i32_w]
      rfl
    refine take_ (i := 7) (N := some 23) (v := ?_) (a' := ?_) #[true, true, true, true, true, true, true, true, false, false] rfl rfl (by kernel_rfl) (fun _ _ _ h => h) (Or.inl ⟨by rfl, ?_⟩) hHeld ?_ ?_
    rotate_left
    · rintro w' ⟨s1, s2, s3⟩
      go_simp
      with_reducible rfl
    rotate_left
    · simp only [Act.put, List.setIfInBounds_toArray, List.set_cons_zero, List.set_cons_succ, i64_w, i32_w]
      rfl
    refine pure_ (i := 8) (N := some 24) (v := ?_) (a' := ?_) #[true, true, true, true, true, true, true, true, true, false] rfl rfl (by kernel_rfl) (fun _ _ _ h => h) (Or.inl ⟨by rfl, ?_⟩) ?_ ?_
    rotate_left
    · intro w'
      go_simp
      with_reducible rfl
    rotate_left
    · simp only [Act.put, List.setIfInBounds_toArray, List.set_cons_zero, List.set_cons_succ, i64_w, i32_w]
      rfl
    refine pure_ (i := 9) (N := some 4) (v := ?_) (a' := ?_) #[true, true, true, true, true, true, true, true, true, true] rfl rfl (by kernel_rfl) (fun _ _ _ h => h) (Or.inl ⟨by rfl, ?_⟩) ?_ ?_
    rotate_left
    · intro w'
      go_simp
      with_reducible rfl
    rotate_left
    · simp only [Act.put, List.setIfInBounds_toArray, List.set_cons_zero, List.set_cons_succ, i64_w, i32_w]
      rfl
    refine done_ (by kernel_rfl) ?_
    clear e0 e1 z0 z1 z2
    go_wp2
    go_ret
    exact ⟨ret_bool (by rw [madeOf, hasAt_some (y := ⟨c0, false, v⟩) hs.out]; exact beq_dec _ _), below_drew (below_alloc (Below.refl _ _) _)⟩
  · skip
    go_enter Tryz.func104, Tryz.ntmps104
    go_wp2_with fail
    refine start_ (n := 10) (S := (fun w' => w'.cell? ⟨(ad.add (c0 * 2)).block, (ad.add (c0 * 2)).off + 1, none⟩ = some (.int .i64 s.f1) ∧ w'.cell? ⟨w.heap.size, 0, none⟩ = some (.int .i64 c0) ∧ w'.cell? ⟨w.heap.size, 2, none⟩ = some (.int .i64 v))) (ds := []) #[false, false, false, false, false, false, false, false, false, false] (by kernel_rfl) rfl rfl (⟨e1 (.cells #[.int .i64 c0, .bool true, .int .i64 v] 42), z0 _, z2 _⟩) (fun hHeld => ?_)
    refine pure_ (i := 0) (N := some 7) (v := ?_) (a' := ?_) #[true, false, false, false, false, false, false, false, false, false] rfl rfl (by kernel_rfl) (fun _ _ _ h => h) (Or.inl ⟨by rfl, ?_⟩) ?_ ?_
    rotate_left
    · intro w'
      go_simp
      with_reducible rfl
    rotate_left
    · simp only [Act.put, List.setIfInBounds_toArray, List.set_cons_zero, List.set_cons_succ, i64_w, i32_w]
      rfl
    refine pure_ (i := 1) (N := some 8) (v := ?_) (a' := ?_) #[true, true, false, false, false, false, false, false, false, false] rfl rfl (by kernel_rfl) (fun _ _ _ h => h) (Or.inl ⟨by rfl, ?_⟩) ?_ ?_
    rotate_left
    · intro w'
      go_simp
      with_reducible rfl
    rotate_left
    · simp only [Act.put, List.setIfInBounds_toArray, List.set_cons_zero, List.set_cons_succ, i64_w, i32_w]
      rfl
    refine take_ (i := 2) (N := some 9) (v := ?_) (a' := ?_) #[true, true, true, false, false, false, false, false, false, false] rfl rfl (by kernel_rfl) (fun _ _ _ h => h) (Or.inl ⟨by rfl, ?_⟩) hHeld ?_ ?_
    rotate_left
    · rintro w' ⟨s1, s2, s3⟩
      go_simp
      with_reducible rfl
    rotate_left
    · simp only [Act.put, List.setIfInBounds_toArray, List.set_cons_zero, List.set_cons_succ, i64_w, i32_w]
      rfl
    refine pure_ (i := 3) (N := some 10) (v := ?_) (a' := ?_) #[true, true, true, true, false, false, false, false, false, false] rfl rfl (by kernel_rfl) (fun _ _ _ h => h) (Or.inl ⟨by rfl, ?_⟩) ?_ ?_
    rotate_left
    · intro w'
      go_simp
      with_reducible rfl
    rotate_left
    · simp only [Act.put, List.setIfInBounds_toArray, List.set_cons_zero, List.set_cons_succ, i64_w, i32_w]
      rfl
    refine pure_ (i := 4) (N := some 11) (v := ?_) (a' := ?_) #[true, true, true, true, true, false, false, false, false, false] rfl rfl (by kernel_rfl) (fun _ _ _ h => h) (Or.inl ⟨by rfl, ?_⟩) ?_ ?_
    rotate_left
    · intro w'
      go_simp
      with_reducible rfl
    rotate_left
    · simp only [Act.put, List.setIfInBounds_toArray, List.set_cons_zero, List.set_cons_succ, i64_w, i32_w]
      rfl
    refine take_ (i := 5) (N := some 12) (v := ?_) (a' := ?_) #[true, true, true, true, true, true, false, false, false, false] rfl rfl (by kernel_rfl) (fun _ _ _ h => h) (Or.inl ⟨by rfl, ?_⟩) hHeld ?_ ?_
    rotate_left
    · rintro w' ⟨s1, s2, s3⟩
      go_simp
      with_reducible rfl
    rotate_left
    · simp only [Act.put, List.setIfInBounds_toArray, List.set_cons_zero, List.set_cons_succ, i64_w, i32_w]
      rfl
    refine pure_ (i := 6) (N := some 13) (v := ?_) (a' := ?_) #[true, true, true, true, true, true, true, false, false, false] rfl rfl (by kernel_rfl) (fun _ _ _ h => h) (Or.inl ⟨by rfl, ?_⟩) ?_ ?_
    rotate_left
    · intro w'
      go_simp
      with_reducible rfl
    rotate_left
    · simp only [Act.put, List.setIfInBounds_toArray, List.set_cons_zero, List.set_cons_succ, i64_w, i32_w]
      rfl
    refine take_ (i := 7) (N := some 14) (v := ?_) (a' := ?_) #[true, true, true, true, true, true, true, true, false, false] rfl rfl (by kernel_rfl) (fun _ _ _ h => h) (Or.inl ⟨by rfl, ?_⟩) hHeld ?_ ?_
    rotate_left
    · rintro w' ⟨s1, s2, s3⟩
      go_simp
      with_reducible rfl
    rotate_left
    · simp only [Act.put, List.setIfInBounds_toArray, List.set_cons_zero, List.set_cons_succ, i64_w, i32_w]
      rfl
    refine pure_ (i := 8) (N := some 15) (v := ?_) (a' := ?_) #[true, true, true, true, true, true, true, true, true, false] rfl rfl (by kernel_rfl) (fun _ _ _ h => h) (Or.inl ⟨by rfl, ?_⟩) ?_ ?_
    rotate_left
    · intro w'
      go_simp
      with_reducible rfl
    rotate_left
    · simp only [Act.put, List.setIfInBounds_toArray, List.set_cons_zero, List.set_cons_succ, i64_w, i32_w]
      rfl
    refine pure_ (i := 9) (N := some 4) (v := ?_) (a' := ?_) #[true, true, true, true, true, true, true, true, true, true] rfl rfl (by kernel_rfl) (fun _ _ _ h => h) (Or.inl ⟨by rfl, ?_⟩) ?_ ?_
    rotate_left
    · intro w'
      go_simp
      with_reducible rfl
    rotate_left
    · simp only [Act.put, List.setIfInBounds_toArray, List.set_cons_zero, List.set_cons_succ, i64_w, i32_w]
      rfl
    refine done_ (by kernel_rfl) ?_
    clear e0 e1 z0 z1 z2
    go_wp2
    go_ret
    exact ⟨ret_bool (by rw [madeOf, hasAt_some (y := ⟨c0, true, v⟩) hs.out]; exact beq_dec _ _), below_drew (below_alloc (Below.refl _ _) _)⟩
/-- Whether a literal holds in a plan. -/
def litAt (p : Problem) (l : List Seat) (n : Int) : Bool := (whatIn (allOf p) n).2 && (madeOf l (whatIn (allOf p) n).1 == decide (0 < n))
theorem trueOf_lit (p : Problem) (l : List Seat) (n : Int) : trueOf p l n = (planOk p l && litAt p l n) := rfl
set_option maxRecDepth 100000 in
set_option maxHeartbeats 2000000 in
theorem clos_calls (p : Problem) (l : List Seat) (hpl : planOk p l = true) (b : Nat) (g3 g4 : Nat) (A : Option Addr) (c : Nat) (w : World) (hM : MBox w b (mapOf p)) (hA : kSeat.C w A l.length l) (hc3 : w.cell? ⟨g3, 0, none⟩ = some (.pointer (some ⟨b, 0, none⟩))) (hc4 : w.cell? ⟨g4, 0, none⟩ = some (.slice A l.length c)) (n : Int) (hn : wfInt .i64 n) (r : Bool) (hr : litAt p l n = r) :
    Calls Tryz.prog 103 #[.int .i64 n, .pointer (some ⟨g3, 0, none⟩), .pointer (some ⟨g4, 0, none⟩)] w fun e w' => e = .returned (.bool r) ∧ Below w.heap.size w w' := by
  subst hr
  obtain ⟨hok, hlen, -⟩ := planOk_iff hpl
  have hAns := Aside0.mk (show Ans p (.pointer (some ⟨b, 0, none⟩)) w from .inr ⟨hok, b, rfl, hM⟩)
  have HA := Aside0.mk hA
  have HN := Aside0.mk hn
  have HC4 := Aside0.mk hc4
  have hu5 := Tryz.underlying42
  have hlt3 := World.block_lt_of_cell? w _ hc3
  have hlt4 := World.block_lt_of_cell? w _ hc4
  obtain ⟨⟨⟨y0, y1, y2⟩, k⟩, hz⟩ : ∃ z, whatIn (allOf p) n = z := ⟨_, rfl⟩
  have hsp : Aside0 (litAt p l n = (k && (madeOf l ⟨y0, y1, y2⟩ == decide (0 < n)))) := ⟨by rw [litAt, hz]⟩
  have hy : Aside0 (k = true → 0 ≤ y0 ∧ y0 < l.length) := ⟨fun hk => by
    have h1 := whatIn_mem (L := allOf p) (n := n) (by rw [hz]; exact hk)
    rw [hz, allOf_ok hok] at h1
    have h2 := (fair_choices p.f5).at_ _ h1
    simp only at h2
    omega⟩
  replace hz := Aside0.mk hz
  clear hM hA hn hc4 hlen
  go_enter Tryz.func103, Tryz.ntmps103
  go_wp2_with fail
  refine (ans_what hAns.out n HN.out _ hz.out).mono ?_
  rintro e w1 ⟨he, hb1⟩
  change e = Ending.returned (.tuple #[.agg #[.int .i64 y0, .bool y1, .int .i64 y2], .bool k]) at he
  subst he
  have hB := Aside0.mk (below_alloc hb1 (.cells #[.int .i64 y0, .bool y1, .int .i64 y2] 42))
  have q4 := cell_on hB.out HC4.out
  clear hc3
  replace hb1 := Aside0.mk hb1
  cases k
  · go_wp2_with fail
    go_ret
    exact ⟨ret_bool (by rw [hsp.out]; rfl), hB.out⟩
  obtain ⟨m, hm⟩ : ∃ m, madeOf l ⟨y0, y1, y2⟩ = m := ⟨_, rfl⟩
  have hm := Aside0.mk hm
  go_wp2_with fail
  refine (made_calls l A c _ (Kd.C_below HA.out hB.out) ⟨y0, y1, y2⟩ (hy.out (by simp)).1 (hy.out (by simp)).2 m hm.out).mono ?_
  rintro e w2 ⟨rfl, hb2⟩
  have hB2 := Aside0.mk (bthen hB.out hb2 (Nat.le_refl _))
  clear q4
  by_cases h0 : 0 < n
  all_goals
    go_wp2_with fail
    go_ret
    exact ⟨ret_bool (by rw [hsp.out, hm.out]; simp [h0]), hB2.out⟩
def hitAt (f : Int → Bool) (l : List Int) (j : Nat) : Bool := match l[j]? with | some x => f x | none => false
def idxF (f : Int → Bool) (l : List Int) : Int := match firstBad l.length (hitAt f l) with | some i => (i : Int) | none => -1
theorem any_hit (f : Int → Bool) (l : List Int) : l.any f = decide (0 ≤ idxF f l) := by
  unfold idxF firstBad
  have key : ∀ (k s : Nat), s + k = l.length → (l.drop s).any f = (firstFrom (hitAt f l) k s).isSome := by
    intro k
    induction k with
    | zero => intro s h; rw [List.drop_eq_nil_of_le (by omega)]; rfl
    | succ k ih =>
      intro s h
      have hx : l[s]? = some l[s] := List.getElem?_eq_getElem (by omega)
      rw [List.drop_eq_getElem_cons (by omega : s < l.length), List.any_cons, firstFrom]
      have e : hitAt f l s = f l[s] := by simp only [hitAt, hx]
      rw [e]
      cases hf : f l[s]
      · rw [ih (s + 1) (by omega)]; simp
      · simp
  have h := key l.length 0 (by omega)
  rw [List.drop_zero] at h
  rw [h]
  cases firstFrom (hitAt f l) l.length 0 with
  | none => rfl
  | some i => simp
set_option maxRecDepth 100000 in
set_option maxHeartbeats 2000000 in
theorem index_calls (f : Int → Bool) (fn : Nat) (caps : Array Value) (l : List Int) (A : Option Addr) (c : Nat) (w : World) (hA : (Kd.int .i64).C w A l.length l) (p3 p4 : Value)
    (hr : ∀ (x : Int) (w' : World), Below w.heap.size w w' → x ∈ l → Calls Tryz.prog 103 #[.int .i64 x, p3, p4] w' fun e w'' => e = .returned (.bool (f x)) ∧ Below w'.heap.size w' w'') (r : Int) (h : idxF f l = r) :
    Calls Tryz.prog 72 #[.slice A l.length c, .func (.func 103) #[] #[p3, p4]] w fun e w' => e = .returned (.int .i64 r) ∧ Below w.heap.size w w' := by
  subst h
  have hmx := Kd.C_max hA
  have HA := Aside0.mk hA
  replace hr := Aside0.mk hr
  clear hA
  go_enter Tryz.func72, Tryz.ntmps72
  go_wp2_with fail
  go_loopw [8] (fun v wr => ∃ i : Nat, v = .int .i64 i ∧ i ≤ l.length ∧ Aside0 (upTo (fun j => !hitAt f l j) i) ∧ Aside0 (Below w.heap.size w wr)) (fun v _ => l.length - (intOf v).toNat)
  case atStart => exact ⟨0, rfl, by omega, ⟨upTo_zero _⟩, ⟨Below.refl _ _⟩⟩
  case round =>
    obtain ⟨i, rfl, hi, hno, hb⟩ := hrel
    by_cases hlt : i < l.length
    · obtain ⟨x, hx⟩ : ∃ x, l[i]? = some x := ⟨_, List.getElem?_eq_getElem hlt⟩
      obtain ⟨ax, rfl, e1⟩ := el_int (Kd.C_below HA.out hb.out) i x hx
      have hsp := Aside0.mk (show hitAt f l i = f x by simp only [hitAt, hx])
      obtain ⟨q, hq⟩ : ∃ q, f x = q := ⟨_, rfl⟩
      have hc := hr.out x wr hb.out (List.mem_of_getElem? hx)
      rw [hq] at hc
      replace hc := Aside0.mk hc
      replace hx := Aside0.mk hx
      replace hq := Aside0.mk hq
      go_wp2_with fail
      refine hc.out.mono ?_
      rintro e w1 ⟨rfl, hb1⟩
      have hB := Aside0.mk (bthen hb.out hb1 (Nat.le_refl _))
      clear e1
      cases q
      · go_wp2_with fail
        go_roundw
        case rel => exact ⟨i + 1, by go_num, by omega, ⟨upTo_snoc hno.out (by rw [hsp.out, hq.out]; rfl)⟩, hB⟩
        case measure => simp [intOf]; omega
      · go_wp2_with fail
        go_ret
        exact ⟨ret_i64 (by rw [idxF, firstBad_some (P := hitAt f l) hlt hno.out (by rw [hsp.out, hq.out])]), hB.out⟩
    · obtain rfl : i = l.length := by omega
      go_wp2_with fail
      go_ret
      exact ⟨ret_i64 (by rw [idxF, firstBad_none (P := hitAt f l) hno.out]), hb.out⟩
set_option maxHeartbeats 1000000 in
theorem contains_calls (f : Int → Bool) (l : List Int) (A : Option Addr) (c : Nat) (w : World) (hA : (Kd.int .i64).C w A l.length l) (p3 p4 : Value)
    (hr : ∀ (x : Int) (w' : World), Below w.heap.size w w' → x ∈ l → Calls Tryz.prog 103 #[.int .i64 x, p3, p4] w' fun e w'' => e = .returned (.bool (f x)) ∧ Below w'.heap.size w' w'') (r : Bool) (h : l.any f = r) :
    Calls Tryz.prog 102 #[.slice A l.length c, .func (.func 103) #[] #[p3, p4]] w fun e w' => e = .returned (.bool r) ∧ Below w.heap.size w w' := by
  subst h
  have hc := index_calls f 0 #[] l A c w hA p3 p4 hr _ rfl
  have hsp := Aside0.mk (any_hit f l)
  generalize hq : idxF f l = q at hc hsp
  replace hc := Aside0.mk hc
  clear hr hA hq
  go_enter Tryz.func102, Tryz.ntmps102
  go_wp2_with fail
  refine hc.out.mono ?_
  rintro e w1 ⟨rfl, hb1⟩
  have hb1 := Aside0.mk hb1
  go_wp2_with fail
  go_ret
  exact ⟨ret_bool (by rw [hsp.out]), hb1.out⟩
end Go.Proofs.YthalgemkblkhgaaGreat
