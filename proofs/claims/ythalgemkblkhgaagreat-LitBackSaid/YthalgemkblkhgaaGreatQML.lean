/- What lit numbers: the choices of a problem; a literal's size; the accessors of a Map. lit.Map.What. -/
import Derived.Test.YthalgemkblkhgaaGreatQMB
import Derived.Laws.ResultCell
namespace Go.Proofs.YthalgemkblkhgaaGreat
open Go.RowKit Go.Proofs.YthalgemkblkhgaaGreatW.PrintWords Go.Proofs.YthalgemkblkhgaaGreatW.PrintLast
set_option linter.unusedVariables false
set_option linter.unusedSimpArgs false

def blockOf (c : Nat) (x : Class) : List Choice := (List.range x.f4.length).map (fun (i : Nat) => Choice.mk c false i) ++ (List.range x.f5.length).map (fun (i : Nat) => Choice.mk c true i)
def blockAt (l : List Class) (c : Nat) : List Choice := match l[c]? with | some x => blockOf c x | none => []
def choicesTo (l : List Class) (k : Nat) : List Choice := (List.range k).flatMap (blockAt l)
def choices (l : List Class) : List Choice := choicesTo l l.length
def timesAt (l : List Class) (c : Nat) : Int := ((choicesTo l c).length : Nat)
def placesAt (l : List Class) (c : Nat) : Int := ((choicesTo l c).length + (match l[c]? with | some x => x.f4.length | none => 0) : Nat)
def mapOf (p : Problem) : Map := ⟨p, choices p.f5, (List.range p.f5.length).map (timesAt p.f5), (List.range p.f5.length).map (placesAt p.f5)⟩
theorem choicesTo_succ (l : List Class) (k : Nat) : choicesTo l (k + 1) = choicesTo l k ++ blockAt l k := by simp [choicesTo, List.range_succ]
theorem blockAt_some {l : List Class} {c : Nat} {x : Class} (h : l[c]? = some x) : blockAt l c = blockOf c x := by simp [blockAt, h]
theorem length_blockOf (c : Nat) (x : Class) : (blockOf c x).length = x.f4.length + x.f5.length := by simp [blockOf]

/-- Block b holds the Map m. -/
def MBox (w : World) (b : Nat) (m : Map) : Prop := ∃ cs, kMap.K w m cs ∧ w.heap[b]? = some (.cells cs.toArray 79 (0, 0))
theorem MBox.below {w w1 : World} {b : Nat} {m : Map} (h : MBox w b m) (hb : Below w.heap.size w w1) : MBox w1 b m := by
  obtain ⟨cs, h1, h2⟩ := h
  exact ⟨cs, kMap.K_below hb h1, (hb.block _ (blk_lt h2)).trans h2⟩

def sizeN (l : Int) : Nat := l.natAbs
set_option maxHeartbeats 400000 in
theorem size_calls (l : Int) (h0 : wfInt .i64 l) (r : Int) (hr : (l.natAbs : Int) = r) (w : World) :
    Calls Tryz.prog 50 #[.int .i64 l] w fun e w' => e = .returned (.int .u64 r) ∧ w = w' := by
  subst hr
  have hi := wf_i64 h0
  by_cases h : l < 0
  · go_enter Tryz.func50, Tryz.ntmps50
    go_wp2
    go_ret
    exact ⟨by show Ending.returned (.int .u64 _) = _; congr 2; omega, rfl⟩
  · go_enter Tryz.func50, Tryz.ntmps50
    go_wp2
    go_ret
    exact ⟨by show Ending.returned (.int .u64 _) = _; congr 2; omega, rfl⟩
theorem MBox.open_ {w : World} {b : Nat} {m : Map} (h : MBox w b m) : ∃ A7 c7 A15 c15 A16 c16 A17 c17, w.cell? ⟨b, 7, none⟩ = some (.slice A7 m.f0.f5.length c7) ∧ w.cell? ⟨b, 15, none⟩ = some (.slice A15 m.f1.length c15) ∧ w.cell? ⟨b, 16, none⟩ = some (.slice A16 m.f2.length c16) ∧ w.cell? ⟨b, 17, none⟩ = some (.slice A17 m.f3.length c17) ∧
    kClass.C w A7 m.f0.f5.length m.f0.f5 ∧ kChoice.C w A15 m.f1.length m.f1 ∧ (Kd.int .i64).C w A16 m.f2.length m.f2 ∧ (Kd.int .i64).C w A17 m.f3.length m.f3 := by
  obtain ⟨cs, h1, h2⟩ := h
  obtain ⟨A4, c4, A5, c5, A6, c6, A7, c7, A8, c8, A9, c9, A10, c10, A15, c15, A16, c16, A17, c17, rfl, l4, g4, l5, g5, l6, g6, l7, g7, l8, g8, l9, g9, l10, g10, l15, g15, l16, g16, l17, g17⟩ := kMap_open h1
  exact ⟨A7, c7, A15, c15, A16, c16, A17, c17, blk_cell h2 7, blk_cell h2 15, blk_cell h2 16, blk_cell h2 17, g7, g15, g16, g17⟩
set_option maxHeartbeats 400000 in
theorem litlen_calls (m : Map) (b : Nat) (w : World) (hM : MBox w b m) (r : Int) (hr : (m.f1.length : Int) = r) :
    Calls Tryz.prog 20 #[.pointer (some ⟨b, 0, none⟩)] w fun e w' => e = .returned (.int .i64 r) ∧ w = w' := by
  subst hr
  obtain ⟨A7, c7, A15, c15, A16, c16, A17, c17, b7, b15, b16, b17, g7, g15, g16, g17⟩ := hM.open_
  have hlt := World.block_lt_of_cell? w _ b7
  clear hM g7 g15 g16 g17
  go_enter Tryz.func20, Tryz.ntmps20
  go_wp2_with fail
  go_ret
  exact ⟨rfl, rfl⟩
set_option maxHeartbeats 400000 in
theorem litlen_nil (w : World) : Calls Tryz.prog 20 #[.pointer none] w fun e w' => e = .returned (.int .i64 0) ∧ w = w' := by
  go_enter Tryz.func20, Tryz.ntmps20
  go_wp2_with fail
  go_ret
  exact ⟨rfl, rfl⟩

def numberOf (x i many : Int) : Int := if i < 0 ∨ many ≤ i then 0 else x + i + 1
set_option maxHeartbeats 1000000 in
theorem number_calls (l : List Int) (A : Option Addr) (k : Nat) (mv : Value) (c : Nat) (x : Int) (hx : l[c]? = some x) (h0 : 0 ≤ x ∧ x ≤ 1000000000) (i many : Int) (hm : 0 ≤ many ∧ many ≤ 1000000000) (w : World) (hA : (Kd.int .i64).C w A l.length l) (r : Int) (hr : numberOf x i many = r) :
    Calls Tryz.prog 59 #[mv, .slice A l.length k, .int .i64 c, .int .i64 i, .int .i64 many] w fun e w' => e = .returned (.int .i64 r) ∧ w = w' := by
  subst hr
  have hlt : c < l.length := (List.getElem?_eq_some_iff.1 hx).1
  have hmx := Kd.C_max hA
  obtain ⟨ad, rfl, e1⟩ := el_int hA c x hx
  clear hx
  by_cases h1 : i < 0
  · go_enter Tryz.func59, Tryz.ntmps59
    go_wp2_with fail
    go_ret
    exact ⟨ret_i64 (by rw [numberOf, if_pos (.inl h1)]), rfl⟩
  by_cases h2 : many ≤ i
  · go_enter Tryz.func59, Tryz.ntmps59
    go_wp2_with fail
    go_ret
    exact ⟨ret_i64 (by rw [numberOf, if_pos (.inr h2)]), rfl⟩
  · have hw1 : wrap64 (x + i) = x + i := by unfold wrap64; omega
    have hw2 : wrap64 (x + i + 1) = x + i + 1 := by unfold wrap64; omega
    have hn : numberOf x i many = x + i + 1 := by rw [numberOf, if_neg (by omega)]
    rw [hn]
    clear hA hn
    go_enter Tryz.func59, Tryz.ntmps59
    go_wp2_with fail
    go_ret
    exact ⟨rfl, rfl⟩

/-- What all maps that are made have. -/
structure MOk (m : Map) : Prop where
  h2 : m.f2.length = m.f0.f5.length
  h3 : m.f3.length = m.f0.f5.length
  b2 : ∀ v ∈ m.f2, 0 ≤ v ∧ v ≤ 1000000000
  b3 : ∀ v ∈ m.f3, 0 ≤ v ∧ v ≤ 1000000000
  t4 : ∀ x ∈ m.f0.f5, x.f4.length ≤ 1000000000
  t5 : ∀ x ∈ m.f0.f5, x.f5.length ≤ 1000000000
  n : m.f1.length ≤ 1000000000
  len : m.f0.f5.length ≤ 1000000000
def timeOf (m : Map) (c i : Int) : Int := if c < 0 then 0 else match m.f2[c.toNat]?, m.f0.f5[c.toNat]? with | some x, some k => numberOf x i k.f4.length | _, _ => 0
def placeOf (m : Map) (c i : Int) : Int := if c < 0 then 0 else match m.f3[c.toNat]?, m.f0.f5[c.toNat]? with | some x, some k => numberOf x i k.f5.length | _, _ => 0
set_option maxRecDepth 100000 in
set_option maxHeartbeats 2000000 in
theorem time_calls (m : Map) (hm : MOk m) (b : Nat) (w : World) (hM : MBox w b m) (c i : Int) (r : Int) (hr : timeOf m c i = r) :
    Calls Tryz.prog 25 #[.pointer (some ⟨b, 0, none⟩), .int .i64 c, .int .i64 i] w fun e w' => e = .returned (.int .i64 r) ∧ Below w.heap.size w w' := by
  subst hr
  obtain ⟨A7, c7, A15, c15, A16, c16, A17, c17, b7, b15, b16, b17, g7, g15, g16, g17⟩ := hM.open_
  have hlt := World.block_lt_of_cell? w _ b7
  have hl := hm.h2
  have hln := hm.len
  by_cases h1 : c < 0
  · clear hM g7 g15 g16 g17
    go_enter Tryz.func25, Tryz.ntmps25
    go_wp2_with fail
    go_ret
    exact ⟨ret_i64 (by rw [timeOf, if_pos h1]), Below.refl _ _⟩
  by_cases h2 : (m.f2.length : Int) ≤ c
  · have hz : timeOf m c i = 0 := by rw [timeOf, if_neg h1, List.getElem?_eq_none (by omega)]
    rw [hz]
    clear hz hl
    clear hM g7 g15 g16 g17
    go_enter Tryz.func25, Tryz.ntmps25
    go_wp2_with fail
    go_ret
    exact ⟨rfl, Below.refl _ _⟩
  obtain ⟨k, rfl⟩ : ∃ k : Nat, c = k := ⟨c.toNat, by omega⟩
  obtain ⟨x, hx⟩ : ∃ x, m.f2[k]? = some x := ⟨_, List.getElem?_eq_getElem (by omega)⟩
  obtain ⟨y, hy⟩ : ∃ y, m.f0.f5[k]? = some y := ⟨_, List.getElem?_eq_getElem (by omega)⟩
  have hsp : timeOf m k i = numberOf x i y.f4.length := by rw [timeOf, if_neg h1]; simp [hx, hy]
  rw [hsp]
  have hk5 : k < m.f0.f5.length := by omega
  have hk6 : k < m.f2.length := by omega
  clear hl
  have hx0 := hm.b2 x (List.mem_of_getElem? hx)
  have hy0 := hm.t4 y (List.mem_of_getElem? hy)
  have HG := Aside0.mk g16
  obtain ⟨ad, A3, c3, A4, c4, A5, c5, rfl, e0, e1, e2, e3, e4, e5, e6, l3, g3, l4, g4, l5, g5⟩ := el_Class g7 k y hy
  replace hx := Aside0.mk hx
  clear hM g7 g15 g16 g17 g3 g4 g5 hsp hy e0 e1 e2 e3 e6
  replace hm := Aside0.mk hm
  go_enter Tryz.func25, Tryz.ntmps25
  go_wp2
  refine start_ (n := 19) (S := (fun w' => w'.cell? ⟨b, 7, none⟩ = some (.slice (some ad) m.f0.f5.length c7) ∧ w'.cell? ⟨b, 16, none⟩ = some (.slice A16 m.f2.length c16) ∧ w'.cell? ⟨(ad.add (k * 7)).block, (ad.add (k * 7)).off + 4, none⟩ = some (.slice A4 y.f4.length c4))) (ds := []) #[false, false, false, false, false, false, false, false, false, false, false, false, false, false, false, false, false, false, false] (by kernel_rfl) rfl rfl (⟨b7, b16, e4⟩) (fun hHeld => ?_)
  refine pure_ (i := 0) (N := some 22) (v := ?_) (a' := ?_) #[true, false, false, false, false, false, false, false, false, false, false, false, false, false, false, false, false, false, false] rfl rfl (by kernel_rfl) (fun _ _ _ h => h) (Or.inl ⟨by rfl, ?_⟩) ?_ ?_
  rotate_left
  · intro w'
    go_simp
    with_reducible rfl
  rotate_left
  · simp only [Act.put, List.setIfInBounds_toArray, List.set_cons_zero, List.set_cons_succ, i64_w, i32_w]
    rfl
  refine pure_ (i := 1) (N := some 23) (v := ?_) (a' := ?_) #[true, true, false, false, false, false, false, false, false, false, false, false, false, false, false, false, false, false, false] rfl rfl (by kernel_rfl) (fun _ _ _ h => h) (Or.inl ⟨by rfl, ?_⟩) ?_ ?_
  rotate_left
  · intro w'
    go_simp
    with_reducible rfl
  rotate_left
  · simp only [Act.put, List.setIfInBounds_toArray, List.set_cons_zero, List.set_cons_succ, i64_w, i32_w]
    rfl
  refine pure_ (i := 2) (N := some 24) (v := ?_) (a' := ?_) #[true, true, true, false, false, false, false, false, false, false, false, false, false, false, false, false, false, false, false] rfl rfl (by kernel_rfl) (fun _ _ _ h => h) (Or.inl ⟨by rfl, ?_⟩) ?_ ?_
  rotate_left
  · intro w'
    go_simp
    with_reducible rfl
  rotate_left
  · simp only [Act.put, List.setIfInBounds_toArray, List.set_cons_zero, List.set_cons_succ, i64_w, i32_w]
    rfl
  refine pure_ (i := 3) (N := some 25) (v := ?_) (a' := ?_) #[true, true, true, true, false, false, false, false, false, false, false, false, false, false, false, false, false, false, false] rfl rfl (by kernel_rfl) (fun _ _ _ h => h) (Or.inl ⟨by rfl, ?_⟩) ?_ ?_
  rotate_left
  · intro w'
    go_simp
    with_reducible rfl
  rotate_left
  · simp only [Act.put, List.setIfInBounds_toArray, List.set_cons_zero, List.set_cons_succ, i64_w, i32_w]
    rfl
  refine take_ (i := 4) (N := some 26) (v := ?_) (a' := ?_) #[true, true, true, true, true, false, false, false, false, false, false, false, false, false, false, false, false, false, false] rfl rfl (by kernel_rfl) (fun _ _ _ h => h) (Or.inl ⟨by rfl, ?_⟩) hHeld ?_ ?_
  rotate_left
  · rintro w' ⟨s1, s2, s3⟩
    go_simp
    with_reducible rfl
  rotate_left
  · simp only [Act.put, List.setIfInBounds_toArray, List.set_cons_zero, List.set_cons_succ, i64_w, i32_w]
    rfl
  refine pure_ (i := 5) (N := some 27) (v := ?_) (a' := ?_) #[true, true, true, true, true, true, false, false, false, false, false, false, false, false, false, false, false, false, false] rfl rfl (by kernel_rfl) (fun _ _ _ h => h) (Or.inl ⟨by rfl, ?_⟩) ?_ ?_
  rotate_left
  · intro w'
    go_simp
    with_reducible rfl
  rotate_left
  · simp only [Act.put, List.setIfInBounds_toArray, List.set_cons_zero, List.set_cons_succ, i64_w, i32_w]
    rfl
  refine pure_ (i := 6) (N := some 28) (v := ?_) (a' := ?_) #[true, true, true, true, true, true, true, false, false, false, false, false, false, false, false, false, false, false, false] rfl rfl (by kernel_rfl) (fun _ _ _ h => h) (Or.inl ⟨by rfl, ?_⟩) ?_ ?_
  rotate_left
  · intro w'
    go_simp
    with_reducible rfl
  rotate_left
  · simp only [Act.put, List.setIfInBounds_toArray, List.set_cons_zero, List.set_cons_succ, i64_w, i32_w]
    rfl
  refine pure_ (i := 7) (N := some 29) (v := ?_) (a' := ?_) #[true, true, true, true, true, true, true, true, false, false, false, false, false, false, false, false, false, false, false] rfl rfl (by kernel_rfl) (fun _ _ _ h => h) (Or.inl ⟨by rfl, ?_⟩) ?_ ?_
  rotate_left
  · intro w'
    go_simp
    with_reducible rfl
  rotate_left
  · simp only [Act.put, List.setIfInBounds_toArray, List.set_cons_zero, List.set_cons_succ, i64_w, i32_w]
    rfl
  refine pure_ (i := 8) (N := some 30) (v := ?_) (a' := ?_) #[true, true, true, true, true, true, true, true, true, false, false, false, false, false, false, false, false, false, false] rfl rfl (by kernel_rfl) (fun _ _ _ h => h) (Or.inl ⟨by rfl, ?_⟩) ?_ ?_
  rotate_left
  · intro w'
    go_simp
    with_reducible rfl
  rotate_left
  · simp only [Act.put, List.setIfInBounds_toArray, List.set_cons_zero, List.set_cons_succ, i64_w, i32_w]
    rfl
  refine pure_ (i := 9) (N := some 31) (v := ?_) (a' := ?_) #[true, true, true, true, true, true, true, true, true, true, false, false, false, false, false, false, false, false, false] rfl rfl (by kernel_rfl) (fun _ _ _ h => h) (Or.inl ⟨by rfl, ?_⟩) ?_ ?_
  rotate_left
  · intro w'
    go_simp
    with_reducible rfl
  rotate_left
  · simp only [Act.put, List.setIfInBounds_toArray, List.set_cons_zero, List.set_cons_succ, i64_w, i32_w]
    rfl
  refine pure_ (i := 10) (N := some 32) (v := ?_) (a' := ?_) #[true, true, true, true, true, true, true, true, true, true, true, false, false, false, false, false, false, false, false] rfl rfl (by kernel_rfl) (fun _ _ _ h => h) (Or.inl ⟨by rfl, ?_⟩) ?_ ?_
  rotate_left
  · intro w'
    go_simp
    with_reducible rfl
  rotate_left
  · simp only [Act.put, List.setIfInBounds_toArray, List.set_cons_zero, List.set_cons_succ, i64_w, i32_w]
    rfl
  refine take_ (i := 11) (N := some 33) (v := ?_) (a' := ?_) #[true, true, true, true, true, true, true, true, true, true, true, true, false, false, false, false, false, false, false] rfl rfl (by kernel_rfl) (fun _ _ _ h => h) (Or.inl ⟨by rfl, ?_⟩) hHeld ?_ ?_
  rotate_left
  · rintro w' ⟨s1, s2, s3⟩
    go_simp
    with_reducible rfl
  rotate_left
  · simp only [Act.put, List.setIfInBounds_toArray, List.set_cons_zero, List.set_cons_succ, i64_w, i32_w]
    rfl
  refine pure_ (i := 12) (N := some 34) (v := ?_) (a' := ?_) #[true, true, true, true, true, true, true, true, true, true, true, true, true, false, false, false, false, false, false] rfl rfl (by kernel_rfl) (fun _ _ _ h => h) (Or.inl ⟨by rfl, ?_⟩) ?_ ?_
  rotate_left
  · intro w'
    go_simp
    with_reducible rfl
  rotate_left
  · simp only [Act.put, List.setIfInBounds_toArray, List.set_cons_zero, List.set_cons_succ, i64_w, i32_w]
    rfl
  refine pure_ (i := 13) (N := some 35) (v := ?_) (a' := ?_) #[true, true, true, true, true, true, true, true, true, true, true, true, true, true, false, false, false, false, false] rfl rfl (by kernel_rfl) (fun _ _ _ h => h) (Or.inl ⟨by rfl, ?_⟩) ?_ ?_
  rotate_left
  · intro w'
    go_simp
    with_reducible rfl
  rotate_left
  · simp only [Act.put, List.setIfInBounds_toArray, List.set_cons_zero, List.set_cons_succ, i64_w, i32_w]
    rfl
  refine pure_ (i := 14) (N := some 36) (v := ?_) (a' := ?_) #[true, true, true, true, true, true, true, true, true, true, true, true, true, true, true, false, false, false, false] rfl rfl (by kernel_rfl) (fun _ _ _ h => h) (Or.inl ⟨by rfl, ?_⟩) ?_ ?_
  rotate_left
  · intro w'
    go_simp
    with_reducible rfl
  rotate_left
  · simp only [Act.put, List.setIfInBounds_toArray, List.set_cons_zero, List.set_cons_succ, i64_w, i32_w]
    rfl
  refine take_ (i := 15) (N := some 37) (v := ?_) (a' := ?_) #[true, true, true, true, true, true, true, true, true, true, true, true, true, true, true, true, false, false, false] rfl rfl (by kernel_rfl) (fun _ _ _ h => h) (Or.inl ⟨by rfl, ?_⟩) hHeld ?_ ?_
  rotate_left
  · rintro w' ⟨s1, s2, s3⟩
    go_simp
    with_reducible rfl
  rotate_left
  · simp only [Act.put, List.setIfInBounds_toArray, List.set_cons_zero, List.set_cons_succ, i64_w, i32_w]
    rfl
  refine pure_ (i := 16) (N := some 38) (v := ?_) (a' := ?_) #[true, true, true, true, true, true, true, true, true, true, true, true, true, true, true, true, true, false, false] rfl rfl (by kernel_rfl) (fun _ _ _ h => h) (Or.inl ⟨by rfl, ?_⟩) ?_ ?_
  rotate_left
  · intro w'
    go_simp
    with_reducible rfl
  rotate_left
  · simp only [Act.put, List.setIfInBounds_toArray, List.set_cons_zero, List.set_cons_succ, i64_w, i32_w]
    rfl
  refine one_ (i := 17) (N := some 39) #[true, true, true, true, true, true, true, true, true, true, true, true, true, true, true, true, true, true, false] rfl rfl (by kernel_rfl) (by decide) (fun K hK => ?_)
  refine goes_ Tryz.func59 (by kernel_rfl) rfl #[.pointer (some ⟨b, 0, none⟩), .slice A16 m.f2.length c16, .int .i64 k, .int .i64 i, .int .i64 y.f4.length] (by rfl) rfl rfl (by (try simp only [List.map_toArray, List.map_cons, List.map_nil]); first | done | rfl) ?_
  refine (number_calls m.f2 _ _ _ k x hx.out hx0 i y.f4.length ⟨by omega, by omega⟩ _ (Kd.C_below HG.out (below_drew (Below.refl _ _))) _ rfl).mono ?_
  rintro e w1 ⟨rfl, rfl⟩
  refine ⟨_, rfl, ?_⟩
  refine hK.out _ _ ⟨b7, b16, e4⟩ (fun hHeld => ?_)
  clear hK K
  refine norm_ (a' := ?_) ?_ ?_
  rotate_left
  · show Act.put _ (some 39) _ = _
    simp only [Act.put, List.setIfInBounds_toArray, List.set_cons_zero, List.set_cons_succ, i64_w, i32_w]
    rfl
  refine pure_ (i := 18) (N := some 6) (v := ?_) (a' := ?_) #[true, true, true, true, true, true, true, true, true, true, true, true, true, true, true, true, true, true, true] rfl rfl (by kernel_rfl) (fun _ _ _ h => h) (Or.inl ⟨by rfl, ?_⟩) ?_ ?_
  rotate_left
  · intro w'
    go_simp
    with_reducible rfl
  rotate_left
  · simp only [Act.put, List.setIfInBounds_toArray, List.set_cons_zero, List.set_cons_succ, i64_w, i32_w]
    rfl
  refine done_ (by kernel_rfl) ?_
  go_wp2
  go_ret
  exact ⟨rfl, below_drew (Below.refl _ _)⟩
set_option maxRecDepth 100000 in
set_option maxHeartbeats 2000000 in
theorem place_calls (m : Map) (hm : MOk m) (b : Nat) (w : World) (hM : MBox w b m) (c i : Int) (r : Int) (hr : placeOf m c i = r) :
    Calls Tryz.prog 27 #[.pointer (some ⟨b, 0, none⟩), .int .i64 c, .int .i64 i] w fun e w' => e = .returned (.int .i64 r) ∧ Below w.heap.size w w' := by
  subst hr
  obtain ⟨A7, c7, A15, c15, A16, c16, A17, c17, b7, b15, b16, b17, g7, g15, g16, g17⟩ := hM.open_
  have hlt := World.block_lt_of_cell? w _ b7
  have hl := hm.h3
  have hln := hm.len
  by_cases h1 : c < 0
  · clear hM g7 g15 g16 g17
    go_enter Tryz.func27, Tryz.ntmps27
    go_wp2_with fail
    go_ret
    exact ⟨ret_i64 (by rw [placeOf, if_pos h1]), Below.refl _ _⟩
  by_cases h2 : (m.f3.length : Int) ≤ c
  · have hz : placeOf m c i = 0 := by rw [placeOf, if_neg h1, List.getElem?_eq_none (by omega)]
    rw [hz]
    clear hz hl
    clear hM g7 g15 g16 g17
    go_enter Tryz.func27, Tryz.ntmps27
    go_wp2_with fail
    go_ret
    exact ⟨rfl, Below.refl _ _⟩
  obtain ⟨k, rfl⟩ : ∃ k : Nat, c = k := ⟨c.toNat, by omega⟩
  obtain ⟨x, hx⟩ : ∃ x, m.f3[k]? = some x := ⟨_, List.getElem?_eq_getElem (by omega)⟩
  obtain ⟨y, hy⟩ : ∃ y, m.f0.f5[k]? = some y := ⟨_, List.getElem?_eq_getElem (by omega)⟩
  have hsp : placeOf m k i = numberOf x i y.f5.length := by rw [placeOf, if_neg h1]; simp [hx, hy]
  rw [hsp]
  have hk5 : k < m.f0.f5.length := by omega
  have hk6 : k < m.f3.length := by omega
  clear hl
  have hx0 := hm.b3 x (List.mem_of_getElem? hx)
  have hy0 := hm.t5 y (List.mem_of_getElem? hy)
  have HG := Aside0.mk g17
  obtain ⟨ad, A3, c3, A4, c4, A5, c5, rfl, e0, e1, e2, e3, e4, e5, e6, l3, g3, l4, g4, l5, g5⟩ := el_Class g7 k y hy
  replace hx := Aside0.mk hx
  clear hM g7 g15 g16 g17 g3 g4 g5 hsp hy e0 e1 e2 e3 e6
  replace hm := Aside0.mk hm
  go_enter Tryz.func27, Tryz.ntmps27
  go_wp2
  refine start_ (n := 19) (S := (fun w' => w'.cell? ⟨b, 7, none⟩ = some (.slice (some ad) m.f0.f5.length c7) ∧ w'.cell? ⟨b, 17, none⟩ = some (.slice A17 m.f3.length c17) ∧ w'.cell? ⟨(ad.add (k * 7)).block, (ad.add (k * 7)).off + 5, none⟩ = some (.slice A5 y.f5.length c5))) (ds := []) #[false, false, false, false, false, false, false, false, false, false, false, false, false, false, false, false, false, false, false] (by kernel_rfl) rfl rfl (⟨b7, b17, e5⟩) (fun hHeld => ?_)
  refine pure_ (i := 0) (N := some 22) (v := ?_) (a' := ?_) #[true, false, false, false, false, false, false, false, false, false, false, false, false, false, false, false, false, false, false] rfl rfl (by kernel_rfl) (fun _ _ _ h => h) (Or.inl ⟨by rfl, ?_⟩) ?_ ?_
  rotate_left
  · intro w'
    go_simp
    with_reducible rfl
  rotate_left
  · simp only [Act.put, List.setIfInBounds_toArray, List.set_cons_zero, List.set_cons_succ, i64_w, i32_w]
    rfl
  refine pure_ (i := 1) (N := some 23) (v := ?_) (a' := ?_) #[true, true, false, false, false, false, false, false, false, false, false, false, false, false, false, false, false, false, false] rfl rfl (by kernel_rfl) (fun _ _ _ h => h) (Or.inl ⟨by rfl, ?_⟩) ?_ ?_
  rotate_left
  · intro w'
    go_simp
    with_reducible rfl
  rotate_left
  · simp only [Act.put, List.setIfInBounds_toArray, List.set_cons_zero, List.set_cons_succ, i64_w, i32_w]
    rfl
  refine pure_ (i := 2) (N := some 24) (v := ?_) (a' := ?_) #[true, true, true, false, false, false, false, false, false, false, false, false, false, false, false, false, false, false, false] rfl rfl (by kernel_rfl) (fun _ _ _ h => h) (Or.inl ⟨by rfl, ?_⟩) ?_ ?_
  rotate_left
  · intro w'
    go_simp
    with_reducible rfl
  rotate_left
  · simp only [Act.put, List.setIfInBounds_toArray, List.set_cons_zero, List.set_cons_succ, i64_w, i32_w]
    rfl
  refine pure_ (i := 3) (N := some 25) (v := ?_) (a' := ?_) #[true, true, true, true, false, false, false, false, false, false, false, false, false, false, false, false, false, false, false] rfl rfl (by kernel_rfl) (fun _ _ _ h => h) (Or.inl ⟨by rfl, ?_⟩) ?_ ?_
  rotate_left
  · intro w'
    go_simp
    with_reducible rfl
  rotate_left
  · simp only [Act.put, List.setIfInBounds_toArray, List.set_cons_zero, List.set_cons_succ, i64_w, i32_w]
    rfl
  refine take_ (i := 4) (N := some 26) (v := ?_) (a' := ?_) #[true, true, true, true, true, false, false, false, false, false, false, false, false, false, false, false, false, false, false] rfl rfl (by kernel_rfl) (fun _ _ _ h => h) (Or.inl ⟨by rfl, ?_⟩) hHeld ?_ ?_
  rotate_left
  · rintro w' ⟨s1, s2, s3⟩
    go_simp
    with_reducible rfl
  rotate_left
  · simp only [Act.put, List.setIfInBounds_toArray, List.set_cons_zero, List.set_cons_succ, i64_w, i32_w]
    rfl
  refine pure_ (i := 5) (N := some 27) (v := ?_) (a' := ?_) #[true, true, true, true, true, true, false, false, false, false, false, false, false, false, false, false, false, false, false] rfl rfl (by kernel_rfl) (fun _ _ _ h => h) (Or.inl ⟨by rfl, ?_⟩) ?_ ?_
  rotate_left
  · intro w'
    go_simp
    with_reducible rfl
  rotate_left
  · simp only [Act.put, List.setIfInBounds_toArray, List.set_cons_zero, List.set_cons_succ, i64_w, i32_w]
    rfl
  refine pure_ (i := 6) (N := some 28) (v := ?_) (a' := ?_) #[true, true, true, true, true, true, true, false, false, false, false, false, false, false, false, false, false, false, false] rfl rfl (by kernel_rfl) (fun _ _ _ h => h) (Or.inl ⟨by rfl, ?_⟩) ?_ ?_
  rotate_left
  · intro w'
    go_simp
    with_reducible rfl
  rotate_left
  · simp only [Act.put, List.setIfInBounds_toArray, List.set_cons_zero, List.set_cons_succ, i64_w, i32_w]
    rfl
  refine pure_ (i := 7) (N := some 29) (v := ?_) (a' := ?_) #[true, true, true, true, true, true, true, true, false, false, false, false, false, false, false, false, false, false, false] rfl rfl (by kernel_rfl) (fun _ _ _ h => h) (Or.inl ⟨by rfl, ?_⟩) ?_ ?_
  rotate_left
  · intro w'
    go_simp
    with_reducible rfl
  rotate_left
  · simp only [Act.put, List.setIfInBounds_toArray, List.set_cons_zero, List.set_cons_succ, i64_w, i32_w]
    rfl
  refine pure_ (i := 8) (N := some 30) (v := ?_) (a' := ?_) #[true, true, true, true, true, true, true, true, true, false, false, false, false, false, false, false, false, false, false] rfl rfl (by kernel_rfl) (fun _ _ _ h => h) (Or.inl ⟨by rfl, ?_⟩) ?_ ?_
  rotate_left
  · intro w'
    go_simp
    with_reducible rfl
  rotate_left
  · simp only [Act.put, List.setIfInBounds_toArray, List.set_cons_zero, List.set_cons_succ, i64_w, i32_w]
    rfl
  refine pure_ (i := 9) (N := some 31) (v := ?_) (a' := ?_) #[true, true, true, true, true, true, true, true, true, true, false, false, false, false, false, false, false, false, false] rfl rfl (by kernel_rfl) (fun _ _ _ h => h) (Or.inl ⟨by rfl, ?_⟩) ?_ ?_
  rotate_left
  · intro w'
    go_simp
    with_reducible rfl
  rotate_left
  · simp only [Act.put, List.setIfInBounds_toArray, List.set_cons_zero, List.set_cons_succ, i64_w, i32_w]
    rfl
  refine pure_ (i := 10) (N := some 32) (v := ?_) (a' := ?_) #[true, true, true, true, true, true, true, true, true, true, true, false, false, false, false, false, false, false, false] rfl rfl (by kernel_rfl) (fun _ _ _ h => h) (Or.inl ⟨by rfl, ?_⟩) ?_ ?_
  rotate_left
  · intro w'
    go_simp
    with_reducible rfl
  rotate_left
  · simp only [Act.put, List.setIfInBounds_toArray, List.set_cons_zero, List.set_cons_succ, i64_w, i32_w]
    rfl
  refine take_ (i := 11) (N := some 33) (v := ?_) (a' := ?_) #[true, true, true, true, true, true, true, true, true, true, true, true, false, false, false, false, false, false, false] rfl rfl (by kernel_rfl) (fun _ _ _ h => h) (Or.inl ⟨by rfl, ?_⟩) hHeld ?_ ?_
  rotate_left
  · rintro w' ⟨s1, s2, s3⟩
    go_simp
    with_reducible rfl
  rotate_left
  · simp only [Act.put, List.setIfInBounds_toArray, List.set_cons_zero, List.set_cons_succ, i64_w, i32_w]
    rfl
  refine pure_ (i := 12) (N := some 34) (v := ?_) (a' := ?_) #[true, true, true, true, true, true, true, true, true, true, true, true, true, false, false, false, false, false, false] rfl rfl (by kernel_rfl) (fun _ _ _ h => h) (Or.inl ⟨by rfl, ?_⟩) ?_ ?_
  rotate_left
  · intro w'
    go_simp
    with_reducible rfl
  rotate_left
  · simp only [Act.put, List.setIfInBounds_toArray, List.set_cons_zero, List.set_cons_succ, i64_w, i32_w]
    rfl
  refine pure_ (i := 13) (N := some 35) (v := ?_) (a' := ?_) #[true, true, true, true, true, true, true, true, true, true, true, true, true, true, false, false, false, false, false] rfl rfl (by kernel_rfl) (fun _ _ _ h => h) (Or.inl ⟨by rfl, ?_⟩) ?_ ?_
  rotate_left
  · intro w'
    go_simp
    with_reducible rfl
  rotate_left
  · simp only [Act.put, List.setIfInBounds_toArray, List.set_cons_zero, List.set_cons_succ, i64_w, i32_w]
    rfl
  refine pure_ (i := 14) (N := some 36) (v := ?_) (a' := ?_) #[true, true, true, true, true, true, true, true, true, true, true, true, true, true, true, false, false, false, false] rfl rfl (by kernel_rfl) (fun _ _ _ h => h) (Or.inl ⟨by rfl, ?_⟩) ?_ ?_
  rotate_left
  · intro w'
    go_simp
    with_reducible rfl
  rotate_left
  · simp only [Act.put, List.setIfInBounds_toArray, List.set_cons_zero, List.set_cons_succ, i64_w, i32_w]
    rfl
  refine take_ (i := 15) (N := some 37) (v := ?_) (a' := ?_) #[true, true, true, true, true, true, true, true, true, true, true, true, true, true, true, true, false, false, false] rfl rfl (by kernel_rfl) (fun _ _ _ h => h) (Or.inl ⟨by rfl, ?_⟩) hHeld ?_ ?_
  rotate_left
  · rintro w' ⟨s1, s2, s3⟩
    go_simp
    with_reducible rfl
  rotate_left
  · simp only [Act.put, List.setIfInBounds_toArray, List.set_cons_zero, List.set_cons_succ, i64_w, i32_w]
    rfl
  refine pure_ (i := 16) (N := some 38) (v := ?_) (a' := ?_) #[true, true, true, true, true, true, true, true, true, true, true, true, true, true, true, true, true, false, false] rfl rfl (by kernel_rfl) (fun _ _ _ h => h) (Or.inl ⟨by rfl, ?_⟩) ?_ ?_
  rotate_left
  · intro w'
    go_simp
    with_reducible rfl
  rotate_left
  · simp only [Act.put, List.setIfInBounds_toArray, List.set_cons_zero, List.set_cons_succ, i64_w, i32_w]
    rfl
  refine one_ (i := 17) (N := some 39) #[true, true, true, true, true, true, true, true, true, true, true, true, true, true, true, true, true, true, false] rfl rfl (by kernel_rfl) (by decide) (fun K hK => ?_)
  refine goes_ Tryz.func59 (by kernel_rfl) rfl #[.pointer (some ⟨b, 0, none⟩), .slice A17 m.f3.length c17, .int .i64 k, .int .i64 i, .int .i64 y.f5.length] (by rfl) rfl rfl (by (try simp only [List.map_toArray, List.map_cons, List.map_nil]); first | done | rfl) ?_
  refine (number_calls m.f3 _ _ _ k x hx.out hx0 i y.f5.length ⟨by omega, by omega⟩ _ (Kd.C_below HG.out (below_drew (Below.refl _ _))) _ rfl).mono ?_
  rintro e w1 ⟨rfl, rfl⟩
  refine ⟨_, rfl, ?_⟩
  refine hK.out _ _ ⟨b7, b17, e5⟩ (fun hHeld => ?_)
  clear hK K
  refine norm_ (a' := ?_) ?_ ?_
  rotate_left
  · show Act.put _ (some 39) _ = _
    simp only [Act.put, List.setIfInBounds_toArray, List.set_cons_zero, List.set_cons_succ, i64_w, i32_w]
    rfl
  refine pure_ (i := 18) (N := some 6) (v := ?_) (a' := ?_) #[true, true, true, true, true, true, true, true, true, true, true, true, true, true, true, true, true, true, true] rfl rfl (by kernel_rfl) (fun _ _ _ h => h) (Or.inl ⟨by rfl, ?_⟩) ?_ ?_
  rotate_left
  · intro w'
    go_simp
    with_reducible rfl
  rotate_left
  · simp only [Act.put, List.setIfInBounds_toArray, List.set_cons_zero, List.set_cons_succ, i64_w, i32_w]
    rfl
  refine done_ (by kernel_rfl) ?_
  go_wp2
  go_ret
  exact ⟨rfl, below_drew (Below.refl _ _)⟩
end Go.Proofs.YthalgemkblkhgaaGreat
namespace Go.Proofs.YthalgemkblkhgaaGreat
open Go.RowKit Go.Proofs.YthalgemkblkhgaaGreatW.PrintWords Go.Proofs.YthalgemkblkhgaaGreatW.PrintLast
set_option linter.unusedVariables false
set_option linter.unusedSimpArgs false

theorem res_cell_tmp {P : Program} {fn : Func} {p u : Tmp} {ty : TypeId} (h : fn.results = #[.cell p ty, .tmp u]) (tmps : Array Value) (W : World) (g : Nat) (T : TypeId) (cs : Array Value) (d : TypeDesc) (v : Value)
    (hp : tmps.getD p undef = .pointer (some ⟨g, 0, none⟩)) (hg : W.heap[g]? = some (.cells cs T (0, 0))) (hu : P.underlying ty = some d) (hd : (match d with | .struct _ | .array _ _ => true | _ => false) = true) (hi : (P.info? ty).map (·.size) = some cs.size) (hv : tmps.getD u undef = v) :
    (results fn tmps).run P W = .ok (.tuple #[.agg cs, v]) W := by
  rw [results_cell_tmp h, hp, hv]
  simp [asAddr, run_loadVar_row W g T ty cs (0, 0) d hg hu hd hi]
def noChoice : Choice := ⟨0, false, 0⟩
def whatOf (m : Map) (l : Int) : Choice × Bool := if l = 0 ∨ m.f1.length < l.natAbs then (noChoice, false) else match m.f1[l.natAbs - 1]? with | some c => (c, true) | none => (noChoice, false)
def retChoice (r : Choice × Bool) : Ending := .returned (.tuple #[.agg #[.int .i64 r.1.f0, .bool r.1.f1, .int .i64 r.1.f2], .bool r.2])
set_option maxRecDepth 100000 in
set_option maxHeartbeats 2000000 in
theorem what_calls (m : Map) (hm : MOk m) (b : Nat) (w : World) (hM : MBox w b m) (l : Int) (hl : wfInt .i64 l) (r : Choice × Bool) (hr : whatOf m l = r) :
    Calls Tryz.prog 18 #[.pointer (some ⟨b, 0, none⟩), .int .i64 l] w fun e w' => e = retChoice r ∧ Below w.heap.size w w' := by
  subst hr
  obtain ⟨A7, c7, A15, c15, A16, c16, A17, c17, b7, b15, b16, b17, g7, g15, g16, g17⟩ := hM.open_
  have hlt := World.block_lt_of_cell? w _ b7
  have hn := hm.n
  have HM := Aside0.mk hM
  have HL := Aside0.mk hl
  have hli := wf_i64 hl
  have hu42 := Tryz.underlying42
  clear hM hl
  by_cases h0 : l = 0
  · subst h0
    clear g7 g15 g16 g17
    go_enter Tryz.func18, Tryz.ntmps18
    go_wp2_with fail
    (refine (size_calls 0 HL.out 0 rfl _).mono ?_; rintro e w' ⟨rfl, rfl⟩; go_wp2_with fail)
    try simp only [Exit.inBlock, Exit.then]
    refine bodyPost_ret_by (res_cell_tmp rfl _ _ w.heap.size 42 _ _ _ rfl (blk_new w _) hu42 rfl rfl rfl) rfl ?_
    exact ⟨by rw [whatOf, if_pos (.inl rfl)]; rfl, below_alloc (Below.refl _ _) _⟩
  by_cases h1 : m.f1.length < l.natAbs
  · clear g7 g15 g16 g17
    have hz : whatOf m l = (noChoice, false) := by rw [whatOf, if_pos (.inr h1)]
    rw [hz]
    obtain ⟨k, hk⟩ : ∃ k : Nat, l.natAbs = k := ⟨_, rfl⟩
    have hk0 : 0 < k := by omega
    have hk1 : m.f1.length < k := by omega
    have HK := Aside0.mk hk
    have hkm : k ≤ 9223372036854775808 := by omega
    clear hz h1 hk h0
    go_enter Tryz.func18, Tryz.ntmps18
    go_wp2_with fail
    (refine (size_calls l HL.out k (by rw [HK.out]) _).mono ?_; rintro e w' ⟨rfl, rfl⟩; go_wp2_with fail)
    refine (litlen_calls m b _ (HM.out.below (below_alloc (Below.refl _ _) _)) _ rfl).mono ?_
    rintro e w' ⟨rfl, rfl⟩
    go_wp2_with fail
    try simp only [Exit.inBlock, Exit.then]
    refine bodyPost_ret_by (res_cell_tmp rfl _ _ w.heap.size 42 _ _ _ rfl (blk_new w _) hu42 rfl rfl rfl) rfl ?_
    exact ⟨rfl, below_alloc (Below.refl _ _) _⟩
  · obtain ⟨k, hk⟩ : ∃ k : Nat, l.natAbs = k + 1 := ⟨l.natAbs - 1, by omega⟩
    obtain ⟨x, hx⟩ : ∃ x, m.f1[k]? = some x := ⟨_, List.getElem?_eq_getElem (by omega)⟩
    have hz : whatOf m l = (x, true) := by rw [whatOf, if_neg (by omega), hk, Nat.add_sub_cancel, hx]
    rw [hz]
    have hk1 : k < m.f1.length := by omega
    have HK := Aside0.mk hk
    obtain ⟨ad, rfl, e0, e1, e2⟩ := el_Choice g15 k x hx
    have e0' : ∀ o, (w.alloc o).cell? (ad.add (k * 3)) = some (.int .i64 x.f0) := fun o => cell_on (below_alloc (Below.refl _ _) o) e0
    have e1' : ∀ o, (w.alloc o).cell? ⟨(ad.add (k * 3)).block, (ad.add (k * 3)).off + 1, none⟩ = some (.bool x.f1) := fun o => cell_on (below_alloc (Below.refl _ _) o) e1
    have e2' : ∀ o, (w.alloc o).cell? ⟨(ad.add (k * 3)).block, (ad.add (k * 3)).off + 2, none⟩ = some (.int .i64 x.f2) := fun o => cell_on (below_alloc (Below.refl _ _) o) e2
    clear e0 e1 e2
    have hd0 : ((k : Int) + 1 == 0) = false := beq_eq_false_iff_ne.2 (by omega)
    have hd1 : decide ((m.f1.length : Int) < (k : Int) + 1) = false := decide_eq_false (by omega)
    have hkm : k ≤ 1000000000 := by omega
    clear hz h1 hk h0 g7 g15 g16 g17 hx
    go_enter Tryz.func18, Tryz.ntmps18
    go_wp2_with fail
    (refine (size_calls l HL.out (k + 1 : Nat) (by rw [HK.out]) _).mono ?_; rintro e w' ⟨rfl, rfl⟩; go_wp2_with fail)
    refine (litlen_calls m b _ (HM.out.below (below_alloc (Below.refl _ _) _)) _ rfl).mono ?_
    rintro e w' ⟨rfl, rfl⟩
    go_wp2_with fail
    try simp only [Exit.inBlock, Exit.then]
    refine bodyPost_ret_by (res_cell_tmp rfl _ _ w.heap.size 42 _ _ _ rfl (blk_new w _) hu42 rfl rfl rfl) rfl ?_
    exact ⟨rfl, below_alloc (Below.refl _ _) _⟩
end Go.Proofs.YthalgemkblkhgaaGreat
