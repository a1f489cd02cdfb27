/- lit.New: a number for each choice. -/
import Derived.Test.YthalgemkblkhgaaGreatQCopy
import Derived.Test.YthalgemkblkhgaaGreatQMG
import Derived.Test.YthalgemkblkhgaaGreatQML
namespace Go.Proofs.YthalgemkblkhgaaGreat
open Go.RowKit Go.Proofs.YthalgemkblkhgaaGreatW.PrintWords Go.Proofs.YthalgemkblkhgaaGreatW.PrintLast
set_option linter.unusedVariables false
set_option linter.unusedSimpArgs false

theorem infoChoice : (Tryz.prog.info? 42).map (fun i => (i.zero, i.size, i.bytes)) = some (some (.agg #[.int .i64 0, .bool false, .int .i64 0]), 3, 24) := by kernel_rfl
theorem infoI64 : (Tryz.prog.info? 3).map (fun i => (i.zero, i.size, i.bytes)) = some (some (.int .i64 0), 1, 8) := by kernel_rfl
abbrev kI : Kd Int := Kd.int .i64
/-- The Map that is being made: its box and its three rows. -/
structure NI (bm base : Nat) (X : List Value) (w : World) (vch vti vpl : Value) (ch : List Choice) (ti pl : List Int) : Prop where
  box : w.heap[bm]? = some (.cells (X ++ [vch, vti, vpl]).toArray 79 (0, 0))
  rc : kChoice.R 42 w base (fun _ => True) vch ch
  rt : kI.R 3 w base (fun k => some k ≠ vpl.ownBlock) vti ti
  rp : kI.R 3 w base (fun k => some k ≠ vti.ownBlock) vpl pl
  lt : bm < base
  size : base ≤ w.heap.size
section
variable {bm base : Nat} {X : List Value} {w W' w1 : World} {vch vti vpl v1 : Value} {ch ch' : List Choice} {ti pl ti' pl' : List Int}
theorem r_box {α : Type} {d : Kd α} {e : Nat} {ok : Nat → Prop} {v : Value} {xs : List α} (h : d.R e w base ok v xs) (hb : bm < base) (j : Nat) (u : Value) : d.R e (w.setCell ⟨bm, j, none⟩ u) base ok v xs :=
  Kd.R_mono (Kd.R_far (p := ⟨bm, j, none⟩) (Kd.R_bound h) (fun k hk => by have := hk.2.1; show k ≠ bm; omega) u) (fun _ hk => hk.1)
theorem keep_typed {row : Option Nat} {b t e : Nat} {Y : Array Value} (hg : W'.grownBy w1 row) (hty : ∀ k, row = some k → ∃ cells, W'.heap[k]? = some (.cells cells e (0, 0))) (hb : W'.heap[b]? = some (.cells Y t (0, 0))) (hne : t ≠ e) : w1.heap[b]? = some (.cells Y t (0, 0)) := by
  refine (hg.block b (blk_lt hb) (fun q => ?_)).trans hb
  obtain ⟨cells, hc⟩ := hty b q.symm
  rw [hb] at hc
  injection hc with hc
  injection hc with _ hc
  exact hne hc
theorem NI.on (h : NI bm base X w vch vti vpl ch ti pl) (hb : Below w.heap.size w w1) : NI bm base X w1 vch vti vpl ch ti pl :=
  ⟨(hb.block _ (blk_lt h.box)).trans h.box, Kd.R_below h.rc hb, Kd.R_below h.rt hb, Kd.R_below h.rp hb, h.lt, Nat.le_trans h.size hb.size⟩
theorem set_box (X : List Value) (a b c v : Value) : (X ++ [a, b, c]).toArray.setIfInBounds X.length v = (X ++ [v, b, c]).toArray ∧ (X ++ [a, b, c]).toArray.setIfInBounds (X.length + 1) v = (X ++ [a, v, c]).toArray ∧ (X ++ [a, b, c]).toArray.setIfInBounds (X.length + 2) v = (X ++ [a, b, v]).toArray := by
  refine ⟨?_, ?_, ?_⟩ <;> simp [List.set_append]
theorem NI.ch_ (h : NI bm base X w vch vti vpl ch ti pl) (hr : kChoice.R 42 w1 base (fun _ => True) v1 ch') (hg : w.grownBy w1 vch.ownBlock) : NI bm base X (w1.setCell ⟨bm, X.length, none⟩ v1) v1 vti vpl ch' ti pl := by
  have hty := Kd.R_typed h.rc
  have hbx := keep_typed hg hty h.box (by decide)
  refine ⟨by rw [blk_set hbx, (set_box _ _ _ _ _).1], r_box hr h.lt _ _, r_box (Kd.R_over' h.rt hty (by decide) hg) h.lt _ _, r_box (Kd.R_over' h.rp hty (by decide) hg) h.lt _ _, h.lt, ?_⟩
  have := h.size
  have := hg.size
  simp [World.setCell]
  omega
theorem other {ok : Nat → Prop} {v : Value} {xs : List Int} (h : kI.R 3 w base ok v xs) {u : Value} (hok : ∀ k, ok k → some k ≠ u.ownBlock) (hg : w.grownBy w1 u.ownBlock) (hat : v1.ownBlock = u.ownBlock ∨ ∃ b, v1.ownBlock = some b ∧ w.heap.size ≤ b) : kI.R 3 w1 base (fun k => some k ≠ v1.ownBlock) v xs :=
  Kd.R_mono (Kd.R_grown (Kd.R_bound h) hg (fun k hk => hok k hk.1)) (fun k hk => by
    rcases hat with e | ⟨b, e, hb⟩
    · rw [e]; exact hok k hk.1
    · rw [e]
      intro q
      injection q with q
      have := hk.2.2.1
      omega)
theorem NI.ti_ (h : NI bm base X w vch vti vpl ch ti pl) (hr : kI.R 3 w1 base (fun k => some k ≠ vpl.ownBlock) v1 ti') (hg : w.grownBy w1 vti.ownBlock) (hat : v1.ownBlock = vti.ownBlock ∨ ∃ b, v1.ownBlock = some b ∧ w.heap.size ≤ b) : NI bm base X (w1.setCell ⟨bm, X.length + 1, none⟩ v1) vch v1 vpl ch ti' pl := by
  have hty := Kd.R_typed h.rt
  have hbx := keep_typed hg hty h.box (by decide)
  refine ⟨by rw [blk_set hbx, (set_box _ _ _ _ _).2.1], r_box (Kd.R_over' h.rc hty (by decide) hg) h.lt _ _, r_box hr h.lt _ _, r_box (other h.rp (fun _ q => q) hg hat) h.lt _ _, h.lt, ?_⟩
  have := h.size
  have := hg.size
  simp [World.setCell]
  omega
theorem NI.pl_ (h : NI bm base X w vch vti vpl ch ti pl) (hr : kI.R 3 w1 base (fun k => some k ≠ vti.ownBlock) v1 pl') (hg : w.grownBy w1 vpl.ownBlock) (hat : v1.ownBlock = vpl.ownBlock ∨ ∃ b, v1.ownBlock = some b ∧ w.heap.size ≤ b) : NI bm base X (w1.setCell ⟨bm, X.length + 2, none⟩ v1) vch vti v1 ch ti pl' := by
  have hty := Kd.R_typed h.rp
  have hbx := keep_typed hg hty h.box (by decide)
  refine ⟨by rw [blk_set hbx, (set_box _ _ _ _ _).2.2], r_box (Kd.R_over' h.rc hty (by decide) hg) h.lt _ _, r_box (other h.rt (fun _ q => q) hg hat) h.lt _ _, r_box hr h.lt _ _, h.lt, ?_⟩
  have := h.size
  have := hg.size
  simp [World.setCell]
  omega
theorem NI.cells (h : NI bm base X w vch vti vpl ch ti pl) (hX : X.length = 15) : w.cell? ⟨bm, 15, none⟩ = some vch ∧ w.cell? ⟨bm, 16, none⟩ = some vti ∧ w.cell? ⟨bm, 17, none⟩ = some vpl ∧ ∀ j, w.frozen? ⟨bm, j, none⟩ = false := by
  refine ⟨(blk_cell h.box 15).trans ?_, (blk_cell h.box 16).trans ?_, (blk_cell h.box 17).trans ?_, fun j => blk_frozen h.box j⟩ <;> simp [hX]
end
theorem length_blockAt (l : List Class) (c : Nat) (hl : ∀ x ∈ l, x.f4.length ≤ 1000 ∧ x.f5.length ≤ 1000) : (blockAt l c).length ≤ 2000 := by
  unfold blockAt
  cases h : l[c]? with
  | none => simp
  | some x =>
    have := hl x (List.mem_of_getElem? h)
    simp only [length_blockOf]
    omega
theorem length_choicesTo (l : List Class) (hl : ∀ x ∈ l, x.f4.length ≤ 1000 ∧ x.f5.length ≤ 1000) : ∀ k, (choicesTo l k).length ≤ k * 2000
  | 0 => by simp [choicesTo]
  | k + 1 => by
    have h1 := length_choicesTo l hl k
    have h2 := length_blockAt l k hl
    rw [choicesTo_succ, List.length_append]
    omega
structure Small (p : Problem) : Prop where
  n : p.f5.length ≤ 1000
  all : ∀ x ∈ p.f5, x.f4.length ≤ 1000 ∧ x.f5.length ≤ 1000

def NewEnd (p : Problem) (r : Bool) (e : Ending) (w' : World) : Prop := (r = false → e = .returned (.pointer none)) ∧ (r = true → ∃ b, e = .returned (.pointer (some ⟨b, 0, none⟩)) ∧ MBox w' b (mapOf p))
set_option maxRecDepth 100000 in
set_option maxHeartbeats 8000000 in
theorem new_calls (p : Problem) (hp : wfProblem p) (hsm : problemOk p = true → Small p) (pcs : List Value) (w : World) (hP : kProblem.K w p pcs) (r : Bool) (hr : problemOk p = r) :
    Calls Tryz.prog 17 #[.agg pcs.toArray] w fun e w' => NewEnd p r e w' ∧ Below w.heap.size w w' := by
  have HP := Aside0.mk hP
  obtain ⟨A4, c4, A5, c5, A6, c6, A7, c7, A8, c8, A9, c9, A10, c10, rfl, l4, g4, l5, g5, l6, g6, l7, g7, l8, g8, l9, g9, l10, g10⟩ := kProblem_open hP
  have G7 := Aside0.mk g7
  have hm7 := Kd.C_max g7
  clear hP g4 g5 g6 g7 g8 g9 g10
  have hu1 := Tryz.underlying40
  have hu3 := Tryz.underlying96
  have hu4 := Tryz.underlying79
  have hu5 := Tryz.underlying42
  go_enter Tryz.func17, Tryz.ntmps17
  go_wp2_with (refine gate_ (.load 40 (.tmp 1)) rfl ?_; refine load_ev rfl _ _ rfl _ _ _ _ rfl (blk_new w _) hu1 rfl rfl ?_)
  refine (problemOk_calls p hp _ _ (kProblem.K_below (below_alloc (Below.refl _ _) _) HP.out) _ hr).mono ?_
  rintro e w1 ⟨rfl, hb⟩
  cases r
  · go_wp2_with fail
    go_ret
    exact ⟨⟨fun _ => rfl, fun h => by cases h⟩, below1 hb⟩
  have hsm := Aside0.mk (hsm hr)
  have hbx := Aside0.mk ((hb.block w.heap.size (by simp)).trans (blk_new w _))
  have HB1 := Aside0.mk (below1 hb)
  clear hb hr
  go_wp2_with (refine gate_ (.load 40 (.tmp 1)) rfl ?_; refine load_ev rfl _ _ rfl _ _ _ _ rfl hbx.out hu1 rfl rfl ?_)
  refine (copy_calls p hp _ w1 (kProblem.K_below HB1.out HP.out)).mono ?_
  rintro e w2 ⟨⟨cs, rfl, hK2⟩, hb2⟩
  have HK2 := Aside0.mk hK2
  obtain ⟨B4, d4, B5, d5, B6, d6, B7, d7, B8, d8, B9, d9, B10, d10, rfl, m4, k4, m5, k5, m6, k6, m7, k7, m8, k8, m9, k9, m10, k10⟩ := kProblem_open hK2
  have hlt1 := blk_lt hbx.out
  have q7' : w2.cell? ⟨w.heap.size, 7, none⟩ = some (.slice A7 p.f5.length c7) := (hb2.cell (by exact hlt1)).trans (blk_cell hbx.out 7)
  have HQ7 := Aside0.mk q7'
  have q7 : ∀ o, (w2.alloc o).cell? ⟨w.heap.size, 7, none⟩ = some (.slice A7 p.f5.length c7) := fun o => cell_on (below_alloc (Below.refl _ _) _) q7'
  obtain ⟨X, hX⟩ : ∃ X, X = [Value.string p.f0, .int .i64 p.f1.f0, .int .i64 p.f1.f1, .int .i64 p.f1.f2, .slice B4 p.f2.length d4, .slice B5 p.f3.length d5, .slice B6 p.f4.length d6, .slice B7 p.f5.length d7, .slice B8 p.f6.length d8, .slice B9 p.f7.length d9, .slice B10 p.f8.length d10, .int .i64 p.f9.f0, .int .i64 p.f9.f1, .int .i64 p.f9.f2, .int .i64 p.f9.f3] := ⟨_, rfl⟩
  have HX := Aside0.mk hX
  have HXl : Aside0 (X.length = 15) := ⟨by rw [hX]; rfl⟩
  have HB2 := Aside0.mk (below_then HB1.out HB1.out.size hb2)
  clear hK2 k4 k5 k6 k7 k8 k9 k10 q7' hX hb2
  go_wp2_with fail
  clear q7
  go_loopw [18] (fun v wr => ∃ c : Nat, v = .int .i64 c ∧ c ≤ p.f5.length ∧ Aside0 (∃ vch vti vpl, NI w2.heap.size (w2.heap.size + 1) X wr vch vti vpl (choicesTo p.f5 c) ((List.range c).map (timesAt p.f5)) ((List.range c).map (placesAt p.f5))) ∧ Aside0 (Below w2.heap.size w2 wr)) (fun v _ => p.f5.length - (intOf v).toNat)
  case atStart =>
    refine ⟨0, rfl, by omega, ⟨.slice none 0 0, .slice none 0 0, .slice none 0 0, ?_, Kd.R_nil _ _ _ _ _, Kd.R_nil _ _ _ _ _, Kd.R_nil _ _ _ _ _, Nat.lt_succ_self _, by simp⟩, ⟨below_alloc (Below.refl _ _) _⟩⟩
    rw [HX.out]
    exact blk_new w2 _
  case round =>
    obtain ⟨c, rfl, hc, hN, hb⟩ := hrel
    have q7 : wr.cell? ⟨w.heap.size, 7, none⟩ = some (.slice A7 p.f5.length c7) := cell_on hb.out HQ7.out
    by_cases hlt : c < p.f5.length
    · obtain ⟨x, hx⟩ : ∃ x, p.f5[c]? = some x := ⟨_, List.getElem?_eq_getElem hlt⟩
      obtain ⟨ad, A3', c3', A4', c4', A5', c5', rfl, e0, e1, e2, e3, e4, e5, e6, l3', g3', l4', g4', l5', g5'⟩ := el_Class (Kd.C_below G7.out (HB2.out.trans (hb.out.mono HB2.out.size))) c x hx
      have hmx4 := Kd.C_max g4'
      have hmx5 := Kd.C_max g5'
      replace hx := Aside0.mk hx
      clear g3' g4' g5'
      go_wp2_with fail
      clear e0 e1 e2 e3 e4 e5 e6
      have HY0 := Aside0.mk (blk_new wr (.cells #[.string x.f0, .int .i64 x.f1, .int .u16 x.f2, .slice A3' x.f3.length c3', .slice A4' x.f4.length c4', .slice A5' x.f5.length c5', .int .i64 x.f6] 96))
      obtain ⟨vch, vti, vpl, hN⟩ := hN.out
      have hne : ¬ wr.heap.size = w2.heap.size := by have := hN.size; omega
      have hwr := Aside0.mk hb
      have hlen := Aside0.mk (length_choicesTo p.f5 hsm.out.all c)
      have hcb : c ≤ 1000 := by have := hsm.out.n; omega
      obtain ⟨CH, hCH⟩ : ∃ CH, CH = choicesTo p.f5 c := ⟨_, rfl⟩
      obtain ⟨Ach, cch, rfl⟩ := Kd.R_slice hN.rc
      obtain ⟨Ati, cti, rfl⟩ := Kd.R_slice hN.rt
      obtain ⟨Apl, cpl, rfl⟩ := Kd.R_slice hN.rp
      rw [← hCH] at hN
      simp only [List.length_map, List.length_range] at hN
      replace hCH := Aside0.mk hCH
      replace hN := Aside0.mk (hN.on (below_alloc (Below.refl _ _) (.cells #[.string x.f0, .int .i64 x.f1, .int .u16 x.f2, .slice A3' x.f3.length c3', .slice A4' x.f4.length c4', .slice A5' x.f5.length c5', .int .i64 x.f6] 96)))
      generalize hbc : wr.heap.size = bc at HY0 hne ⊢
      replace hbc := Aside0.mk hbc
      -- one number more in the row at cell 16
      obtain ⟨z15, z16, z17, zf⟩ := hN.out.cells HXl.out
      refine start_ (n := 15) (S := (fun w' => w'.cell? ⟨w2.heap.size, 16, none⟩ = some (.slice Ati c cti) ∧ w'.cell? ⟨w2.heap.size, 15, none⟩ = some (.slice Ach CH.length cch))) (ds := [14]) #[false, false, false, false, false, false, false, false, false, false, false, false, false, false, false] (by kernel_rfl) rfl rfl (⟨z16, z15⟩) (fun hHeld => ?_)
      refine pure_ (i := 0) (N := some 23) (v := ?_) (a' := ?_) #[true, false, false, false, false, false, false, false, false, false, false, false, false, false, false] rfl rfl (by kernel_rfl) (fun _ _ _ h => h) (Or.inl ⟨by rfl, ?_⟩) ?_ ?_
      rotate_left
      · intro w'
        go_simp
        with_reducible rfl
      rotate_left
      · simp only [Act.put, List.setIfInBounds_toArray, List.set_cons_zero, List.set_cons_succ, i64_w, i32_w]
        rfl
      refine pure_ (i := 1) (N := some 24) (v := ?_) (a' := ?_) #[true, true, false, false, false, false, false, false, false, false, false, false, false, false, false] rfl rfl (by kernel_rfl) (fun _ _ _ h => h) (Or.inl ⟨by rfl, ?_⟩) ?_ ?_
      rotate_left
      · intro w'
        go_simp
        with_reducible rfl
      rotate_left
      · simp only [Act.put, List.setIfInBounds_toArray, List.set_cons_zero, List.set_cons_succ, i64_w, i32_w]
        rfl
      refine pure_ (i := 2) (N := some 25) (v := ?_) (a' := ?_) #[true, true, true, false, false, false, false, false, false, false, false, false, false, false, false] rfl rfl (by kernel_rfl) (fun _ _ _ h => h) (Or.inl ⟨by rfl, ?_⟩) ?_ ?_
      rotate_left
      · intro w'
        go_simp
        with_reducible rfl
      rotate_left
      · simp only [Act.put, List.setIfInBounds_toArray, List.set_cons_zero, List.set_cons_succ, i64_w, i32_w]
        rfl
      refine pure_ (i := 3) (N := some 26) (v := ?_) (a' := ?_) #[true, true, true, true, false, false, false, false, false, false, false, false, false, false, false] rfl rfl (by kernel_rfl) (fun _ _ _ h => h) (Or.inl ⟨by rfl, ?_⟩) ?_ ?_
      rotate_left
      · intro w'
        go_simp
        with_reducible rfl
      rotate_left
      · simp only [Act.put, List.setIfInBounds_toArray, List.set_cons_zero, List.set_cons_succ, i64_w, i32_w]
        rfl
      refine take_ (i := 4) (N := some 27) (v := ?_) (a' := ?_) #[true, true, true, true, true, false, false, false, false, false, false, false, false, false, false] rfl rfl (by kernel_rfl) (fun _ _ _ h => h) (Or.inl ⟨by rfl, ?_⟩) hHeld ?_ ?_
      rotate_left
      · rintro w' ⟨s1, s2⟩
        go_simp
        with_reducible rfl
      rotate_left
      · simp only [Act.put, List.setIfInBounds_toArray, List.set_cons_zero, List.set_cons_succ, i64_w, i32_w]
        rfl
      refine pure_ (i := 5) (N := some 28) (v := ?_) (a' := ?_) #[true, true, true, true, true, true, false, false, false, false, false, false, false, false, false] rfl rfl (by kernel_rfl) (fun _ _ _ h => h) (Or.inl ⟨by rfl, ?_⟩) ?_ ?_
      rotate_left
      · intro w'
        go_simp
        with_reducible rfl
      rotate_left
      · simp only [Act.put, List.setIfInBounds_toArray, List.set_cons_zero, List.set_cons_succ, i64_w, i32_w]
        rfl
      refine pure_ (i := 6) (N := some 29) (v := ?_) (a' := ?_) #[true, true, true, true, true, true, true, false, false, false, false, false, false, false, false] rfl rfl (by kernel_rfl) (fun _ _ _ h => h) (Or.inl ⟨by rfl, ?_⟩) ?_ ?_
      rotate_left
      · intro w'
        go_simp
        with_reducible rfl
      rotate_left
      · simp only [Act.put, List.setIfInBounds_toArray, List.set_cons_zero, List.set_cons_succ, i64_w, i32_w]
        rfl
      refine pure_ (i := 7) (N := some 30) (v := ?_) (a' := ?_) #[true, true, true, true, true, true, true, true, false, false, false, false, false, false, false] rfl rfl (by kernel_rfl) (fun _ _ _ h => h) (Or.inl ⟨by rfl, ?_⟩) ?_ ?_
      rotate_left
      · intro w'
        go_simp
        with_reducible rfl
      rotate_left
      · simp only [Act.put, List.setIfInBounds_toArray, List.set_cons_zero, List.set_cons_succ, i64_w, i32_w]
        rfl
      refine take_ (i := 8) (N := some 31) (v := ?_) (a' := ?_) #[true, true, true, true, true, true, true, true, true, false, false, false, false, false, false] rfl rfl (by kernel_rfl) (fun _ _ _ h => h) (Or.inl ⟨by rfl, ?_⟩) hHeld ?_ ?_
      rotate_left
      · rintro w' ⟨s1, s2⟩
        go_simp
        with_reducible rfl
      rotate_left
      · simp only [Act.put, List.setIfInBounds_toArray, List.set_cons_zero, List.set_cons_succ, i64_w, i32_w]
        rfl
      refine pure_ (i := 9) (N := some 32) (v := ?_) (a' := ?_) #[true, true, true, true, true, true, true, true, true, true, false, false, false, false, false] rfl rfl (by kernel_rfl) (fun _ _ _ h => h) (Or.inl ⟨by rfl, ?_⟩) ?_ ?_
      rotate_left
      · intro w'
        go_simp
        with_reducible rfl
      rotate_left
      · simp only [Act.put, List.setIfInBounds_toArray, List.set_cons_zero, List.set_cons_succ, i64_w, i32_w]
        rfl
      refine one_ (i := 10) (N := some 33) #[true, true, true, true, true, true, true, true, true, true, true, false, false, false, false] rfl rfl (by kernel_rfl) (by decide) (fun K hK => ?_)
      refine value_ (w1 := ?_) (v := ?_) (by rfl) rfl ?_ ?_
      rotate_left 2
      · go_simp
        constructor
        · rfl
        · rfl
      refine hK.out _ _ ⟨cell_on (below_alloc (below_drew (Below.refl _ _)) _) z16, cell_on (below_alloc (below_drew (Below.refl _ _)) _) z15⟩ (fun hHeld => ?_)
      clear hK K
      refine norm_ (a' := ?_) ?_ ?_
      rotate_left
      · show Act.put _ (some 33) _ = _
        simp only [Act.put, List.setIfInBounds_toArray, List.set_cons_zero, List.set_cons_succ, i64_w, i32_w]
        rfl
      refine one_ (i := 11) (N := some 34) #[true, true, true, true, true, true, true, true, true, true, true, true, false, false, false] rfl rfl (by kernel_rfl) (by decide) (fun K hK => ?_)
      refine Kd.R_append_step kI (w0 := _) (W := _) (w2.heap.size + 1) (by rfl) (.tmp 27) (.tmp 33) 22 3 (.int .i64 0) 8 rfl Tryz.underlying22 infoI64 rfl (by decide) (by omega) _ ((List.range c).map (timesAt p.f5)) (CH.length : Nat) [.int .i64 (CH.length : Nat)] (fun k => some k ≠ (Value.slice Apl c cpl).ownBlock) (fun _ => False) rfl (by first | rfl | (show Value.slice _ 1 1 = Value.slice _ 1 1; simp)) rfl (fun _ hk => hk.elim) (Kd.fresh' (Kd.R_lt (Kd.R_drew (hN.out.rp)))) (Kd.R_drew hN.out.rt) (Below.refl _ _) hN.out.size (by simp only [List.length_map, List.length_range]; omega) ?_
      intro v1 w5 hR5 hb5 hg5 hat5
      obtain ⟨At, ct, hv⟩ := Kd.R_slice hR5
      simp only [List.length_append, List.length_map, List.length_range, List.length_singleton] at hv
      subst hv
      have hN5 := Aside0.mk (NI.ti_ (hN.out.on (below_drew (Below.refl _ _))) hR5 hg5 hat5)
      have hbx5 := keep_typed hg5 (Kd.R_typed (Kd.R_drew hN.out.rt)) (show (World.drew _).heap[w2.heap.size]? = _ from hN.out.box) (by decide)
      have y15 : w5.cell? ⟨w2.heap.size, 15, none⟩ = some (.slice Ach CH.length cch) := (blk_cell hbx5 15).trans (by simp [HXl.out])
      have y16 : w5.cell? ⟨w2.heap.size, 16, none⟩ = some (.slice Ati c cti) := (blk_cell hbx5 16).trans (by simp [HXl.out])
      have f16 : w5.frozen? ⟨w2.heap.size, 16, none⟩ = false := blk_frozen hbx5 16
      have HY5 := Aside0.mk (keep_typed hg5 (Kd.R_typed (Kd.R_drew hN.out.rt)) (show (World.drew _).heap[bc]? = _ from HY0.out) (by decide))
      have HB5 := Aside0.mk ((below_drew (below_alloc hb.out _)).trans (hb5.mono (Nat.le_succ _)))
      clear hR5 hb5 hg5 hat5 hbx5
      refine hK.out _ _ ⟨y16, y15⟩ (fun hHeld => ?_)
      clear hK K
      refine norm_ (a' := ?_) ?_ ?_
      rotate_left
      · show Act.put _ (some 34) _ = _
        simp only [Act.put, List.setIfInBounds_toArray, List.set_cons_zero, List.set_cons_succ, i64_w, i32_w]
        rfl
      refine pure_ (i := 12) (N := some 35) (v := ?_) (a' := ?_) #[true, true, true, true, true, true, true, true, true, true, true, true, true, false, false] rfl rfl (by kernel_rfl) (fun _ _ _ h => h) (Or.inl ⟨by rfl, ?_⟩) ?_ ?_
      rotate_left
      · intro w'
        go_simp
        with_reducible rfl
      rotate_left
      · simp only [Act.put, List.setIfInBounds_toArray, List.set_cons_zero, List.set_cons_succ, i64_w, i32_w]
        rfl
      refine pure_ (i := 13) (N := some 36) (v := ?_) (a' := ?_) #[true, true, true, true, true, true, true, true, true, true, true, true, true, true, false] rfl rfl (by kernel_rfl) (fun _ _ _ h => h) (Or.inl ⟨by rfl, ?_⟩) ?_ ?_
      rotate_left
      · intro w'
        go_simp
        with_reducible rfl
      rotate_left
      · simp only [Act.put, List.setIfInBounds_toArray, List.set_cons_zero, List.set_cons_succ, i64_w, i32_w]
        rfl
      refine last_ (i := 14) (N := none) #[true, true, true, true, true, true, true, true, true, true, true, true, true, true, true] rfl rfl (by kernel_rfl) (by decide) (fun K hK => ?_)
      refine skip_ (w1 := ?_) (by rfl) rfl ?_ ?_
      rotate_left 1
      · go_simp
        first | rfl | (constructor <;> rfl)
      refine hK.out _ _ ?_
      clear hK K
      refine done_ (by kernel_rfl) ?_
      clear z15 z16 z17 zf y15 y16 f16
      rw [show X.length + 1 = 16 from by rw [HXl.out]] at hN5
      have HY8 := Aside0.mk (blk_far (p := ⟨w2.heap.size, 16, none⟩) HY5.out (by exact hne) (.slice At (c + 1) ct))
      have HB8 := Aside0.mk (HB5.out.setCell (p := ⟨w2.heap.size, 16, none⟩) (Nat.le_refl _) (.slice At (c + 1) ct))
      have u4 := (blk_cell HY8.out 4).trans (show _ = some (Value.slice A4' x.f4.length c4') from rfl)
      have u4' := (blk_cell HY5.out 4).trans (show _ = some (Value.slice A4' x.f4.length c4') from rfl)
      have hL0 : Aside0 (CH.length ≤ 2000000) := ⟨by have h1 := hlen.out; rw [← hCH.out] at h1; omega⟩
      clear hN HY0
      go_wp2_with fail
      clear q7 hb
      go_loopw [40] (fun v wq => ∃ i : Nat, v = .int .i64 i ∧ i ≤ x.f4.length ∧ Aside0 (∃ Aq cq, NI w2.heap.size (w2.heap.size + 1) X wq (.slice Aq (CH.length + i) cq) (.slice At (c + 1) ct) (.slice Apl c cpl) (CH ++ (List.range i).map (fun (i : Nat) => Choice.mk c false i)) ((List.range c).map (timesAt p.f5) ++ [(CH.length : Int)]) ((List.range c).map (placesAt p.f5))) ∧ Aside0 (wq.heap[bc]? = some (.cells #[.string x.f0, .int .i64 x.f1, .int .u16 x.f2, .slice A3' x.f3.length c3', .slice A4' x.f4.length c4', .slice A5' x.f5.length c5', .int .i64 x.f6] 96 (0, 0))) ∧ Aside0 (Below w2.heap.size w2 wq)) (fun v _ => x.f4.length - (intOf v).toNat)
      case atStart => exact ⟨0, rfl, by omega, ⟨Ach, cch, by simpa using hN5.out⟩, HY8, HB8⟩
      case round =>
        clear u4 u4'
        clear hN5 HY8 HB8 HY5 HB5
        obtain ⟨i, rfl, hi, hq, hy, hbq⟩ := hrel
        obtain ⟨Aq, cq, hq⟩ := hq.out
        obtain ⟨z15, z16, z17, zf⟩ := hq.cells HXl.out
        by_cases hlt2 : i < x.f4.length
        · replace hq := Aside0.mk hq
          have h1000 := (hsm.out.all x (List.mem_of_getElem? hx.out))
          have hlq : ((CH ++ (List.range i).map (fun (i : Nat) => Choice.mk c false i)).length + 1) * 24 ≤ 140737488355328 := by
            simp only [List.length_append, List.length_map, List.length_range]
            have h1 := hL0.out
            omega
          replace hlq := Aside0.mk hlq
          replace h1000 := Aside0.mk h1000
          go_wp2_with (first | ((with_reducible refine gate_builtin (b := .append) (xs := #[.tmp 47, .tmp 51]) rfl ?_); at_builtin; refine Kd.R_append kChoice (w0 := _) (W := _) (w2.heap.size + 1) rfl (.tmp 47) (.tmp 51) 77 42 (.agg #[.int .i64 0, .bool false, .int .i64 0]) 24 rfl Tryz.underlying77 infoChoice rfl (by decide) (by omega) _ (CH ++ (List.range i).map (fun (i : Nat) => Choice.mk c false i)) (Choice.mk c false i) [.int .i64 c, .bool false, .int .i64 i] (fun _ => True) (fun _ => False) rfl rfl (kChoice_mkM _ _ _ _) (fun _ hk => hk.elim) (fun _ _ => trivial) hq.out.rc (Below.refl _ _) hq.out.size hlq.out ?_; intro v1 w6 hR6 hb6 hg6 hat6; obtain ⟨Av6, cv6, hv⟩ := Kd.R_slice hR6; simp only [List.length_append, List.length_map, List.length_range, List.length_singleton] at hv; subst hv; have hN6 := Aside0.mk (NI.ch_ hq.out hR6 hg6); have hbx6 := keep_typed hg6 (Kd.R_typed hq.out.rc) hq.out.box (by decide); have y15 : w6.cell? ⟨w2.heap.size, 15, none⟩ = some (.slice Aq (CH.length + i) cq) := (blk_cell hbx6 15).trans (by simp [HXl.out]); have f15 : w6.frozen? ⟨w2.heap.size, 15, none⟩ = false := blk_frozen hbx6 15; have HY6 := Aside0.mk (keep_typed hg6 (Kd.R_typed hq.out.rc) hy.out (by decide)); have HB6 := Aside0.mk (hbq.out.trans (hb6.mono (Nat.le_succ _))); clear hR6 hb6 hg6 hat6 hbx6))
          clear y15 f15 z15 z16 z17 zf
          go_roundw
          case rel =>
            rw [HXl.out] at hN6
            refine ⟨i + 1, by go_num, by omega, ⟨Av6, cv6, ?_⟩, ⟨blk_far (p := ⟨w2.heap.size, 15, none⟩) HY6.out (by exact hne) _⟩, ⟨HB6.out.setCell (p := ⟨w2.heap.size, 15, none⟩) (Nat.le_refl _) _⟩⟩
            have hN7 := hN6.out
            rw [List.append_assoc, show (List.range i).map (fun (i : Nat) => Choice.mk c false i) ++ [Choice.mk c false i] = (List.range (i + 1)).map (fun (i : Nat) => Choice.mk c false i) from by rw [List.range_succ, List.map_append]; rfl] at hN7
            exact hN7
          case measure => simp [intOf]; omega
        obtain rfl : i = x.f4.length := by omega
        obtain ⟨n2, hn2⟩ : ∃ n2, n2 = CH.length + x.f4.length := ⟨_, rfl⟩
        obtain ⟨C2, hC2⟩ : ∃ C2, C2 = CH ++ (List.range x.f4.length).map (fun (i : Nat) => Choice.mk c false i) := ⟨_, rfl⟩
        rw [← hn2, ← hC2] at hq
        have h1000 := Aside0.mk (hsm.out.all x (List.mem_of_getElem? hx.out))
        have hn3 : n2 ≤ 9223372036854775807 := by
          have h1 := hlen.out
          rw [← hCH.out] at h1
          have h2 := h1000.out.1
          omega
        have hn2C : Aside0 (n2 = C2.length) := ⟨by rw [hC2, hn2, List.length_append, List.length_map, List.length_range]⟩
        replace hn2 := Aside0.mk hn2
        replace hC2 := Aside0.mk hC2
        obtain rfl := hn2C.out
        have hN := Aside0.mk hq
        clear hq z15 z16 z17 zf
        go_wp2_with fail
        -- one number more in the row at cell 17
        obtain ⟨z15, z16, z17, zf⟩ := hN.out.cells HXl.out
        refine start_ (n := 15) (S := (fun w' => w'.cell? ⟨w2.heap.size, 17, none⟩ = some (.slice Apl c cpl) ∧ w'.cell? ⟨w2.heap.size, 15, none⟩ = some (.slice Aq C2.length cq))) (ds := [14]) #[false, false, false, false, false, false, false, false, false, false, false, false, false, false, false] (by kernel_rfl) rfl rfl (⟨z17, z15⟩) (fun hHeld => ?_)
        refine pure_ (i := 0) (N := some 56) (v := ?_) (a' := ?_) #[true, false, false, false, false, false, false, false, false, false, false, false, false, false, false] rfl rfl (by kernel_rfl) (fun _ _ _ h => h) (Or.inl ⟨by rfl, ?_⟩) ?_ ?_
        rotate_left
        · intro w'
          go_simp
          with_reducible rfl
        rotate_left
        · simp only [Act.put, List.setIfInBounds_toArray, List.set_cons_zero, List.set_cons_succ, i64_w, i32_w]
          rfl
        refine pure_ (i := 1) (N := some 57) (v := ?_) (a' := ?_) #[true, true, false, false, false, false, false, false, false, false, false, false, false, false, false] rfl rfl (by kernel_rfl) (fun _ _ _ h => h) (Or.inl ⟨by rfl, ?_⟩) ?_ ?_
        rotate_left
        · intro w'
          go_simp
          with_reducible rfl
        rotate_left
        · simp only [Act.put, List.setIfInBounds_toArray, List.set_cons_zero, List.set_cons_succ, i64_w, i32_w]
          rfl
        refine pure_ (i := 2) (N := some 58) (v := ?_) (a' := ?_) #[true, true, true, false, false, false, false, false, false, false, false, false, false, false, false] rfl rfl (by kernel_rfl) (fun _ _ _ h => h) (Or.inl ⟨by rfl, ?_⟩) ?_ ?_
        rotate_left
        · intro w'
          go_simp
          with_reducible rfl
        rotate_left
        · simp only [Act.put, List.setIfInBounds_toArray, List.set_cons_zero, List.set_cons_succ, i64_w, i32_w]
          rfl
        refine pure_ (i := 3) (N := some 59) (v := ?_) (a' := ?_) #[true, true, true, true, false, false, false, false, false, false, false, false, false, false, false] rfl rfl (by kernel_rfl) (fun _ _ _ h => h) (Or.inl ⟨by rfl, ?_⟩) ?_ ?_
        rotate_left
        · intro w'
          go_simp
          with_reducible rfl
        rotate_left
        · simp only [Act.put, List.setIfInBounds_toArray, List.set_cons_zero, List.set_cons_succ, i64_w, i32_w]
          rfl
        refine take_ (i := 4) (N := some 60) (v := ?_) (a' := ?_) #[true, true, true, true, true, false, false, false, false, false, false, false, false, false, false] rfl rfl (by kernel_rfl) (fun _ _ _ h => h) (Or.inl ⟨by rfl, ?_⟩) hHeld ?_ ?_
        rotate_left
        · rintro w' ⟨s1, s2⟩
          go_simp
          with_reducible rfl
        rotate_left
        · simp only [Act.put, List.setIfInBounds_toArray, List.set_cons_zero, List.set_cons_succ, i64_w, i32_w]
          rfl
        refine pure_ (i := 5) (N := some 61) (v := ?_) (a' := ?_) #[true, true, true, true, true, true, false, false, false, false, false, false, false, false, false] rfl rfl (by kernel_rfl) (fun _ _ _ h => h) (Or.inl ⟨by rfl, ?_⟩) ?_ ?_
        rotate_left
        · intro w'
          go_simp
          with_reducible rfl
        rotate_left
        · simp only [Act.put, List.setIfInBounds_toArray, List.set_cons_zero, List.set_cons_succ, i64_w, i32_w]
          rfl
        refine pure_ (i := 6) (N := some 62) (v := ?_) (a' := ?_) #[true, true, true, true, true, true, true, false, false, false, false, false, false, false, false] rfl rfl (by kernel_rfl) (fun _ _ _ h => h) (Or.inl ⟨by rfl, ?_⟩) ?_ ?_
        rotate_left
        · intro w'
          go_simp
          with_reducible rfl
        rotate_left
        · simp only [Act.put, List.setIfInBounds_toArray, List.set_cons_zero, List.set_cons_succ, i64_w, i32_w]
          rfl
        refine pure_ (i := 7) (N := some 63) (v := ?_) (a' := ?_) #[true, true, true, true, true, true, true, true, false, false, false, false, false, false, false] rfl rfl (by kernel_rfl) (fun _ _ _ h => h) (Or.inl ⟨by rfl, ?_⟩) ?_ ?_
        rotate_left
        · intro w'
          go_simp
          with_reducible rfl
        rotate_left
        · simp only [Act.put, List.setIfInBounds_toArray, List.set_cons_zero, List.set_cons_succ, i64_w, i32_w]
          rfl
        refine take_ (i := 8) (N := some 64) (v := ?_) (a' := ?_) #[true, true, true, true, true, true, true, true, true, false, false, false, false, false, false] rfl rfl (by kernel_rfl) (fun _ _ _ h => h) (Or.inl ⟨by rfl, ?_⟩) hHeld ?_ ?_
        rotate_left
        · rintro w' ⟨s1, s2⟩
          go_simp
          with_reducible rfl
        rotate_left
        · simp only [Act.put, List.setIfInBounds_toArray, List.set_cons_zero, List.set_cons_succ, i64_w, i32_w]
          rfl
        refine pure_ (i := 9) (N := some 65) (v := ?_) (a' := ?_) #[true, true, true, true, true, true, true, true, true, true, false, false, false, false, false] rfl rfl (by kernel_rfl) (fun _ _ _ h => h) (Or.inl ⟨by rfl, ?_⟩) ?_ ?_
        rotate_left
        · intro w'
          go_simp
          with_reducible rfl
        rotate_left
        · simp only [Act.put, List.setIfInBounds_toArray, List.set_cons_zero, List.set_cons_succ, i64_w, i32_w]
          rfl
        refine one_ (i := 10) (N := some 66) #[true, true, true, true, true, true, true, true, true, true, true, false, false, false, false] rfl rfl (by kernel_rfl) (by decide) (fun K hK => ?_)
        refine value_ (w1 := ?_) (v := ?_) (by rfl) rfl ?_ ?_
        rotate_left 2
        · go_simp
          constructor
          · rfl
          · rfl
        refine hK.out _ _ ⟨cell_on (below_alloc (below_drew (Below.refl _ _)) _) z17, cell_on (below_alloc (below_drew (Below.refl _ _)) _) z15⟩ (fun hHeld => ?_)
        clear hK K
        refine norm_ (a' := ?_) ?_ ?_
        rotate_left
        · show Act.put _ (some 66) _ = _
          simp only [Act.put, List.setIfInBounds_toArray, List.set_cons_zero, List.set_cons_succ, i64_w, i32_w]
          rfl
        refine one_ (i := 11) (N := some 67) #[true, true, true, true, true, true, true, true, true, true, true, true, false, false, false] rfl rfl (by kernel_rfl) (by decide) (fun K hK => ?_)
        refine Kd.R_append_step kI (w0 := _) (W := _) (w2.heap.size + 1) (by rfl) (.tmp 60) (.tmp 66) 22 3 (.int .i64 0) 8 rfl Tryz.underlying22 infoI64 rfl (by decide) (by omega) _ ((List.range c).map (placesAt p.f5)) (C2.length : Nat) [.int .i64 (C2.length : Nat)] (fun k => some k ≠ (Value.slice At (c + 1) ct).ownBlock) (fun _ => False) rfl (by first | rfl | (show Value.slice _ 1 1 = Value.slice _ 1 1; simp)) rfl (fun _ hk => hk.elim) (Kd.fresh' (Kd.R_lt (Kd.R_drew (hN.out.rt)))) (Kd.R_drew hN.out.rp) (Below.refl _ _) hN.out.size (by simp only [List.length_map, List.length_range]; omega) ?_
        intro v1 w5 hR5 hb5 hg5 hat5
        obtain ⟨Ap, cp, hv⟩ := Kd.R_slice hR5
        simp only [List.length_append, List.length_map, List.length_range, List.length_singleton] at hv
        subst hv
        have hN5 := Aside0.mk (NI.pl_ (hN.out.on (below_drew (Below.refl _ _))) hR5 hg5 hat5)
        have hbx5 := keep_typed hg5 (Kd.R_typed (Kd.R_drew hN.out.rp)) (show (World.drew _).heap[w2.heap.size]? = _ from hN.out.box) (by decide)
        have y15 : w5.cell? ⟨w2.heap.size, 15, none⟩ = some (.slice Aq C2.length cq) := (blk_cell hbx5 15).trans (by simp [HXl.out])
        have y17 : w5.cell? ⟨w2.heap.size, 17, none⟩ = some (.slice Apl c cpl) := (blk_cell hbx5 17).trans (by simp [HXl.out])
        have f17 : w5.frozen? ⟨w2.heap.size, 17, none⟩ = false := blk_frozen hbx5 17
        have HY5 := Aside0.mk (keep_typed hg5 (Kd.R_typed (Kd.R_drew hN.out.rp)) (show (World.drew _).heap[bc]? = _ from hy.out) (by decide))
        have HB5 := Aside0.mk ((below_drew (hbq.out)).trans (hb5.mono (Nat.le_succ _)))
        clear hR5 hb5 hg5 hat5 hbx5
        refine hK.out _ _ ⟨y17, y15⟩ (fun hHeld => ?_)
        clear hK K
        refine norm_ (a' := ?_) ?_ ?_
        rotate_left
        · show Act.put _ (some 67) _ = _
          simp only [Act.put, List.setIfInBounds_toArray, List.set_cons_zero, List.set_cons_succ, i64_w, i32_w]
          rfl
        refine pure_ (i := 12) (N := some 68) (v := ?_) (a' := ?_) #[true, true, true, true, true, true, true, true, true, true, true, true, true, false, false] rfl rfl (by kernel_rfl) (fun _ _ _ h => h) (Or.inl ⟨by rfl, ?_⟩) ?_ ?_
        rotate_left
        · intro w'
          go_simp
          with_reducible rfl
        rotate_left
        · simp only [Act.put, List.setIfInBounds_toArray, List.set_cons_zero, List.set_cons_succ, i64_w, i32_w]
          rfl
        refine pure_ (i := 13) (N := some 69) (v := ?_) (a' := ?_) #[true, true, true, true, true, true, true, true, true, true, true, true, true, true, false] rfl rfl (by kernel_rfl) (fun _ _ _ h => h) (Or.inl ⟨by rfl, ?_⟩) ?_ ?_
        rotate_left
        · intro w'
          go_simp
          with_reducible rfl
        rotate_left
        · simp only [Act.put, List.setIfInBounds_toArray, List.set_cons_zero, List.set_cons_succ, i64_w, i32_w]
          rfl
        refine last_ (i := 14) (N := none) #[true, true, true, true, true, true, true, true, true, true, true, true, true, true, true] rfl rfl (by kernel_rfl) (by decide) (fun K hK => ?_)
        refine skip_ (w1 := ?_) (by rfl) rfl ?_ ?_
        rotate_left 1
        · go_simp
          first | rfl | (constructor <;> rfl)
        refine hK.out _ _ ?_
        clear hK K
        refine done_ (by kernel_rfl) ?_
        clear z15 z16 z17 zf y15 y17 f17
        rw [show X.length + 2 = 17 from by rw [HXl.out]] at hN5
        have HY8 := Aside0.mk (blk_far (p := ⟨w2.heap.size, 17, none⟩) HY5.out (by exact hne) (.slice Ap (c + 1) cp))
        have HB8 := Aside0.mk (HB5.out.setCell (p := ⟨w2.heap.size, 17, none⟩) (Nat.le_refl _) (.slice Ap (c + 1) cp))
        have u5 := (blk_cell HY8.out 5).trans (show _ = some (Value.slice A5' x.f5.length c5') from rfl)
        have u5' := (blk_cell HY5.out 5).trans (show _ = some (Value.slice A5' x.f5.length c5') from rfl)
        have hL2 : Aside0 (C2.length ≤ 2001000) := ⟨by have h1 := hL0.out; have h2 := h1000.out.1; rw [hn2.out]; omega⟩
        clear hN
        go_wp2_with fail
        go_loopw [73] (fun v wq => ∃ i : Nat, v = .int .i64 i ∧ i ≤ x.f5.length ∧ Aside0 (∃ Aq cq, NI w2.heap.size (w2.heap.size + 1) X wq (.slice Aq (C2.length + i) cq) (.slice At (c + 1) ct) (.slice Ap (c + 1) cp) (C2 ++ (List.range i).map (fun (i : Nat) => Choice.mk c true i)) ((List.range c).map (timesAt p.f5) ++ [(CH.length : Int)]) ((List.range c).map (placesAt p.f5) ++ [(C2.length : Int)])) ∧ Aside0 (wq.heap[bc]? = some (.cells #[.string x.f0, .int .i64 x.f1, .int .u16 x.f2, .slice A3' x.f3.length c3', .slice A4' x.f4.length c4', .slice A5' x.f5.length c5', .int .i64 x.f6] 96 (0, 0))) ∧ Aside0 (Below w2.heap.size w2 wq)) (fun v _ => x.f5.length - (intOf v).toNat)
        case atStart => exact ⟨0, rfl, by omega, ⟨Aq, cq, by simpa using hN5.out⟩, HY8, HB8⟩
        case round =>
          clear u5 u5'
          clear hN5 HY8 HB8 HY5 HB5
          obtain ⟨i, rfl, hi, hq, hy, hbq⟩ := hrel
          obtain ⟨Aq, cq, hq⟩ := hq.out
          obtain ⟨z15, z16, z17, zf⟩ := hq.cells HXl.out
          by_cases hlt2 : i < x.f5.length
          · replace hq := Aside0.mk hq
            have h1000 := (hsm.out.all x (List.mem_of_getElem? hx.out))
            have hlq : ((C2 ++ (List.range i).map (fun (i : Nat) => Choice.mk c true i)).length + 1) * 24 ≤ 140737488355328 := by
              simp only [List.length_append, List.length_map, List.length_range]
              have h1 := hL2.out
              omega
            replace hlq := Aside0.mk hlq
            replace h1000 := Aside0.mk h1000
            go_wp2_with (first | ((with_reducible refine gate_builtin (b := .append) (xs := #[.tmp 80, .tmp 84]) rfl ?_); at_builtin; refine Kd.R_append kChoice (w0 := _) (W := _) (w2.heap.size + 1) rfl (.tmp 80) (.tmp 84) 77 42 (.agg #[.int .i64 0, .bool false, .int .i64 0]) 24 rfl Tryz.underlying77 infoChoice rfl (by decide) (by omega) _ (C2 ++ (List.range i).map (fun (i : Nat) => Choice.mk c true i)) (Choice.mk c true i) [.int .i64 c, .bool true, .int .i64 i] (fun _ => True) (fun _ => False) rfl rfl (kChoice_mkM _ _ _ _) (fun _ hk => hk.elim) (fun _ _ => trivial) hq.out.rc (Below.refl _ _) hq.out.size hlq.out ?_; intro v1 w6 hR6 hb6 hg6 hat6; obtain ⟨Av6, cv6, hv⟩ := Kd.R_slice hR6; simp only [List.length_append, List.length_map, List.length_range, List.length_singleton] at hv; subst hv; have hN6 := Aside0.mk (NI.ch_ hq.out hR6 hg6); have hbx6 := keep_typed hg6 (Kd.R_typed hq.out.rc) hq.out.box (by decide); have y15 : w6.cell? ⟨w2.heap.size, 15, none⟩ = some (.slice Aq (C2.length + i) cq) := (blk_cell hbx6 15).trans (by simp [HXl.out]); have f15 : w6.frozen? ⟨w2.heap.size, 15, none⟩ = false := blk_frozen hbx6 15; have HY6 := Aside0.mk (keep_typed hg6 (Kd.R_typed hq.out.rc) hy.out (by decide)); have HB6 := Aside0.mk (hbq.out.trans (hb6.mono (Nat.le_succ _))); clear hR6 hb6 hg6 hat6 hbx6))
            clear y15 f15 z15 z16 z17 zf
            go_roundw
            case rel =>
              rw [HXl.out] at hN6
              refine ⟨i + 1, by go_num, by omega, ⟨Av6, cv6, ?_⟩, ⟨blk_far (p := ⟨w2.heap.size, 15, none⟩) HY6.out (by exact hne) _⟩, ⟨HB6.out.setCell (p := ⟨w2.heap.size, 15, none⟩) (Nat.le_refl _) _⟩⟩
              have hN7 := hN6.out
              rw [List.append_assoc, show (List.range i).map (fun (i : Nat) => Choice.mk c true i) ++ [Choice.mk c true i] = (List.range (i + 1)).map (fun (i : Nat) => Choice.mk c true i) from by rw [List.range_succ, List.map_append]; rfl] at hN7
              exact hN7
            case measure => simp [intOf]; omega
          obtain rfl : i = x.f5.length := by omega
          clear z15 z16 z17 zf
          replace hq := Aside0.mk hq
          have hsp := Aside0.mk (blockAt_some hx.out)
          go_wp2_with fail
          go_roundw
          case rel =>
            refine ⟨c + 1, by go_num, by omega, ⟨.slice Aq (C2.length + x.f5.length) cq, .slice At (c + 1) ct, .slice Ap (c + 1) cp, ?_⟩, hbq⟩
            have h9 := hq.out
            rw [choicesTo_succ, hsp.out, blockOf, ← List.append_assoc, ← hCH.out, ← hC2.out, List.range_succ, List.map_append, List.map_append]
            simp only [List.map_cons, List.map_nil]
            have e1 : timesAt p.f5 c = (CH.length : Int) := by rw [timesAt, ← hCH.out]
            have e2 : placesAt p.f5 c = (C2.length : Int) := by rw [placesAt, ← hCH.out, hx.out, hn2.out]
            rw [e1, e2]
            exact h9
          case measure => simp [intOf]; omega
    · obtain rfl : c = p.f5.length := by omega
      have HB3 := Aside0.mk (HB2.out.trans (hb.out.mono HB2.out.size))
      clear q7
      go_wp2_with fail
      go_ret
      refine ⟨⟨fun h => (by cases h), fun _ => ⟨w2.heap.size, rfl, ?_⟩⟩, HB3.out⟩
      obtain ⟨vch, vti, vpl, hN⟩ := hN.out
      obtain ⟨A15, c15, rfl, l15, g15⟩ := Kd.R_reads hN.rc
      obtain ⟨A16, c16, rfl, l16, g16⟩ := Kd.R_reads hN.rt
      obtain ⟨A17, c17, rfl, l17, g17⟩ := Kd.R_reads hN.rp
      refine ⟨_, ⟨X, [_, _, _], rfl, ?_, ⟨[_], [_, _], rfl, ⟨A15, c15, rfl, l15, g15⟩, ⟨[_], [_], rfl, ⟨A16, c16, rfl, l16, g16⟩, ⟨A17, c17, rfl, l17, g17⟩⟩⟩⟩, hN.box⟩
      rw [HX.out]
      exact kProblem.K_below hb.out HK2.out
end Go.Proofs.YthalgemkblkhgaaGreat
