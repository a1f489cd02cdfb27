/- lit.Map.Seats: which plan literals are of. -/
import Derived.Test.YthalgemkblkhgaaGreatQSeatRow
import Derived.Test.YthalgemkblkhgaaGreatQEnv
namespace Go.Proofs.YthalgemkblkhgaaGreat
open Go.Proofs Go.RowKit Go.Proofs.YthalgemkblkhgaaGreatW.PrintWords Go.Proofs.YthalgemkblkhgaaGreatW.PrintLast
set_option linter.unusedVariables false
set_option linter.unusedSimpArgs false

def SeatsEnd (o : Option (List Seat)) (base : Nat) (e : Ending) (w' : World) : Prop :=
  (o = none → e = .returned (.tuple #[.slice none 0 0, .bool false])) ∧ ∀ a, o = some a → ∃ A c, e = .returned (.tuple #[.slice A a.length c, .bool true]) ∧ SeatR w' base (.slice A a.length c) a
theorem drop_at {l : List Int} {i : Nat} {x : Int} (h : l[i]? = some x) : l.drop i = x :: l.drop (i + 1) := by
  obtain ⟨hl, rfl⟩ := List.getElem?_eq_some_iff.1 h
  exact List.drop_eq_getElem_cons hl
theorem whatOf_mem {m : Map} {x : Int} {y : Choice} (h : whatOf m x = (y, true)) : y ∈ m.f1 := by
  have : whatIn m.f1 x = (y, true) := h
  have h2 := whatIn_mem (L := m.f1) (n := x) (by rw [this])
  rwa [this] at h2
theorem step_skip {L : List Choice} {acc : List Seat} {x : Int} {r : List Int} (h : ¬ ((whatIn L x).2 = true ∧ 0 ≤ x)) : seatsFrom L acc (x :: r) = seatsFrom L acc r := by rw [seatsFrom, if_neg h]
theorem step_none {L : List Choice} {acc : List Seat} {x : Int} {r : List Int} {y : Choice} (h : whatIn L x = (y, true)) (h0 : 0 ≤ x) (hh : 0 ≤ hasAt acc y ∧ hasAt acc y ≠ y.f2) : seatsFrom L acc (x :: r) = none := by
  rw [seatsFrom, if_pos ⟨by rw [h], h0⟩, h, if_pos hh]
theorem step_give {L : List Choice} {acc : List Seat} {x : Int} {r : List Int} {y : Choice} (h : whatIn L x = (y, true)) (h0 : 0 ≤ x) (hh : ¬ (0 ≤ hasAt acc y ∧ hasAt acc y ≠ y.f2)) : seatsFrom L acc (x :: r) = seatsFrom L (give acc y) r := by
  rw [seatsFrom, if_pos ⟨by rw [h], h0⟩, h, if_neg hh]
set_option maxRecDepth 100000 in
set_option maxHeartbeats 8000000 in
theorem seats_calls (p : Problem) (hp : wfProblem p) (hok : problemOk p = true) (hsm : Small p) (hm : MOk (mapOf p)) (b : Nat) (w : World) (hM : MBox w b (mapOf p)) (l : List Int) (hl : ∀ x ∈ l, wfInt .i64 x) (A : Option Addr) (c : Nat) (hA : (Kd.int .i64).C w A l.length l) :
    Calls Tryz.prog 29 #[.pointer (some ⟨b, 0, none⟩), .slice A l.length c] w fun e w' => SeatsEnd (seatsFrom (choices p.f5) (List.replicate p.f5.length noSeat) l) w.heap.size e w' ∧ Below w.heap.size w w' := by
  obtain ⟨pcs, hK, h15, hcell⟩ := hM.problem
  have hlt := World.block_lt_of_cell? w _ (hcell 0 _ (List.getElem?_eq_getElem (by omega)))
  have hmx := Kd.C_max hA
  have HM := Aside0.mk hM
  have HA := Aside0.mk hA
  have HL := Aside0.mk hl
  have HK := Aside0.mk hK
  have hcell := Aside0.mk hcell
  have hmok := Aside0.mk hm
  have hu1 := Tryz.underlying40
  have hu5 := Tryz.underlying103
  have hu6 := Tryz.underlying42
  have hn5 := hsm.n
  clear hM hA hl hK hm
  go_enter Tryz.func29, Tryz.ntmps29
  go_wp2_with (refine gate_ (.load 40 (.tmp 16)) rfl ?_; refine load_ev2 (by rfl) _ _ rfl b pcs _ rfl hcell.out hu1 rfl (by rw [h15]; exact infoProblem) ?_)
  have hc0 := empty_calls p hp pcs w HK.out
  rw [emptyOf_ok hok, List.length_replicate] at hc0
  refine hc0.mono ?_
  clear hc0
  rintro e w1 ⟨⟨A1, c1, rfl, hR⟩, hb1⟩
  have hR := Aside0.mk hR
  have hb1 := Aside0.mk hb1
  clear hok
  have hlen0 : Aside0 ((List.replicate p.f5.length noSeat).length = p.f5.length) := ⟨List.length_replicate⟩
  go_wp2_with fail
  go_loopw [21] (fun v wr => ∃ (i : Nat) (acc : List Seat), v = .int .i64 i ∧ i ≤ l.length ∧ Aside0 (seatsFrom (choices p.f5) acc (l.drop i) = seatsFrom (choices p.f5) (List.replicate p.f5.length noSeat) l) ∧ Aside0 (acc.length = p.f5.length) ∧ Aside0 (SeatR wr w.heap.size (.slice A1 p.f5.length c1) acc) ∧ Aside0 (Below w.heap.size w wr)) (fun v _ => l.length - (intOf v).toNat)
  case atStart => exact ⟨0, _, rfl, by omega, ⟨by rw [List.drop_zero]⟩, hlen0, hR, hb1⟩
  case round =>
    clear hR hb1 hlen0
    obtain ⟨i, acc, rfl, hi, hq, hlen, hR, hb⟩ := hrel
    by_cases hlt1 : i < l.length
    rotate_left
    · obtain rfl : i = l.length := by omega
      go_wp2_with fail
      go_ret2
      refine ⟨⟨fun h => ?_, fun a h => ?_⟩, hb.out⟩
      · rw [← hq.out, List.drop_length, seatsFrom] at h
        cases h
      · rw [← hq.out, List.drop_length, seatsFrom] at h
        cases h
        rw [hlen.out]
        exact ⟨_, _, rfl, hR.out⟩
    obtain ⟨x, hx⟩ : ∃ x, l[i]? = some x := ⟨_, List.getElem?_eq_getElem hlt1⟩
    obtain ⟨ax, rfl, e1⟩ := el_int (Kd.C_below HA.out hb.out) i x hx
    have HX := Aside0.mk hx
    have hwx := Aside0.mk (HL.out x (List.mem_of_getElem? hx))
    clear hx
    go_wp2_with fail
    clear e1
    obtain ⟨⟨⟨y0, y1, y2⟩, k⟩, hr⟩ : ∃ r, whatOf (mapOf p) x = r := ⟨_, rfl⟩
    refine (what_calls (mapOf p) hmok.out b _ (HM.out.below hb.out) x hwx.out _ hr).mono ?_
    rintro e w3 ⟨he, hb3⟩
    change e = Ending.returned (.tuple #[.agg #[.int .i64 y0, .bool y1, .int .i64 y2], .bool k]) at he
    subst he
    have hb3 := Aside0.mk hb3
    cases k
    · have hsk : Aside0 (¬ ((whatIn (choices p.f5) x).2 = true ∧ 0 ≤ x)) := ⟨fun h => by
        have h2 : whatIn (choices p.f5) x = _ := hr
        rw [h2] at h
        exact absurd h.1 (by simp)⟩
      replace hr := Aside0.mk hr
      go_wp2_with fail
      go_roundw
      case rel => exact ⟨i + 1, acc, by go_num, by omega, ⟨by rw [← hq.out, drop_at HX.out, step_skip hsk.out]⟩, hlen, ⟨hR.out.on (below_alloc hb3.out _)⟩, ⟨below_alloc (bthen hb.out hb3.out (Nat.le_refl _)) _⟩⟩
      case measure => simp [intOf]; omega
    by_cases hx0 : x < 0
    · have hsk : Aside0 (¬ ((whatIn (choices p.f5) x).2 = true ∧ 0 ≤ x)) := ⟨fun h => by omega⟩
      replace hr := Aside0.mk hr
      go_wp2_with fail
      go_roundw
      case rel => exact ⟨i + 1, acc, by go_num, by omega, ⟨by rw [← hq.out, drop_at HX.out, step_skip hsk.out]⟩, hlen, ⟨hR.out.on (below_alloc hb3.out _)⟩, ⟨below_alloc (bthen hb.out hb3.out (Nat.le_refl _)) _⟩⟩
      case measure => simp [intOf]; omega
    have hy := (fair_choices p.f5).at_ _ (whatOf_mem hr)
    have hr2 : Aside0 (whatIn (choices p.f5) x = (⟨y0, y1, y2⟩, true)) := ⟨hr⟩
    simp only at hy
    obtain ⟨c0, rfl⟩ : ∃ c0 : Nat, y0 = c0 := ⟨y0.toNat, by omega⟩
    have hc0 : c0 < p.f5.length := by omega
    obtain ⟨s, hs⟩ : ∃ s, acc[c0]? = some s := ⟨_, List.getElem?_eq_getElem (by rw [hlen.out]; exact hc0)⟩
    have hR3 := hR.out.on (below_alloc hb3.out (.cells #[.int .i64 c0, .bool y1, .int .i64 y2] 42))
    obtain ⟨g, hA1, hg1, hg2, hlz, hg4, e0, e1⟩ := hR3.at_ hs
    clear hlz
    obtain ⟨ad, had⟩ : ∃ ad : Addr, ad = ⟨g, 0, none⟩ := ⟨_, rfl⟩
    rw [← had] at hA1
    obtain rfl := hA1
    have hx0' : decide (x < 0) = false := decide_eq_false hx0
    have hh : Aside0 (hasAt acc ⟨c0, y1, y2⟩ = seatAt s y1) := ⟨hasAt_some (y := ⟨c0, y1, y2⟩) hs⟩
    have hgv : Aside0 (give acc ⟨c0, y1, y2⟩ = acc.set c0 (seatPut s y1 y2)) := ⟨by show (match acc[(c0 : Int).toNat]? with | some s => acc.set (c0 : Int).toNat (seatPut s y1 y2) | none => acc) = _; rw [Int.toNat_natCast, hs]⟩
    have hy2 := hy.2.2
    replace hr := Aside0.mk hr
    replace hs := Aside0.mk hs
    replace hR3 := Aside0.mk hR3
    have hgne : g ≠ w3.heap.size := by have := (hR.out.at_ hs.out); obtain ⟨g', h1, _, h2, _⟩ := this; rw [had] at h1; cases h1; have := hb3.out.size; omega
    replace had := Aside0.mk had
    have z2 := (blk_cell (blk_new w3 (.cells #[.int .i64 c0, .bool y1, .int .i64 y2] 42)) 2).trans (show _ = some (Value.int .i64 y2) from rfl)
    replace hgne := Aside0.mk hgne
    clear hy
    cases y1
    · skip
      have E : (w3.alloc (.cells #[.int .i64 c0, .bool false, .int .i64 y2] 42)).cell? (ad.add (c0 * 2)) = some (.int .i64 s.f0) := by rw [had.out, add_plain]; exact e0
      have F : (w3.alloc (.cells #[.int .i64 c0, .bool false, .int .i64 y2] 42)).frozen? (ad.add (c0 * 2)) = false := by rw [had.out, add_plain]; exact hg4 _
      clear e0 e1 hg4
      have hh' : Aside0 (hasAt acc ⟨c0, false, y2⟩ = s.f0) := ⟨hh.out.trans rfl⟩
      by_cases h0 : 0 ≤ s.f0
      · have hd : decide (0 ≤ s.f0) = true := decide_eq_true h0
        by_cases h1 : s.f0 = y2
        · have hd1 : (s.f0 != y2) = false := by rw [h1]; simp
          go_wp2_with fail
          refine start_ (n := 12) (S := (fun w' => w'.cell? (ad.add (c0 * 2)) = some (.int .i64 s.f0) ∧ w'.cell? ⟨w3.heap.size, 2, none⟩ = some (.int .i64 y2))) (ds := []) #[false, false, false, false, false, false, false, false, false, false, false, false] (by kernel_rfl) rfl rfl (⟨E, z2⟩) (fun hHeld => ?_)
          refine pure_ (i := 0) (N := some 49) (v := ?_) (a' := ?_) #[true, false, false, false, false, false, false, false, false, false, false, false] rfl rfl (by kernel_rfl) (fun _ _ _ h => h) (Or.inl ⟨by rfl, ?_⟩) ?_ ?_
          rotate_left
          · intro w'
            go_simp
            with_reducible rfl
          rotate_left
          · simp only [Act.put, List.setIfInBounds_toArray, List.set_cons_zero, List.set_cons_succ, i64_w, i32_w]
            rfl
          refine pure_ (i := 1) (N := some 50) (v := ?_) (a' := ?_) #[true, true, false, false, false, false, false, false, false, false, false, false] rfl rfl (by kernel_rfl) (fun _ _ _ h => h) (Or.inl ⟨by rfl, ?_⟩) ?_ ?_
          rotate_left
          · intro w'
            go_simp
            with_reducible rfl
          rotate_left
          · simp only [Act.put, List.setIfInBounds_toArray, List.set_cons_zero, List.set_cons_succ, i64_w, i32_w]
            rfl
          refine take_ (i := 2) (N := some 51) (v := ?_) (a' := ?_) #[true, true, true, false, false, false, false, false, false, false, false, false] rfl rfl (by kernel_rfl) (fun _ _ _ h => h) (Or.inl ⟨by rfl, ?_⟩) hHeld ?_ ?_
          rotate_left
          · rintro w' ⟨s1, s2⟩
            go_simp
            with_reducible rfl
          rotate_left
          · simp only [Act.put, List.setIfInBounds_toArray, List.set_cons_zero, List.set_cons_succ, i64_w, i32_w]
            rfl
          refine pure_ (i := 3) (N := some 52) (v := ?_) (a' := ?_) #[true, true, true, true, false, false, false, false, false, false, false, false] rfl rfl (by kernel_rfl) (fun _ _ _ h => h) (Or.inl ⟨by rfl, ?_⟩) ?_ ?_
          rotate_left
          · intro w'
            go_simp
            with_reducible rfl
          rotate_left
          · simp only [Act.put, List.setIfInBounds_toArray, List.set_cons_zero, List.set_cons_succ, i64_w, i32_w]
            rfl
          refine pure_ (i := 4) (N := some 53) (v := ?_) (a' := ?_) #[true, true, true, true, true, false, false, false, false, false, false, false] rfl rfl (by kernel_rfl) (fun _ _ _ h => h) (Or.inl ⟨by rfl, ?_⟩) ?_ ?_
          rotate_left
          · intro w'
            go_simp
            with_reducible rfl
          rotate_left
          · simp only [Act.put, List.setIfInBounds_toArray, List.set_cons_zero, List.set_cons_succ, i64_w, i32_w]
            rfl
          refine pure_ (i := 5) (N := some 54) (v := ?_) (a' := ?_) #[true, true, true, true, true, true, false, false, false, false, false, false] rfl rfl (by kernel_rfl) (fun _ _ _ h => h) (Or.inl ⟨by rfl, ?_⟩) ?_ ?_
          rotate_left
          · intro w'
            go_simp
            with_reducible rfl
          rotate_left
          · simp only [Act.put, List.setIfInBounds_toArray, List.set_cons_zero, List.set_cons_succ, i64_w, i32_w]
            rfl
          refine pure_ (i := 6) (N := some 55) (v := ?_) (a' := ?_) #[true, true, true, true, true, true, true, false, false, false, false, false] rfl rfl (by kernel_rfl) (fun _ _ _ h => h) (Or.inl ⟨by rfl, ?_⟩) ?_ ?_
          rotate_left
          · intro w'
            go_simp
            with_reducible rfl
          rotate_left
          · simp only [Act.put, List.setIfInBounds_toArray, List.set_cons_zero, List.set_cons_succ, i64_w, i32_w]
            rfl
          refine take_ (i := 7) (N := some 56) (v := ?_) (a' := ?_) #[true, true, true, true, true, true, true, true, false, false, false, false] rfl rfl (by kernel_rfl) (fun _ _ _ h => h) (Or.inl ⟨by rfl, ?_⟩) hHeld ?_ ?_
          rotate_left
          · rintro w' ⟨s1, s2⟩
            go_simp
            with_reducible rfl
          rotate_left
          · simp only [Act.put, List.setIfInBounds_toArray, List.set_cons_zero, List.set_cons_succ, i64_w, i32_w]
            rfl
          refine pure_ (i := 8) (N := some 57) (v := ?_) (a' := ?_) #[true, true, true, true, true, true, true, true, true, false, false, false] rfl rfl (by kernel_rfl) (fun _ _ _ h => h) (Or.inl ⟨by rfl, ?_⟩) ?_ ?_
          rotate_left
          · intro w'
            go_simp
            with_reducible rfl
          rotate_left
          · simp only [Act.put, List.setIfInBounds_toArray, List.set_cons_zero, List.set_cons_succ, i64_w, i32_w]
            rfl
          refine take_ (i := 9) (N := some 58) (v := ?_) (a' := ?_) #[true, true, true, true, true, true, true, true, true, true, false, false] rfl rfl (by kernel_rfl) (fun _ _ _ h => h) (Or.inl ⟨by rfl, ?_⟩) hHeld ?_ ?_
          rotate_left
          · rintro w' ⟨s1, s2⟩
            go_simp
            with_reducible rfl
          rotate_left
          · simp only [Act.put, List.setIfInBounds_toArray, List.set_cons_zero, List.set_cons_succ, i64_w, i32_w]
            rfl
          refine pure_ (i := 10) (N := some 59) (v := ?_) (a' := ?_) #[true, true, true, true, true, true, true, true, true, true, true, false] rfl rfl (by kernel_rfl) (fun _ _ _ h => h) (Or.inl ⟨by rfl, ?_⟩) ?_ ?_
          rotate_left
          · intro w'
            go_simp
            with_reducible rfl
          rotate_left
          · simp only [Act.put, List.setIfInBounds_toArray, List.set_cons_zero, List.set_cons_succ, i64_w, i32_w]
            rfl
          refine pure_ (i := 11) (N := some 60) (v := ?_) (a' := ?_) #[true, true, true, true, true, true, true, true, true, true, true, true] rfl rfl (by kernel_rfl) (fun _ _ _ h => h) (Or.inl ⟨by rfl, ?_⟩) ?_ ?_
          rotate_left
          · intro w'
            go_simp
            with_reducible rfl
          rotate_left
          · simp only [Act.put, List.setIfInBounds_toArray, List.set_cons_zero, List.set_cons_succ, i64_w, i32_w]
            rfl
          refine done_ (by kernel_rfl) ?_
          go_wp2
          go_roundw
          case rel =>
            have hR9 := Kd.R_drew hR3.out
            rw [had.out] at hR9
            have hput := SeatR.put hR9 hs.out false y2
            refine ⟨i + 1, _, by go_num, by omega, ⟨by rw [← hq.out, drop_at HX.out, step_give hr2.out (by omega) (fun q => by rw [hh'.out] at q; exact q.2 h1)]⟩, ⟨by rw [length_give]; exact hlen.out⟩, ⟨?_⟩, ⟨?_⟩⟩
            · rw [hgv.out, had.out, add_plain]
              exact hput.1
            · rw [had.out, add_plain]
              exact (below_drew (below_alloc (bthen hb.out hb3.out (Nat.le_refl _)) _)).setCell hg1 _
          case measure => simp [intOf]; omega
        · have hd1 : (s.f0 != y2) = true := bne_iff_ne.2 h1
          go_wp2_with fail
          refine start_ (n := 12) (S := (fun w' => w'.cell? (ad.add (c0 * 2)) = some (.int .i64 s.f0) ∧ w'.cell? ⟨w3.heap.size, 2, none⟩ = some (.int .i64 y2))) (ds := []) #[false, false, false, false, false, false, false, false, false, false, false, false] (by kernel_rfl) rfl rfl (⟨E, z2⟩) (fun hHeld => ?_)
          refine pure_ (i := 0) (N := some 49) (v := ?_) (a' := ?_) #[true, false, false, false, false, false, false, false, false, false, false, false] rfl rfl (by kernel_rfl) (fun _ _ _ h => h) (Or.inl ⟨by rfl, ?_⟩) ?_ ?_
          rotate_left
          · intro w'
            go_simp
            with_reducible rfl
          rotate_left
          · simp only [Act.put, List.setIfInBounds_toArray, List.set_cons_zero, List.set_cons_succ, i64_w, i32_w]
            rfl
          refine pure_ (i := 1) (N := some 50) (v := ?_) (a' := ?_) #[true, true, false, false, false, false, false, false, false, false, false, false] rfl rfl (by kernel_rfl) (fun _ _ _ h => h) (Or.inl ⟨by rfl, ?_⟩) ?_ ?_
          rotate_left
          · intro w'
            go_simp
            with_reducible rfl
          rotate_left
          · simp only [Act.put, List.setIfInBounds_toArray, List.set_cons_zero, List.set_cons_succ, i64_w, i32_w]
            rfl
          refine take_ (i := 2) (N := some 51) (v := ?_) (a' := ?_) #[true, true, true, false, false, false, false, false, false, false, false, false] rfl rfl (by kernel_rfl) (fun _ _ _ h => h) (Or.inl ⟨by rfl, ?_⟩) hHeld ?_ ?_
          rotate_left
          · rintro w' ⟨s1, s2⟩
            go_simp
            with_reducible rfl
          rotate_left
          · simp only [Act.put, List.setIfInBounds_toArray, List.set_cons_zero, List.set_cons_succ, i64_w, i32_w]
            rfl
          refine pure_ (i := 3) (N := some 52) (v := ?_) (a' := ?_) #[true, true, true, true, false, false, false, false, false, false, false, false] rfl rfl (by kernel_rfl) (fun _ _ _ h => h) (Or.inl ⟨by rfl, ?_⟩) ?_ ?_
          rotate_left
          · intro w'
            go_simp
            with_reducible rfl
          rotate_left
          · simp only [Act.put, List.setIfInBounds_toArray, List.set_cons_zero, List.set_cons_succ, i64_w, i32_w]
            rfl
          refine pure_ (i := 4) (N := some 53) (v := ?_) (a' := ?_) #[true, true, true, true, true, false, false, false, false, false, false, false] rfl rfl (by kernel_rfl) (fun _ _ _ h => h) (Or.inl ⟨by rfl, ?_⟩) ?_ ?_
          rotate_left
          · intro w'
            go_simp
            with_reducible rfl
          rotate_left
          · simp only [Act.put, List.setIfInBounds_toArray, List.set_cons_zero, List.set_cons_succ, i64_w, i32_w]
            rfl
          refine pure_ (i := 5) (N := some 54) (v := ?_) (a' := ?_) #[true, true, true, true, true, true, false, false, false, false, false, false] rfl rfl (by kernel_rfl) (fun _ _ _ h => h) (Or.inl ⟨by rfl, ?_⟩) ?_ ?_
          rotate_left
          · intro w'
            go_simp
            with_reducible rfl
          rotate_left
          · simp only [Act.put, List.setIfInBounds_toArray, List.set_cons_zero, List.set_cons_succ, i64_w, i32_w]
            rfl
          refine pure_ (i := 6) (N := some 55) (v := ?_) (a' := ?_) #[true, true, true, true, true, true, true, false, false, false, false, false] rfl rfl (by kernel_rfl) (fun _ _ _ h => h) (Or.inl ⟨by rfl, ?_⟩) ?_ ?_
          rotate_left
          · intro w'
            go_simp
            with_reducible rfl
          rotate_left
          · simp only [Act.put, List.setIfInBounds_toArray, List.set_cons_zero, List.set_cons_succ, i64_w, i32_w]
            rfl
          refine take_ (i := 7) (N := some 56) (v := ?_) (a' := ?_) #[true, true, true, true, true, true, true, true, false, false, false, false] rfl rfl (by kernel_rfl) (fun _ _ _ h => h) (Or.inl ⟨by rfl, ?_⟩) hHeld ?_ ?_
          rotate_left
          · rintro w' ⟨s1, s2⟩
            go_simp
            with_reducible rfl
          rotate_left
          · simp only [Act.put, List.setIfInBounds_toArray, List.set_cons_zero, List.set_cons_succ, i64_w, i32_w]
            rfl
          refine pure_ (i := 8) (N := some 57) (v := ?_) (a' := ?_) #[true, true, true, true, true, true, true, true, true, false, false, false] rfl rfl (by kernel_rfl) (fun _ _ _ h => h) (Or.inl ⟨by rfl, ?_⟩) ?_ ?_
          rotate_left
          · intro w'
            go_simp
            with_reducible rfl
          rotate_left
          · simp only [Act.put, List.setIfInBounds_toArray, List.set_cons_zero, List.set_cons_succ, i64_w, i32_w]
            rfl
          refine take_ (i := 9) (N := some 58) (v := ?_) (a' := ?_) #[true, true, true, true, true, true, true, true, true, true, false, false] rfl rfl (by kernel_rfl) (fun _ _ _ h => h) (Or.inl ⟨by rfl, ?_⟩) hHeld ?_ ?_
          rotate_left
          · rintro w' ⟨s1, s2⟩
            go_simp
            with_reducible rfl
          rotate_left
          · simp only [Act.put, List.setIfInBounds_toArray, List.set_cons_zero, List.set_cons_succ, i64_w, i32_w]
            rfl
          refine pure_ (i := 10) (N := some 59) (v := ?_) (a' := ?_) #[true, true, true, true, true, true, true, true, true, true, true, false] rfl rfl (by kernel_rfl) (fun _ _ _ h => h) (Or.inl ⟨by rfl, ?_⟩) ?_ ?_
          rotate_left
          · intro w'
            go_simp
            with_reducible rfl
          rotate_left
          · simp only [Act.put, List.setIfInBounds_toArray, List.set_cons_zero, List.set_cons_succ, i64_w, i32_w]
            rfl
          refine pure_ (i := 11) (N := some 60) (v := ?_) (a' := ?_) #[true, true, true, true, true, true, true, true, true, true, true, true] rfl rfl (by kernel_rfl) (fun _ _ _ h => h) (Or.inl ⟨by rfl, ?_⟩) ?_ ?_
          rotate_left
          · intro w'
            go_simp
            with_reducible rfl
          rotate_left
          · simp only [Act.put, List.setIfInBounds_toArray, List.set_cons_zero, List.set_cons_succ, i64_w, i32_w]
            rfl
          refine done_ (by kernel_rfl) ?_
          clear E z2 F
          go_wp2
          go_ret2
          refine ⟨⟨fun _ => rfl, fun a h => ?_⟩, ?_⟩
          · rw [← hq.out, drop_at HX.out, step_none hr2.out (by omega) (by rw [hh'.out]; exact ⟨h0, h1⟩)] at h
            cases h
          · exact below_drew (below_alloc (bthen hb.out hb3.out (Nat.le_refl _)) _)
      · have hd : decide (0 ≤ s.f0) = false := decide_eq_false h0
        go_wp2_with fail
        refine start_ (n := 12) (S := (fun w' => w'.cell? (ad.add (c0 * 2)) = some (.int .i64 s.f0) ∧ w'.cell? ⟨w3.heap.size, 2, none⟩ = some (.int .i64 y2))) (ds := []) #[false, false, false, false, false, false, false, false, false, false, false, false] (by kernel_rfl) rfl rfl (⟨E, z2⟩) (fun hHeld => ?_)
        refine pure_ (i := 0) (N := some 49) (v := ?_) (a' := ?_) #[true, false, false, false, false, false, false, false, false, false, false, false] rfl rfl (by kernel_rfl) (fun _ _ _ h => h) (Or.inl ⟨by rfl, ?_⟩) ?_ ?_
        rotate_left
        · intro w'
          go_simp
          with_reducible rfl
        rotate_left
        · simp only [Act.put, List.setIfInBounds_toArray, List.set_cons_zero, List.set_cons_succ, i64_w, i32_w]
          rfl
        refine pure_ (i := 1) (N := some 50) (v := ?_) (a' := ?_) #[true, true, false, false, false, false, false, false, false, false, false, false] rfl rfl (by kernel_rfl) (fun _ _ _ h => h) (Or.inl ⟨by rfl, ?_⟩) ?_ ?_
        rotate_left
        · intro w'
          go_simp
          with_reducible rfl
        rotate_left
        · simp only [Act.put, List.setIfInBounds_toArray, List.set_cons_zero, List.set_cons_succ, i64_w, i32_w]
          rfl
        refine take_ (i := 2) (N := some 51) (v := ?_) (a' := ?_) #[true, true, true, false, false, false, false, false, false, false, false, false] rfl rfl (by kernel_rfl) (fun _ _ _ h => h) (Or.inl ⟨by rfl, ?_⟩) hHeld ?_ ?_
        rotate_left
        · rintro w' ⟨s1, s2⟩
          go_simp
          with_reducible rfl
        rotate_left
        · simp only [Act.put, List.setIfInBounds_toArray, List.set_cons_zero, List.set_cons_succ, i64_w, i32_w]
          rfl
        refine pure_ (i := 3) (N := some 52) (v := ?_) (a' := ?_) #[true, true, true, true, false, false, false, false, false, false, false, false] rfl rfl (by kernel_rfl) (fun _ _ _ h => h) (Or.inl ⟨by rfl, ?_⟩) ?_ ?_
        rotate_left
        · intro w'
          go_simp
          with_reducible rfl
        rotate_left
        · simp only [Act.put, List.setIfInBounds_toArray, List.set_cons_zero, List.set_cons_succ, i64_w, i32_w]
          rfl
        refine pure_ (i := 4) (N := some 53) (v := ?_) (a' := ?_) #[true, true, true, true, true, false, false, false, false, false, false, false] rfl rfl (by kernel_rfl) (fun _ _ _ h => h) (Or.inl ⟨by rfl, ?_⟩) ?_ ?_
        rotate_left
        · intro w'
          go_simp
          with_reducible rfl
        rotate_left
        · simp only [Act.put, List.setIfInBounds_toArray, List.set_cons_zero, List.set_cons_succ, i64_w, i32_w]
          rfl
        refine pure_ (i := 5) (N := some 54) (v := undef) (a' := ?_) #[true, true, true, true, true, true, false, false, false, false, false, false] rfl rfl (by kernel_rfl) (fun _ _ _ h => h) (Or.inr ⟨by rfl, rfl⟩) ?_ ?_
        rotate_left
        · simp only [Act.put, List.setIfInBounds_toArray, List.set_cons_zero, List.set_cons_succ, i64_w, i32_w]
          rfl
        refine pure_ (i := 6) (N := some 55) (v := undef) (a' := ?_) #[true, true, true, true, true, true, true, false, false, false, false, false] rfl rfl (by kernel_rfl) (fun _ _ _ h => h) (Or.inr ⟨by rfl, rfl⟩) ?_ ?_
        rotate_left
        · simp only [Act.put, List.setIfInBounds_toArray, List.set_cons_zero, List.set_cons_succ, i64_w, i32_w]
          rfl
        refine pure_ (i := 7) (N := some 56) (v := undef) (a' := ?_) #[true, true, true, true, true, true, true, true, false, false, false, false] rfl rfl (by kernel_rfl) (fun _ _ _ h => h) (Or.inr ⟨by rfl, rfl⟩) ?_ ?_
        rotate_left
        · simp only [Act.put, List.setIfInBounds_toArray, List.set_cons_zero, List.set_cons_succ, i64_w, i32_w]
          rfl
        refine pure_ (i := 8) (N := some 57) (v := undef) (a' := ?_) #[true, true, true, true, true, true, true, true, true, false, false, false] rfl rfl (by kernel_rfl) (fun _ _ _ h => h) (Or.inr ⟨by rfl, rfl⟩) ?_ ?_
        rotate_left
        · simp only [Act.put, List.setIfInBounds_toArray, List.set_cons_zero, List.set_cons_succ, i64_w, i32_w]
          rfl
        refine pure_ (i := 9) (N := some 58) (v := undef) (a' := ?_) #[true, true, true, true, true, true, true, true, true, true, false, false] rfl rfl (by kernel_rfl) (fun _ _ _ h => h) (Or.inr ⟨by rfl, rfl⟩) ?_ ?_
        rotate_left
        · simp only [Act.put, List.setIfInBounds_toArray, List.set_cons_zero, List.set_cons_succ, i64_w, i32_w]
          rfl
        refine pure_ (i := 10) (N := some 59) (v := undef) (a' := ?_) #[true, true, true, true, true, true, true, true, true, true, true, false] rfl rfl (by kernel_rfl) (fun _ _ _ h => h) (Or.inr ⟨by rfl, rfl⟩) ?_ ?_
        rotate_left
        · simp only [Act.put, List.setIfInBounds_toArray, List.set_cons_zero, List.set_cons_succ, i64_w, i32_w]
          rfl
        refine pure_ (i := 11) (N := some 60) (v := ?_) (a' := ?_) #[true, true, true, true, true, true, true, true, true, true, true, true] rfl rfl (by kernel_rfl) (fun _ _ _ h => h) (Or.inl ⟨by rfl, ?_⟩) ?_ ?_
        rotate_left
        · intro w'
          go_simp
          with_reducible rfl
        rotate_left
        · simp only [Act.put, List.setIfInBounds_toArray, List.set_cons_zero, List.set_cons_succ, i64_w, i32_w]
          rfl
        refine done_ (by kernel_rfl) ?_
        go_wp2
        go_roundw
        case rel =>
          have hR9 := Kd.R_drew hR3.out
          rw [had.out] at hR9
          have hput := SeatR.put hR9 hs.out false y2
          refine ⟨i + 1, _, by go_num, by omega, ⟨by rw [← hq.out, drop_at HX.out, step_give hr2.out (by omega) (fun q => by rw [hh'.out] at q; omega)]⟩, ⟨by rw [length_give]; exact hlen.out⟩, ⟨?_⟩, ⟨?_⟩⟩
          · rw [hgv.out, had.out, add_plain]
            exact hput.1
          · rw [had.out, add_plain]
            exact (below_drew (below_alloc (bthen hb.out hb3.out (Nat.le_refl _)) _)).setCell hg1 _
        case measure => simp [intOf]; omega
    · skip
      have E : (w3.alloc (.cells #[.int .i64 c0, .bool true, .int .i64 y2] 42)).cell? ⟨(ad.add (c0 * 2)).block, (ad.add (c0 * 2)).off + 1, none⟩ = some (.int .i64 s.f1) := by rw [had.out, add_plain]; exact e1
      have F : (w3.alloc (.cells #[.int .i64 c0, .bool true, .int .i64 y2] 42)).frozen? ⟨(ad.add (c0 * 2)).block, (ad.add (c0 * 2)).off + 1, none⟩ = false := by rw [had.out, add_plain]; exact hg4 _
      clear e0 e1 hg4
      have hh' : Aside0 (hasAt acc ⟨c0, true, y2⟩ = s.f1) := ⟨hh.out.trans rfl⟩
      by_cases h0 : 0 ≤ s.f1
      · have hd : decide (0 ≤ s.f1) = true := decide_eq_true h0
        by_cases h1 : s.f1 = y2
        · have hd1 : (s.f1 != y2) = false := by rw [h1]; simp
          go_wp2_with fail
          refine start_ (n := 12) (S := (fun w' => w'.cell? ⟨(ad.add (c0 * 2)).block, (ad.add (c0 * 2)).off + 1, none⟩ = some (.int .i64 s.f1) ∧ w'.cell? ⟨w3.heap.size, 2, none⟩ = some (.int .i64 y2))) (ds := []) #[false, false, false, false, false, false, false, false, false, false, false, false] (by kernel_rfl) rfl rfl (⟨E, z2⟩) (fun hHeld => ?_)
          refine pure_ (i := 0) (N := some 49) (v := ?_) (a' := ?_) #[true, false, false, false, false, false, false, false, false, false, false, false] rfl rfl (by kernel_rfl) (fun _ _ _ h => h) (Or.inl ⟨by rfl, ?_⟩) ?_ ?_
          rotate_left
          · intro w'
            go_simp
            with_reducible rfl
          rotate_left
          · simp only [Act.put, List.setIfInBounds_toArray, List.set_cons_zero, List.set_cons_succ, i64_w, i32_w]
            rfl
          refine pure_ (i := 1) (N := some 50) (v := ?_) (a' := ?_) #[true, true, false, false, false, false, false, false, false, false, false, false] rfl rfl (by kernel_rfl) (fun _ _ _ h => h) (Or.inl ⟨by rfl, ?_⟩) ?_ ?_
          rotate_left
          · intro w'
            go_simp
            with_reducible rfl
          rotate_left
          · simp only [Act.put, List.setIfInBounds_toArray, List.set_cons_zero, List.set_cons_succ, i64_w, i32_w]
            rfl
          refine take_ (i := 2) (N := some 51) (v := ?_) (a' := ?_) #[true, true, true, false, false, false, false, false, false, false, false, false] rfl rfl (by kernel_rfl) (fun _ _ _ h => h) (Or.inl ⟨by rfl, ?_⟩) hHeld ?_ ?_
          rotate_left
          · rintro w' ⟨s1, s2⟩
            go_simp
            with_reducible rfl
          rotate_left
          · simp only [Act.put, List.setIfInBounds_toArray, List.set_cons_zero, List.set_cons_succ, i64_w, i32_w]
            rfl
          refine pure_ (i := 3) (N := some 52) (v := ?_) (a' := ?_) #[true, true, true, true, false, false, false, false, false, false, false, false] rfl rfl (by kernel_rfl) (fun _ _ _ h => h) (Or.inl ⟨by rfl, ?_⟩) ?_ ?_
          rotate_left
          · intro w'
            go_simp
            with_reducible rfl
          rotate_left
          · simp only [Act.put, List.setIfInBounds_toArray, List.set_cons_zero, List.set_cons_succ, i64_w, i32_w]
            rfl
          refine pure_ (i := 4) (N := some 53) (v := ?_) (a' := ?_) #[true, true, true, true, true, false, false, false, false, false, false, false] rfl rfl (by kernel_rfl) (fun _ _ _ h => h) (Or.inl ⟨by rfl, ?_⟩) ?_ ?_
          rotate_left
          · intro w'
            go_simp
            with_reducible rfl
          rotate_left
          · simp only [Act.put, List.setIfInBounds_toArray, List.set_cons_zero, List.set_cons_succ, i64_w, i32_w]
            rfl
          refine pure_ (i := 5) (N := some 54) (v := ?_) (a' := ?_) #[true, true, true, true, true, true, false, false, false, false, false, false] rfl rfl (by kernel_rfl) (fun _ _ _ h => h) (Or.inl ⟨by rfl, ?_⟩) ?_ ?_
          rotate_left
          · intro w'
            go_simp
            with_reducible rfl
          rotate_left
          · simp only [Act.put, List.setIfInBounds_toArray, List.set_cons_zero, List.set_cons_succ, i64_w, i32_w]
            rfl
          refine pure_ (i := 6) (N := some 55) (v := ?_) (a' := ?_) #[true, true, true, true, true, true, true, false, false, false, false, false] rfl rfl (by kernel_rfl) (fun _ _ _ h => h) (Or.inl ⟨by rfl, ?_⟩) ?_ ?_
          rotate_left
          · intro w'
            go_simp
            with_reducible rfl
          rotate_left
          · simp only [Act.put, List.setIfInBounds_toArray, List.set_cons_zero, List.set_cons_succ, i64_w, i32_w]
            rfl
          refine take_ (i := 7) (N := some 56) (v := ?_) (a' := ?_) #[true, true, true, true, true, true, true, true, false, false, false, false] rfl rfl (by kernel_rfl) (fun _ _ _ h => h) (Or.inl ⟨by rfl, ?_⟩) hHeld ?_ ?_
          rotate_left
          · rintro w' ⟨s1, s2⟩
            go_simp
            with_reducible rfl
          rotate_left
          · simp only [Act.put, List.setIfInBounds_toArray, List.set_cons_zero, List.set_cons_succ, i64_w, i32_w]
            rfl
          refine pure_ (i := 8) (N := some 57) (v := ?_) (a' := ?_) #[true, true, true, true, true, true, true, true, true, false, false, false] rfl rfl (by kernel_rfl) (fun _ _ _ h => h) (Or.inl ⟨by rfl, ?_⟩) ?_ ?_
          rotate_left
          · intro w'
            go_simp
            with_reducible rfl
          rotate_left
          · simp only [Act.put, List.setIfInBounds_toArray, List.set_cons_zero, List.set_cons_succ, i64_w, i32_w]
            rfl
          refine take_ (i := 9) (N := some 58) (v := ?_) (a' := ?_) #[true, true, true, true, true, true, true, true, true, true, false, false] rfl rfl (by kernel_rfl) (fun _ _ _ h => h) (Or.inl ⟨by rfl, ?_⟩) hHeld ?_ ?_
          rotate_left
          · rintro w' ⟨s1, s2⟩
            go_simp
            with_reducible rfl
          rotate_left
          · simp only [Act.put, List.setIfInBounds_toArray, List.set_cons_zero, List.set_cons_succ, i64_w, i32_w]
            rfl
          refine pure_ (i := 10) (N := some 59) (v := ?_) (a' := ?_) #[true, true, true, true, true, true, true, true, true, true, true, false] rfl rfl (by kernel_rfl) (fun _ _ _ h => h) (Or.inl ⟨by rfl, ?_⟩) ?_ ?_
          rotate_left
          · intro w'
            go_simp
            with_reducible rfl
          rotate_left
          · simp only [Act.put, List.setIfInBounds_toArray, List.set_cons_zero, List.set_cons_succ, i64_w, i32_w]
            rfl
          refine pure_ (i := 11) (N := some 60) (v := ?_) (a' := ?_) #[true, true, true, true, true, true, true, true, true, true, true, true] rfl rfl (by kernel_rfl) (fun _ _ _ h => h) (Or.inl ⟨by rfl, ?_⟩) ?_ ?_
          rotate_left
          · intro w'
            go_simp
            with_reducible rfl
          rotate_left
          · simp only [Act.put, List.setIfInBounds_toArray, List.set_cons_zero, List.set_cons_succ, i64_w, i32_w]
            rfl
          refine done_ (by kernel_rfl) ?_
          go_wp2
          go_roundw
          case rel =>
            have hR9 := Kd.R_drew hR3.out
            rw [had.out] at hR9
            have hput := SeatR.put hR9 hs.out true y2
            refine ⟨i + 1, _, by go_num, by omega, ⟨by rw [← hq.out, drop_at HX.out, step_give hr2.out (by omega) (fun q => by rw [hh'.out] at q; exact q.2 h1)]⟩, ⟨by rw [length_give]; exact hlen.out⟩, ⟨?_⟩, ⟨?_⟩⟩
            · rw [hgv.out, had.out, add_plain]
              exact hput.1
            · rw [had.out, add_plain]
              exact (below_drew (below_alloc (bthen hb.out hb3.out (Nat.le_refl _)) _)).setCell hg1 _
          case measure => simp [intOf]; omega
        · have hd1 : (s.f1 != y2) = true := bne_iff_ne.2 h1
          go_wp2_with fail
          refine start_ (n := 12) (S := (fun w' => w'.cell? ⟨(ad.add (c0 * 2)).block, (ad.add (c0 * 2)).off + 1, none⟩ = some (.int .i64 s.f1) ∧ w'.cell? ⟨w3.heap.size, 2, none⟩ = some (.int .i64 y2))) (ds := []) #[false, false, false, false, false, false, false, false, false, false, false, false] (by kernel_rfl) rfl rfl (⟨E, z2⟩) (fun hHeld => ?_)
          refine pure_ (i := 0) (N := some 49) (v := ?_) (a' := ?_) #[true, false, false, false, false, false, false, false, false, false, false, false] rfl rfl (by kernel_rfl) (fun _ _ _ h => h) (Or.inl ⟨by rfl, ?_⟩) ?_ ?_
          rotate_left
          · intro w'
            go_simp
            with_reducible rfl
          rotate_left
          · simp only [Act.put, List.setIfInBounds_toArray, List.set_cons_zero, List.set_cons_succ, i64_w, i32_w]
            rfl
          refine pure_ (i := 1) (N := some 50) (v := ?_) (a' := ?_) #[true, true, false, false, false, false, false, false, false, false, false, false] rfl rfl (by kernel_rfl) (fun _ _ _ h => h) (Or.inl ⟨by rfl, ?_⟩) ?_ ?_
          rotate_left
          · intro w'
            go_simp
            with_reducible rfl
          rotate_left
          · simp only [Act.put, List.setIfInBounds_toArray, List.set_cons_zero, List.set_cons_succ, i64_w, i32_w]
            rfl
          refine take_ (i := 2) (N := some 51) (v := ?_) (a' := ?_) #[true, true, true, false, false, false, false, false, false, false, false, false] rfl rfl (by kernel_rfl) (fun _ _ _ h => h) (Or.inl ⟨by rfl, ?_⟩) hHeld ?_ ?_
          rotate_left
          · rintro w' ⟨s1, s2⟩
            go_simp
            with_reducible rfl
          rotate_left
          · simp only [Act.put, List.setIfInBounds_toArray, List.set_cons_zero, List.set_cons_succ, i64_w, i32_w]
            rfl
          refine pure_ (i := 3) (N := some 52) (v := ?_) (a' := ?_) #[true, true, true, true, false, false, false, false, false, false, false, false] rfl rfl (by kernel_rfl) (fun _ _ _ h => h) (Or.inl ⟨by rfl, ?_⟩) ?_ ?_
          rotate_left
          · intro w'
            go_simp
            with_reducible rfl
          rotate_left
          · simp only [Act.put, List.setIfInBounds_toArray, List.set_cons_zero, List.set_cons_succ, i64_w, i32_w]
            rfl
          refine pure_ (i := 4) (N := some 53) (v := ?_) (a' := ?_) #[true, true, true, true, true, false, false, false, false, false, false, false] rfl rfl (by kernel_rfl) (fun _ _ _ h => h) (Or.inl ⟨by rfl, ?_⟩) ?_ ?_
          rotate_left
          · intro w'
            go_simp
            with_reducible rfl
          rotate_left
          · simp only [Act.put, List.setIfInBounds_toArray, List.set_cons_zero, List.set_cons_succ, i64_w, i32_w]
            rfl
          refine pure_ (i := 5) (N := some 54) (v := ?_) (a' := ?_) #[true, true, true, true, true, true, false, false, false, false, false, false] rfl rfl (by kernel_rfl) (fun _ _ _ h => h) (Or.inl ⟨by rfl, ?_⟩) ?_ ?_
          rotate_left
          · intro w'
            go_simp
            with_reducible rfl
          rotate_left
          · simp only [Act.put, List.setIfInBounds_toArray, List.set_cons_zero, List.set_cons_succ, i64_w, i32_w]
            rfl
          refine pure_ (i := 6) (N := some 55) (v := ?_) (a' := ?_) #[true, true, true, true, true, true, true, false, false, false, false, false] rfl rfl (by kernel_rfl) (fun _ _ _ h => h) (Or.inl ⟨by rfl, ?_⟩) ?_ ?_
          rotate_left
          · intro w'
            go_simp
            with_reducible rfl
          rotate_left
          · simp only [Act.put, List.setIfInBounds_toArray, List.set_cons_zero, List.set_cons_succ, i64_w, i32_w]
            rfl
          refine take_ (i := 7) (N := some 56) (v := ?_) (a' := ?_) #[true, true, true, true, true, true, true, true, false, false, false, false] rfl rfl (by kernel_rfl) (fun _ _ _ h => h) (Or.inl ⟨by rfl, ?_⟩) hHeld ?_ ?_
          rotate_left
          · rintro w' ⟨s1, s2⟩
            go_simp
            with_reducible rfl
          rotate_left
          · simp only [Act.put, List.setIfInBounds_toArray, List.set_cons_zero, List.set_cons_succ, i64_w, i32_w]
            rfl
          refine pure_ (i := 8) (N := some 57) (v := ?_) (a' := ?_) #[true, true, true, true, true, true, true, true, true, false, false, false] rfl rfl (by kernel_rfl) (fun _ _ _ h => h) (Or.inl ⟨by rfl, ?_⟩) ?_ ?_
          rotate_left
          · intro w'
            go_simp
            with_reducible rfl
          rotate_left
          · simp only [Act.put, List.setIfInBounds_toArray, List.set_cons_zero, List.set_cons_succ, i64_w, i32_w]
            rfl
          refine take_ (i := 9) (N := some 58) (v := ?_) (a' := ?_) #[true, true, true, true, true, true, true, true, true, true, false, false] rfl rfl (by kernel_rfl) (fun _ _ _ h => h) (Or.inl ⟨by rfl, ?_⟩) hHeld ?_ ?_
          rotate_left
          · rintro w' ⟨s1, s2⟩
            go_simp
            with_reducible rfl
          rotate_left
          · simp only [Act.put, List.setIfInBounds_toArray, List.set_cons_zero, List.set_cons_succ, i64_w, i32_w]
            rfl
          refine pure_ (i := 10) (N := some 59) (v := ?_) (a' := ?_) #[true, true, true, true, true, true, true, true, true, true, true, false] rfl rfl (by kernel_rfl) (fun _ _ _ h => h) (Or.inl ⟨by rfl, ?_⟩) ?_ ?_
          rotate_left
          · intro w'
            go_simp
            with_reducible rfl
          rotate_left
          · simp only [Act.put, List.setIfInBounds_toArray, List.set_cons_zero, List.set_cons_succ, i64_w, i32_w]
            rfl
          refine pure_ (i := 11) (N := some 60) (v := ?_) (a' := ?_) #[true, true, true, true, true, true, true, true, true, true, true, true] rfl rfl (by kernel_rfl) (fun _ _ _ h => h) (Or.inl ⟨by rfl, ?_⟩) ?_ ?_
          rotate_left
          · intro w'
            go_simp
            with_reducible rfl
          rotate_left
          · simp only [Act.put, List.setIfInBounds_toArray, List.set_cons_zero, List.set_cons_succ, i64_w, i32_w]
            rfl
          refine done_ (by kernel_rfl) ?_
          clear E z2 F
          go_wp2
          go_ret2
          refine ⟨⟨fun _ => rfl, fun a h => ?_⟩, ?_⟩
          · rw [← hq.out, drop_at HX.out, step_none hr2.out (by omega) (by rw [hh'.out]; exact ⟨h0, h1⟩)] at h
            cases h
          · exact below_drew (below_alloc (bthen hb.out hb3.out (Nat.le_refl _)) _)
      · have hd : decide (0 ≤ s.f1) = false := decide_eq_false h0
        go_wp2_with fail
        refine start_ (n := 12) (S := (fun w' => w'.cell? ⟨(ad.add (c0 * 2)).block, (ad.add (c0 * 2)).off + 1, none⟩ = some (.int .i64 s.f1) ∧ w'.cell? ⟨w3.heap.size, 2, none⟩ = some (.int .i64 y2))) (ds := []) #[false, false, false, false, false, false, false, false, false, false, false, false] (by kernel_rfl) rfl rfl (⟨E, z2⟩) (fun hHeld => ?_)
        refine pure_ (i := 0) (N := some 49) (v := ?_) (a' := ?_) #[true, false, false, false, false, false, false, false, false, false, false, false] rfl rfl (by kernel_rfl) (fun _ _ _ h => h) (Or.inl ⟨by rfl, ?_⟩) ?_ ?_
        rotate_left
        · intro w'
          go_simp
          with_reducible rfl
        rotate_left
        · simp only [Act.put, List.setIfInBounds_toArray, List.set_cons_zero, List.set_cons_succ, i64_w, i32_w]
          rfl
        refine pure_ (i := 1) (N := some 50) (v := ?_) (a' := ?_) #[true, true, false, false, false, false, false, false, false, false, false, false] rfl rfl (by kernel_rfl) (fun _ _ _ h => h) (Or.inl ⟨by rfl, ?_⟩) ?_ ?_
        rotate_left
        · intro w'
          go_simp
          with_reducible rfl
        rotate_left
        · simp only [Act.put, List.setIfInBounds_toArray, List.set_cons_zero, List.set_cons_succ, i64_w, i32_w]
          rfl
        refine take_ (i := 2) (N := some 51) (v := ?_) (a' := ?_) #[true, true, true, false, false, false, false, false, false, false, false, false] rfl rfl (by kernel_rfl) (fun _ _ _ h => h) (Or.inl ⟨by rfl, ?_⟩) hHeld ?_ ?_
        rotate_left
        · rintro w' ⟨s1, s2⟩
          go_simp
          with_reducible rfl
        rotate_left
        · simp only [Act.put, List.setIfInBounds_toArray, List.set_cons_zero, List.set_cons_succ, i64_w, i32_w]
          rfl
        refine pure_ (i := 3) (N := some 52) (v := ?_) (a' := ?_) #[true, true, true, true, false, false, false, false, false, false, false, false] rfl rfl (by kernel_rfl) (fun _ _ _ h => h) (Or.inl ⟨by rfl, ?_⟩) ?_ ?_
        rotate_left
        · intro w'
          go_simp
          with_reducible rfl
        rotate_left
        · simp only [Act.put, List.setIfInBounds_toArray, List.set_cons_zero, List.set_cons_succ, i64_w, i32_w]
          rfl
        refine pure_ (i := 4) (N := some 53) (v := ?_) (a' := ?_) #[true, true, true, true, true, false, false, false, false, false, false, false] rfl rfl (by kernel_rfl) (fun _ _ _ h => h) (Or.inl ⟨by rfl, ?_⟩) ?_ ?_
        rotate_left
        · intro w'
          go_simp
          with_reducible rfl
        rotate_left
        · simp only [Act.put, List.setIfInBounds_toArray, List.set_cons_zero, List.set_cons_succ, i64_w, i32_w]
          rfl
        refine pure_ (i := 5) (N := some 54) (v := undef) (a' := ?_) #[true, true, true, true, true, true, false, false, false, false, false, false] rfl rfl (by kernel_rfl) (fun _ _ _ h => h) (Or.inr ⟨by rfl, rfl⟩) ?_ ?_
        rotate_left
        · simp only [Act.put, List.setIfInBounds_toArray, List.set_cons_zero, List.set_cons_succ, i64_w, i32_w]
          rfl
        refine pure_ (i := 6) (N := some 55) (v := undef) (a' := ?_) #[true, true, true, true, true, true, true, false, false, false, false, false] rfl rfl (by kernel_rfl) (fun _ _ _ h => h) (Or.inr ⟨by rfl, rfl⟩) ?_ ?_
        rotate_left
        · simp only [Act.put, List.setIfInBounds_toArray, List.set_cons_zero, List.set_cons_succ, i64_w, i32_w]
          rfl
        refine pure_ (i := 7) (N := some 56) (v := undef) (a' := ?_) #[true, true, true, true, true, true, true, true, false, false, false, false] rfl rfl (by kernel_rfl) (fun _ _ _ h => h) (Or.inr ⟨by rfl, rfl⟩) ?_ ?_
        rotate_left
        · simp only [Act.put, List.setIfInBounds_toArray, List.set_cons_zero, List.set_cons_succ, i64_w, i32_w]
          rfl
        refine pure_ (i := 8) (N := some 57) (v := undef) (a' := ?_) #[true, true, true, true, true, true, true, true, true, false, false, false] rfl rfl (by kernel_rfl) (fun _ _ _ h => h) (Or.inr ⟨by rfl, rfl⟩) ?_ ?_
        rotate_left
        · simp only [Act.put, List.setIfInBounds_toArray, List.set_cons_zero, List.set_cons_succ, i64_w, i32_w]
          rfl
        refine pure_ (i := 9) (N := some 58) (v := undef) (a' := ?_) #[true, true, true, true, true, true, true, true, true, true, false, false] rfl rfl (by kernel_rfl) (fun _ _ _ h => h) (Or.inr ⟨by rfl, rfl⟩) ?_ ?_
        rotate_left
        · simp only [Act.put, List.setIfInBounds_toArray, List.set_cons_zero, List.set_cons_succ, i64_w, i32_w]
          rfl
        refine pure_ (i := 10) (N := some 59) (v := undef) (a' := ?_) #[true, true, true, true, true, true, true, true, true, true, true, false] rfl rfl (by kernel_rfl) (fun _ _ _ h => h) (Or.inr ⟨by rfl, rfl⟩) ?_ ?_
        rotate_left
        · simp only [Act.put, List.setIfInBounds_toArray, List.set_cons_zero, List.set_cons_succ, i64_w, i32_w]
          rfl
        refine pure_ (i := 11) (N := some 60) (v := ?_) (a' := ?_) #[true, true, true, true, true, true, true, true, true, true, true, true] rfl rfl (by kernel_rfl) (fun _ _ _ h => h) (Or.inl ⟨by rfl, ?_⟩) ?_ ?_
        rotate_left
        · intro w'
          go_simp
          with_reducible rfl
        rotate_left
        · simp only [Act.put, List.setIfInBounds_toArray, List.set_cons_zero, List.set_cons_succ, i64_w, i32_w]
          rfl
        refine done_ (by kernel_rfl) ?_
        go_wp2
        go_roundw
        case rel =>
          have hR9 := Kd.R_drew hR3.out
          rw [had.out] at hR9
          have hput := SeatR.put hR9 hs.out true y2
          refine ⟨i + 1, _, by go_num, by omega, ⟨by rw [← hq.out, drop_at HX.out, step_give hr2.out (by omega) (fun q => by rw [hh'.out] at q; omega)]⟩, ⟨by rw [length_give]; exact hlen.out⟩, ⟨?_⟩, ⟨?_⟩⟩
          · rw [hgv.out, had.out, add_plain]
            exact hput.1
          · rw [had.out, add_plain]
            exact (below_drew (below_alloc (bthen hb.out hb3.out (Nat.le_refl _)) _)).setCell hg1 _
        case measure => simp [intOf]; omega
end Go.Proofs.YthalgemkblkhgaaGreat
