/- The document's Sort of chapter 27. -/
import Derived.Test.YtoiiekhgoefalaaGreatQRefS
namespace Go.Proofs.YtoiiekhgoefalaaGreat
open Go.Proofs Go.RowKit Go.Proofs.YtoiiekhgoefalaaGreatW.PrintWords Go.Proofs.YtoiiekhgoefalaaGreatW.PrintLast
set_option linter.unusedVariables false
set_option linter.unusedSimpArgs false

abbrev kJ : Kd Int := Kd.int .i64
/-- Two rows of numbers of one's own. -/
structure TwoR (base : Nat) (w : World) (vo vn : Value) (ol nl : List Int) : Prop where
  ro : kJ.R 3 w base (fun k => some k ≠ vn.ownBlock) vo ol
  rn : kJ.R 3 w base (fun k => some k ≠ vo.ownBlock) vn nl
  size : base ≤ w.heap.size
section
variable {base : Nat} {w w1 : World} {vo vn v1 : Value} {ol nl nl' : List Int}
theorem TwoR.on (h : TwoR base w vo vn ol nl) (hb : Below w.heap.size w w1) : TwoR base w1 vo vn ol nl := ⟨Kd.R_below h.ro hb, Kd.R_below h.rn hb, Nat.le_trans h.size hb.size⟩
theorem TwoR.app (h : TwoR base w vo vn ol nl) (hr : kJ.R 3 w1 base (fun k => some k ≠ vo.ownBlock) v1 nl') (hg : w.grownBy w1 vn.ownBlock) (hat : v1.ownBlock = vn.ownBlock ∨ ∃ b, v1.ownBlock = some b ∧ w.heap.size ≤ b) : TwoR base w1 vo v1 ol nl' :=
  ⟨Kd.R_mono (Kd.R_grown (Kd.R_bound h.ro) hg (fun k hk => hk.1)) (fun k hk => by
    rcases hat with e | ⟨b, e, hb⟩
    · rw [e]; exact hk.1
    · rw [e]
      intro q
      injection q with q
      have := hk.2.2.1
      omega), hr, Nat.le_trans h.size hg.size⟩
theorem TwoR.C (h : TwoR base w vo vn ol nl) : ∃ A c, vo = .slice A ol.length c ∧ kJ.C w A ol.length ol := by
  obtain ⟨A, c, h1, _, h2⟩ := Kd.R_reads h.ro
  exact ⟨A, c, h1, h2⟩
/-- A row of no element in a new block. -/
theorem r_made {ok : Nat → Prop} (hb : base ≤ w.heap.size) (hok : ok w.heap.size) : kJ.R 3 (w.alloc (.cells #[] 3)) base ok (.slice (some ⟨w.heap.size, 0, none⟩) 0 0) [] :=
  Kd.R_of_own (World.ownsRow_made w #[] 0 hb (Nat.zero_le _) rfl) (fun k hk => by
    have : w.heap.size = k := by simpa [Value.ownBlock] using hk
    exact this ▸ hok)
theorem twoR_new (h : kJ.R 3 w base (fun _ => True) vo ol) (hs : base ≤ w.heap.size) : TwoR base (w.alloc (.cells #[] 3)) vo (.slice (some ⟨w.heap.size, 0, none⟩) 0 0) ol [] :=
  ⟨Kd.R_mono (Kd.R_below (Kd.R_bound h) (below_alloc (Below.refl _ _) _)) (fun k hk => by
    have := hk.2.2.1
    intro q
    simp [Value.ownBlock] at q
    omega), r_made hs (by
    intro q
    have := Kd.R_lt h _ q.symm
    omega), by simp; omega⟩
end
theorem infoJ : (Tryz.prog.info? 3).map (fun i => (i.zero, i.size, i.bytes)) = some (some (.int .i64 0), 1, 8) := by kernel_rfl
def preA (l : List Int) (i : Nat) : List Int := (l.take i).foldl stepA []
theorem preA_succ {l : List Int} {i : Nat} {x : Int} (h : l[i]? = some x) : preA l (i + 1) = stepA (preA l i) x := by
  rw [preA, List.take_add_one, h, List.foldl_append]
  rfl
theorem length_preA (l : List Int) (i : Nat) : (preA l i).length ≤ i := by
  have := length_foldA (l.take i) []
  rw [List.length_take] at this
  unfold preA
  have h2 : (([] : List Int)).length = 0 := rfl
  omega
theorem mem_preA {l : List Int} {i : Nat} {y : Int} (h : y ∈ preA l i) : y ∈ l := by
  have := ((foldA (l.take i) [] List.Pairwise.nil (by simp)).2 y).1 h
  rcases this with q | q
  · cases q
  · exact List.mem_of_mem_take q.1
theorem take_while {p : Int → Bool} : ∀ (l : List Int) (k : Nat), k ≤ l.length → (∀ y ∈ l.take k, p y = true) → (∀ y, l[k]? = some y → p y = false) → l.takeWhile p = l.take k ∧ l.dropWhile p = l.drop k
  | [], 0, _, _, _ => by simp
  | [], k + 1, h, _, _ => by simp at h
  | a :: l, 0, _, _, h => by
    have := h a rfl
    simp [List.takeWhile_cons, List.dropWhile_cons, this]
  | a :: l, k + 1, hk, h1, h2 => by
    have ha : p a = true := h1 a (by simp)
    obtain ⟨e1, e2⟩ := take_while l k (by simpa using hk) (fun y hy => h1 y (by simp [hy])) (fun y hy => h2 y (by simpa using hy))
    simp [List.takeWhile_cons, List.dropWhile_cons, ha, e1, e2]

set_option maxRecDepth 100000 in
set_option maxHeartbeats 8000000 in
theorem refsort_calls (l : List Int) (hl : ∀ x ∈ l, wfInt .i64 x) (hn : l.length ≤ 1000000000) (A : Option Addr) (c : Nat) (w : World) (hA : kJ.C w A l.length l) :
    Calls Tryz.prog 12 #[.slice A l.length c] w fun e w' => (∃ A' c', e = .returned (.slice A' (sortA l).length c') ∧ kJ.C w' A' (sortA l).length (sortA l)) ∧ Below w.heap.size w w' := by
  have HL := Aside0.mk hl
  have HC := Aside0.mk hA
  clear hl hA
  go_enter Tryz.func12, Tryz.ntmps12
  go_wp2_with fail
  go_loopw [3, 4] (fun v3 v4 wr => ∃ i : Nat, v4 = .int .i64 i ∧ i ≤ l.length ∧ Aside0 (kJ.R 3 wr w.heap.size (fun _ => True) v3 (preA l i)) ∧ Aside0 (Below w.heap.size w wr)) (fun _ v _ => l.length - (intOf v).toNat)
  case atStart => exact ⟨0, rfl, by omega, ⟨r_made (Nat.le_refl _) trivial⟩, ⟨below_alloc (Below.refl _ _) _⟩⟩
  case round =>
    obtain ⟨i, rfl, hi, hR, hb⟩ := hrel
    by_cases hlt : i < l.length
    · obtain ⟨x, hx⟩ : ∃ x, l[i]? = some x := ⟨_, List.getElem?_eq_getElem hlt⟩
      obtain ⟨ad, rfl, e1⟩ := el_int (Kd.C_below HC.out hb.out) i x hx
      have HX := Aside0.mk hx
      have hpl := length_preA l i
      have hsp := Aside0.mk (preA_succ hx)
      obtain ⟨out, hout⟩ : ∃ out, out = preA l i := ⟨_, rfl⟩
      rw [← hout] at hR hpl
      have HO := Aside0.mk hout
      obtain ⟨Ao, co, rfl, hco, hCo⟩ := Kd.R_reads hR.out
      have HCo := Aside0.mk hCo
      clear hx hout hCo
      by_cases hx0 : x = 0
      · subst hx0
        go_wp2_with fail
        go_roundw
        case rel => exact ⟨i + 1, by go_num, by omega, ⟨by rw [hsp.out, stepA, if_pos (.inl rfl), ← HO.out]; exact hR.out⟩, hb⟩
        case measure => simp [intOf]; omega
      have hd : (x == 0) = false := beq_eq_false_iff_ne.2 hx0
      have hx0' := Aside0.mk hx0
      cases hmem : decide (x ∈ out)
      rotate_left
      · replace hmem := Aside0.mk hmem
        go_wp2_with fail
        (refine (hass_ref out Ao _ co rfl x _ HCo.out _ hmem.out).mono ?_; rintro e w' ⟨rfl, rfl⟩; go_wp2_with fail)
        go_roundw
        case rel => exact ⟨i + 1, by go_num, by omega, ⟨by rw [hsp.out, stepA, if_pos (.inr (by rw [← HO.out]; exact of_decide_eq_true hmem.out)), ← HO.out]; exact hR.out⟩, hb⟩
        case measure => simp [intOf]; omega
      replace hmem := Aside0.mk hmem
      go_wp2_with fail
      (refine (hass_ref out Ao _ co rfl x _ HCo.out _ hmem.out).mono ?_; rintro e w' ⟨rfl, rfl⟩; go_wp2_with fail)
      go_loopw [5, 6] (fun v5 v6 wq => ∃ k : Nat, v6 = .int .i64 k ∧ k ≤ out.length ∧ Aside0 (TwoR w.heap.size wq (.slice Ao out.length co) v5 out (out.take k)) ∧ Aside0 (∀ y ∈ out.take k, ahead y x = true) ∧ Aside0 (Below w.heap.size w wq)) (fun _ v _ => out.length - (intOf v).toNat)
      case atStart => exact ⟨0, rfl, by omega, ⟨by rw [List.take_zero]; exact twoR_new hR.out hb.out.size⟩, ⟨fun y hy => by simp at hy⟩, ⟨below_alloc hb.out _⟩⟩
      case round =>
        clear e1
        obtain ⟨k, rfl, hk, hT, hah, hbw⟩ := hrel
        obtain ⟨nl, hnl⟩ : ∃ nl, nl = out.take k := ⟨_, rfl⟩
        rw [← hnl] at hT hah
        have hnk : nl.length ≤ 1000000000 := by rw [hnl, List.length_take]; omega
        obtain ⟨An, cn, rfl⟩ := Kd.R_slice hT.out.rn
        replace hnl := Aside0.mk hnl
        have hcap : Aside0 ((nl.length + 1) * 8 ≤ 140737488355328) := ⟨by omega⟩
        have hoc : Aside0 (out.length ≤ 1000000000) := ⟨by omega⟩
        obtain ⟨ad', had', e3⟩ := el_int (Kd.C_below HC.out hbw.out) i x HX.out
        cases had'
        by_cases hlt2 : k < out.length
        · obtain ⟨z, hz⟩ : ∃ z, out[k]? = some z := ⟨_, List.getElem?_eq_getElem hlt2⟩
          have hCo2 := Kd.R_reads' hT.out.ro
          obtain ⟨ad2, rfl, e2⟩ := el_int hCo2.2.2 k z hz
          have HZ := Aside0.mk hz
          have hwz := Aside0.mk (HL.out z (mem_preA (i := i) (by rw [← HO.out]; exact List.mem_of_getElem? hz)))
          have hwx := Aside0.mk (HL.out x (List.mem_of_getElem? HX.out))
          clear hCo2 hz
          cases haz : ahead z x
          rotate_left
          · replace haz := Aside0.mk haz
            go_wp2
            refine start_ (n := 15) (S := (fun w' => w'.cell? (ad2.add k) = some (.int .i64 z) ∧ w'.cell? (ad.add i) = some (.int .i64 x))) (ds := []) #[false, false, false, false, false, false, false, false, false, false, false, false, false, false, false] (by kernel_rfl) rfl rfl (⟨e2, e3⟩) (fun hHeld => ?_)
            refine pure_ (i := 0) (N := some 28) (v := ?_) (a' := ?_) #[true, false, false, false, false, false, false, false, false, false, false, false, false, false, false] rfl rfl (by kernel_rfl) (fun _ _ _ h => h) (Or.inl ⟨by rfl, ?_⟩) ?_ ?_
            rotate_left
            · intro w'
              go_simp
              with_reducible rfl
            rotate_left
            · simp only [Act.put, List.setIfInBounds_toArray, List.set_cons_zero, List.set_cons_succ, i64_w, i32_w]
              rfl
            refine pure_ (i := 1) (N := some 29) (v := ?_) (a' := ?_) #[true, true, false, false, false, false, false, false, false, false, false, false, false, false, false] rfl rfl (by kernel_rfl) (fun _ _ _ h => h) (Or.inl ⟨by rfl, ?_⟩) ?_ ?_
            rotate_left
            · intro w'
              go_simp
              with_reducible rfl
            rotate_left
            · simp only [Act.put, List.setIfInBounds_toArray, List.set_cons_zero, List.set_cons_succ, i64_w, i32_w]
              rfl
            refine pure_ (i := 2) (N := some 30) (v := ?_) (a' := ?_) #[true, true, true, false, false, false, false, false, false, false, false, false, false, false, false] rfl rfl (by kernel_rfl) (fun _ _ _ h => h) (Or.inl ⟨by rfl, ?_⟩) ?_ ?_
            rotate_left
            · intro w'
              go_simp
              with_reducible rfl
            rotate_left
            · simp only [Act.put, List.setIfInBounds_toArray, List.set_cons_zero, List.set_cons_succ, i64_w, i32_w]
              rfl
            refine pure_ (i := 3) (N := some 31) (v := ?_) (a' := ?_) #[true, true, true, true, false, false, false, false, false, false, false, false, false, false, false] rfl rfl (by kernel_rfl) (fun _ _ _ h => h) (Or.inl ⟨by rfl, ?_⟩) ?_ ?_
            rotate_left
            · intro w'
              go_simp
              with_reducible rfl
            rotate_left
            · simp only [Act.put, List.setIfInBounds_toArray, List.set_cons_zero, List.set_cons_succ, i64_w, i32_w]
              rfl
            refine pure_ (i := 4) (N := some 32) (v := ?_) (a' := ?_) #[true, true, true, true, true, false, false, false, false, false, false, false, false, false, false] rfl rfl (by kernel_rfl) (fun _ _ _ h => h) (Or.inl ⟨by rfl, ?_⟩) ?_ ?_
            rotate_left
            · intro w'
              go_simp
              with_reducible rfl
            rotate_left
            · simp only [Act.put, List.setIfInBounds_toArray, List.set_cons_zero, List.set_cons_succ, i64_w, i32_w]
              rfl
            refine pure_ (i := 5) (N := some 33) (v := ?_) (a' := ?_) #[true, true, true, true, true, true, false, false, false, false, false, false, false, false, false] rfl rfl (by kernel_rfl) (fun _ _ _ h => h) (Or.inl ⟨by rfl, ?_⟩) ?_ ?_
            rotate_left
            · intro w'
              go_simp
              with_reducible rfl
            rotate_left
            · simp only [Act.put, List.setIfInBounds_toArray, List.set_cons_zero, List.set_cons_succ, i64_w, i32_w]
              rfl
            refine pure_ (i := 6) (N := some 34) (v := ?_) (a' := ?_) #[true, true, true, true, true, true, true, false, false, false, false, false, false, false, false] rfl rfl (by kernel_rfl) (fun _ _ _ h => h) (Or.inl ⟨by rfl, ?_⟩) ?_ ?_
            rotate_left
            · intro w'
              go_simp
              with_reducible rfl
            rotate_left
            · simp only [Act.put, List.setIfInBounds_toArray, List.set_cons_zero, List.set_cons_succ, i64_w, i32_w]
              rfl
            refine pure_ (i := 7) (N := some 35) (v := ?_) (a' := ?_) #[true, true, true, true, true, true, true, true, false, false, false, false, false, false, false] rfl rfl (by kernel_rfl) (fun _ _ _ h => h) (Or.inl ⟨by rfl, ?_⟩) ?_ ?_
            rotate_left
            · intro w'
              go_simp
              with_reducible rfl
            rotate_left
            · simp only [Act.put, List.setIfInBounds_toArray, List.set_cons_zero, List.set_cons_succ, i64_w, i32_w]
              rfl
            refine take_ (i := 8) (N := some 36) (v := ?_) (a' := ?_) #[true, true, true, true, true, true, true, true, true, false, false, false, false, false, false] rfl rfl (by kernel_rfl) (fun _ _ _ h => h) (Or.inl ⟨by rfl, ?_⟩) hHeld ?_ ?_
            rotate_left
            · rintro w' ⟨s1, s2⟩
              go_simp
              with_reducible rfl
            rotate_left
            · simp only [Act.put, List.setIfInBounds_toArray, List.set_cons_zero, List.set_cons_succ, i64_w, i32_w]
              rfl
            refine pure_ (i := 9) (N := some 37) (v := ?_) (a' := ?_) #[true, true, true, true, true, true, true, true, true, true, false, false, false, false, false] rfl rfl (by kernel_rfl) (fun _ _ _ h => h) (Or.inl ⟨by rfl, ?_⟩) ?_ ?_
            rotate_left
            · intro w'
              go_simp
              with_reducible rfl
            rotate_left
            · simp only [Act.put, List.setIfInBounds_toArray, List.set_cons_zero, List.set_cons_succ, i64_w, i32_w]
              rfl
            refine pure_ (i := 10) (N := some 38) (v := ?_) (a' := ?_) #[true, true, true, true, true, true, true, true, true, true, true, false, false, false, false] rfl rfl (by kernel_rfl) (fun _ _ _ h => h) (Or.inl ⟨by rfl, ?_⟩) ?_ ?_
            rotate_left
            · intro w'
              go_simp
              with_reducible rfl
            rotate_left
            · simp only [Act.put, List.setIfInBounds_toArray, List.set_cons_zero, List.set_cons_succ, i64_w, i32_w]
              rfl
            refine pure_ (i := 11) (N := some 39) (v := ?_) (a' := ?_) #[true, true, true, true, true, true, true, true, true, true, true, true, false, false, false] rfl rfl (by kernel_rfl) (fun _ _ _ h => h) (Or.inl ⟨by rfl, ?_⟩) ?_ ?_
            rotate_left
            · intro w'
              go_simp
              with_reducible rfl
            rotate_left
            · simp only [Act.put, List.setIfInBounds_toArray, List.set_cons_zero, List.set_cons_succ, i64_w, i32_w]
              rfl
            refine take_ (i := 12) (N := some 40) (v := ?_) (a' := ?_) #[true, true, true, true, true, true, true, true, true, true, true, true, true, false, false] rfl rfl (by kernel_rfl) (fun _ _ _ h => h) (Or.inl ⟨by rfl, ?_⟩) hHeld ?_ ?_
            rotate_left
            · rintro w' ⟨s1, s2⟩
              go_simp
              with_reducible rfl
            rotate_left
            · simp only [Act.put, List.setIfInBounds_toArray, List.set_cons_zero, List.set_cons_succ, i64_w, i32_w]
              rfl
            refine one_ (i := 13) (N := some 41) #[true, true, true, true, true, true, true, true, true, true, true, true, true, true, false] rfl rfl (by kernel_rfl) (by decide) (fun K hK => ?_)
            refine goes_ Tryz.func10 (by kernel_rfl) rfl #[.int .i64 z, .int .i64 x] (by rfl) rfl rfl (by (try simp only [List.map_toArray, List.map_cons, List.map_nil]); first | done | rfl) ?_
            refine (ahead_ref z x hwz.out hwx.out _ haz.out _).mono ?_
            rintro e w1 ⟨rfl, rfl⟩
            refine ⟨_, rfl, ?_⟩
            refine hK.out _ _ ⟨e2, e3⟩ (fun hHeld => ?_)
            clear hK K
            refine norm_ (a' := ?_) ?_ ?_
            rotate_left
            · show Act.put _ (some 41) _ = _
              simp only [Act.put, List.setIfInBounds_toArray, List.set_cons_zero, List.set_cons_succ, i64_w, i32_w]
              rfl
            refine pure_ (i := 14) (N := some 42) (v := ?_) (a' := ?_) #[true, true, true, true, true, true, true, true, true, true, true, true, true, true, true] rfl rfl (by kernel_rfl) (fun _ _ _ h => h) (Or.inl ⟨by rfl, ?_⟩) ?_ ?_
            rotate_left
            · intro w'
              go_simp
              with_reducible rfl
            rotate_left
            · simp only [Act.put, List.setIfInBounds_toArray, List.set_cons_zero, List.set_cons_succ, i64_w, i32_w]
              rfl
            refine done_ (by kernel_rfl) ?_
            have hT0 := hT
            replace hT := Aside0.mk (hT.out.on (below_drew (Below.refl _ _)))
            replace hbw := Aside0.mk (below_drew hbw.out)
            go_wp2_with (first | ((with_reducible refine gate_builtin (b := .append) (xs := #[.tmp 43, .tmp 48]) rfl ?_); at_builtin; refine Kd.R_append kJ (w0 := _) (W := _) w.heap.size rfl (.tmp 43) (.tmp 48) 22 3 (.int .i64 0) 8 rfl Tryz.underlying22 infoJ rfl (by decide) (by omega) _ (nl) (z) [.int .i64 (z)] (fun k => some k ≠ (Value.slice (some ad2) out.length co).ownBlock) (fun _ => False) rfl rfl rfl (fun _ hk => hk.elim) (Kd.fresh' (Kd.R_lt hT.out.ro)) hT.out.rn (Below.refl _ _) hT.out.size (hcap.out) ?_; intro v1 w6 hR6 hb6 hg6 hat6; obtain ⟨An2, cn2, hv⟩ := Kd.R_slice hR6; subst hv; have hT2 := Aside0.mk (TwoR.app hT.out hR6 hg6 hat6); have HB6 := Aside0.mk (hbw.out.trans hb6); clear hR6 hb6 hg6 hat6))
            go_roundw
            case rel =>
              refine ⟨k + 1, by go_num, by omega, ⟨by rw [List.take_add_one, HZ.out, ← hnl.out]; have h7 := hT2.out; rw [List.length_append] at h7; exact h7⟩, ⟨fun y hy => ?_⟩, HB6⟩
              rw [List.take_add_one, HZ.out, ← hnl.out] at hy
              rcases List.mem_append.1 hy with q | q
              · exact hah.out y q
              · simp at q; subst q; exact haz.out
            case measure => simp [intOf]; omega
          · replace haz := Aside0.mk haz
            have htk := Aside0.mk (take_while (p := fun y => ahead y x) out k hk (fun y hy => hah.out y (by rw [hnl.out]; exact hy)) (fun y hy => by rw [HZ.out] at hy; cases hy; exact haz.out))
            go_wp2
            refine start_ (n := 15) (S := (fun w' => w'.cell? (ad2.add k) = some (.int .i64 z) ∧ w'.cell? (ad.add i) = some (.int .i64 x))) (ds := []) #[false, false, false, false, false, false, false, false, false, false, false, false, false, false, false] (by kernel_rfl) rfl rfl (⟨e2, e3⟩) (fun hHeld => ?_)
            refine pure_ (i := 0) (N := some 28) (v := ?_) (a' := ?_) #[true, false, false, false, false, false, false, false, false, false, false, false, false, false, false] rfl rfl (by kernel_rfl) (fun _ _ _ h => h) (Or.inl ⟨by rfl, ?_⟩) ?_ ?_
            rotate_left
            · intro w'
              go_simp
              with_reducible rfl
            rotate_left
            · simp only [Act.put, List.setIfInBounds_toArray, List.set_cons_zero, List.set_cons_succ, i64_w, i32_w]
              rfl
            refine pure_ (i := 1) (N := some 29) (v := ?_) (a' := ?_) #[true, true, false, false, false, false, false, false, false, false, false, false, false, false, false] rfl rfl (by kernel_rfl) (fun _ _ _ h => h) (Or.inl ⟨by rfl, ?_⟩) ?_ ?_
            rotate_left
            · intro w'
              go_simp
              with_reducible rfl
            rotate_left
            · simp only [Act.put, List.setIfInBounds_toArray, List.set_cons_zero, List.set_cons_succ, i64_w, i32_w]
              rfl
            refine pure_ (i := 2) (N := some 30) (v := ?_) (a' := ?_) #[true, true, true, false, false, false, false, false, false, false, false, false, false, false, false] rfl rfl (by kernel_rfl) (fun _ _ _ h => h) (Or.inl ⟨by rfl, ?_⟩) ?_ ?_
            rotate_left
            · intro w'
              go_simp
              with_reducible rfl
            rotate_left
            · simp only [Act.put, List.setIfInBounds_toArray, List.set_cons_zero, List.set_cons_succ, i64_w, i32_w]
              rfl
            refine pure_ (i := 3) (N := some 31) (v := ?_) (a' := ?_) #[true, true, true, true, false, false, false, false, false, false, false, false, false, false, false] rfl rfl (by kernel_rfl) (fun _ _ _ h => h) (Or.inl ⟨by rfl, ?_⟩) ?_ ?_
            rotate_left
            · intro w'
              go_simp
              with_reducible rfl
            rotate_left
            · simp only [Act.put, List.setIfInBounds_toArray, List.set_cons_zero, List.set_cons_succ, i64_w, i32_w]
              rfl
            refine pure_ (i := 4) (N := some 32) (v := ?_) (a' := ?_) #[true, true, true, true, true, false, false, false, false, false, false, false, false, false, false] rfl rfl (by kernel_rfl) (fun _ _ _ h => h) (Or.inl ⟨by rfl, ?_⟩) ?_ ?_
            rotate_left
            · intro w'
              go_simp
              with_reducible rfl
            rotate_left
            · simp only [Act.put, List.setIfInBounds_toArray, List.set_cons_zero, List.set_cons_succ, i64_w, i32_w]
              rfl
            refine pure_ (i := 5) (N := some 33) (v := ?_) (a' := ?_) #[true, true, true, true, true, true, false, false, false, false, false, false, false, false, false] rfl rfl (by kernel_rfl) (fun _ _ _ h => h) (Or.inl ⟨by rfl, ?_⟩) ?_ ?_
            rotate_left
            · intro w'
              go_simp
              with_reducible rfl
            rotate_left
            · simp only [Act.put, List.setIfInBounds_toArray, List.set_cons_zero, List.set_cons_succ, i64_w, i32_w]
              rfl
            refine pure_ (i := 6) (N := some 34) (v := ?_) (a' := ?_) #[true, true, true, true, true, true, true, false, false, false, false, false, false, false, false] rfl rfl (by kernel_rfl) (fun _ _ _ h => h) (Or.inl ⟨by rfl, ?_⟩) ?_ ?_
            rotate_left
            · intro w'
              go_simp
              with_reducible rfl
            rotate_left
            · simp only [Act.put, List.setIfInBounds_toArray, List.set_cons_zero, List.set_cons_succ, i64_w, i32_w]
              rfl
            refine pure_ (i := 7) (N := some 35) (v := ?_) (a' := ?_) #[true, true, true, true, true, true, true, true, false, false, false, false, false, false, false] rfl rfl (by kernel_rfl) (fun _ _ _ h => h) (Or.inl ⟨by rfl, ?_⟩) ?_ ?_
            rotate_left
            · intro w'
              go_simp
              with_reducible rfl
            rotate_left
            · simp only [Act.put, List.setIfInBounds_toArray, List.set_cons_zero, List.set_cons_succ, i64_w, i32_w]
              rfl
            refine take_ (i := 8) (N := some 36) (v := ?_) (a' := ?_) #[true, true, true, true, true, true, true, true, true, false, false, false, false, false, false] rfl rfl (by kernel_rfl) (fun _ _ _ h => h) (Or.inl ⟨by rfl, ?_⟩) hHeld ?_ ?_
            rotate_left
            · rintro w' ⟨s1, s2⟩
              go_simp
              with_reducible rfl
            rotate_left
            · simp only [Act.put, List.setIfInBounds_toArray, List.set_cons_zero, List.set_cons_succ, i64_w, i32_w]
              rfl
            refine pure_ (i := 9) (N := some 37) (v := ?_) (a' := ?_) #[true, true, true, true, true, true, true, true, true, true, false, false, false, false, false] rfl rfl (by kernel_rfl) (fun _ _ _ h => h) (Or.inl ⟨by rfl, ?_⟩) ?_ ?_
            rotate_left
            · intro w'
              go_simp
              with_reducible rfl
            rotate_left
            · simp only [Act.put, List.setIfInBounds_toArray, List.set_cons_zero, List.set_cons_succ, i64_w, i32_w]
              rfl
            refine pure_ (i := 10) (N := some 38) (v := ?_) (a' := ?_) #[true, true, true, true, true, true, true, true, true, true, true, false, false, false, false] rfl rfl (by kernel_rfl) (fun _ _ _ h => h) (Or.inl ⟨by rfl, ?_⟩) ?_ ?_
            rotate_left
            · intro w'
              go_simp
              with_reducible rfl
            rotate_left
            · simp only [Act.put, List.setIfInBounds_toArray, List.set_cons_zero, List.set_cons_succ, i64_w, i32_w]
              rfl
            refine pure_ (i := 11) (N := some 39) (v := ?_) (a' := ?_) #[true, true, true, true, true, true, true, true, true, true, true, true, false, false, false] rfl rfl (by kernel_rfl) (fun _ _ _ h => h) (Or.inl ⟨by rfl, ?_⟩) ?_ ?_
            rotate_left
            · intro w'
              go_simp
              with_reducible rfl
            rotate_left
            · simp only [Act.put, List.setIfInBounds_toArray, List.set_cons_zero, List.set_cons_succ, i64_w, i32_w]
              rfl
            refine take_ (i := 12) (N := some 40) (v := ?_) (a' := ?_) #[true, true, true, true, true, true, true, true, true, true, true, true, true, false, false] rfl rfl (by kernel_rfl) (fun _ _ _ h => h) (Or.inl ⟨by rfl, ?_⟩) hHeld ?_ ?_
            rotate_left
            · rintro w' ⟨s1, s2⟩
              go_simp
              with_reducible rfl
            rotate_left
            · simp only [Act.put, List.setIfInBounds_toArray, List.set_cons_zero, List.set_cons_succ, i64_w, i32_w]
              rfl
            refine one_ (i := 13) (N := some 41) #[true, true, true, true, true, true, true, true, true, true, true, true, true, true, false] rfl rfl (by kernel_rfl) (by decide) (fun K hK => ?_)
            refine goes_ Tryz.func10 (by kernel_rfl) rfl #[.int .i64 z, .int .i64 x] (by rfl) rfl rfl (by (try simp only [List.map_toArray, List.map_cons, List.map_nil]); first | done | rfl) ?_
            refine (ahead_ref z x hwz.out hwx.out _ haz.out _).mono ?_
            rintro e w1 ⟨rfl, rfl⟩
            refine ⟨_, rfl, ?_⟩
            refine hK.out _ _ ⟨e2, e3⟩ (fun hHeld => ?_)
            clear hK K
            refine norm_ (a' := ?_) ?_ ?_
            rotate_left
            · show Act.put _ (some 41) _ = _
              simp only [Act.put, List.setIfInBounds_toArray, List.set_cons_zero, List.set_cons_succ, i64_w, i32_w]
              rfl
            refine pure_ (i := 14) (N := some 42) (v := ?_) (a' := ?_) #[true, true, true, true, true, true, true, true, true, true, true, true, true, true, true] rfl rfl (by kernel_rfl) (fun _ _ _ h => h) (Or.inl ⟨by rfl, ?_⟩) ?_ ?_
            rotate_left
            · intro w'
              go_simp
              with_reducible rfl
            rotate_left
            · simp only [Act.put, List.setIfInBounds_toArray, List.set_cons_zero, List.set_cons_succ, i64_w, i32_w]
              rfl
            refine done_ (by kernel_rfl) ?_
            have hT0 := hT
            replace hT := Aside0.mk (hT.out.on (below_drew (Below.refl _ _)))
            replace hbw := Aside0.mk (below_drew hbw.out)
            have e3' := e3
            go_wp2_with (first | ((with_reducible refine gate_builtin (b := .append) (xs := #[.tmp 52, .tmp 57]) rfl ?_); at_builtin; refine Kd.R_append kJ (w0 := _) (W := _) w.heap.size rfl (.tmp 52) (.tmp 57) 22 3 (.int .i64 0) 8 rfl Tryz.underlying22 infoJ rfl (by decide) (by omega) _ (nl) (x) [.int .i64 (x)] (fun k => some k ≠ (Value.slice (some ad2) out.length co).ownBlock) (fun _ => False) rfl rfl rfl (fun _ hk => hk.elim) (Kd.fresh' (Kd.R_lt hT.out.ro)) hT.out.rn (Below.refl _ _) hT.out.size (hcap.out) ?_; intro v1 w6 hR6 hb6 hg6 hat6; obtain ⟨An2, cn2, hv⟩ := Kd.R_slice hR6; subst hv; have hT2 := Aside0.mk (TwoR.app hT.out hR6 hg6 hat6); have HB6 := Aside0.mk (hbw.out.trans hb6); clear hR6 hb6 hg6 hat6))
            clear e2 e3 e3'
            go_loopw [5, 6] (fun v5 v6 wz => ∃ m : Nat, v6 = .int .i64 m ∧ k ≤ m ∧ m ≤ out.length ∧ Aside0 (TwoR w.heap.size wz (.slice (some ad2) out.length co) v5 out (nl ++ [x] ++ (out.drop k).take (m - k))) ∧ Aside0 (Below w.heap.size w wz)) (fun _ v _ => out.length - (intOf v).toNat)
            case atStart => exact ⟨k, rfl, Nat.le_refl _, hk, ⟨by simpa using hT2.out⟩, HB6⟩
            case round =>
              clear hT2 HB6 hT hbw hT0 hcap
              obtain ⟨m, rfl, hkm, hm, hT, hbw⟩ := hrel
              obtain ⟨nl3, hnl3⟩ : ∃ nl3, nl3 = nl ++ [x] ++ (out.drop k).take (m - k) := ⟨_, rfl⟩
              rw [← hnl3] at hT
              have hnk3 : nl3.length ≤ 2000000001 := by
                rw [hnl3, List.length_append, List.length_append, List.length_take, List.length_drop]
                simp
                omega
              have hcap : Aside0 ((nl3.length + 1) * 8 ≤ 140737488355328) := ⟨by omega⟩
              obtain ⟨An3, cn3, rfl⟩ := Kd.R_slice hT.out.rn
              replace hnl3 := Aside0.mk hnl3
              by_cases hlt3 : m < out.length
              · obtain ⟨z3, hz3⟩ : ∃ z, out[m]? = some z := ⟨_, List.getElem?_eq_getElem hlt3⟩
                have hCo3 := Kd.R_reads' hT.out.ro
                obtain ⟨ad3, had3, e2⟩ := el_int hCo3.2.2 m z3 hz3
                cases had3
                have HZ3 := Aside0.mk hz3
                clear hCo3 hz3
                go_wp2_with (first | ((with_reducible refine gate_builtin (b := .append) (xs := #[.tmp 63, .tmp 68]) rfl ?_); at_builtin; refine Kd.R_append kJ (w0 := _) (W := _) w.heap.size rfl (.tmp 63) (.tmp 68) 22 3 (.int .i64 0) 8 rfl Tryz.underlying22 infoJ rfl (by decide) (by omega) _ (nl3) (z3) [.int .i64 (z3)] (fun k => some k ≠ (Value.slice (some ad2) out.length co).ownBlock) (fun _ => False) rfl rfl rfl (fun _ hk => hk.elim) (Kd.fresh' (Kd.R_lt hT.out.ro)) hT.out.rn (Below.refl _ _) hT.out.size (hcap.out) ?_; intro v1 w6 hR6 hb6 hg6 hat6; obtain ⟨An2, cn2, hv⟩ := Kd.R_slice hR6; subst hv; have hT2 := Aside0.mk (TwoR.app hT.out hR6 hg6 hat6); have HB6 := Aside0.mk (hbw.out.trans hb6); clear hR6 hb6 hg6 hat6))
                go_roundw
                case rel =>
                  refine ⟨m + 1, by go_num, by omega, by omega, ⟨?_⟩, HB6⟩
                  have h8 : (out.drop k).take (m + 1 - k) = (out.drop k).take (m - k) ++ [z3] := by
                    rw [show m + 1 - k = (m - k) + 1 by omega, List.take_add_one, List.getElem?_drop, show k + (m - k) = m by omega, HZ3.out]
                    rfl
                  rw [h8, ← List.append_assoc, ← hnl3.out]
                  have h7 := hT2.out
                  rw [List.length_append] at h7
                  exact h7
                case measure => simp [intOf]; omega
              obtain rfl : m = out.length := by omega
              go_wp2_with fail
              go_roundw
              case rel =>
                refine ⟨i + 1, by go_num, by omega, ⟨?_⟩, hbw⟩
                have h9 := Kd.R_mono (ok' := fun _ => True) hT.out.rn (fun _ _ => trivial)
                rw [hsp.out, stepA, if_neg (by rw [← HO.out]; intro q; rcases q with q | q; exact hx0'.out q; exact of_decide_eq_false hmem.out q), ← HO.out, insA, htk.out.1, htk.out.2, ← hnl.out]
                have e9 : nl3 = nl ++ x :: out.drop k := by
                  rw [hnl3.out, show (out.drop k).take (out.length - k) = out.drop k from List.take_of_length_le (by rw [List.length_drop]; exact Nat.le_refl _), List.append_assoc]
                  rfl
                rw [← e9]
                exact h9
              case measure => simp [intOf]; omega
        · have hk2 : k = out.length := by omega
          have htk := Aside0.mk (take_while (p := fun y => ahead y x) out k hk (fun y hy => hah.out y (by rw [hnl.out]; exact hy)) (fun y hy => by rw [List.getElem?_eq_none (by omega)] at hy; cases hy))
          go_wp2
          refine start_ (n := 15) (S := (fun w' => w'.cell? (ad.add i) = some (.int .i64 x))) (ds := []) #[false, false, false, false, false, false, false, false, false, false, false, false, false, false, false] (by kernel_rfl) rfl rfl (e3) (fun hHeld => ?_)
          refine pure_ (i := 0) (N := some 28) (v := ?_) (a' := ?_) #[true, false, false, false, false, false, false, false, false, false, false, false, false, false, false] rfl rfl (by kernel_rfl) (fun _ _ _ h => h) (Or.inl ⟨by rfl, ?_⟩) ?_ ?_
          rotate_left
          · intro w'
            go_simp
            with_reducible rfl
          rotate_left
          · simp only [Act.put, List.setIfInBounds_toArray, List.set_cons_zero, List.set_cons_succ, i64_w, i32_w]
            rfl
          refine pure_ (i := 1) (N := some 29) (v := ?_) (a' := ?_) #[true, true, false, false, false, false, false, false, false, false, false, false, false, false, false] rfl rfl (by kernel_rfl) (fun _ _ _ h => h) (Or.inl ⟨by rfl, ?_⟩) ?_ ?_
          rotate_left
          · intro w'
            go_simp
            with_reducible rfl
          rotate_left
          · simp only [Act.put, List.setIfInBounds_toArray, List.set_cons_zero, List.set_cons_succ, i64_w, i32_w]
            rfl
          refine pure_ (i := 2) (N := some 30) (v := ?_) (a' := ?_) #[true, true, true, false, false, false, false, false, false, false, false, false, false, false, false] rfl rfl (by kernel_rfl) (fun _ _ _ h => h) (Or.inl ⟨by rfl, ?_⟩) ?_ ?_
          rotate_left
          · intro w'
            go_simp
            with_reducible rfl
          rotate_left
          · simp only [Act.put, List.setIfInBounds_toArray, List.set_cons_zero, List.set_cons_succ, i64_w, i32_w]
            rfl
          refine pure_ (i := 3) (N := some 31) (v := ?_) (a' := ?_) #[true, true, true, true, false, false, false, false, false, false, false, false, false, false, false] rfl rfl (by kernel_rfl) (fun _ _ _ h => h) (Or.inl ⟨by rfl, ?_⟩) ?_ ?_
          rotate_left
          · intro w'
            go_simp
            with_reducible rfl
          rotate_left
          · simp only [Act.put, List.setIfInBounds_toArray, List.set_cons_zero, List.set_cons_succ, i64_w, i32_w]
            rfl
          refine pure_ (i := 4) (N := some 32) (v := ?_) (a' := ?_) #[true, true, true, true, true, false, false, false, false, false, false, false, false, false, false] rfl rfl (by kernel_rfl) (fun _ _ _ h => h) (Or.inl ⟨by rfl, ?_⟩) ?_ ?_
          rotate_left
          · intro w'
            go_simp
            with_reducible rfl
          rotate_left
          · simp only [Act.put, List.setIfInBounds_toArray, List.set_cons_zero, List.set_cons_succ, i64_w, i32_w]
            rfl
          refine pure_ (i := 5) (N := some 33) (v := undef) (a' := ?_) #[true, true, true, true, true, true, false, false, false, false, false, false, false, false, false] rfl rfl (by kernel_rfl) (fun _ _ _ h => h) (Or.inr ⟨by rfl, rfl⟩) ?_ ?_
          rotate_left
          · simp only [Act.put, List.setIfInBounds_toArray, List.set_cons_zero, List.set_cons_succ, i64_w, i32_w]
            rfl
          refine pure_ (i := 6) (N := some 34) (v := undef) (a' := ?_) #[true, true, true, true, true, true, true, false, false, false, false, false, false, false, false] rfl rfl (by kernel_rfl) (fun _ _ _ h => h) (Or.inr ⟨by rfl, rfl⟩) ?_ ?_
          rotate_left
          · simp only [Act.put, List.setIfInBounds_toArray, List.set_cons_zero, List.set_cons_succ, i64_w, i32_w]
            rfl
          refine pure_ (i := 7) (N := some 35) (v := undef) (a' := ?_) #[true, true, true, true, true, true, true, true, false, false, false, false, false, false, false] rfl rfl (by kernel_rfl) (fun _ _ _ h => h) (Or.inr ⟨by rfl, rfl⟩) ?_ ?_
          rotate_left
          · simp only [Act.put, List.setIfInBounds_toArray, List.set_cons_zero, List.set_cons_succ, i64_w, i32_w]
            rfl
          refine pure_ (i := 8) (N := some 36) (v := undef) (a' := ?_) #[true, true, true, true, true, true, true, true, true, false, false, false, false, false, false] rfl rfl (by kernel_rfl) (fun _ _ _ h => h) (Or.inr ⟨by rfl, rfl⟩) ?_ ?_
          rotate_left
          · simp only [Act.put, List.setIfInBounds_toArray, List.set_cons_zero, List.set_cons_succ, i64_w, i32_w]
            rfl
          refine pure_ (i := 9) (N := some 37) (v := undef) (a' := ?_) #[true, true, true, true, true, true, true, true, true, true, false, false, false, false, false] rfl rfl (by kernel_rfl) (fun _ _ _ h => h) (Or.inr ⟨by rfl, rfl⟩) ?_ ?_
          rotate_left
          · simp only [Act.put, List.setIfInBounds_toArray, List.set_cons_zero, List.set_cons_succ, i64_w, i32_w]
            rfl
          refine pure_ (i := 10) (N := some 38) (v := undef) (a' := ?_) #[true, true, true, true, true, true, true, true, true, true, true, false, false, false, false] rfl rfl (by kernel_rfl) (fun _ _ _ h => h) (Or.inr ⟨by rfl, rfl⟩) ?_ ?_
          rotate_left
          · simp only [Act.put, List.setIfInBounds_toArray, List.set_cons_zero, List.set_cons_succ, i64_w, i32_w]
            rfl
          refine pure_ (i := 11) (N := some 39) (v := undef) (a' := ?_) #[true, true, true, true, true, true, true, true, true, true, true, true, false, false, false] rfl rfl (by kernel_rfl) (fun _ _ _ h => h) (Or.inr ⟨by rfl, rfl⟩) ?_ ?_
          rotate_left
          · simp only [Act.put, List.setIfInBounds_toArray, List.set_cons_zero, List.set_cons_succ, i64_w, i32_w]
            rfl
          refine pure_ (i := 12) (N := some 40) (v := undef) (a' := ?_) #[true, true, true, true, true, true, true, true, true, true, true, true, true, false, false] rfl rfl (by kernel_rfl) (fun _ _ _ h => h) (Or.inr ⟨by rfl, rfl⟩) ?_ ?_
          rotate_left
          · simp only [Act.put, List.setIfInBounds_toArray, List.set_cons_zero, List.set_cons_succ, i64_w, i32_w]
            rfl
          refine pure_ (i := 13) (N := some 41) (v := undef) (a' := ?_) #[true, true, true, true, true, true, true, true, true, true, true, true, true, true, false] rfl rfl (by kernel_rfl) (fun _ _ _ h => h) (Or.inr ⟨by rfl, rfl⟩) ?_ ?_
          rotate_left
          · simp only [Act.put, List.setIfInBounds_toArray, List.set_cons_zero, List.set_cons_succ, i64_w, i32_w]
            rfl
          refine pure_ (i := 14) (N := some 42) (v := ?_) (a' := ?_) #[true, true, true, true, true, true, true, true, true, true, true, true, true, true, true] rfl rfl (by kernel_rfl) (fun _ _ _ h => h) (Or.inl ⟨by rfl, ?_⟩) ?_ ?_
          rotate_left
          · intro w'
            go_simp
            with_reducible rfl
          rotate_left
          · simp only [Act.put, List.setIfInBounds_toArray, List.set_cons_zero, List.set_cons_succ, i64_w, i32_w]
            rfl
          refine done_ (by kernel_rfl) ?_
          have hT0 := hT
          replace hT := Aside0.mk (hT.out.on (below_drew (Below.refl _ _)))
          replace hbw := Aside0.mk (below_drew hbw.out)
          have hk3 := Aside0.mk hk2
          clear hk2
          go_wp2_with (first | ((with_reducible refine gate_builtin (b := .append) (xs := #[.tmp 52, .tmp 57]) rfl ?_); at_builtin; refine Kd.R_append kJ (w0 := _) (W := _) w.heap.size rfl (.tmp 52) (.tmp 57) 22 3 (.int .i64 0) 8 rfl Tryz.underlying22 infoJ rfl (by decide) (by omega) _ (nl) (x) [.int .i64 (x)] (fun k => some k ≠ (Value.slice (Ao) out.length co).ownBlock) (fun _ => False) rfl rfl rfl (fun _ hk => hk.elim) (Kd.fresh' (Kd.R_lt hT.out.ro)) hT.out.rn (Below.refl _ _) hT.out.size (hcap.out) ?_; intro v1 w6 hR6 hb6 hg6 hat6; obtain ⟨An2, cn2, hv⟩ := Kd.R_slice hR6; subst hv; have hT2 := Aside0.mk (TwoR.app hT.out hR6 hg6 hat6); have HB6 := Aside0.mk (hbw.out.trans hb6); clear hR6 hb6 hg6 hat6))
          clear e3
          go_loopw [5, 6] (fun v5 v6 wz => ∃ m : Nat, v6 = .int .i64 m ∧ k ≤ m ∧ m ≤ out.length ∧ Aside0 (TwoR w.heap.size wz (.slice (Ao) out.length co) v5 out (nl ++ [x] ++ (out.drop k).take (m - k))) ∧ Aside0 (Below w.heap.size w wz)) (fun _ v _ => out.length - (intOf v).toNat)
          case atStart => exact ⟨k, rfl, Nat.le_refl _, hk, ⟨by simpa using hT2.out⟩, HB6⟩
          case round =>
            clear hT2 HB6 hT hbw hT0 hcap
            obtain ⟨m, rfl, hkm, hm, hT, hbw⟩ := hrel
            obtain ⟨nl3, hnl3⟩ : ∃ nl3, nl3 = nl ++ [x] ++ (out.drop k).take (m - k) := ⟨_, rfl⟩
            rw [← hnl3] at hT
            obtain ⟨An3, cn3, rfl⟩ := Kd.R_slice hT.out.rn
            replace hnl3 := Aside0.mk hnl3
            have hk2 := hk3.out
            obtain rfl : m = out.length := by omega
            go_wp2_with fail
            go_roundw
            case rel =>
              refine ⟨i + 1, by go_num, by omega, ⟨?_⟩, hbw⟩
              have h9 := Kd.R_mono (ok' := fun _ => True) hT.out.rn (fun _ _ => trivial)
              rw [hsp.out, stepA, if_neg (by rw [← HO.out]; intro q; rcases q with q | q; exact hx0'.out q; exact of_decide_eq_false hmem.out q), ← HO.out, insA, htk.out.1, htk.out.2, ← hnl.out]
              have e9 : nl3 = nl ++ x :: out.drop k := by
                rw [hnl3.out, show (out.drop k).take (out.length - k) = out.drop k from List.take_of_length_le (by rw [List.length_drop]; exact Nat.le_refl _), List.append_assoc]
                rfl
              rw [← e9]
              exact h9
            case measure => simp [intOf]; omega
    · obtain rfl : i = l.length := by omega
      go_wp2_with fail
      go_ret
      obtain ⟨A', c', h1, _, h2⟩ := Kd.R_reads hR.out
      have e : preA l l.length = sortA l := by rw [preA, List.take_length]; rfl
      rw [e] at h1 h2
      exact ⟨⟨A', c', by rw [← h1]; rfl, h2⟩, hb.out⟩
end Go.Proofs.YtoiiekhgoefalaaGreat
