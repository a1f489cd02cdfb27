/- The document's list of all choices: All and Len of chapter 27. -/
import Derived.Test.YthalgemkblkhgaaGreatQNew
import Derived.Test.YthalgemkblkhgaaGreatQRefChk
namespace Go.Proofs.YthalgemkblkhgaaGreat
open Go.RowKit Go.Proofs.YthalgemkblkhgaaGreatW.PrintWords Go.Proofs.YthalgemkblkhgaaGreatW.PrintLast
set_option linter.unusedVariables false
set_option linter.unusedSimpArgs false

def allOf (p : Problem) : List Choice := if problemOk p = true then choices p.f5 else []
theorem c_made {base : Nat} {w : World} {ok : Nat → Prop} (hb : base ≤ w.heap.size) (hok : ok w.heap.size) : kChoice.R 42 (w.alloc (.cells #[] 42)) base ok (.slice (some ⟨w.heap.size, 0, none⟩) 0 0) [] :=
  ⟨fun k hk => by
    have : w.heap.size = k := by simpa [Value.ownBlock] using hk
    exact this ▸ hok, [], World.ownsRow_made w #[] 0 hb (Nat.zero_le _) rfl, Reps.none _ _⟩
set_option maxRecDepth 100000 in
set_option maxHeartbeats 8000000 in
theorem all_refR (p : Problem) (hp : wfProblem p) (hsm : problemOk p = true → Small p) (pcs : List Value) (w : World) (hP : kProblem.K w p pcs) :
    Calls Tryz.prog 57 #[.agg pcs.toArray] w fun e w' => (∃ A c, e = .returned (.slice A (allOf p).length c) ∧ kChoice.R 42 w' w.heap.size (fun _ => True) (.slice A (allOf p).length c) (allOf p)) ∧ Below w.heap.size w w' := by
  have HP := Aside0.mk hP
  obtain ⟨A4, c4, A5, c5, A6, c6, A7, c7, A8, c8, A9, c9, A10, c10, rfl, l4, g4, l5, g5, l6, g6, l7, g7, l8, g8, l9, g9, l10, g10⟩ := kProblem_open hP
  have hm7 := Kd.C_max g7
  have G7 := Aside0.mk g7
  clear hP g4 g5 g6 g7 g8 g9 g10
  have hu1 := Tryz.underlying40
  have hu4 := Tryz.underlying96
  have hu5 := Tryz.underlying42
  have hbx := Aside0.mk ((Below.heap_alloc (w.alloc (.cells #[.string p.f0, .int .i64 p.f1.f0, .int .i64 p.f1.f1, .int .i64 p.f1.f2, .slice A4 p.f2.length c4, .slice A5 p.f3.length c5, .slice A6 p.f4.length c6, .slice A7 p.f5.length c7, .slice A8 p.f6.length c8, .slice A9 p.f7.length c9, .slice A10 p.f8.length c10, .int .i64 p.f9.f0, .int .i64 p.f9.f1, .int .i64 p.f9.f2, .int .i64 p.f9.f3] 40)) (.cells #[] 42) w.heap.size (by simp)).trans (blk_new w (.cells #[.string p.f0, .int .i64 p.f1.f0, .int .i64 p.f1.f1, .int .i64 p.f1.f2, .slice A4 p.f2.length c4, .slice A5 p.f3.length c5, .slice A6 p.f4.length c6, .slice A7 p.f5.length c7, .slice A8 p.f6.length c8, .slice A9 p.f7.length c9, .slice A10 p.f8.length c10, .int .i64 p.f9.f0, .int .i64 p.f9.f1, .int .i64 p.f9.f2, .int .i64 p.f9.f3] 40)))
  go_enter Tryz.func57, Tryz.ntmps57
  go_wp2_with (refine gate_ (.load 40 (.tmp 1)) rfl ?_; refine load_ev rfl _ _ rfl _ _ _ _ rfl hbx.out hu1 rfl rfl ?_)
  refine (right_ref p hp _ _ (kProblem.K_below (below_alloc (below_alloc (Below.refl _ _) _) _) HP.out) _ rfl).mono ?_
  rintro e w1 ⟨rfl, hb⟩
  cases hok : problemOk p
  · replace hok := Aside0.mk hok
    go_wp2_with fail
    go_ret
    have e0 : allOf p = [] := by rw [allOf, hok.out]; rfl
    rw [e0]
    have hz0 : Kd.R kChoice 42 ((w.alloc (.cells #[.string p.f0, .int .i64 p.f1.f0, .int .i64 p.f1.f1, .int .i64 p.f1.f2, .slice A4 p.f2.length c4, .slice A5 p.f3.length c5, .slice A6 p.f4.length c6, .slice A7 p.f5.length c7, .slice A8 p.f6.length c8, .slice A9 p.f7.length c9, .slice A10 p.f8.length c10, .int .i64 p.f9.f0, .int .i64 p.f9.f1, .int .i64 p.f9.f2, .int .i64 p.f9.f3] 40)).alloc (.cells #[] 42)) w.heap.size (fun _ => True) (.slice (some ⟨(w.alloc (.cells #[.string p.f0, .int .i64 p.f1.f0, .int .i64 p.f1.f1, .int .i64 p.f1.f2, .slice A4 p.f2.length c4, .slice A5 p.f3.length c5, .slice A6 p.f4.length c6, .slice A7 p.f5.length c7, .slice A8 p.f6.length c8, .slice A9 p.f7.length c9, .slice A10 p.f8.length c10, .int .i64 p.f9.f0, .int .i64 p.f9.f1, .int .i64 p.f9.f2, .int .i64 p.f9.f3] 40)).heap.size, 0, none⟩) 0 0) [] := c_made (by simp) trivial
    have hz1 := Kd.R_below hz0 hb
    simp only [World.alloc, Array.size_push] at hz1
    exact ⟨⟨_, _, rfl, hz1⟩, below2 hb⟩
  have hsm := Aside0.mk (hsm hok)
  have e0 : Aside0 (allOf p = choices p.f5) := ⟨by rw [allOf, if_pos hok]⟩
  replace hok := Aside0.mk hok
  obtain ⟨W0, hW0⟩ : ∃ W0, W0 = w.alloc (.cells #[.string p.f0, .int .i64 p.f1.f0, .int .i64 p.f1.f1, .int .i64 p.f1.f2, .slice A4 p.f2.length c4, .slice A5 p.f3.length c5, .slice A6 p.f4.length c6, .slice A7 p.f5.length c7, .slice A8 p.f6.length c8, .slice A9 p.f7.length c9, .slice A10 p.f8.length c10, .int .i64 p.f9.f0, .int .i64 p.f9.f1, .int .i64 p.f9.f2, .int .i64 p.f9.f3] 40) := ⟨_, rfl⟩
  have hz : w.heap.size + 1 = W0.heap.size := by rw [hW0]; simp
  have k7 : W0.cell? ⟨w.heap.size, 7, none⟩ = some (.slice A7 p.f5.length c7) := by rw [hW0]; exact blk_cell (blk_new w _) 7
  have hw0 : Below w.heap.size w W0 := by rw [hW0]; exact below_alloc (Below.refl _ _) _
  rw [← hW0] at hb
  rw [hz]
  have hR0 := Aside0.mk (Kd.R_below (c_made (w := W0) (base := W0.heap.size) (ok := fun _ => True) (Nat.le_refl _) trivial) hb)
  have hb0 := Aside0.mk (below1 hb)
  replace k7 := Aside0.mk k7
  replace hW0 := Aside0.mk hW0
  replace hw0 := Aside0.mk hw0
  have HG0 := Aside0.mk (Kd.C_below G7.out hw0.out)
  clear hb hz
  go_wp2_with fail
  go_loopw [3, 4] (fun v3 v wr => ∃ c : Nat, v = .int .i64 c ∧ c ≤ p.f5.length ∧ Aside0 (kChoice.R 42 wr W0.heap.size (fun _ => True) v3 (choicesTo p.f5 c)) ∧ Aside0 (Below W0.heap.size W0 wr)) (fun _ v _ => p.f5.length - (intOf v).toNat)
  case atStart => exact ⟨0, rfl, by omega, hR0, hb0⟩
  case round =>
    obtain ⟨c, rfl, hc, hR, hb⟩ := hrel
    have b7 := pw_cell_below hb.out k7.out
    by_cases hlt : c < p.f5.length
    · obtain ⟨x, hx⟩ : ∃ x, p.f5[c]? = some x := ⟨_, List.getElem?_eq_getElem hlt⟩
      obtain ⟨ad, A3', c3', A4', c4', A5', c5', rfl, e0', e1, e2, e3, e4, e5, e6, l3', g3', l4', g4', l5', g5'⟩ := el_Class HG0.out c x hx
      have hmx4 := Kd.C_max g4'
      have hmx5 := Kd.C_max g5'
      have E4 := Aside0.mk e4
      have E5 := Aside0.mk e5
      have h1000 := Aside0.mk (hsm.out.all x (List.mem_of_getElem? hx))
      have hlen := Aside0.mk (length_choicesTo p.f5 hsm.out.all c)
      have hcb : c ≤ 1000 := by have := hsm.out.n; omega
      have hsp := Aside0.mk (blockAt_some hx)
      replace hx := Aside0.mk hx
      clear e0' e1 e2 e3 e4 e5 e6 g3' g4' g5'
      go_wp2_with fail
      clear b7
      go_loopw [3, 5] (fun v3 v wq => ∃ i : Nat, v = .int .i64 i ∧ i ≤ x.f4.length ∧ Aside0 (kChoice.R 42 wq W0.heap.size (fun _ => True) v3 (choicesTo p.f5 c ++ (List.range i).map (fun (i : Nat) => Choice.mk c false i))) ∧ Aside0 (Below W0.heap.size W0 wq)) (fun _ v _ => x.f4.length - (intOf v).toNat)
      case atStart => exact ⟨0, rfl, by omega, ⟨by rw [List.range_zero, List.map_nil, List.append_nil]; exact hR.out⟩, hb⟩
      case round =>
        obtain ⟨i, rfl, hi, hq, hbq⟩ := hrel
        obtain ⟨Aq, cq, rfl⟩ := Kd.R_slice hq.out
        have b7 := pw_cell_below hbq.out k7.out
        have y1 := pw_cell_below hbq.out E4.out
        by_cases hlt2 : i < x.f4.length
        · have hlq : Aside0 (((choicesTo p.f5 c ++ (List.range i).map (fun (i : Nat) => Choice.mk c false i)).length + 1) * 24 ≤ 140737488355328) := ⟨by
            simp only [List.length_append, List.length_map, List.length_range]
            have h1 := hlen.out
            have h2 := h1000.out
            omega⟩
          go_wp2_with (first | ((with_reducible refine gate_builtin (b := .append) (xs := #[.tmp 30, .tmp 34]) rfl ?_); at_builtin; refine Kd.R_append kChoice (w0 := _) (W := _) W0.heap.size rfl (.tmp 30) (.tmp 34) 77 42 (.agg #[.int .i64 0, .bool false, .int .i64 0]) 24 rfl Tryz.underlying77 infoChoice rfl (by decide) (by omega) _ (choicesTo p.f5 c ++ (List.range i).map (fun (i : Nat) => Choice.mk c false i)) (Choice.mk c false i) [.int .i64 c, .bool false, .int .i64 i] (fun _ => True) (fun _ => False) rfl rfl (kChoice_mkM _ _ _ _) (fun _ hk => hk.elim) (fun _ _ => trivial) hq.out (Below.refl _ _) hbq.out.size hlq.out ?_; intro v1 w6 hR6 hb6 hg6 hat6; have hR6 := Aside0.mk hR6; have HB6 := Aside0.mk (hbq.out.trans hb6); clear hb6 hg6 hat6))
          clear b7 y1
          go_roundw
          case rel =>
            refine ⟨i + 1, by go_num, by omega, ⟨?_⟩, HB6⟩
            have h9 := hR6.out
            rw [List.append_assoc, show (List.range i).map (fun (i : Nat) => Choice.mk c false i) ++ [Choice.mk c false i] = (List.range (i + 1)).map (fun (i : Nat) => Choice.mk c false i) from by rw [List.range_succ, List.map_append]; rfl] at h9
            exact h9
          case measure => simp [intOf]; omega
        obtain rfl : i = x.f4.length := by omega
        obtain ⟨C2, hC2⟩ : ∃ C2, C2 = choicesTo p.f5 c ++ (List.range x.f4.length).map (fun (i : Nat) => Choice.mk c false i) := ⟨_, rfl⟩
        rw [← hC2] at hq
        have hl2 : Aside0 (C2.length ≤ c * 2000 + x.f4.length) := ⟨by
          have := hlen.out
          rw [hC2, List.length_append, List.length_map, List.length_range]
          omega⟩
        rw [← hC2]
        replace hC2 := Aside0.mk hC2
        go_wp2_with fail
        clear b7 y1
        go_loopw [3, 6] (fun v3 v wq => ∃ i : Nat, v = .int .i64 i ∧ i ≤ x.f5.length ∧ Aside0 (kChoice.R 42 wq W0.heap.size (fun _ => True) v3 (C2 ++ (List.range i).map (fun (i : Nat) => Choice.mk c true i))) ∧ Aside0 (Below W0.heap.size W0 wq)) (fun _ v _ => x.f5.length - (intOf v).toNat)
        case atStart => exact ⟨0, rfl, by omega, ⟨by rw [List.range_zero, List.map_nil, List.append_nil]; exact hq.out⟩, hbq⟩
        case round =>
          obtain ⟨i, rfl, hi, hq, hbq⟩ := hrel
          obtain ⟨Aq, cq, rfl⟩ := Kd.R_slice hq.out
          have b7 := pw_cell_below hbq.out k7.out
          have y1 := pw_cell_below hbq.out E5.out
          by_cases hlt2 : i < x.f5.length
          · have hlq : Aside0 (((C2 ++ (List.range i).map (fun (i : Nat) => Choice.mk c true i)).length + 1) * 24 ≤ 140737488355328) := ⟨by
              simp only [List.length_append, List.length_map, List.length_range]
              have h1 := hl2.out
              have h2 := h1000.out
              omega⟩
            go_wp2_with (first | ((with_reducible refine gate_builtin (b := .append) (xs := #[.tmp 47, .tmp 51]) rfl ?_); at_builtin; refine Kd.R_append kChoice (w0 := _) (W := _) W0.heap.size rfl (.tmp 47) (.tmp 51) 77 42 (.agg #[.int .i64 0, .bool false, .int .i64 0]) 24 rfl Tryz.underlying77 infoChoice rfl (by decide) (by omega) _ (C2 ++ (List.range i).map (fun (i : Nat) => Choice.mk c true i)) (Choice.mk c true i) [.int .i64 c, .bool true, .int .i64 i] (fun _ => True) (fun _ => False) rfl rfl (kChoice_mkM _ _ _ _) (fun _ hk => hk.elim) (fun _ _ => trivial) hq.out (Below.refl _ _) hbq.out.size hlq.out ?_; intro v1 w6 hR6 hb6 hg6 hat6; have hR6 := Aside0.mk hR6; have HB6 := Aside0.mk (hbq.out.trans hb6); clear hb6 hg6 hat6))
            clear b7 y1
            go_roundw
            case rel =>
              refine ⟨i + 1, by go_num, by omega, ⟨?_⟩, HB6⟩
              have h9 := hR6.out
              rw [List.append_assoc, show (List.range i).map (fun (i : Nat) => Choice.mk c true i) ++ [Choice.mk c true i] = (List.range (i + 1)).map (fun (i : Nat) => Choice.mk c true i) from by rw [List.range_succ, List.map_append]; rfl] at h9
              exact h9
            case measure => simp [intOf]; omega
          obtain rfl : i = x.f5.length := by omega
          go_wp2_with fail
          go_roundw
          case rel =>
            refine ⟨c + 1, by go_num, by omega, ⟨?_⟩, hbq⟩
            rw [choicesTo_succ, hsp.out, blockOf, ← List.append_assoc, ← hC2.out]
            exact hq.out
          case measure => simp [intOf]; omega
    · obtain rfl : c = p.f5.length := by omega
      obtain ⟨A', c', rfl, lr, gr⟩ := Kd.R_reads hR.out
      have hRR := Aside0.mk (Kd.R_lower hR.out hw0.out.size)
      clear hR gr
      go_wp2_with fail
      go_ret
      rw [e0.out]
      exact ⟨⟨A', c', rfl, hRR.out⟩, hw0.out.trans (hb.out.mono hw0.out.size)⟩
theorem row_reads {T base n c : Nat} {w : World} {ok : Nat → Prop} {A : Option Addr} {α : Type} {d : Kd α} {l : List α} (h : d.R T w base ok (.slice A n c) l) : n = l.length ∧ d.C w A l.length l := by
  obtain ⟨A', c', hv, _, hC⟩ := Kd.R_reads h
  injection hv with h1 h2 h3
  subst h1
  exact ⟨h2, hC⟩
theorem all_ref (p : Problem) (hp : wfProblem p) (hsm : problemOk p = true → Small p) (pcs : List Value) (w : World) (hP : kProblem.K w p pcs) :
    Calls Tryz.prog 57 #[.agg pcs.toArray] w fun e w' => (∃ A c, e = .returned (.slice A (allOf p).length c) ∧ kChoice.C w' A (allOf p).length (allOf p)) ∧ Below w.heap.size w w' :=
  (all_refR p hp hsm pcs w hP).mono (fun e w' ⟨⟨A, c, h1, h2⟩, h3⟩ => ⟨⟨A, c, h1, (row_reads h2).2⟩, h3⟩)
end Go.Proofs.YthalgemkblkhgaaGreat
