/- lit.Parse at a literal's own text. -/
import Derived.Test.YthalgemkblkhgaaGreatQText
import Derived.Test.YthalgemkblkhgaaGreatQFixP
import Derived.Test.YthalgemkblkhgaaGreatQMN
namespace Go.Proofs.YthalgemkblkhgaaGreat
open Go.Proofs Go.RowKit Go.Proofs.YthalgemkblkhgaaGreatW.PrintWords Go.Proofs.YthalgemkblkhgaaGreatW.PrintLast
set_option linter.unusedVariables false
set_option linter.unusedSimpArgs false

theorem cut_dash (L : List UInt8) (w : World) : Calls Tryz.prog 67 #[.string (strB (45 :: L)), .string ⟨#[45]⟩] w fun e w' => e = .returned (.tuple #[.string (strB L), .bool true]) ∧ w = w' :=
  (Any.strings_CutPrefix cutPrefix (strB (45 :: L)) ⟨#[45]⟩ w).mono (fun e w' ⟨he, hw⟩ => ⟨by rw [he]; rfl, hw.symm⟩)
theorem cut_none (b : UInt8) (L : List UInt8) (hb : (45 == b) = false) (w : World) : Calls Tryz.prog 67 #[.string (strB (b :: L)), .string ⟨#[45]⟩] w fun e w' => e = .returned (.tuple #[.string (strB (b :: L)), .bool false]) ∧ w = w' :=
  (Any.strings_CutPrefix cutPrefix (strB (b :: L)) ⟨#[45]⟩ w).mono (fun e w' ⟨he, hw⟩ => ⟨by
    rw [he]
    have e1 : Lib.hasPrefix (b :: L) [45] = false := by simp [Lib.hasPrefix, List.isPrefixOf, hb]
    have e2 : Lib.trimPrefix (b :: L) [45] = b :: L := by rw [Lib.trimPrefix, if_neg (by rw [e1]; simp)]
    have q1 : (strB (b :: L)).data.toList = b :: L := rfl
    have q2 : (⟨#[45]⟩ : ByteArray).data.toList = [45] := rfl
    try rw [q1, q2]
    try rw [e1, e2]
    rfl, hw.symm⟩)
theorem any_tp (A B : List UInt8) (x : UInt8) (hA : ∀ b ∈ A, isDig b = true) (hB : ∀ b ∈ B, isDig b = true) (hx : x = 116 ∨ x = 112) (hl : A.length + B.length ≤ 7) (w : World) :
    Calls Tryz.prog 68 #[.string (strB (A ++ x :: B)), .string ⟨#[116, 112]⟩] w fun e w' => e = .returned (.int .i64 A.length) ∧ Below w.heap.size w w' := by
  have hasc : ∀ (j : Nat) b, (A ++ x :: B)[j]? = some b → b.toNat < 128 := fun j b h => by
    have hm := List.mem_of_getElem? h
    rcases List.mem_append.1 hm with hm | hm
    · have := hA b hm; unfold isDig at this; simp at this; omega
    · rcases List.mem_cons.1 hm with rfl | hm
      · rcases hx with rfl | rfl <;> decide
      · have := hB b hm; unfold isDig at this; simp at this; omega
  have hix : Lib.indexAny (A ++ x :: B) [116, 112] = A.length := Lib.indexAny_hit (fun j b hj hb => by
    rw [List.getElem?_append_left hj] at hb
    have := hA b (List.mem_of_getElem? hb)
    unfold isDig at this
    simp at this
    have h1 : (b == 116) = false := by rw [beq_eq_false_iff_ne]; intro e; rw [e] at this; exact absurd this.2 (by decide)
    have h2 : (b == 112) = false := by rw [beq_eq_false_iff_ne]; intro e; rw [e] at this; exact absurd this.2 (by decide)
    simp [List.contains, List.elem, h1, h2]) (by rw [List.getElem?_append_right (Nat.le_refl _), Nat.sub_self]; rfl) (by rcases hx with rfl | rfl <;> decide)
  refine (Any.strings_IndexAny_short indexAny (strB (A ++ x :: B)) ⟨#[116, 112]⟩ w (by decide) (by rw [strB_size, List.length_append, List.length_cons]; omega) hasc).mono (fun e w' ⟨he, pos, hw⟩ => ⟨?_, hw ▸ below_alloc (Below.refl _ _) _⟩)
  rw [he]
  show Ending.returned (.int .i64 (Lib.indexAny (A ++ x :: B) [116, 112])) = _
  rw [hix]
theorem ext_to (A B : List UInt8) (x : UInt8) : (strB (A ++ x :: B)).extract 0 A.length = strB A := by
  apply ByteArray.ext
  simp [strB, ByteArray.data_extract]
theorem ext_from (A B : List UInt8) (x : UInt8) (n : Nat) (hn : n = A.length + 1 + B.length) : (strB (A ++ x :: B)).extract (A.length + 1) n = strB B := by
  subst hn
  apply ByteArray.ext
  apply Array.ext'
  simp [strB, ByteArray.data_extract]
  try (rw [List.drop_append]; simp)
theorem str_to (A B : List UInt8) (x : UInt8) (W : World) : (Instr.sliceAt 9 (.string (strB (A ++ x :: B))) none (some (.int .i64 A.length)) none).run Tryz.prog W = .ok (.string (strB A)) W := by
  have hu := Tryz.underlying9
  have hsz : (strB (A ++ x :: B)).size = A.length + 1 + B.length := by rw [strB_size, List.length_append, List.length_cons]; omega
  have he := ext_to A B x
  unfold Instr.sliceAt
  go_simp
  intro h
  omega
theorem str_from (A B : List UInt8) (x : UInt8) (W : World) : (Instr.sliceAt 9 (.string (strB (A ++ x :: B))) (some (.int .i64 (A.length + 1 : Int))) none none).run Tryz.prog W = .ok (.string (strB B)) W := by
  have hu := Tryz.underlying9
  have hsz : (strB (A ++ x :: B)).size = A.length + 1 + B.length := by rw [strB_size, List.length_append, List.length_cons]; omega
  have he := ext_from A B x _ rfl
  unfold Instr.sliceAt
  go_simp
  intro h
  have := h (by omega)
  omega
theorem cut_any (A B : List UInt8) (x : UInt8) (hx : (45 == x) = false) (hA : ∀ b ∈ A, isDig b = true) (w : World) : Calls Tryz.prog 67 #[.string (strB (A ++ x :: B)), .string ⟨#[45]⟩] w fun e w' => e = .returned (.tuple #[.string (strB (A ++ x :: B)), .bool false]) ∧ w = w' := by
  cases A with
  | nil => exact cut_none x B hx w
  | cons b A =>
    refine cut_none b (A ++ x :: B) ?_ w
    rw [beq_eq_false_iff_ne]
    intro e
    have := hA b (by simp)
    rw [← e] at this
    exact absurd this (by decide)
section
variable {p : Problem} {mv : Value} {w : World}
set_option maxRecDepth 100000 in
set_option maxHeartbeats 4000000 in
theorem parse_own (h : Ans p mv w) (n : Int) (hn : wfInt .i64 n) (y : Choice) (hz : whatIn (allOf p) n = (y, true)) :
    Calls Tryz.prog 40 #[mv, .string (strB (litL y n))] w fun e w' => e = .returned (.tuple #[.int .i64 n, .int .i64 0]) ∧ Below w.heap.size w w' := by
  have hu := Tryz.underlying42
  have hm := whatIn_mem (L := allOf p) (n := n) (by rw [hz])
  have hw := whatIn_true (L := allOf p) (n := n) (by rw [hz])
  rw [hz] at hm hw
  obtain ⟨y0, bl, y2⟩ := y
  obtain ⟨c, i, e0, e2, hc, hi, hok⟩ := choice_nat hm
  simp only at e0 e2
  subst e0 e2
  have hof : ofIn (allOf p) ⟨c, bl, i⟩ = (n.natAbs : Int) := by
    rw [allOf_ok hok] at hw ⊢
    rw [ofIn_at (fair_choices p.f5).nd hw.2.2]
    have := hw.1
    omega
  have hn0 := hw.1
  rcases h with ⟨rfl, h⟩ | ⟨-, b, rfl, hM⟩
  · rw [hok] at h; cases h
  have hAn := Aside0.mk (show Ans p (.pointer (some ⟨b, 0, none⟩)) w from .inr ⟨hok, b, rfl, hM⟩)
  obtain ⟨A, hA⟩ : ∃ A, A = decL c := ⟨_, rfl⟩
  obtain ⟨B, hB⟩ : ∃ B, B = decL i := ⟨_, rfl⟩
  have hlA : A.length ≤ 3 := by rw [hA]; exact decL_len 2 c (by omega)
  have hlB : B.length ≤ 3 := by rw [hB]; exact decL_len 2 i (by omega)
  have hdA : Aside0 (∀ x ∈ A, isDig x = true) := ⟨by rw [hA]; exact decL_dig c⟩
  have hdB : Aside0 (∀ x ∈ B, isDig x = true) := ⟨by rw [hB]; exact decL_dig i⟩
  have hwA : Aside0 (wordOf A = ((c : Int), 0)) := ⟨by rw [hA]; exact wordOf_dec c (by omega)⟩
  have hwB : Aside0 (wordOf B = ((i : Int), 0)) := ⟨by rw [hB]; exact wordOf_dec i (by omega)⟩
  have hbare : litL ⟨c, bl, i⟩ n = if n < 0 then 45 :: (A ++ (if bl = true then 112 else 116) :: B) else A ++ (if bl = true then 112 else 116) :: B := by
    unfold litL bareL
    show (if n < 0 then 45 :: (decL (c : Int).toNat ++ _ :: decL (i : Int).toNat) else decL (c : Int).toNat ++ _ :: decL (i : Int).toNat) = _
    rw [Int.toNat_natCast, Int.toNat_natCast, ← hA, ← hB]
  have hi6 := wf_i64 hn
  clear hA hB hM hm hw hz hn
  cases bl
  · by_cases h0 : n < 0
    · obtain ⟨k, rfl⟩ : ∃ k : Nat, n = -(k : Int) := ⟨n.natAbs, by omega⟩
      rw [hbare, if_pos h0, if_neg (by simp)]
      rw [show ((-(k : Int)).natAbs : Int) = k from by omega] at hof
      replace hof := Aside0.mk hof
      have hk0 : ((k : Int) == 0) = false := beq_eq_false_iff_ne.2 (by omega)
      clear hbare
      go_enter Tryz.func40, Tryz.ntmps40
      go_wp2_with fail
      refine (cut_dash _ _).mono ?_
      rintro e w' ⟨rfl, rfl⟩
      go_wp2_with fail
      refine (any_tp A B 116 hdA.out hdB.out (by decide) (by omega) _).mono ?_
      rintro e w1 ⟨rfl, hb⟩
      have hb := Aside0.mk hb
      have hst := str_to A B 116
      have hsf := str_from A B 116
      go_wp2_with fail
      refine (parseword_calls A (by omega) _).mono ?_
      rintro e w2 ⟨he, rfl⟩
      rw [hwA.out] at he
      change e = Ending.returned (.tuple #[.int .u64 c, .int .i64 0]) at he
      subst he
      go_wp2_with fail
      refine (parseword_calls B (by omega) _).mono ?_
      rintro e w2 ⟨he, rfl⟩
      rw [hwB.out] at he
      change e = Ending.returned (.tuple #[.int .u64 i, .int .i64 0]) at he
      subst he
      have hix := strB_at (A ++ 116 :: B) A.length (by rw [strB_size, List.length_append, List.length_cons]; omega) 116 (by rw [List.getElem?_append_right (Nat.le_refl _), Nat.sub_self]; rfl)
      have hsz : (strB (A ++ 116 :: B)).size = A.length + 1 + B.length := by rw [strB_size, List.length_append, List.length_cons]; omega
      go_wp2_with fail
      refine (ans_of (hAn.out.below hb.out) ⟨(c : Int), false, (i : Int)⟩ (k : Int) hof.out).mono ?_
      rintro e w2 ⟨rfl, hb2⟩
      have hb2 := Aside0.mk (bthen hb.out hb2 (Nat.le_refl _))
      go_wp2_with fail
      go_ret2
      exact ⟨rfl, hb2.out⟩
    · obtain ⟨k, rfl⟩ : ∃ k : Nat, n = (k : Int) := ⟨n.natAbs, by omega⟩
      rw [hbare, if_neg h0, if_neg (by simp)]
      rw [show ((k : Int).natAbs : Int) = k from by omega] at hof
      replace hof := Aside0.mk hof
      have hk0 : ((k : Int) == 0) = false := beq_eq_false_iff_ne.2 (by omega)
      have hcut := Aside0.mk (cut_any A B 116 (by decide) hdA.out)
      clear hbare
      go_enter Tryz.func40, Tryz.ntmps40
      go_wp2_with fail
      refine (hcut.out _).mono ?_
      rintro e w' ⟨rfl, rfl⟩
      go_wp2_with fail
      refine (any_tp A B 116 hdA.out hdB.out (by decide) (by omega) _).mono ?_
      rintro e w1 ⟨rfl, hb⟩
      have hb := Aside0.mk hb
      have hst := str_to A B 116
      have hsf := str_from A B 116
      go_wp2_with fail
      refine (parseword_calls A (by omega) _).mono ?_
      rintro e w2 ⟨he, rfl⟩
      rw [hwA.out] at he
      change e = Ending.returned (.tuple #[.int .u64 c, .int .i64 0]) at he
      subst he
      go_wp2_with fail
      refine (parseword_calls B (by omega) _).mono ?_
      rintro e w2 ⟨he, rfl⟩
      rw [hwB.out] at he
      change e = Ending.returned (.tuple #[.int .u64 i, .int .i64 0]) at he
      subst he
      have hix := strB_at (A ++ 116 :: B) A.length (by rw [strB_size, List.length_append, List.length_cons]; omega) 116 (by rw [List.getElem?_append_right (Nat.le_refl _), Nat.sub_self]; rfl)
      have hsz : (strB (A ++ 116 :: B)).size = A.length + 1 + B.length := by rw [strB_size, List.length_append, List.length_cons]; omega
      go_wp2_with fail
      refine (ans_of (hAn.out.below hb.out) ⟨(c : Int), false, (i : Int)⟩ (k : Int) hof.out).mono ?_
      rintro e w2 ⟨rfl, hb2⟩
      have hb2 := Aside0.mk (bthen hb.out hb2 (Nat.le_refl _))
      go_wp2_with fail
      go_ret2
      exact ⟨rfl, hb2.out⟩
  · by_cases h0 : n < 0
    · obtain ⟨k, rfl⟩ : ∃ k : Nat, n = -(k : Int) := ⟨n.natAbs, by omega⟩
      rw [hbare, if_pos h0, if_pos rfl]
      rw [show ((-(k : Int)).natAbs : Int) = k from by omega] at hof
      replace hof := Aside0.mk hof
      have hk0 : ((k : Int) == 0) = false := beq_eq_false_iff_ne.2 (by omega)
      clear hbare
      go_enter Tryz.func40, Tryz.ntmps40
      go_wp2_with fail
      refine (cut_dash _ _).mono ?_
      rintro e w' ⟨rfl, rfl⟩
      go_wp2_with fail
      refine (any_tp A B 112 hdA.out hdB.out (by decide) (by omega) _).mono ?_
      rintro e w1 ⟨rfl, hb⟩
      have hb := Aside0.mk hb
      have hst := str_to A B 112
      have hsf := str_from A B 112
      go_wp2_with fail
      refine (parseword_calls A (by omega) _).mono ?_
      rintro e w2 ⟨he, rfl⟩
      rw [hwA.out] at he
      change e = Ending.returned (.tuple #[.int .u64 c, .int .i64 0]) at he
      subst he
      go_wp2_with fail
      refine (parseword_calls B (by omega) _).mono ?_
      rintro e w2 ⟨he, rfl⟩
      rw [hwB.out] at he
      change e = Ending.returned (.tuple #[.int .u64 i, .int .i64 0]) at he
      subst he
      have hix := strB_at (A ++ 112 :: B) A.length (by rw [strB_size, List.length_append, List.length_cons]; omega) 112 (by rw [List.getElem?_append_right (Nat.le_refl _), Nat.sub_self]; rfl)
      have hsz : (strB (A ++ 112 :: B)).size = A.length + 1 + B.length := by rw [strB_size, List.length_append, List.length_cons]; omega
      go_wp2_with fail
      refine (ans_of (hAn.out.below hb.out) ⟨(c : Int), true, (i : Int)⟩ (k : Int) hof.out).mono ?_
      rintro e w2 ⟨rfl, hb2⟩
      have hb2 := Aside0.mk (bthen hb.out hb2 (Nat.le_refl _))
      go_wp2_with fail
      go_ret2
      exact ⟨rfl, hb2.out⟩
    · obtain ⟨k, rfl⟩ : ∃ k : Nat, n = (k : Int) := ⟨n.natAbs, by omega⟩
      rw [hbare, if_neg h0, if_pos rfl]
      rw [show ((k : Int).natAbs : Int) = k from by omega] at hof
      replace hof := Aside0.mk hof
      have hk0 : ((k : Int) == 0) = false := beq_eq_false_iff_ne.2 (by omega)
      have hcut := Aside0.mk (cut_any A B 112 (by decide) hdA.out)
      clear hbare
      go_enter Tryz.func40, Tryz.ntmps40
      go_wp2_with fail
      refine (hcut.out _).mono ?_
      rintro e w' ⟨rfl, rfl⟩
      go_wp2_with fail
      refine (any_tp A B 112 hdA.out hdB.out (by decide) (by omega) _).mono ?_
      rintro e w1 ⟨rfl, hb⟩
      have hb := Aside0.mk hb
      have hst := str_to A B 112
      have hsf := str_from A B 112
      go_wp2_with fail
      refine (parseword_calls A (by omega) _).mono ?_
      rintro e w2 ⟨he, rfl⟩
      rw [hwA.out] at he
      change e = Ending.returned (.tuple #[.int .u64 c, .int .i64 0]) at he
      subst he
      go_wp2_with fail
      refine (parseword_calls B (by omega) _).mono ?_
      rintro e w2 ⟨he, rfl⟩
      rw [hwB.out] at he
      change e = Ending.returned (.tuple #[.int .u64 i, .int .i64 0]) at he
      subst he
      have hix := strB_at (A ++ 112 :: B) A.length (by rw [strB_size, List.length_append, List.length_cons]; omega) 112 (by rw [List.getElem?_append_right (Nat.le_refl _), Nat.sub_self]; rfl)
      have hsz : (strB (A ++ 112 :: B)).size = A.length + 1 + B.length := by rw [strB_size, List.length_append, List.length_cons]; omega
      go_wp2_with fail
      refine (ans_of (hAn.out.below hb.out) ⟨(c : Int), true, (i : Int)⟩ (k : Int) hof.out).mono ?_
      rintro e w2 ⟨rfl, hb2⟩
      have hb2 := Aside0.mk (bthen hb.out hb2 (Nat.le_refl _))
      go_wp2_with fail
      go_ret2
      exact ⟨rfl, hb2.out⟩
end
end Go.Proofs.YthalgemkblkhgaaGreat
