/- digits.Word, Print, ParseWord: what they come to, for any number and any text. -/
import Derived.Test.YthalgemkblkhgaaGreatQDigP
import Derived.Test.YthalgemkblkhgaaGreatQMB
namespace Go.Proofs.YthalgemkblkhgaaGreat
open Go.Proofs Go.RowKit Go.Proofs.YthalgemkblkhgaaGreatW.PrintWords Go.Proofs.YthalgemkblkhgaaGreatW.PrintLast
set_option linter.unusedVariables false
set_option linter.unusedSimpArgs false

theorem arr_slice (a : Nat) (h : a < 20) (g : Nat) (W : World) : (Instr.sliceAt 206 (.pointer (some ⟨g, 0, none⟩)) (some (.int .i64 a)) none none).run Tryz.prog W = .ok (.slice (some ⟨g, a, none⟩) (20 - a) (20 - a)) W := by
  have hu := Tryz.underlying206
  have hu2 := Tryz.underlying5
  unfold Instr.sliceAt
  go_simp
  rw [if_pos (by omega), if_neg (by omega)]
/-- The array's last cells are these bytes. -/
def Tail (cur : Array Value) (a : Nat) (l : List UInt8) : Prop := cur.size = 20 ∧ ∀ (j : Nat) (b : UInt8), l[j]? = some b → cur[a + j]? = some (.int .u8 (b.toNat : Int))
theorem Tail.put {cur : Array Value} {a : Nat} {l : List UInt8} (h : Tail cur (a + 1) l) (ha : a < 20) (b : UInt8) (x : Int) (hx : (b.toNat : Int) = x) : Tail (cur.setIfInBounds a (.int .u8 x)) a (b :: l) := by
  subst hx
  refine ⟨by rw [Array.size_setIfInBounds]; exact h.1, fun j c hj => ?_⟩
  rw [Array.getElem?_setIfInBounds]
  cases j with
  | zero =>
    simp at hj
    subst hj
    have := h.1
    rw [if_pos (by omega), if_pos (by omega)]
  | succ j =>
    rw [if_neg (by omega)]
    have := h.2 j c (by simpa using hj)
    rwa [show a + 1 + j = a + (j + 1) from by omega] at this
theorem strOfNums_of (l : List UInt8) : strOfNums (l.map fun b => (b.toNat : Int)) = strB l := by
  have e : (l.map fun b => (b.toNat : Int)).map (fun n : Int => UInt8.ofNat n.toNat) = l := by
    rw [List.map_map]
    conv => rhs; rw [← List.map_id l]
    refine List.map_congr_left (fun b _ => ?_)
    simp
  unfold strOfNums strB
  rw [e]
theorem tail_string {W : World} {g a : Nat} {cur : Array Value} {l : List UInt8} (hX : W.heap[g]? = some (.cells cur 206 (0, 0))) (h : Tail cur a l) (hl : a + l.length = 20) :
    (convert 207 9 (.slice (some ⟨g, a, none⟩) (20 - a) (20 - a))).run Tryz.prog W = .ok (.string (strB l)) W := by
  have hr := string_of_reads (P := Tryz.prog) (w := W) (A := some ⟨g, a, none⟩) (n := 20 - a) (c := 20 - a) (xs := l.map fun b => (b.toNat : Int)) Tryz.underlying207 Tryz.underlying5 Tryz.underlying9 ⟨by rw [List.length_map]; omega, by omega, fun _ => ⟨_, rfl, fun j hj => ?_⟩⟩
  · rw [hr, strOfNums_of]
  · obtain ⟨b, hb⟩ : ∃ b, l[j]? = some b := ⟨_, List.getElem?_eq_getElem (by omega)⟩
    have e : ((⟨g, a, none⟩ : Addr).add j) = ⟨g, a + j, none⟩ := by unfold Addr.add; split <;> simp_all
    rw [e, (blk_cell hX (a + j)).trans (h.2 j b hb)]
    simp [List.getD_eq_getElem?_getD, hb]
set_option maxRecDepth 100000 in
set_option maxHeartbeats 4000000 in
theorem word_calls (n : Nat) (hn : n < 18446744073709551616) (w : World) :
    Calls Tryz.prog 105 #[.int .u64 n] w fun e w' => e = .returned (.string (strB (decL n))) ∧ Below w.heap.size w w' := by
  have hlen := Aside0.mk (decL_len 19 n (by omega))
  go_enter Tryz.func105, Tryz.ntmps105
  go_wp2_with fail
  go_loopw [0, 4, 5] (fun v0 v4 v5 wr => ∃ (a k m : Nat) (suf : List UInt8) (cur : Array Value), v0 = .int .u64 m ∧ v4 = .int .i64 a ∧ v5 = .int .i64 k ∧ a + k = 20 ∧ m < 18446744073709551616 ∧ Aside0 (suf.length = k) ∧ Aside0 (decL n = decL m ++ suf) ∧ Aside0 (wr.heap[w.heap.size]? = some (.cells cur 206 (0, 0))) ∧ Aside0 (Tail cur a suf) ∧ Aside0 (Below w.heap.size w wr)) (fun _ _ v _ => 20 - (intOf v).toNat)
  case atStart => exact ⟨20, 0, n, [], _, rfl, rfl, rfl, rfl, hn, ⟨rfl⟩, ⟨by simp⟩, ⟨blk_new w _⟩, ⟨rfl, fun j b h => by simp at h⟩, ⟨below_alloc (Below.refl _ _) _⟩⟩
  case round =>
    obtain ⟨a, k, m, suf, cur, rfl, rfl, rfl, hak, hm, hsl, hdec, hX, hcur, hb⟩ := hrel
    have hk19 : k ≤ 19 := by
      have h1 := hlen.out
      have h2 := decL_pos m
      rw [hdec.out, List.length_append, hsl.out] at h1
      omega
    obtain ⟨a', rfl⟩ : ∃ a', a = a' + 1 := ⟨a - 1, by omega⟩
    have hw1 : wrap64 (a' : Int) = a' := by unfold wrap64; omega
    obtain ⟨x, hx⟩ : ∃ x, cur[a']? = some x := ⟨_, Array.getElem?_eq_getElem (by have := hcur.out.1; omega)⟩
    have e1 : wr.cell? ⟨w.heap.size, a', none⟩ = some x := (blk_cell hX.out a').trans hx
    have e2 : wr.frozen? ⟨w.heap.size, a', none⟩ = false := blk_frozen hX.out a'
    have hd : Aside0 (((digB m).toNat : Int) = 48 + (m : Int) % 10) := ⟨by rw [digB_nat]; omega⟩
    have ha20 : a' < 20 := by omega
    have hX2 := Aside0.mk ((blk_set hX.out a' (.int .u8 (48 + (m : Int) % 10))))
    have hT2 := Aside0.mk (hcur.out.put ha20 (digB m) _ hd.out)
    have hb2 := Aside0.mk (hb.out.setCell (p := ⟨w.heap.size, a', none⟩) (Nat.le_refl _) (.int .u8 (48 + (m : Int) % 10)))
    clear hx
    by_cases h10 : m < 10
    · have hz : ((m : Int) / 10 == 0) = true := beq_iff_eq.2 (by omega)
      have hslc := arr_slice a' ha20 w.heap.size
      have hcv := tail_string hX2.out hT2.out (by rw [List.length_cons, hsl.out]; omega)
      go_wp2_with fail
      go_ret
      exact ⟨by rw [hdec.out, decL_one h10]; rfl, hb2.out⟩
    · have hz : ((m : Int) / 10 == 0) = false := beq_eq_false_iff_ne.2 (by omega)
      go_wp2_with fail
      go_roundw
      case rel => exact ⟨a', k + 1, m / 10, digB m :: suf, _, by go_num, rfl, by go_num, by omega, by omega, ⟨by rw [List.length_cons, hsl.out]⟩, ⟨by rw [hdec.out, decL_more h10, List.append_assoc]; rfl⟩, hX2, hT2, hb2⟩
      case measure => simp [intOf]; omega
end Go.Proofs.YthalgemkblkhgaaGreat
