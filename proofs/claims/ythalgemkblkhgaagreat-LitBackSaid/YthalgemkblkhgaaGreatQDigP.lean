/- Numbers as texts: the digits of a number, the number of digits. -/
import Derived.Test.YthalgemkblkhgaaGreatQMA
namespace Go.Proofs.YthalgemkblkhgaaGreat
open Go.RowKit Go.Proofs.YthalgemkblkhgaaGreatW.PrintWords Go.Proofs.YthalgemkblkhgaaGreatW.PrintLast
set_option linter.unusedVariables false
set_option linter.unusedSimpArgs false

def digB (n : Nat) : UInt8 := UInt8.ofNat (48 + n % 10)
/-- The digits of a number. -/
def decL (n : Nat) : List UInt8 := if h : n < 10 then [digB n] else decL (n / 10) ++ [digB n]
termination_by n
decreasing_by omega
theorem decL_one {n : Nat} (h : n < 10) : decL n = [digB n] := by rw [decL, dif_pos h]
theorem decL_more {n : Nat} (h : ¬ n < 10) : decL n = decL (n / 10) ++ [digB n] := by rw [decL, dif_neg h]
theorem digB_nat (n : Nat) : (digB n).toNat = 48 + n % 10 := by
  unfold digB
  rw [UInt8.toNat_ofNat']
  omega
theorem decL_pos (n : Nat) : 0 < (decL n).length := by
  by_cases h : n < 10
  · rw [decL_one h]; simp
  · rw [decL_more h]; simp
theorem decL_len : ∀ (k n : Nat), n < 10 ^ (k + 1) → (decL n).length ≤ k + 1
  | 0, n, h => by rw [decL_one (by simpa using h)]; simp
  | k + 1, n, h => by
    by_cases h10 : n < 10
    · rw [decL_one h10]; simp
    · rw [decL_more h10, List.length_append]
      have := decL_len k (n / 10) (by rw [Nat.div_lt_iff_lt_mul (by omega)]; rw [Nat.pow_succ] at h; exact h)
      simp
      omega
def isDig (b : UInt8) : Bool := decide (48 ≤ b.toNat) && decide (b.toNat ≤ 57)
theorem digB_dig (n : Nat) : isDig (digB n) = true := by
  unfold isDig
  rw [digB_nat]
  simp
  omega
theorem decL_dig : ∀ (n : Nat), ∀ b ∈ decL n, isDig b = true := by
  intro n
  induction n using Nat.strongRecOn with
  | ind n ih =>
    intro b hb
    by_cases h : n < 10
    · rw [decL_one h] at hb
      rw [List.mem_singleton.1 hb]
      exact digB_dig n
    · rw [decL_more h] at hb
      rcases List.mem_append.1 hb with hb | hb
      · exact ih (n / 10) (by omega) b hb
      · rw [List.mem_singleton.1 hb]
        exact digB_dig n
def valL (a : Nat) (l : List UInt8) : Nat := l.foldl (fun a b => 10 * a + (b.toNat - 48)) a
theorem valL_append (a : Nat) (l m : List UInt8) : valL a (l ++ m) = valL (valL a l) m := List.foldl_append
theorem valL_dec : ∀ (n : Nat), valL 0 (decL n) = n := by
  intro n
  induction n using Nat.strongRecOn with
  | ind n ih =>
    by_cases h : n < 10
    · rw [decL_one h]
      show 10 * 0 + ((digB n).toNat - 48) = n
      rw [digB_nat]
      omega
    · rw [decL_more h, valL_append, ih (n / 10) (by omega)]
      show 10 * (n / 10) + ((digB n).toNat - 48) = n
      rw [digB_nat]
      omega
theorem valL_mono : ∀ (l : List UInt8) (a : Nat), a ≤ valL a l
  | [], a => Nat.le_refl a
  | b :: l, a => by
    have := valL_mono l (10 * a + (b.toNat - 48))
    show a ≤ valL (10 * a + (b.toNat - 48)) l
    omega
/-- Digits, without a nought ahead of others. -/
def shapedL (l : List UInt8) : Bool := match l with | [] => false | b :: r => (!(b == 48) || r.isEmpty) && (b :: r).all isDig
theorem decL_head : ∀ (n : Nat), 0 < n → ∃ b r, decL n = b :: r ∧ b.toNat ≠ 48 := by
  intro n
  induction n using Nat.strongRecOn with
  | ind n ih =>
    intro h0
    by_cases h : n < 10
    · rw [decL_one h]
      exact ⟨_, _, rfl, by rw [digB_nat]; omega⟩
    · obtain ⟨b, r, h1, h2⟩ := ih (n / 10) (by omega) (by omega)
      rw [decL_more h, h1]
      exact ⟨b, r ++ [digB n], rfl, h2⟩
theorem shaped_dec (n : Nat) : shapedL (decL n) = true := by
  have hall := decL_dig n
  rcases Nat.eq_zero_or_pos n with rfl | h
  · rw [decL_one (by omega)] at hall ⊢
    unfold shapedL
    simp [hall]
  · obtain ⟨b, r, h1, h2⟩ := decL_head n h
    rw [h1] at hall ⊢
    unfold shapedL
    have hb : (b == 48) = false := by
      rw [beq_eq_false_iff_ne]
      intro e
      exact h2 (by rw [e]; rfl)
    show ((!(b == 48) || r.isEmpty) && (b :: r).all isDig) = true
    rw [hb, List.all_eq_true.2 hall]
    rfl
/-- What a text is as a number, or why it is none. -/
def wordOf (l : List UInt8) : Int × Int := if shapedL l = true then (if valL 0 l < 18446744073709551616 then ((valL 0 l : Nat), 0) else (0, 6)) else (0, 3)
theorem wordOf_dec (n : Nat) (h : n < 18446744073709551616) : wordOf (decL n) = ((n : Int), 0) := by
  unfold wordOf
  rw [if_pos (shaped_dec n), valL_dec, if_pos h]
def strB (l : List UInt8) : ByteArray := ⟨l.toArray⟩
theorem strB_size (l : List UInt8) : (strB l).size = l.length := by simp [strB, ByteArray.size]
theorem strB_list (s : ByteArray) : strB s.data.toList = s := by simp [strB]
theorem strB_append (a b : List UInt8) : strB a ++ strB b = strB (a ++ b) := by
  apply ByteArray.ext
  simp [strB, ByteArray.data_append]
end Go.Proofs.YthalgemkblkhgaaGreat
