/- Small words that all later texts use: worlds below a block, cells behind a call, bounds of numbers of their kinds. Small words on loops that test one element after the other. What the functions of package when and of its reference come to (checks). A map from keys to true that a call makes: a set, told by the list of what was stored. -/
import Derived.Test.YthalgemkblkhgaaGreatQKinds
import Derived.Handy
import Derived.Deep.RegionWith
import Derived.Deep.RegionHeld3
import Derived.StillTailTactics
import Derived.Deep.DeepFit
import Derived.Outline
import Derived.Maps.Own
import Derived.Maps.OwnOps
import Derived.Maps.Views
import Derived.DeepKeys4
import Derived.StringKeys
namespace Go.Proofs.YthalgemkblkhgaaGreat
open Go.RowKit Go.Proofs.YthalgemkblkhgaaGreatW.PrintWords Go.Proofs.YthalgemkblkhgaaGreatW.PrintLast
set_option linter.unusedVariables false
set_option linter.unusedSimpArgs false

/-- What go_wp2_with tries at a builtin alone. -/
theorem gate_builtin {P : Program} {ops : Array Oper} {rest : List Oper} {o : Oper} {a : Act} {Q : Exit → Act → World → Prop} {W : World} {b : Builtin} {xs : Array Operand} {ts : Array TypeId} (_ho : o.op = .call { callee := .builtin b, args := xs, argTypes := ts }) (h : wpList P ops Q (o :: rest) a W) : wpList P ops Q (o :: rest) a W := h
theorem ret_bool {a b : Bool} (h : a = b) : Ending.returned (.bool a) = .returned (.bool b) := by rw [h]
theorem ret_i64 {a b : Int} (h : a = b) : Ending.returned (.int .i64 a) = .returned (.int .i64 b) := by rw [h]
theorem bcell {W w1 : World} (hb : Below W.heap.size W w1) : (∀ b o, b < W.heap.size → w1.cell? ⟨b, o, none⟩ = W.cell? ⟨b, o, none⟩) ∧ (∀ b o, b < W.heap.size → w1.frozen? ⟨b, o, none⟩ = W.frozen? ⟨b, o, none⟩) :=
  ⟨fun b o h => hb.cell (p := ⟨b, o, none⟩) h, fun b o h => hb.frozen (p := ⟨b, o, none⟩) h⟩
theorem bthen {B : Nat} {W w1 w2 : World} (h : Below B W w1) (k : Below w1.heap.size w1 w2) (hB : B ≤ W.heap.size) : Below B W w2 := below_then h (Nat.le_trans hB h.size) k
theorem bthen' {B : Nat} {W w1 w2 : World} (k : Below w1.heap.size w1 w2) (h : Below B W w1) (hB : B ≤ W.heap.size) : Below B W w2 := bthen h k hB
theorem below1 {w w' : World} {a : Obj} (h : Below (w.alloc a).heap.size (w.alloc a) w') : Below w.heap.size w w' :=
  ((Below.refl w.heap.size w).alloc (Nat.le_refl _) a).trans (h.mono (by simp))
theorem below2 {w w' : World} {a b : Obj} (h : Below ((w.alloc a).alloc b).heap.size ((w.alloc a).alloc b) w') : Below w.heap.size w w' := below1 (below1 h)
theorem below3 {w w' : World} {a b c : Obj} (h : Below (((w.alloc a).alloc b).alloc c).heap.size (((w.alloc a).alloc b).alloc c) w') : Below w.heap.size w w' := below1 (below2 h)
theorem below4 {w w' : World} {a b c d : Obj} (h : Below ((((w.alloc a).alloc b).alloc c).alloc d).heap.size ((((w.alloc a).alloc b).alloc c).alloc d) w') : Below w.heap.size w w' := below1 (below3 h)
theorem bdrew {W w1 : World} (h : Below W.heap.size W w1) (n : Nat) : Below W.heap.size W (w1.drewN n) := pw_below_drewN h n
/-- A cell of an argument, later. -/
theorem cell_on {w w1 : World} (h : Below w.heap.size w w1) {a : Addr} {v : Value} (hc : w.cell? a = some v) : w1.cell? a = some v := pw_cell_below h hc

theorem toList_nil (s : ByteArray) : s.toList = [] ↔ s.size = 0 := by rw [ByteArray.toList_eq, ← List.length_eq_zero_iff, data_length]
theorem el_int {k : IntKind} {w : World} {A : Option Addr} {n : Nat} {xs : List Int} (h : Kd.C (Kd.int k) w A n xs) (i : Nat) (x : Int) (hx : xs[i]? = some x) : ∃ ad, A = some ad ∧ w.cell? (ad.add i) = some (.int k x) := by
  have hl : i < xs.length := (List.getElem?_eq_some_iff.1 hx).1
  obtain ⟨ad, e, hc⟩ := Kd.at_int h (i : Int) (by omega) (by have := Kd.C_len h; omega)
  refine ⟨ad, e, ?_⟩
  simpa [rd, hx] using hc

theorem wf_i64 {x : Int} (h : wfInt .i64 x) : -9223372036854775808 ≤ x ∧ x ≤ 9223372036854775807 := by
  simp only [wfInt, Lit.wf, IntKind.min, IntKind.max, IntKind.signed, IntKind.bits, Bool.and_eq_true, decide_eq_true_eq] at h
  simpa using h
theorem wf_u8 {x : Int} (h : wfInt .u8 x) : 0 ≤ x ∧ x ≤ 255 := by
  simp only [wfInt, Lit.wf, IntKind.min, IntKind.max, IntKind.signed, IntKind.bits, Bool.and_eq_true, decide_eq_true_eq] at h
  simpa using h
theorem wf_u16 {x : Int} (h : wfInt .u16 x) : 0 ≤ x ∧ x ≤ 65535 := by
  simp only [wfInt, Lit.wf, IntKind.min, IntKind.max, IntKind.signed, IntKind.bits, Bool.and_eq_true, decide_eq_true_eq] at h
  simpa using h
theorem wf_u32 {x : Int} (h : wfInt .u32 x) : 0 ≤ x ∧ x ≤ 4294967295 := by
  simp only [wfInt, Lit.wf, IntKind.min, IntKind.max, IntKind.signed, IntKind.bits, Bool.and_eq_true, decide_eq_true_eq] at h
  simpa using h
theorem wf_u64 {x : Int} (h : wfInt .u64 x) : 0 ≤ x ∧ x ≤ 18446744073709551615 := by
  simp only [wfInt, Lit.wf, IntKind.min, IntKind.max, IntKind.signed, IntKind.bits, Bool.and_eq_true, decide_eq_true_eq] at h
  simpa using h
theorem i64_wf {x : Int} (h : -9223372036854775808 ≤ x ∧ x ≤ 9223372036854775807) : wfInt .i64 x := by
  simp only [wfInt, Lit.wf, IntKind.min, IntKind.max, IntKind.signed, IntKind.bits, Bool.and_eq_true, decide_eq_true_eq]
  simpa using h
end Go.Proofs.YthalgemkblkhgaaGreat
namespace Go.Proofs.YthalgemkblkhgaaGreat
open Go.RowKit Go.Proofs.YthalgemkblkhgaaGreatW.PrintWords Go.Proofs.YthalgemkblkhgaaGreatW.PrintLast
set_option linter.unusedVariables false
set_option linter.unusedSimpArgs false

instance : DecidableEq When := fun a b => decidable_of_iff (a.f0 = b.f0 ∧ a.f1 = b.f1 ∧ a.f2 = b.f2 ∧ a.f3 = b.f3) (by cases a; cases b; simp)
/-- P holds of each number below i. -/
def upTo (P : Nat → Bool) (i : Nat) : Prop := ∀ j, j < i → P j = true
theorem upTo_zero (P : Nat → Bool) : upTo P 0 := fun j h => by omega
theorem upTo_snoc {P : Nat → Bool} {i : Nat} (h : upTo P i) (hp : P i = true) : upTo P (i + 1) := fun j hj => by
  by_cases e : j = i
  · rw [e]; exact hp
  · exact h j (by omega)
def allB (n : Nat) (P : Nat → Bool) : Bool := (List.range n).all P
theorem allB_yes {P : Nat → Bool} {n : Nat} (h : upTo P n) : allB n P = true := by
  unfold allB
  rw [List.all_eq_true]
  exact fun x hx => h x (List.mem_range.1 hx)
theorem allB_no {P : Nat → Bool} {n i : Nat} (hi : i < n) (hp : P i = false) : allB n P = false := by
  rw [← Bool.not_eq_true]
  unfold allB
  rw [List.all_eq_true]
  intro h
  rw [h i (List.mem_range.2 hi)] at hp
  cases hp
theorem allB_iff {P : Nat → Bool} {n : Nat} : allB n P = true ↔ ∀ i, i < n → P i = true := by
  unfold allB
  rw [List.all_eq_true]
  exact ⟨fun h i hi => h i (List.mem_range.2 hi), fun h i hi => h i (List.mem_range.1 hi)⟩
theorem mem_take_succ {α β : Type} {f : α → β} {l : List α} {i : Nat} {x : α} {y : β} (hx : l[i]? = some x) : y ∈ (l.take (i + 1)).map f ↔ y ∈ (l.take i).map f ∨ y = f x := by
  rw [List.take_add_one, hx]
  simp
end Go.Proofs.YthalgemkblkhgaaGreat
namespace Go.Proofs.YthalgemkblkhgaaGreat
open Go.RowKit Go.Proofs.YthalgemkblkhgaaGreatW.PrintWords Go.Proofs.YthalgemkblkhgaaGreatW.PrintLast
set_option linter.unusedVariables false
set_option linter.unusedSimpArgs false

def within (n a b : Int) : Bool := decide (a ≤ n) && decide (n ≤ b)
theorem within_iff (n a b : Int) : within n a b = true ↔ a ≤ n ∧ n ≤ b := by simp [within]
def gridOk (g : Grid) : Bool := within g.f0 1 20 && (within g.f1 1 7 && within g.f2 1 96)
def tame (x : When) : Bool := within x.f2 0 96 && within x.f3 1 96
theorem gridOk_iff (g : Grid) : gridOk g = true ↔ (1 ≤ g.f0 ∧ g.f0 ≤ 20) ∧ (1 ≤ g.f1 ∧ g.f1 ≤ 7) ∧ (1 ≤ g.f2 ∧ g.f2 ≤ 96) := by simp [gridOk, within_iff]
theorem tame_iff (x : When) : tame x = true ↔ (0 ≤ x.f2 ∧ x.f2 ≤ 96) ∧ (1 ≤ x.f3 ∧ x.f3 ≤ 96) := by simp [tame, within_iff]
/-- When is right in a grid. -/
def whenOk (g : Grid) (x : When) : Bool := gridOk g && (tame x && (decide (x.f2 + x.f3 ≤ g.f2) && (decide (x.f0 ≠ 0) && (decide (x.f0 / 2 ^ g.f0.toNat = 0) && (decide (x.f1 ≠ 0) && decide (x.f1 / 2 ^ g.f1.toNat = 0))))))

set_option maxHeartbeats 400000 in
theorem within_calls (n a b : Int) (r : Bool) (h : within n a b = r) (w : World) :
    Calls Tryz.prog 172 #[.int .i64 n, .int .i64 a, .int .i64 b] w fun e w' => e = .returned (.bool r) ∧ w = w' := by
  subst h
  by_cases h1 : a ≤ n
  all_goals
    go_enter Tryz.func172, Tryz.ntmps172
    go_wp2
    go_ret
    exact ⟨ret_bool (by unfold within; simp [h1]; try omega), rfl⟩

set_option maxHeartbeats 400000 in
theorem tame_calls (x : When) (r : Bool) (h : tame x = r) (w : World) :
    Calls Tryz.prog 197 #[.agg #[.int .u32 x.f0, .int .u8 x.f1, .int .i64 x.f2, .int .i64 x.f3]] w fun e w' => e = .returned (.bool r) ∧ Below w.heap.size w w' := by
  have hu1 := Tryz.underlying117
  subst h
  go_enter Tryz.func197, Tryz.ntmps197
  go_wp2_with fail
  cases h1 : within x.f2 0 96
  all_goals (refine (within_calls _ _ _ _ h1 _).mono ?_; rintro e w' ⟨rfl, rfl⟩; replace h1 := Aside0.mk h1; go_wp2_with fail)
  · go_ret
    exact ⟨ret_bool (by simp [tame, h1.out]), (Below.refl _ _).alloc (Nat.le_refl _) _⟩
  cases h2 : within x.f3 1 96
  all_goals (refine (within_calls _ _ _ _ h2 _).mono ?_; rintro e w' ⟨rfl, rfl⟩; replace h2 := Aside0.mk h2; go_wp2_with fail)
  all_goals
    go_ret
    exact ⟨ret_bool (by simp [tame, h1.out, h2.out]), (Below.refl _ _).alloc (Nat.le_refl _) _⟩

set_option maxHeartbeats 400000 in
theorem gridOk_calls (x : Grid) (r : Bool) (h : gridOk x = r) (w : World) :
    Calls Tryz.prog 126 #[.agg #[.int .i64 x.f0, .int .i64 x.f1, .int .i64 x.f2]] w fun e w' => e = .returned (.bool r) ∧ Below w.heap.size w w' := by
  have hu1 := Tryz.underlying29
  subst h
  go_enter Tryz.func126, Tryz.ntmps126
  go_wp2_with fail
  cases h1 : within x.f0 1 20
  all_goals (refine (within_calls _ _ _ _ h1 _).mono ?_; rintro e w' ⟨rfl, rfl⟩; replace h1 := Aside0.mk h1; go_wp2_with fail)
  · go_ret
    exact ⟨ret_bool (by simp [gridOk, h1.out]), (Below.refl _ _).alloc (Nat.le_refl _) _⟩
  cases h2 : within x.f1 1 7
  all_goals (refine (within_calls _ _ _ _ h2 _).mono ?_; rintro e w' ⟨rfl, rfl⟩; replace h2 := Aside0.mk h2; go_wp2_with fail)
  · go_ret
    exact ⟨ret_bool (by simp [gridOk, h1.out, h2.out]), (Below.refl _ _).alloc (Nat.le_refl _) _⟩
  cases h3 : within x.f2 1 96
  all_goals (refine (within_calls _ _ _ _ h3 _).mono ?_; rintro e w' ⟨rfl, rfl⟩; replace h3 := Aside0.mk h3; go_wp2_with fail)
  all_goals
    go_ret
    exact ⟨ret_bool (by simp [gridOk, h1.out, h2.out, h3.out]), (Below.refl _ _).alloc (Nat.le_refl _) _⟩

set_option maxRecDepth 100000 in
set_option maxHeartbeats 400000 in
theorem whenOk_calls (g : Grid) (x : When) (hx : wfWhen x) (r : Bool) (h : whenOk g x = r) (w : World) :
    Calls Tryz.prog 174 #[.agg #[.int .i64 g.f0, .int .i64 g.f1, .int .i64 g.f2], .agg #[.int .u32 x.f0, .int .u8 x.f1, .int .i64 x.f2, .int .i64 x.f3]] w fun e w' => e = .returned (.bool r) ∧ Below w.heap.size w w' := by
  subst h
  have hu29 := Tryz.underlying29
  have hu80 := Tryz.underlying117
  obtain ⟨hx1, hx2⟩ := wf_u8 hx.h1
  go_enter Tryz.func174, Tryz.ntmps174
  go_wp2_with fail
  cases h1 : gridOk g
  · (refine (gridOk_calls _ _ h1 _).mono ?_; rintro e w1 ⟨rfl, hb⟩; have hc_hb := (bcell hb).1; go_wp2_with fail)
    go_ret
    exact ⟨ret_bool (by simp [whenOk, h1]), below2 hb⟩
  obtain ⟨⟨g1, g2⟩, ⟨g3, g4⟩, g5, g6⟩ := (gridOk_iff g).1 h1
  replace h1 := Aside0.mk h1
  (refine (gridOk_calls _ _ h1.out _).mono ?_; rintro e w1 ⟨rfl, hb⟩; have hc_hb := (bcell hb).1; go_wp2_with fail)
  cases h2 : tame x
  · (refine (tame_calls _ _ h2 _).mono ?_; rintro e w1 ⟨rfl, hb_⟩; replace hb := bthen hb hb_ (Nat.le_refl _); clear hb_; replace hc_hb := (bcell hb).1; go_wp2_with fail)
    go_ret
    exact ⟨ret_bool (by simp [whenOk, h1.out, h2]), below2 hb⟩
  obtain ⟨⟨t1, t2⟩, t3, t4⟩ := (tame_iff x).1 h2
  replace h2 := Aside0.mk h2
  (refine (tame_calls _ _ h2.out _).mono ?_; rintro e w1 ⟨rfl, hb_⟩; replace hb := bthen hb hb_ (Nat.le_refl _); clear hb_; replace hc_hb := (bcell hb).1; go_wp2_with fail)
  all_goals
    go_ret
    refine ⟨ret_bool ?_, below2 hb⟩
    clear hc_hb hb
    simp only [whenOk, h1.out, h2.out, Bool.true_and]
    rw [Bool.eq_iff_iff]
    simp [*]
    try (intros; omega)

set_option maxRecDepth 100000 in
set_option maxHeartbeats 400000 in
theorem gridOk_ref (x : Grid) (r : Bool) (h : gridOk x = r) (w : World) :
    Calls Tryz.prog 90 #[.agg #[.int .i64 x.f0, .int .i64 x.f1, .int .i64 x.f2]] w fun e w' => e = .returned (.bool r) ∧ Below w.heap.size w w' := by
  have hu1 := Tryz.underlying29
  subst h
  go_enter Tryz.func90, Tryz.ntmps90
  go_wp2
  all_goals
    go_ret
    refine ⟨ret_bool ?_, (Below.refl _ _).alloc (Nat.le_refl _) _⟩
    rw [Bool.eq_iff_iff]
    simp [gridOk, within, *]
    try omega

/-- Is bit i of n 1? -/
def bitB (n i : Int) : Bool := decide (n / 2 ^ i.toNat % 2 = 1)
/-- The bits from a on, below b, are 0. -/
def noBits (n a b : Int) : Prop := ∀ j, a ≤ j → j < b → bitB n j = false
theorem noBits_nil (n a : Int) : noBits n a a := fun j h1 h2 => by omega
theorem noBits_snoc {n a b : Int} (h : noBits n a b) (hb : bitB n b = false) : noBits n a (b + 1) := fun j h1 h2 => by
  by_cases e : j = b
  · rw [e]; exact hb
  · exact h j h1 (by omega)
theorem noBits_nat (n k : Nat) : ∀ d, (∀ j, k ≤ j → j < k + d → n / 2 ^ j % 2 = 0) → n < 2 ^ (k + d) → n / 2 ^ k = 0
  | 0, _, h => Nat.div_eq_of_lt (by simpa using h)
  | d + 1, hb, h => by
    refine noBits_nat n k d (fun j h1 h2 => hb j h1 (by omega)) ?_
    have h0 := hb (k + d) (by omega) (by omega)
    have h1 : n / 2 ^ (k + d) < 2 := by
      rw [Nat.div_lt_iff_lt_mul (Nat.pow_pos (by omega))]
      have e : 2 ^ (k + (d + 1)) = 2 * 2 ^ (k + d) := by rw [← Nat.add_assoc, Nat.pow_succ]; omega
      omega
    have h2 : n / 2 ^ (k + d) = 0 := by
      clear hb
      generalize n / 2 ^ (k + d) = q at h0 h1 ⊢
      omega
    have hp : 0 < 2 ^ (k + d) := Nat.pow_pos (by omega)
    rcases Nat.div_eq_zero_iff.1 h2 with h3 | h3 <;> omega
theorem int_div_pow (n a : Nat) : (n : Int) / 2 ^ a = ((n / 2 ^ a : Nat) : Int) := by push_cast; rfl
theorem noBits_iff {n a b : Int} (hn : 0 ≤ n) (ha : 0 ≤ a) (hab : a ≤ b) (hlt : n < 2 ^ b.toNat) : noBits n a b ↔ n / 2 ^ a.toNat = 0 := by
  obtain ⟨n, rfl⟩ := Int.eq_ofNat_of_zero_le hn
  obtain ⟨a, rfl⟩ := Int.eq_ofNat_of_zero_le ha
  obtain ⟨b, rfl⟩ := Int.eq_ofNat_of_zero_le (by omega : 0 ≤ b)
  simp only [Int.toNat_natCast] at *
  have e0 : ((n : Int) / 2 ^ a = 0) ↔ n / 2 ^ a = 0 := by
    rw [int_div_pow]
    omega
  rw [e0]
  constructor
  · intro h
    refine noBits_nat n a (b - a) (fun j h1 h2 => ?_) ?_
    · have hj := h j (by omega) (by omega)
      simp only [bitB, Int.toNat_natCast, decide_eq_false_iff_not] at hj
      rw [int_div_pow] at hj
      omega
    · have e : a + (b - a) = b := by omega
      rw [e]
      exact_mod_cast hlt
  · intro h j h1 h2
    obtain ⟨j, rfl⟩ := Int.eq_ofNat_of_zero_le (by omega : 0 ≤ j)
    simp only [bitB, Int.toNat_natCast, decide_eq_false_iff_not]
    rw [int_div_pow]
    have : n < 2 ^ a := by
      rcases Nat.div_eq_zero_iff.1 h with h3 | h3
      · have : 0 < 2 ^ a := Nat.pow_pos (by omega)
        omega
      · exact h3
    have h3 : n < 2 ^ j := Nat.lt_of_lt_of_le this (Nat.pow_le_pow_right (by omega) (by omega))
    have h4 : n / 2 ^ j = 0 := Nat.div_eq_of_lt h3
    omega

set_option maxHeartbeats 400000 in
theorem bit_ref (n i : Int) (h0 : 0 ≤ n) (h1 : n ≤ 4294967295) (h2 : 0 ≤ i) (h3 : i ≤ 31) (r : Bool) (h : bitB n i = r) (w : World) :
    Calls Tryz.prog 205 #[.int .u32 n, .int .i64 i] w fun e w' => e = .returned (.bool r) ∧ w = w' := by
  subst h
  have hq : 0 ≤ n / 2 ^ i.toNat := Int.ediv_nonneg h0 (Int.le_of_lt (Int.pow_pos (by omega)))
  go_enter Tryz.func205, Tryz.ntmps205
  go_wp2
  all_goals
    go_ret
    exact ⟨ret_bool (by rw [Bool.eq_iff_iff]; simp [bitB]), rfl⟩

set_option maxRecDepth 100000 in
set_option maxHeartbeats 1000000 in
theorem whenOk_ref (g : Grid) (x : When) (hg : wfGrid g) (hx : wfWhen x) (r : Bool) (h : whenOk g x = r) (w : World) :
    Calls Tryz.prog 201 #[.agg #[.int .i64 g.f0, .int .i64 g.f1, .int .i64 g.f2], .agg #[.int .u32 x.f0, .int .u8 x.f1, .int .i64 x.f2, .int .i64 x.f3]] w fun e w' => e = .returned (.bool r) ∧ Below w.heap.size w w' := by
  subst h
  have hu29 := Tryz.underlying29
  have hu80 := Tryz.underlying117
  obtain ⟨hx1, hx2⟩ := wf_u8 hx.h1
  obtain ⟨hx3, hx4⟩ := wf_u32 hx.h0
  obtain ⟨hx5, hx6⟩ := wf_i64 hx.h2
  obtain ⟨hx7, hx8⟩ := wf_i64 hx.h3
  go_enter Tryz.func201, Tryz.ntmps201
  go_wp2_with fail
  cases h1 : gridOk g
  · (refine (gridOk_ref _ _ h1 _).mono ?_; rintro e w1 ⟨rfl, hb⟩; have hc_hb := (bcell hb).1; go_wp2_with fail)
    go_ret
    exact ⟨ret_bool (by simp [whenOk, h1]), below2 hb⟩
  obtain ⟨⟨g1, g2⟩, ⟨g3, g4⟩, g5, g6⟩ := (gridOk_iff g).1 h1
  replace h1 := Aside0.mk h1
  by_cases c1 : x.f0 = 0
  · (refine (gridOk_ref _ _ h1.out _).mono ?_; rintro e w1 ⟨rfl, hb⟩; have hc_hb := (bcell hb).1; go_wp2_with fail)
    go_ret
    exact ⟨ret_bool (by simp [whenOk, c1]), below2 hb⟩
  by_cases c2 : x.f1 = 0
  · (refine (gridOk_ref _ _ h1.out _).mono ?_; rintro e w1 ⟨rfl, hb⟩; have hc_hb := (bcell hb).1; go_wp2_with fail)
    go_ret
    exact ⟨ret_bool (by simp [whenOk, c2]), below2 hb⟩
  by_cases c3 : x.f2 < 0
  · (refine (gridOk_ref _ _ h1.out _).mono ?_; rintro e w1 ⟨rfl, hb⟩; have hc_hb := (bcell hb).1; go_wp2_with fail)
    go_ret
    exact ⟨ret_bool (by rw [Bool.eq_iff_iff]; simp [whenOk, tame_iff]; omega), below2 hb⟩
  by_cases c4 : x.f3 < 1
  · (refine (gridOk_ref _ _ h1.out _).mono ?_; rintro e w1 ⟨rfl, hb⟩; have hc_hb := (bcell hb).1; go_wp2_with fail)
    go_ret
    exact ⟨ret_bool (by rw [Bool.eq_iff_iff]; simp [whenOk, tame_iff]; omega), below2 hb⟩
  by_cases c5 : g.f2 < x.f2
  · (refine (gridOk_ref _ _ h1.out _).mono ?_; rintro e w1 ⟨rfl, hb⟩; have hc_hb := (bcell hb).1; go_wp2_with fail)
    go_ret
    exact ⟨ret_bool (by rw [Bool.eq_iff_iff]; simp [whenOk, tame_iff]; omega), below2 hb⟩
  by_cases c6 : g.f2 - x.f2 < x.f3
  · (refine (gridOk_ref _ _ h1.out _).mono ?_; rintro e w1 ⟨rfl, hb⟩; have hc_hb := (bcell hb).1; go_wp2_with fail)
    go_ret
    exact ⟨ret_bool (by rw [Bool.eq_iff_iff]; simp [whenOk, tame_iff]; omega), below2 hb⟩
  have hsp : whenOk g x = (decide (x.f0 / 2 ^ g.f0.toNat = 0) && decide (x.f1 / 2 ^ g.f1.toNat = 0)) := by
    rw [Bool.eq_iff_iff]; simp [whenOk, tame_iff, h1.out]; omega
  replace hsp := Aside0.mk hsp
  have c1b : (x.f0 == 0) = false := by simp [c1]
  have c2b : (x.f1 == 0) = false := by simp [c2]
  (refine (gridOk_ref _ _ h1.out _).mono ?_; rintro e w1 ⟨rfl, hb⟩; have hc_hb := (bcell hb).1; go_wp2_with fail)
  go_loop [5] (fun v => ∃ i : Int, v = .int .i64 i ∧ g.f0 ≤ i ∧ i ≤ 32 ∧ Aside0 (noBits x.f0 g.f0 i)) (fun v => (32 - intOf v).toNat)
  case atStart => exact ⟨_, rfl, by omega, by omega, ⟨noBits_nil _ _⟩⟩
  case round =>
    obtain ⟨i, rfl, hi1, hi2, hno⟩ := hrel
    by_cases hlt : i < 32
    · go_wp2_with fail
      cases hbit : bitB x.f0 i
      · (refine (bit_ref _ _ hx3 hx4 (by omega) (by omega) _ hbit _).mono ?_; rintro e w' ⟨rfl, rfl⟩; go_wp2_with fail)
        go_round
        case rel => exact ⟨i + 1, by go_num, by omega, by omega, ⟨noBits_snoc hno.out hbit⟩⟩
        case measure => simp [intOf]; omega
      · (refine (bit_ref _ _ hx3 hx4 (by omega) (by omega) _ hbit _).mono ?_; rintro e w' ⟨rfl, rfl⟩; go_wp2_with fail)
        go_ret
        refine ⟨ret_bool ?_, below2 hb⟩
        rw [hsp.out, Bool.eq_iff_iff]
        have hni : ¬ noBits x.f0 g.f0 32 := fun hn => by rw [hn i hi1 hlt] at hbit; cases hbit
        rw [noBits_iff hx3 (by omega) (by omega) (by simp; omega)] at hni
        simp [hni]
    · go_wp2_with fail
      obtain rfl : i = 32 := by omega
      go_loop [6] (fun v => ∃ i : Int, v = .int .i64 i ∧ g.f1 ≤ i ∧ i ≤ 8 ∧ Aside0 (noBits x.f1 g.f1 i)) (fun v => (8 - intOf v).toNat)
      case atStart => exact ⟨_, rfl, by omega, by omega, ⟨noBits_nil _ _⟩⟩
      case round =>
        obtain ⟨i, rfl, hi1, hi2, hno2⟩ := hrel
        by_cases hlt : i < 8
        · go_wp2_with fail
          cases hbit : bitB x.f1 i
          · (refine (bit_ref _ _ hx1 (by omega) (by omega) (by omega) _ hbit _).mono ?_; rintro e w' ⟨rfl, rfl⟩; go_wp2_with fail)
            go_round
            case rel => exact ⟨i + 1, by go_num, by omega, by omega, ⟨noBits_snoc hno2.out hbit⟩⟩
            case measure => simp [intOf]; omega
          · (refine (bit_ref _ _ hx1 (by omega) (by omega) (by omega) _ hbit _).mono ?_; rintro e w' ⟨rfl, rfl⟩; go_wp2_with fail)
            go_ret
            refine ⟨ret_bool ?_, below2 hb⟩
            rw [hsp.out, Bool.eq_iff_iff]
            have hni : ¬ noBits x.f1 g.f1 8 := fun hn => by rw [hn i hi1 hlt] at hbit; cases hbit
            rw [noBits_iff hx1 (by omega) (by omega) (by simp; omega)] at hni
            simp [hni]
        · go_wp2_with fail
          obtain rfl : i = 8 := by omega
          go_ret
          refine ⟨ret_bool ?_, below2 hb⟩
          rw [hsp.out, Bool.eq_iff_iff]
          have e1 := (noBits_iff hx3 (by omega) (by omega) (by simp; omega)).1 hno.out
          have e2 := (noBits_iff hx1 (by omega) (by omega) (by simp; omega)).1 hno2.out
          simp [e1, e2]
end Go.Proofs.YthalgemkblkhgaaGreat
namespace Go.Proofs.YthalgemkblkhgaaGreat
open Go.RowKit Go.Proofs.YthalgemkblkhgaaGreatW.PrintWords Go.Proofs.YthalgemkblkhgaaGreatW.PrintLast Go.Maps Go.WideMaps
set_option linter.unusedVariables false
set_option linter.unusedSimpArgs false

/-- Block b is a map of keys of type k; the keys stored (with true) are those of S. -/
def OwnsSet {α : Type} [DecidableEq α] (enc : α → Value) (k : TypeId) (w : World) (b n : Nat) (S : List α) : Prop :=
  ∃ D : DataW Unit, w.ownsMap Tryz.prog k (plainElem Tryz.prog 4) b n D ∧ IsMap D ∧ ∀ a l, keyOf Tryz.prog k (enc a) = some l → D.atKey l (.lit (.bool false)) = .lit (.bool (decide (a ∈ S)))

section
variable {α : Type} [DecidableEq α] {enc : α → Value} {k : TypeId} {w w1 : World} {b n : Nat} {S : List α}
theorem OwnsSet.made (w : World) (enc : α → Value) (k : TypeId) : OwnsSet enc k (w.alloc (.map #[] 0)) w.heap.size 0 [] :=
  ⟨_, World.ownsMap_made w _ k _, ⟨_, rfl⟩, fun a l _ => by simp [DataW.atKey]⟩
theorem OwnsSet.kept {row : Option Nat} (h : OwnsSet enc k w b n S) (hg : w.grownBy w1 row) (hne : some b ≠ row) : OwnsSet enc k w1 b n S := by
  obtain ⟨D, h1, h2, h3⟩ := h
  exact ⟨D, h1.kept hg hne, h2, h3⟩
theorem OwnsSet.below (h : OwnsSet enc k w b n S) (hb : Below w.heap.size w w1) : OwnsSet enc k w1 b n S := h.kept (grown_of_below hb none) (by simp)
theorem OwnsSet.lt (h : OwnsSet enc k w b n S) : b < w.heap.size := by
  obtain ⟨D, h1, _⟩ := h
  exact h1.lt
theorem OwnsSet.lookup (h : OwnsSet enc k w b n S) {t : TypeId} (K : Keyed Tryz.prog k) (ht : Tryz.prog.underlying t = some (.map k 4)) {a : α} {l : Lit} (hk : keyOf Tryz.prog k (enc a) = some l) :
    (Instr.lookup t (.map (some b)) (enc a) false).run Tryz.prog w = .ok (.bool (decide (a ∈ S))) w := by
  obtain ⟨D, h1, h2, h3⟩ := h
  obtain ⟨v, ps, hrun, hv⟩ := h1.lookup K ht (z := .bool false) (Tryz.zeroValue4 w) (plainElem_bool Tryz.underlying4 false) hk
  have h3' := h3 a l hk
  generalize D.atKey l (.lit (.bool false)) = d at hv h3'
  subst h3'
  have : v = .bool (decide (a ∈ S)) := by
    have hu := Tryz.underlying4
    generalize Tryz.prog = P at hv hu
    unfold plainElem at hv
    rw [hu] at hv
    cases v <;> simp at hv
    obtain ⟨rfl, _⟩ := hv
    rfl
  subst this
  exact hrun
theorem OwnsSet.update (h : OwnsSet enc k w b n S) {t : TypeId} (K : Keyed Tryz.prog k) (ht : Tryz.prog.underlying t = some (.map k 4)) (hn : n < maxLen) {a : α} {l : Lit} (hk : keyOf Tryz.prog k (enc a) = some l)
    (hinj : ∀ x y, enc x = enc y → x = y) :
    ∃ w', (Instr.mapUpdate t (.map (some b)) (enc a) (.bool true)).run Tryz.prog w = .ok () w' ∧ OwnsSet enc k w' b (n + 1) (a :: S) ∧ w.grownBy w' (some b) := by
  obtain ⟨D, h1, h2, h3⟩ := h
  obtain ⟨w', hrun, r1, r2⟩ := h1.update K ht hn hk (plainElem_bool Tryz.underlying4 true)
  refine ⟨w', hrun, ⟨_, r1, ?_, fun x lx hx => ?_⟩, r2⟩
  · obtain ⟨es, rfl⟩ := h2
    exact ⟨_, rfl⟩
  · by_cases e : lx = l
    · subst e
      have : x = a := hinj _ _ (K.inj hx hk)
      subst this
      rw [atKey_put_same h2 (K.key hk)]
      simp
    · have : x ≠ a := fun e2 => e (by rw [e2, hk] at hx; exact (Option.some.inj hx).symm)
      rw [atKey_put_other e, h3 x lx hx]
      simp [this]
end

/-- A look-up in such a set, at the operation. -/
theorem wpList_set_lookup {α : Type} [DecidableEq α] (enc : α → Value) (k : TypeId) {w : World} {ops : Array Oper} {rest : List Oper} {o : Oper} {a : Act} {Q : Exit → Act → World → Prop}
    (hg : Region.wanted o (yielded ops a.tmps) = true) (m x : Operand) (t : TypeId) (hop : o.op = Op.lookup t m x false) {b n : Nat} {S : List α} (h : OwnsSet enc k w b n S)
    (K : Keyed Tryz.prog k) (ht : Tryz.prog.underlying t = some (.map k 4)) (hm : a.eval m = .map (some b)) (y : α) {l : Lit} (hx : a.eval x = enc y) (hk : keyOf Tryz.prog k (enc y) = some l)
    (hK : wpList Tryz.prog ops Q rest (a.put o.dst (.bool (decide (y ∈ S)))) w) : wpList Tryz.prog ops Q (o :: rest) a w := by
  refine wpList_step fun K' hK' => ?_
  rw [if_pos hg]
  unfold Oper.wp
  simp [execOp, hop, hm, hx, h.lookup K ht hk, Result.andThen]
  exact hK' _ _ hK

/-- A store of true into such a set, at the operation. -/
theorem wpList_set_put {α : Type} [DecidableEq α] (enc : α → Value) (k : TypeId) {w : World} {ops : Array Oper} {rest : List Oper} {o : Oper} {a : Act} {Q : Exit → Act → World → Prop}
    (hg : Region.wanted o (yielded ops a.tmps) = true) (m x v : Operand) (t : TypeId) (hop : o.op = Op.mapUpdate t m x v) {b n : Nat} {S : List α} (h : OwnsSet enc k w b n S)
    (K : Keyed Tryz.prog k) (ht : Tryz.prog.underlying t = some (.map k 4)) (hm : a.eval m = .map (some b)) (y : α) {l : Lit} (hx : a.eval x = enc y) (hv : a.eval v = .bool true) (hk : keyOf Tryz.prog k (enc y) = some l)
    (hn : n < maxLen) (hinj : ∀ x y, enc x = enc y → x = y)
    (hK : ∀ w', OwnsSet enc k w' b (n + 1) (y :: S) → w.grownBy w' (some b) → wpList Tryz.prog ops Q rest (a.put o.dst undef) w') : wpList Tryz.prog ops Q (o :: rest) a w := by
  refine wpList_step fun K' hK' => ?_
  rw [if_pos hg]
  obtain ⟨w', hrun, r1, r2⟩ := h.update K ht hn hk hinj
  unfold Oper.wp
  simp [execOp, hop, hm, hx, hv, hrun, Result.andThen]
  exact hK' _ _ (hK w' r1 r2)

/-! ### the kinds of keys -/
def eInt (x : Int) : Value := .int .i64 x
def eStr (s : ByteArray) : Value := .string s
def eWhen (x : When) : Value := .agg #[.int .u32 x.f0, .int .u8 x.f1, .int .i64 x.f2, .int .i64 x.f3]

theorem eInt_inj (x y : Int) (h : eInt x = eInt y) : x = y := by simpa [eInt] using h
theorem eStr_inj (x y : ByteArray) (h : eStr x = eStr y) : x = y := by simpa [eStr] using h
theorem eWhen_inj (x y : When) (h : eWhen x = eWhen y) : x = y := by
  cases x; cases y; simpa [eWhen] using h
theorem kInt : Keyed Tryz.prog 3 := int_keyed Tryz.underlying3
theorem kStr : Keyed Tryz.prog 9 := string_keyed Tryz.underlying9
theorem setLaidOut : laidOutB Tryz.prog = true := by kernel_rfl
theorem kWhenKey : Keyed Tryz.prog 117 := Keyed.of_law (deep_law_laid setLaidOut (m := 3) (by omega) (of_decide_eq_true (by kernel_rfl)) (by kernel_rfl) (by kernel_rfl))
theorem key_int {x : Int} (h : wfInt .i64 x) : keyOf Tryz.prog 3 (eInt x) = some (.int .i64 x) := keyOf_int_mk Tryz.underlying3 h
theorem key_str {s : ByteArray} (h : wfStr s) : keyOf Tryz.prog 9 (eStr s) = some (.string s.data.toList) := by
  have h' : s.size ≤ maxLen := by unfold wfStr at h; unfold maxLen; omega
  exact keyOf_string_mk Tryz.underlying9 h'
theorem lits_int {t : TypeId} {q : IntKind} (hu : Tryz.prog.underlying t = some (.int q)) (d : Nat) {x : Int} (h : wfInt q x) : Tryz.prog.keyLits (d + 1) t [.int q x] = some [.int q x] := by
  unfold wfInt at h
  simp [Program.keyLits, hu, h]
theorem key_when {x : When} (h : wfWhen x) : ∃ l, keyOf Tryz.prog 117 (eWhen x) = some l := by
  obtain ⟨d, hd⟩ : ∃ d, Tryz.prog.types.size + 1 = d + 2 := ⟨Tryz.prog.types.size - 1, by
    have h1 : decide (1 ≤ Tryz.prog.types.size) = true := by kernel_rfl
    have h2 := of_decide_eq_true h1
    generalize Tryz.prog.types.size = n at h2 ⊢
    omega⟩
  have hk : Tryz.prog.keyType 117 = true := by kernel_rfl
  have hc : Tryz.prog.cellsOf 117 = 4 := by kernel_rfl
  have hc1 : Tryz.prog.cellsOf 115 = 1 := by kernel_rfl
  have hc2 : Tryz.prog.cellsOf 5 = 1 := by kernel_rfl
  have hc3 : Tryz.prog.cellsOf 3 = 1 := by kernel_rfl
  have e : Tryz.prog.keyLits (d + 2) 117 [.int .u32 x.f0, .int .u8 x.f1, .int .i64 x.f2, .int .i64 x.f3] = some [.int .u32 x.f0, .int .u8 x.f1, .int .i64 x.f2, .int .i64 x.f3] := by
    have l0 := lits_int Tryz.underlying115 d h.h0
    have l1 := lits_int Tryz.underlying5 d h.h1
    have l2 := lits_int Tryz.underlying3 d h.h2
    have l3 := lits_int Tryz.underlying3 d h.h3
    have hu := Tryz.underlying117
    generalize Tryz.prog = P at *
    show P.keyLits (d + 1 + 1) 117 [.int .u32 x.f0, .int .u8 x.f1, .int .i64 x.f2, .int .i64 x.f3] = _
    unfold Program.keyLits
    rw [hu]
    simp [hc, hc1, hc2, hc3, l0, l1, l2, l3]
  refine ⟨.string (keyBytes [.int .u32 x.f0, .int .u8 x.f1, .int .i64 x.f2, .int .i64 x.f3]), ?_⟩
  unfold keyOf
  rw [Tryz.underlying117]
  simp only [hk, hd]
  simp [Value.formed, eWhen, Tryz.underlying117, hc, Value.cells, e]
end Go.Proofs.YthalgemkblkhgaaGreat
