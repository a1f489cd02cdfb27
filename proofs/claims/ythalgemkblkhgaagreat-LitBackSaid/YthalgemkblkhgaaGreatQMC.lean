/- What the checks of package room and person, and of their references, come to. What the checks of rooms, persons and walks, and of their references, come to. What the references' checks of rooms, persons and walks come to. -/
import Derived.Test.YthalgemkblkhgaaGreatQMA
import Derived.WalkSpells
import Derived.Deep.QuietTactic
import Derived.BigQuiet
namespace Go.Proofs.YthalgemkblkhgaaGreat
open Go.RowKit Go.Proofs.YthalgemkblkhgaaGreatW.PrintWords Go.Proofs.YthalgemkblkhgaaGreatW.PrintLast
set_option linter.unusedVariables false
set_option linter.unusedSimpArgs false

def nameOk (s : ByteArray) : Bool := decide (1 ≤ s.size) && decide (s.size ≤ 24)

set_option maxHeartbeats 400000 in
theorem name_calls (s : ByteArray) (r : Bool) (h : nameOk s = r) (w : World) :
    Calls Tryz.prog 125 #[.string s] w fun e w' => e = .returned (.bool r) ∧ w = w' := by
  subst h
  by_cases hs : s.size = 0
  · have h1 : s.toList = [] := (toList_nil s).2 hs
    go_enter Tryz.func125, Tryz.ntmps125
    go_wp2
    go_ret
    exact ⟨ret_bool (by simp [nameOk, hs]), rfl⟩
  · have h1 : s.toList.isEmpty = false := by
      cases h : s.toList with
      | nil => exact absurd ((toList_nil s).1 h) hs
      | cons => rfl
    have h2 : ¬ s.toList = [] := fun h => hs ((toList_nil s).1 h)
    go_enter Tryz.func125, Tryz.ntmps125
    go_wp2
    go_ret
    exact ⟨ret_bool (by clear h1 h2; rw [Bool.eq_iff_iff]; simp [nameOk]; omega), rfl⟩

set_option maxHeartbeats 400000 in
theorem name_ref (s : ByteArray) (r : Bool) (h : nameOk s = r) (w : World) :
    Calls Tryz.prog 89 #[.string s] w fun e w' => e = .returned (.bool r) ∧ w = w' := by
  subst h
  go_enter Tryz.func89, Tryz.ntmps89
  go_wp2
  all_goals
    go_ret
    exact ⟨ret_bool (by rw [Bool.eq_iff_iff]; simp [nameOk]; try omega), rfl⟩

/-- The place of the first element of which p holds, or -1. -/
def idxB {α : Type} (p : α → Bool) (l : List α) : Int := match l.findIdx? p with | some i => i | none => -1

theorem idxB_none {α : Type} {p : α → Bool} {l : List α} (h : ∀ (j : Nat) x, j < l.length → l[j]? = some x → p x = false) : idxB p l = -1 := by
  have : l.findIdx? p = none := by
    rw [List.findIdx?_eq_none_iff]
    intro x hx
    obtain ⟨j, hj, rfl⟩ := List.getElem_of_mem hx
    exact h j _ hj (List.getElem?_eq_getElem hj)
  simp [idxB, this]
theorem idxB_some {α : Type} {p : α → Bool} {l : List α} {i : Nat} {x : α} (h : ∀ (j : Nat) x, j < i → l[j]? = some x → p x = false) (hx : l[i]? = some x) (hp : p x = true) : idxB p l = i := by
  have : l.findIdx? p = some i := by
    rw [List.findIdx?_eq_some_iff_getElem]
    obtain ⟨hi, rfl⟩ := List.getElem?_eq_some_iff.1 hx
    refine ⟨hi, hp, fun j hj => ?_⟩
    rw [h j _ hj (List.getElem?_eq_getElem (by omega))]
    simp
  simp [idxB, this]
theorem idxB_nonneg {α : Type} (p : α → Bool) (l : List α) : decide (0 ≤ idxB p l) = l.any p := by
  unfold idxB
  cases h : l.findIdx? p with
  | none => rw [List.findIdx?_eq_none_iff] at h; simp; intro x hx; simp [h x hx]
  | some i =>
    rw [List.findIdx?_eq_some_iff_getElem] at h
    obtain ⟨hi, hp, _⟩ := h
    have : l.any p = true := List.any_eq_true.2 ⟨l[i], List.getElem_mem hi, hp⟩
    simp [this]
theorem snoc_no {α : Type} {p : α → Bool} {l : List α} {i : Nat} {x : α} (h : ∀ (j : Nat) x, j < i → l[j]? = some x → p x = false) (hx : l[i]? = some x) (hp : p x = false) : ∀ (j : Nat) x, j < i + 1 → l[j]? = some x → p x = false := fun j y hj hy => by
  by_cases e : j = i
  · subst e; rw [hx] at hy; cases hy; exact hp
  · exact h j y (by omega) hy
theorem idxB_le {α : Type} (p : α → Bool) (l : List α) : -1 ≤ idxB p l ∧ idxB p l < l.length := by
  unfold idxB
  cases h : l.findIdx? p with
  | none => simp; omega
  | some i =>
    rw [List.findIdx?_eq_some_iff_getElem] at h
    obtain ⟨hi, _⟩ := h
    simp; omega

set_option maxRecDepth 100000 in
set_option maxHeartbeats 400000 in
theorem idxWhen_room (l : List When) (A : Option Addr) (c : Nat) (B : Nat) (p : When → Bool) (w : World) (hA : kWhen.C w A l.length l)
    (hp : ∀ x W, x ∈ l → Below w.heap.size w W → Calls Tryz.prog 173 #[.agg #[.int .u32 x.f0, .int .u8 x.f1, .int .i64 x.f2, .int .i64 x.f3], .pointer (some ⟨B, 0, none⟩)] W fun e w' => e = .returned (.bool (p x)) ∧ Below W.heap.size W w') :
    Calls Tryz.prog 198 #[.slice A l.length c, .func (.func 173) #[] #[.pointer (some ⟨B, 0, none⟩)]] w fun e w' => e = .returned (.int .i64 (idxB p l)) ∧ Below w.heap.size w w' := by
  have hm := Kd.C_max hA
  have HP := Aside0.mk hp
  clear hp
  have HA := Aside0.mk hA
  clear hA
  have hu80 := Tryz.underlying117
  go_enter Tryz.func198, Tryz.ntmps198
  go_wp2_with fail
  go_loopw [8] (fun v wr => ∃ i : Nat, v = .int .i64 i ∧ i ≤ l.length ∧ Aside0 (∀ j x, j < i → l[j]? = some x → p x = false) ∧ Aside0 (Below w.heap.size w wr)) (fun v _ => l.length - (intOf v).toNat)
  case atStart => exact ⟨0, rfl, by omega, ⟨fun j x h => by omega⟩, ⟨Below.refl _ _⟩⟩
  case round =>
    obtain ⟨i, rfl, hi, hno, hb⟩ := hrel
    by_cases hlt : i < l.length
    · have hw := hb.out
      have hx : l[i]? = some l[i] := List.getElem?_eq_getElem hlt
      generalize l[i] = x at hx
      obtain ⟨ad, rfl, h0, h1, h2, h3⟩ := el_When (Kd.C_below HA.out hw) i x hx
      have HX := Aside0.mk hx
      clear hx hw
      go_wp2_with fail
      refine (HP.out x wr (List.mem_of_getElem? HX.out) hb.out).mono ?_
      rintro e w1 ⟨rfl, hb1⟩
      replace hb := Aside0.mk (bthen hb.out hb1 (Nat.le_refl _))
      clear hb1 h0 h1 h2 h3
      cases hpx : p x
      · replace hpx := Aside0.mk hpx
        go_wp2_with fail
        go_roundw
        case rel => exact ⟨i + 1, by go_num, by omega, ⟨snoc_no hno.out HX.out hpx.out⟩, hb⟩
        case measure => simp [intOf]; omega
      · replace hpx := Aside0.mk hpx
        go_wp2_with fail
        go_ret
        exact ⟨ret_i64 (idxB_some hno.out HX.out hpx.out).symm, hb.out⟩
    · go_wp2_with fail
      go_ret
      obtain rfl : i = l.length := by omega
      exact ⟨ret_i64 (idxB_none hno.out).symm, hb.out⟩

set_option maxHeartbeats 400000 in
theorem anyWhen_room (l : List When) (A : Option Addr) (c : Nat) (B : Nat) (p : When → Bool) (w : World) (hA : kWhen.C w A l.length l)
    (hp : ∀ x W, x ∈ l → Below w.heap.size w W → Calls Tryz.prog 173 #[.agg #[.int .u32 x.f0, .int .u8 x.f1, .int .i64 x.f2, .int .i64 x.f3], .pointer (some ⟨B, 0, none⟩)] W fun e w' => e = .returned (.bool (p x)) ∧ Below W.heap.size W w') (r : Bool) (hr : l.any p = r) :
    Calls Tryz.prog 175 #[.slice A l.length c, .func (.func 173) #[] #[.pointer (some ⟨B, 0, none⟩)]] w fun e w' => e = .returned (.bool r) ∧ Below w.heap.size w w' := by
  have h := Aside0.mk (idxWhen_room l A c B p w hA hp)
  have hr := Aside0.mk hr
  clear hp hA
  go_enter Tryz.func175, Tryz.ntmps175
  go_wp2_with fail
  refine h.out.mono ?_
  rintro e w1 ⟨rfl, hb⟩
  have hq := idxB_nonneg p l
  generalize idxB p l = n at hq ⊢
  rw [hr.out] at hq
  replace hq := Aside0.mk hq
  go_wp2_with fail
  go_ret
  exact ⟨ret_bool hq.out, hb⟩
set_option maxRecDepth 100000 in
set_option maxHeartbeats 400000 in
theorem idxWhen_person (l : List When) (A : Option Addr) (c : Nat) (B : Nat) (p : When → Bool) (w : World) (hA : kWhen.C w A l.length l)
    (hp : ∀ x W, x ∈ l → Below w.heap.size w W → Calls Tryz.prog 176 #[.agg #[.int .u32 x.f0, .int .u8 x.f1, .int .i64 x.f2, .int .i64 x.f3], .pointer (some ⟨B, 0, none⟩)] W fun e w' => e = .returned (.bool (p x)) ∧ Below W.heap.size W w') :
    Calls Tryz.prog 198 #[.slice A l.length c, .func (.func 176) #[] #[.pointer (some ⟨B, 0, none⟩)]] w fun e w' => e = .returned (.int .i64 (idxB p l)) ∧ Below w.heap.size w w' := by
  have hm := Kd.C_max hA
  have HP := Aside0.mk hp
  clear hp
  have HA := Aside0.mk hA
  clear hA
  have hu80 := Tryz.underlying117
  go_enter Tryz.func198, Tryz.ntmps198
  go_wp2_with fail
  go_loopw [8] (fun v wr => ∃ i : Nat, v = .int .i64 i ∧ i ≤ l.length ∧ Aside0 (∀ j x, j < i → l[j]? = some x → p x = false) ∧ Aside0 (Below w.heap.size w wr)) (fun v _ => l.length - (intOf v).toNat)
  case atStart => exact ⟨0, rfl, by omega, ⟨fun j x h => by omega⟩, ⟨Below.refl _ _⟩⟩
  case round =>
    obtain ⟨i, rfl, hi, hno, hb⟩ := hrel
    by_cases hlt : i < l.length
    · have hw := hb.out
      have hx : l[i]? = some l[i] := List.getElem?_eq_getElem hlt
      generalize l[i] = x at hx
      obtain ⟨ad, rfl, h0, h1, h2, h3⟩ := el_When (Kd.C_below HA.out hw) i x hx
      have HX := Aside0.mk hx
      clear hx hw
      go_wp2_with fail
      refine (HP.out x wr (List.mem_of_getElem? HX.out) hb.out).mono ?_
      rintro e w1 ⟨rfl, hb1⟩
      replace hb := Aside0.mk (bthen hb.out hb1 (Nat.le_refl _))
      clear hb1 h0 h1 h2 h3
      cases hpx : p x
      · replace hpx := Aside0.mk hpx
        go_wp2_with fail
        go_roundw
        case rel => exact ⟨i + 1, by go_num, by omega, ⟨snoc_no hno.out HX.out hpx.out⟩, hb⟩
        case measure => simp [intOf]; omega
      · replace hpx := Aside0.mk hpx
        go_wp2_with fail
        go_ret
        exact ⟨ret_i64 (idxB_some hno.out HX.out hpx.out).symm, hb.out⟩
    · go_wp2_with fail
      go_ret
      obtain rfl : i = l.length := by omega
      exact ⟨ret_i64 (idxB_none hno.out).symm, hb.out⟩

set_option maxHeartbeats 400000 in
theorem anyWhen_person (l : List When) (A : Option Addr) (c : Nat) (B : Nat) (p : When → Bool) (w : World) (hA : kWhen.C w A l.length l)
    (hp : ∀ x W, x ∈ l → Below w.heap.size w W → Calls Tryz.prog 176 #[.agg #[.int .u32 x.f0, .int .u8 x.f1, .int .i64 x.f2, .int .i64 x.f3], .pointer (some ⟨B, 0, none⟩)] W fun e w' => e = .returned (.bool (p x)) ∧ Below W.heap.size W w') (r : Bool) (hr : l.any p = r) :
    Calls Tryz.prog 175 #[.slice A l.length c, .func (.func 176) #[] #[.pointer (some ⟨B, 0, none⟩)]] w fun e w' => e = .returned (.bool r) ∧ Below w.heap.size w w' := by
  have h := Aside0.mk (idxWhen_person l A c B p w hA hp)
  have hr := Aside0.mk hr
  clear hp hA
  go_enter Tryz.func175, Tryz.ntmps175
  go_wp2_with fail
  refine h.out.mono ?_
  rintro e w1 ⟨rfl, hb⟩
  have hq := idxB_nonneg p l
  generalize idxB p l = n at hq ⊢
  rw [hr.out] at hq
  replace hq := Aside0.mk hq
  go_wp2_with fail
  go_ret
  exact ⟨ret_bool hq.out, hb⟩
end Go.Proofs.YthalgemkblkhgaaGreat
namespace Go.Proofs.YthalgemkblkhgaaGreat
open Go.RowKit Go.Proofs.YthalgemkblkhgaaGreatW.PrintWords Go.Proofs.YthalgemkblkhgaaGreatW.PrintLast
set_option linter.unusedVariables false
set_option linter.unusedSimpArgs false

def roomOk (g : Grid) (x : Room) : Bool := gridOk g && (nameOk x.f0 && (decide (0 ≤ x.f1) && (decide (x.f1 ≤ 10000) && (decide (x.f3.length ≤ 16) && x.f3.all (whenOk g)))))
def personOk (g : Grid) (x : Person) : Bool := gridOk g && (nameOk x.f0 && (decide (x.f1.length ≤ 16) && x.f1.all (whenOk g)))
theorem any_not {α : Type} (l : List α) (p : α → Bool) : (l.any fun x => !p x) = !(l.all p) := by
  induction l with
  | nil => rfl
  | cons a r ih => simp [ih, Bool.not_and]

set_option maxHeartbeats 400000 in
theorem odd_room (g : Grid) (x : When) (hx : wfWhen x) (B : Nat) (w : World) (h0 : w.cell? ⟨B, 0, none⟩ = some (.int .i64 g.f0)) (h1 : w.cell? ⟨B, 1, none⟩ = some (.int .i64 g.f1)) (h2 : w.cell? ⟨B, 2, none⟩ = some (.int .i64 g.f2)) :
    Calls Tryz.prog 173 #[.agg #[.int .u32 x.f0, .int .u8 x.f1, .int .i64 x.f2, .int .i64 x.f3], .pointer (some ⟨B, 0, none⟩)] w fun e w' => e = .returned (.bool (!whenOk g x)) ∧ Below w.heap.size w w' := by
  have hu29 := Tryz.underlying29
  have hu80 := Tryz.underlying117
  have hB : B < w.heap.size := World.block_lt_of_cell? w _ h0
  have h0' : ∀ o, (w.alloc o).cell? ⟨B, 0, none⟩ = some (.int .i64 g.f0) := fun o => cell_on ((Below.refl _ w).alloc (Nat.le_refl _) o) h0
  have h1' : ∀ o, (w.alloc o).cell? ⟨B, 1, none⟩ = some (.int .i64 g.f1) := fun o => cell_on ((Below.refl _ w).alloc (Nat.le_refl _) o) h1
  have h2' : ∀ o, (w.alloc o).cell? ⟨B, 2, none⟩ = some (.int .i64 g.f2) := fun o => cell_on ((Below.refl _ w).alloc (Nat.le_refl _) o) h2
  clear h0 h1 h2
  go_enter Tryz.func173, Tryz.ntmps173
  go_wp2_with fail
  refine (whenOk_calls g x hx _ rfl _).mono ?_
  rintro e w1 ⟨rfl, hb⟩
  generalize hq : whenOk g x = b
  replace hq := Aside0.mk hq
  clear h0' h1' h2'
  go_wp2_with fail
  go_ret
  exact ⟨ret_bool (by rw [hq.out]), below1 hb⟩
set_option maxHeartbeats 400000 in
theorem odd_person (g : Grid) (x : When) (hx : wfWhen x) (B : Nat) (w : World) (h0 : w.cell? ⟨B, 0, none⟩ = some (.int .i64 g.f0)) (h1 : w.cell? ⟨B, 1, none⟩ = some (.int .i64 g.f1)) (h2 : w.cell? ⟨B, 2, none⟩ = some (.int .i64 g.f2)) :
    Calls Tryz.prog 176 #[.agg #[.int .u32 x.f0, .int .u8 x.f1, .int .i64 x.f2, .int .i64 x.f3], .pointer (some ⟨B, 0, none⟩)] w fun e w' => e = .returned (.bool (!whenOk g x)) ∧ Below w.heap.size w w' := by
  have hu29 := Tryz.underlying29
  have hu80 := Tryz.underlying117
  have hB : B < w.heap.size := World.block_lt_of_cell? w _ h0
  have h0' : ∀ o, (w.alloc o).cell? ⟨B, 0, none⟩ = some (.int .i64 g.f0) := fun o => cell_on ((Below.refl _ w).alloc (Nat.le_refl _) o) h0
  have h1' : ∀ o, (w.alloc o).cell? ⟨B, 1, none⟩ = some (.int .i64 g.f1) := fun o => cell_on ((Below.refl _ w).alloc (Nat.le_refl _) o) h1
  have h2' : ∀ o, (w.alloc o).cell? ⟨B, 2, none⟩ = some (.int .i64 g.f2) := fun o => cell_on ((Below.refl _ w).alloc (Nat.le_refl _) o) h2
  clear h0 h1 h2
  go_enter Tryz.func176, Tryz.ntmps176
  go_wp2_with fail
  refine (whenOk_calls g x hx _ rfl _).mono ?_
  rintro e w1 ⟨rfl, hb⟩
  generalize hq : whenOk g x = b
  replace hq := Aside0.mk hq
  clear h0' h1' h2'
  go_wp2_with fail
  go_ret
  exact ⟨ret_bool (by rw [hq.out]), below1 hb⟩

set_option maxRecDepth 100000 in
set_option maxHeartbeats 1000000 in
theorem roomOk_calls (g : Grid) (x : Room) (hx : wfRoom x) (cs : List Value) (w : World) (hK : kRoom.K w x cs) (r : Bool) (h : roomOk g x = r) :
    Calls Tryz.prog 130 #[.agg #[.int .i64 g.f0, .int .i64 g.f1, .int .i64 g.f2], .agg cs.toArray] w fun e w' => e = .returned (.bool r) ∧ Below w.heap.size w w' := by
  subst h
  obtain ⟨A3, c3, rfl, l3, g3⟩ := kRoom_open hK
  clear hK
  have HC := Aside0.mk g3
  clear g3
  have hu29 := Tryz.underlying29
  have hu86 := Tryz.underlying114
  go_enter Tryz.func130, Tryz.ntmps130
  go_wp2_with fail
  cases h1 : gridOk g
  · (refine (gridOk_calls _ _ h1 _).mono ?_; rintro e w1 ⟨rfl, hb⟩; have hc_hb := (bcell hb).1; go_wp2_with fail)
    go_ret
    exact ⟨ret_bool (by simp [roomOk, h1]), below2 hb⟩
  replace h1 := Aside0.mk h1
  (refine (gridOk_calls _ _ h1.out _).mono ?_; rintro e w1 ⟨rfl, hb⟩; have hc_hb := (bcell hb).1; go_wp2_with fail)
  cases h2 : nameOk x.f0
  · (refine (name_calls _ _ h2 _).mono ?_; rintro e w' ⟨rfl, rfl⟩; go_wp2_with fail)
    go_ret
    exact ⟨ret_bool (by simp [roomOk, h2]), below2 hb⟩
  replace h2 := Aside0.mk h2
  by_cases c1 : x.f1 < 0
  · (refine (name_calls _ _ h2.out _).mono ?_; rintro e w' ⟨rfl, rfl⟩; go_wp2_with fail)
    go_ret
    exact ⟨ret_bool (by rw [Bool.eq_iff_iff]; simp [roomOk]; omega), below2 hb⟩
  by_cases c2 : 10000 < x.f1
  · (refine (name_calls _ _ h2.out _).mono ?_; rintro e w' ⟨rfl, rfl⟩; go_wp2_with fail)
    go_ret
    exact ⟨ret_bool (by rw [Bool.eq_iff_iff]; simp [roomOk]; omega), below2 hb⟩
  by_cases c3 : 16 < x.f3.length
  · (refine (name_calls _ _ h2.out _).mono ?_; rintro e w' ⟨rfl, rfl⟩; go_wp2_with fail)
    go_ret
    exact ⟨ret_bool (by rw [Bool.eq_iff_iff]; simp [roomOk]; omega), below2 hb⟩
  (refine (name_calls _ _ h2.out _).mono ?_; rintro e w' ⟨rfl, rfl⟩; go_wp2_with fail)
  refine (anyWhen_room x.f3 _ _ w.heap.size (fun y => !whenOk g y) _ (Kd.C_below HC.out (below2 hb)) (fun y W hy hW => ?_) _ rfl).mono ?_
  · have hgc : ∀ (o : Nat) (v : Value), w1.cell? ⟨w.heap.size, o, none⟩ = some v → W.cell? ⟨w.heap.size, o, none⟩ = some v := fun o v h => cell_on hW h
    refine odd_room g y (hx.h3.all y hy) w.heap.size W (hgc _ _ ?_) (hgc _ _ ?_) (hgc _ _ ?_)
    all_goals (rw [hc_hb _ _ (by simp; omega)]; go_simp)
  rintro e w2 ⟨rfl, hb2⟩
  replace hb := bthen hb hb2 (Nat.le_refl _)
  have hfin : roomOk g x = !(x.f3.any fun y => !whenOk g y) := by
    rw [any_not, Bool.not_not]; simp only [roomOk, h1.out, h2.out, Bool.true_and]
    rw [decide_eq_true (by omega : 0 ≤ x.f1), decide_eq_true (by omega : x.f1 ≤ 10000), decide_eq_true (by omega : x.f3.length ≤ 16)]; rfl
  replace hfin := Aside0.mk hfin
  generalize (x.f3.any fun y => !whenOk g y) = b at hfin ⊢
  clear hc_hb hb2
  go_wp2_with fail
  go_ret
  exact ⟨ret_bool hfin.out.symm, below2 hb⟩

set_option maxRecDepth 100000 in
set_option maxHeartbeats 1000000 in
theorem personOk_calls (g : Grid) (x : Person) (hx : wfPerson x) (cs : List Value) (w : World) (hK : kPerson.K w x cs) (r : Bool) (h : personOk g x = r) :
    Calls Tryz.prog 135 #[.agg #[.int .i64 g.f0, .int .i64 g.f1, .int .i64 g.f2], .agg cs.toArray] w fun e w' => e = .returned (.bool r) ∧ Below w.heap.size w w' := by
  subst h
  obtain ⟨A3, c3, rfl, l3, g3⟩ := kPerson_open hK
  clear hK
  have HC := Aside0.mk g3
  clear g3
  have hu29 := Tryz.underlying29
  have hu86 := Tryz.underlying128
  go_enter Tryz.func135, Tryz.ntmps135
  go_wp2_with fail
  cases h1 : gridOk g
  · (refine (gridOk_calls _ _ h1 _).mono ?_; rintro e w1 ⟨rfl, hb⟩; have hc_hb := (bcell hb).1; go_wp2_with fail)
    go_ret
    exact ⟨ret_bool (by simp [personOk, h1]), below2 hb⟩
  replace h1 := Aside0.mk h1
  (refine (gridOk_calls _ _ h1.out _).mono ?_; rintro e w1 ⟨rfl, hb⟩; have hc_hb := (bcell hb).1; go_wp2_with fail)
  cases h2 : nameOk x.f0
  · (refine (name_calls _ _ h2 _).mono ?_; rintro e w' ⟨rfl, rfl⟩; go_wp2_with fail)
    go_ret
    exact ⟨ret_bool (by simp [personOk, h2]), below2 hb⟩
  replace h2 := Aside0.mk h2
  by_cases c3 : 16 < x.f1.length
  · (refine (name_calls _ _ h2.out _).mono ?_; rintro e w' ⟨rfl, rfl⟩; go_wp2_with fail)
    go_ret
    exact ⟨ret_bool (by rw [Bool.eq_iff_iff]; simp [personOk]; omega), below2 hb⟩
  (refine (name_calls _ _ h2.out _).mono ?_; rintro e w' ⟨rfl, rfl⟩; go_wp2_with fail)
  refine (anyWhen_person x.f1 _ _ w.heap.size (fun y => !whenOk g y) _ (Kd.C_below HC.out (below2 hb)) (fun y W hy hW => ?_) _ rfl).mono ?_
  · have hgc : ∀ (o : Nat) (v : Value), w1.cell? ⟨w.heap.size, o, none⟩ = some v → W.cell? ⟨w.heap.size, o, none⟩ = some v := fun o v h => cell_on hW h
    refine odd_person g y (hx.h1.all y hy) w.heap.size W (hgc _ _ ?_) (hgc _ _ ?_) (hgc _ _ ?_)
    all_goals (rw [hc_hb _ _ (by simp; omega)]; go_simp)
  rintro e w2 ⟨rfl, hb2⟩
  replace hb := bthen hb hb2 (Nat.le_refl _)
  have hfin : personOk g x = !(x.f1.any fun y => !whenOk g y) := by
    rw [any_not, Bool.not_not]; simp only [personOk, h1.out, h2.out, Bool.true_and]
    rw [decide_eq_true (by omega : x.f1.length ≤ 16)]; rfl
  replace hfin := Aside0.mk hfin
  generalize (x.f1.any fun y => !whenOk g y) = b at hfin ⊢
  clear hc_hb hb2
  go_wp2_with fail
  go_ret
  exact ⟨ret_bool hfin.out.symm, below2 hb⟩

def cellW (W : List (List Int)) (i k : Nat) : Int := (W.getD i []).getD k 0
def okW (W : List (List Int)) (i k : Nat) : Bool := decide (0 ≤ cellW W i k) && (decide (cellW W i k ≤ 96) && (decide (cellW W i k = cellW W k i) && !(decide (i = k) && decide (0 < cellW W i k))))
def rowsUpTo (W : List (List Int)) (i : Nat) : Prop := ∀ a k, a < i → k < W.length → okW W a k = true
def rowUpTo (W : List (List Int)) (i k : Nat) : Prop := ∀ b, b < k → okW W i b = true
def lensUpTo (W : List (List Int)) (n : Int) (i : Nat) : Prop := ∀ a x, a < i → W[a]? = some x → (x.length : Int) = n
def walkOk (n : Int) (W : List (List Int)) : Bool := decide (0 ≤ n) && (decide (n ≤ 24) && (decide ((W.length : Int) = n) && (W.all (fun r => decide ((r.length : Int) = n)) && (List.range W.length).all (fun i => (List.range W.length).all (fun k => okW W i k)))))
theorem rowUpTo_snoc {W : List (List Int)} {i k : Nat} (h : rowUpTo W i k) (hk : okW W i k = true) : rowUpTo W i (k + 1) := fun b hb => by
  by_cases e : b = k
  · rw [e]; exact hk
  · exact h b (by omega)
theorem rowsUpTo_snoc {W : List (List Int)} {i : Nat} (h : rowsUpTo W i) (hk : rowUpTo W i W.length) : rowsUpTo W (i + 1) := fun a k ha hk2 => by
  by_cases e : a = i
  · rw [e]; exact hk k hk2
  · exact h a k (by omega) hk2
theorem lensUpTo_snoc {W : List (List Int)} {n : Int} {i : Nat} {x : List Int} (h : lensUpTo W n i) (hx : W[i]? = some x) (hl : (x.length : Int) = n) : lensUpTo W n (i + 1) := fun a y ha hy => by
  by_cases e : a = i
  · subst e; rw [hx] at hy; cases hy; exact hl
  · exact h a y (by omega) hy
theorem walkOk_yes {n : Int} {W : List (List Int)} (h1 : 0 ≤ n) (h2 : n ≤ 24) (h3 : (W.length : Int) = n) (h4 : lensUpTo W n W.length) (h5 : rowsUpTo W W.length) : walkOk n W = true := by
  simp only [walkOk, Bool.and_eq_true, decide_eq_true_eq, List.all_eq_true, List.mem_range]
  refine ⟨h1, h2, h3, fun r hr => ?_, fun i hi k hk => h5 i k hi hk⟩
  obtain ⟨a, ha, rfl⟩ := List.getElem_of_mem hr
  exact h4 a _ ha (List.getElem?_eq_getElem ha)
theorem walkOk_len {n : Int} {W : List (List Int)} {i : Nat} {x : List Int} (hx : W[i]? = some x) (hl : (x.length : Int) ≠ n) : walkOk n W = false := by
  rw [← Bool.not_eq_true]
  intro h
  simp only [walkOk, Bool.and_eq_true, decide_eq_true_eq, List.all_eq_true] at h
  exact hl (h.2.2.2.1 x (List.mem_of_getElem? hx))
theorem walkOk_cell {n : Int} {W : List (List Int)} {i k : Nat} (hi : i < W.length) (hk : k < W.length) (h : okW W i k = false) : walkOk n W = false := by
  rw [← Bool.not_eq_true]
  intro h2
  simp only [walkOk, Bool.and_eq_true, decide_eq_true_eq, List.all_eq_true, List.mem_range] at h2
  rw [h2.2.2.2.2 i hi k hk] at h
  cases h
theorem cellW_at {W : List (List Int)} {i k : Nat} {x : List Int} {c : Int} (hx : W[i]? = some x) (hc : x[k]? = some c) : cellW W i k = c := by
  simp [cellW, hx, hc]

set_option maxRecDepth 100000 in
set_option maxHeartbeats 1000000 in
theorem walk_calls (n : Int) (W : List (List Int)) (A : Option Addr) (c : Nat) (w : World) (hA : (Kd.slice 3 (Kd.int .i64)).C w A W.length W) (r : Bool) (h : walkOk n W = r) :
    Calls Tryz.prog 131 #[.int .i64 n, .slice A W.length c] w fun e w' => e = .returned (.bool r) ∧ w = w' := by
  subst h
  have hm := Kd.C_max hA
  have HA := Aside0.mk hA
  clear hA
  by_cases c1 : n < 0
  · go_enter Tryz.func131, Tryz.ntmps131
    go_wp2
    go_ret
    exact ⟨ret_bool (by simp [walkOk]; omega), rfl⟩
  by_cases c2 : 24 < n
  · go_enter Tryz.func131, Tryz.ntmps131
    go_wp2
    go_ret
    exact ⟨ret_bool (by simp [walkOk]; omega), rfl⟩
  by_cases c3 : (W.length : Int) = n
  rotate_left
  · have c3b : ((W.length : Int) != n) = true := by simp [c3]
    go_enter Tryz.func131, Tryz.ntmps131
    go_wp2
    go_ret
    exact ⟨ret_bool (by simp [walkOk, c3]), rfl⟩
  subst c3
  go_enter Tryz.func131, Tryz.ntmps131
  go_wp2
  go_loop [25] (fun v => ∃ i : Nat, v = .int .i64 i ∧ i ≤ W.length ∧ Aside0 (lensUpTo W W.length i)) (fun v => W.length - (intOf v).toNat)
  case atStart => exact ⟨0, rfl, by omega, ⟨fun a x h => by omega⟩⟩
  case round =>
    obtain ⟨i, rfl, hi, hls⟩ := hrel
    by_cases hlt : i < W.length
    · have hx : W[i]? = some W[i] := List.getElem?_eq_getElem hlt
      generalize W[i] = x at hx
      obtain ⟨ad, A0, c0, rfl, h0, l0, g0⟩ := el_LI64 HA.out i x hx
      clear g0
      by_cases hxl : x.length = W.length
      · have d1 : ((x.length : Int) != (W.length : Int)) = false := by simp [hxl]
        have d2 : (x.length != W.length) = false := by simp [hxl]
        replace hx := Aside0.mk hx
        replace hxl := Aside0.mk hxl
        go_wp2
        go_round
        case rel => exact ⟨i + 1, by go_num, by omega, ⟨lensUpTo_snoc hls.out hx.out (by rw [hxl.out])⟩⟩
        case measure => simp [intOf]; omega
      · have d1 : ((x.length : Int) != (W.length : Int)) = true := by simp; omega
        have d2 : (x.length != W.length) = true := by simp; omega
        replace hx := Aside0.mk hx
        go_wp2
        go_ret
        exact ⟨ret_bool (walkOk_len hx.out (by omega)).symm, rfl⟩
    · obtain rfl : i = W.length := by omega
      go_wp2
      go_loop [36] (fun v => ∃ i : Nat, v = .int .i64 i ∧ i ≤ W.length ∧ Aside0 (rowsUpTo W i)) (fun v => W.length - (intOf v).toNat)
      case atStart => exact ⟨0, rfl, by omega, ⟨fun a x h => by omega⟩⟩
      case round =>
        obtain ⟨i, rfl, hi, hrs⟩ := hrel
        by_cases hlt : i < W.length
        · have hx : W[i]? = some W[i] := List.getElem?_eq_getElem hlt
          generalize W[i] = x at hx
          obtain ⟨ad, A0, c0, rfl, h0, l0, g0⟩ := el_LI64 HA.out i x hx
          have G0 := Aside0.mk g0
          have hxl : x.length = W.length := by have := hls.out i x hlt hx; omega
          replace hx := Aside0.mk hx
          replace hxl := Aside0.mk hxl
          clear g0
          go_wp2
          go_loop [43] (fun v => ∃ k : Nat, v = .int .i64 k ∧ k ≤ x.length ∧ Aside0 (rowUpTo W i k)) (fun v => x.length - (intOf v).toNat)
          case atStart => exact ⟨0, rfl, by omega, ⟨fun a h => by omega⟩⟩
          case round =>
            obtain ⟨k, rfl, hk, hro⟩ := hrel
            by_cases hkt : k < x.length
            · have hy : x[k]? = some x[k] := List.getElem?_eq_getElem hkt
              generalize x[k] = far at hy
              obtain ⟨ad2, rfl, h02⟩ := el_int G0.out k far hy
              have hkw : k < W.length := by rw [hxl.out] at hkt; exact hkt
              have hz : W[k]? = some W[k] := List.getElem?_eq_getElem hkw
              generalize W[k] = z at hz
              obtain ⟨ad3, A3, c3, e3, h03, l3, g3⟩ := el_LI64 HA.out k z hz
              cases e3
              have hzl : z.length = W.length := by have := hls.out k z hkw hz; omega
              have hzi : i < z.length := by omega
              have hu : z[i]? = some z[i] := List.getElem?_eq_getElem hzi
              generalize z[i] = far2 at hu
              obtain ⟨ad4, rfl, h04⟩ := el_int g3 i far2 hu
              clear g3
              have e1 := cellW_at hx.out hy
              have e2 := cellW_at hz hu
              have hsp : okW W i k = (decide (0 ≤ far) && (decide (far ≤ 96) && (decide (far = far2) && !(decide (i = k) && decide (0 < far))))) := by simp only [okW, e1, e2]
              replace hsp := Aside0.mk hsp
              clear e1 e2 hy hz hu
              replace hzl := Aside0.mk hzl
              by_cases d1 : far < 0
              · go_wp2
                go_ret
                exact ⟨ret_bool (walkOk_cell hlt hkw (by rw [hsp.out]; simp; omega)).symm, rfl⟩
              by_cases d2 : 96 < far
              · go_wp2
                go_ret
                exact ⟨ret_bool (walkOk_cell hlt hkw (by rw [hsp.out]; simp; omega)).symm, rfl⟩
              by_cases d3 : far = far2
              rotate_left
              · have d3b : (far != far2) = true := by simp [d3]
                go_wp2
                go_ret
                exact ⟨ret_bool (walkOk_cell hlt hkw (by rw [hsp.out]; simp; omega)).symm, rfl⟩
              subst d3
              by_cases d4 : i = k
              · subst d4
                by_cases d5 : 0 < far
                · go_wp2
                  go_ret
                  exact ⟨ret_bool (walkOk_cell hlt hkw (by rw [hsp.out]; simp; omega)).symm, rfl⟩
                · go_wp2
                  go_round
                  case rel => exact ⟨i + 1, by go_num, by omega, ⟨rowUpTo_snoc hro.out (by rw [hsp.out]; simp; omega)⟩⟩
                  case measure => simp [intOf]; omega
              · have d4b : ((i : Int) == (k : Int)) = false := by simp; omega
                have d4c : (i == k) = false := by simp; omega
                go_wp2
                go_round
                case rel => exact ⟨k + 1, by go_num, by omega, ⟨rowUpTo_snoc hro.out (by rw [hsp.out]; simp; omega)⟩⟩
                case measure => simp [intOf]; omega
            · go_wp2
              go_round
              case rel => exact ⟨i + 1, by go_num, by omega, ⟨rowsUpTo_snoc hrs.out (by have : k = W.length := by have := hxl.out; omega
                                                                                        rw [← this]; exact hro.out)⟩⟩
              case measure => simp [intOf]; omega
        · obtain rfl : i = W.length := by omega
          go_wp2
          go_ret
          exact ⟨ret_bool (walkOk_yes (by omega) (by omega) rfl hls.out hrs.out).symm, rfl⟩
end Go.Proofs.YthalgemkblkhgaaGreat
namespace Go.Proofs.YthalgemkblkhgaaGreat
open Go.RowKit Go.Proofs.YthalgemkblkhgaaGreatW.PrintWords Go.Proofs.YthalgemkblkhgaaGreatW.PrintLast
set_option linter.unusedVariables false
set_option linter.unusedSimpArgs false

theorem all_no {α : Type} {p : α → Bool} {l : List α} {i : Nat} {x : α} (hx : l[i]? = some x) (hp : p x = false) : l.all p = false := by
  rw [← Bool.not_eq_true, List.all_eq_true]
  intro h
  rw [h x (List.mem_of_getElem? hx)] at hp
  cases hp
/-- The first i are all so. -/
def allUpTo {α : Type} (p : α → Bool) (l : List α) (i : Nat) : Prop := ∀ (j : Nat) x, j < i → l[j]? = some x → p x = true
theorem allUpTo_snoc {α : Type} {p : α → Bool} {l : List α} {i : Nat} {x : α} (h : allUpTo p l i) (hx : l[i]? = some x) (hp : p x = true) : allUpTo p l (i + 1) := fun j y hj hy => by
  by_cases e : j = i
  · subst e; rw [hx] at hy; cases hy; exact hp
  · exact h j y (by omega) hy
theorem allUpTo_all {α : Type} {p : α → Bool} {l : List α} (h : allUpTo p l l.length) : l.all p = true := by
  rw [List.all_eq_true]
  intro x hx
  obtain ⟨j, hj, rfl⟩ := List.getElem_of_mem hx
  exact h j _ hj (List.getElem?_eq_getElem hj)
theorem allUpTo_zero {α : Type} (p : α → Bool) (l : List α) : allUpTo p l 0 := fun j x h => by omega

def whensOk (g : Grid) (l : List When) (n : Int) : Bool := l.all (whenOk g) && decide ((l.length : Int) ≤ n)

set_option maxRecDepth 100000 in
set_option maxHeartbeats 1000000 in
theorem whens_ref (g : Grid) (hg : wfGrid g) (l : List When) (hl : ∀ x ∈ l, wfWhen x) (n : Int) (A : Option Addr) (c : Nat) (w : World) (hA : kWhen.C w A l.length l) (r : Bool) (h : whensOk g l n = r) :
    Calls Tryz.prog 186 #[.agg #[.int .i64 g.f0, .int .i64 g.f1, .int .i64 g.f2], .slice A l.length c, .int .i64 n] w fun e w' => e = .returned (.bool r) ∧ Below w.heap.size w w' := by
  subst h
  have hm := Kd.C_max hA
  have HA := Aside0.mk hA
  clear hA
  have hu29 := Tryz.underlying29
  have hu80 := Tryz.underlying117
  go_enter Tryz.func186, Tryz.ntmps186
  go_wp2
  go_loopw [7] (fun v wr => ∃ i : Nat, v = .int .i64 i ∧ i ≤ l.length ∧ Aside0 (allUpTo (whenOk g) l i) ∧ Aside0 (Below (w.alloc (.cells #[.int .i64 g.f0, .int .i64 g.f1, .int .i64 g.f2] 29)).heap.size (w.alloc (.cells #[.int .i64 g.f0, .int .i64 g.f1, .int .i64 g.f2] 29)) wr)) (fun v _ => l.length - (intOf v).toNat)
  case atStart => exact ⟨0, rfl, by omega, ⟨allUpTo_zero _ _⟩, ⟨Below.refl _ _⟩⟩
  case round =>
    obtain ⟨i, rfl, hi, hno, hb⟩ := hrel
    by_cases hlt : i < l.length
    · have hw := below1 hb.out
      have hx : l[i]? = some l[i] := List.getElem?_eq_getElem hlt
      generalize l[i] = x at hx
      obtain ⟨ad, rfl, h0, h1, h2, h3⟩ := el_When (Kd.C_below HA.out hw) i x hx
      have HX := Aside0.mk hx
      have hc := (bcell hb.out).1
      have b0 : wr.cell? ⟨w.heap.size, 0, none⟩ = some (.int .i64 g.f0) := by rw [hc _ _ (by simp)]; go_simp
      have b1 : wr.cell? ⟨w.heap.size, 1, none⟩ = some (.int .i64 g.f1) := by rw [hc _ _ (by simp)]; go_simp
      have b2 : wr.cell? ⟨w.heap.size, 2, none⟩ = some (.int .i64 g.f2) := by rw [hc _ _ (by simp)]; go_simp
      have hwx := Aside0.mk (hl x (List.mem_of_getElem? hx))
      clear hx hw hc
      go_wp2
      cases hpx : whenOk g x
      · replace hpx := Aside0.mk hpx
        go_region_held3 (fun w' => Aside0 (Below (w.alloc (.cells #[.int .i64 g.f0, .int .i64 g.f1, .int .i64 g.f2] 29)).heap.size (w.alloc (.cells #[.int .i64 g.f0, .int .i64 g.f1, .int .i64 g.f2] 29)) w') ∧ w'.cell? ⟨w.heap.size, 0, none⟩ = some (.int .i64 g.f0) ∧ w'.cell? ⟨w.heap.size, 1, none⟩ = some (.int .i64 g.f1) ∧ w'.cell? ⟨w.heap.size, 2, none⟩ = some (.int .i64 g.f2) ∧ w'.cell? (ad.add (i * 4)) = some (.int .u32 x.f0) ∧ w'.cell? ⟨(ad.add (i * 4)).block, (ad.add (i * 4)).off + 1, none⟩ = some (.int .u8 x.f1) ∧ w'.cell? ⟨(ad.add (i * 4)).block, (ad.add (i * 4)).off + 2, none⟩ = some (.int .i64 x.f2) ∧ w'.cell? ⟨(ad.add (i * 4)).block, (ad.add (i * 4)).off + 3, none⟩ = some (.int .i64 x.f3)) (refine ⟨⟨?_⟩, ?_⟩ <;> (repeat' apply And.intro) <;> first | exact below_drew (Aside0.out (by assumption)) | exact bthen' (by assumption) (Aside0.out (by assumption)) (Nat.le_refl _) | exact bthen' (by assumption) (below_drew (Aside0.out (by assumption))) (Nat.le_refl _) | exact bthen' (by assumption) (And.left (by assumption)).out (Nat.le_refl _) | exact cell_on (by assumption) (by assumption) | go_keep) (first | (go_at_call 201; refine (whenOk_ref g x hg hwx.out _ hpx.out _).mono ?_; rintro e w' ⟨rfl, hb1⟩))
        obtain ⟨hb2, -⟩ := ‹Aside0 (Below _ _ _) ∧ _›
        go_wp2_with fail
        go_ret
        exact ⟨ret_bool (by simp only [whensOk, all_no HX.out hpx.out, Bool.false_and]), below1 hb2.out⟩
      · replace hpx := Aside0.mk hpx
        go_region_held3 (fun w' => Aside0 (Below (w.alloc (.cells #[.int .i64 g.f0, .int .i64 g.f1, .int .i64 g.f2] 29)).heap.size (w.alloc (.cells #[.int .i64 g.f0, .int .i64 g.f1, .int .i64 g.f2] 29)) w') ∧ w'.cell? ⟨w.heap.size, 0, none⟩ = some (.int .i64 g.f0) ∧ w'.cell? ⟨w.heap.size, 1, none⟩ = some (.int .i64 g.f1) ∧ w'.cell? ⟨w.heap.size, 2, none⟩ = some (.int .i64 g.f2) ∧ w'.cell? (ad.add (i * 4)) = some (.int .u32 x.f0) ∧ w'.cell? ⟨(ad.add (i * 4)).block, (ad.add (i * 4)).off + 1, none⟩ = some (.int .u8 x.f1) ∧ w'.cell? ⟨(ad.add (i * 4)).block, (ad.add (i * 4)).off + 2, none⟩ = some (.int .i64 x.f2) ∧ w'.cell? ⟨(ad.add (i * 4)).block, (ad.add (i * 4)).off + 3, none⟩ = some (.int .i64 x.f3)) (refine ⟨⟨?_⟩, ?_⟩ <;> (repeat' apply And.intro) <;> first | exact below_drew (Aside0.out (by assumption)) | exact bthen' (by assumption) (Aside0.out (by assumption)) (Nat.le_refl _) | exact bthen' (by assumption) (below_drew (Aside0.out (by assumption))) (Nat.le_refl _) | exact bthen' (by assumption) (And.left (by assumption)).out (Nat.le_refl _) | exact cell_on (by assumption) (by assumption) | go_keep) (first | (go_at_call 201; refine (whenOk_ref g x hg hwx.out _ hpx.out _).mono ?_; rintro e w' ⟨rfl, hb1⟩))
        obtain ⟨hb2, -⟩ := ‹Aside0 (Below _ _ _) ∧ _›
        go_wp2_with fail
        go_roundw
        case rel => exact ⟨i + 1, by go_num, by omega, ⟨allUpTo_snoc hno.out HX.out hpx.out⟩, hb2⟩
        case measure => simp [intOf]; omega
    · obtain rfl : i = l.length := by omega
      go_wp2
      go_ret
      exact ⟨ret_bool (by simp [whensOk, allUpTo_all hno.out]), below1 hb.out⟩
end Go.Proofs.YthalgemkblkhgaaGreat
