/- The structures of the program's data as Lean structures, and how they lie in memory (by a program: gen_kinds.py over the kit's kinds.py). -/
import Derived.Test.YthalgemkblkhgaaGreatProg
import Derived.Test.YthalgemkblkhgaaGreatWWords
import Derived.Test.YthalgemkblkhgaaGreatWLast
import Derived.Test.YthalgemkblkhgaaGreatWTab
import Derived.Test.YthalgemkblkhgaaGreatWEqStruct
namespace Go.Proofs.YthalgemkblkhgaaGreat
open Go.RowKit Go.Proofs.YthalgemkblkhgaaGreatW.PrintWords Go.Proofs.YthalgemkblkhgaaGreatW.PrintLast
set_option linter.unusedVariables false
set_option linter.unusedSimpArgs false

/-! #### struct type Grid -/
structure Grid where
  f0 : Int
  f1 : Int
  f2 : Int
def zGrid : Grid := ⟨(0 : Int), (0 : Int), (0 : Int)⟩
def kGrid : Kd Grid := Kd.iso (Kd.pair (Kd.int .i64) (Kd.pair (Kd.int .i64) (Kd.int .i64))) (fun x : Grid => (x.f0, x.f1, x.f2))
theorem kGrid_open {w : World} {x : Grid} {cs : List Value} (h : kGrid.K w x cs) : cs = [.int .i64 x.f0, .int .i64 x.f1, .int .i64 x.f2] := by
  obtain ⟨_, _, rfl, rfl, ⟨_, _, rfl, rfl, rfl⟩⟩ := h
  exact rfl
theorem kGrid_openM {w : World} {base : Nat} {ok : Nat → Prop} {x : Grid} {cs : List Value} (h : kGrid.M w base ok x cs) : cs = [.int .i64 x.f0, .int .i64 x.f1, .int .i64 x.f2] := by
  obtain ⟨_, _, rfl, rfl, ⟨_, _, rfl, rfl, rfl⟩⟩ := h
  exact rfl
theorem kGrid_mk (w : World) (x : Grid)  : kGrid.K w x [.int .i64 x.f0, .int .i64 x.f1, .int .i64 x.f2] := ⟨[.int .i64 x.f0], [.int .i64 x.f1, .int .i64 x.f2], rfl, rfl, ⟨[.int .i64 x.f1], [.int .i64 x.f2], rfl, rfl, rfl⟩⟩
theorem kGrid_mkM (w : World) (base : Nat) (ok : Nat → Prop) (x : Grid)  : kGrid.M w base ok x [.int .i64 x.f0, .int .i64 x.f1, .int .i64 x.f2] := ⟨[.int .i64 x.f0], [.int .i64 x.f1, .int .i64 x.f2], rfl, rfl, ⟨[.int .i64 x.f1], [.int .i64 x.f2], rfl, rfl, rfl⟩⟩
def rd_Grid (xs : List Grid) (i : Int) : Grid := xs.getD i.toNat zGrid
theorem at_Grid {w : World} {A : Option Addr} {n : Nat} {xs : List Grid} (h : Kd.C kGrid w A n xs) (i : Int) (h0 : 0 ≤ i) (h1 : i < n) : ∃ ad , A = some ad ∧ w.cell? (ad.add (i.toNat * 3)) = some (.int .i64 (rd_Grid xs i).f0) ∧ w.cell? ⟨(ad.add (i.toNat * 3)).block, (ad.add (i.toNat * 3)).off + 1, none⟩ = some (.int .i64 (rd_Grid xs i).f1) ∧ w.cell? ⟨(ad.add (i.toNat * 3)).block, (ad.add (i.toNat * 3)).off + 2, none⟩ = some (.int .i64 (rd_Grid xs i).f2) := by
  obtain ⟨ad, c, e, _, hK, hc0⟩ := Kd.C_get h zGrid i h0 h1
  have hc : ∀ j u, c[j]? = some u → w.cell? (ad.add (i.toNat * 3 + j)) = some u := hc0
  obtain rfl := kGrid_open hK
  exact ⟨ad, e, hc 0 _ rfl, by rw [← add_field _ _ 1 (by omega)]; exact hc 1 _ rfl, by rw [← add_field _ _ 2 (by omega)]; exact hc 2 _ rfl⟩

/-! #### struct type When -/
structure When where
  f0 : Int
  f1 : Int
  f2 : Int
  f3 : Int
def zWhen : When := ⟨(0 : Int), (0 : Int), (0 : Int), (0 : Int)⟩
def kWhen : Kd When := Kd.iso (Kd.pair (Kd.int .u32) (Kd.pair (Kd.int .u8) (Kd.pair (Kd.int .i64) (Kd.int .i64)))) (fun x : When => (x.f0, x.f1, x.f2, x.f3))
theorem kWhen_open {w : World} {x : When} {cs : List Value} (h : kWhen.K w x cs) : cs = [.int .u32 x.f0, .int .u8 x.f1, .int .i64 x.f2, .int .i64 x.f3] := by
  obtain ⟨_, _, rfl, rfl, ⟨_, _, rfl, rfl, ⟨_, _, rfl, rfl, rfl⟩⟩⟩ := h
  exact rfl
theorem kWhen_openM {w : World} {base : Nat} {ok : Nat → Prop} {x : When} {cs : List Value} (h : kWhen.M w base ok x cs) : cs = [.int .u32 x.f0, .int .u8 x.f1, .int .i64 x.f2, .int .i64 x.f3] := by
  obtain ⟨_, _, rfl, rfl, ⟨_, _, rfl, rfl, ⟨_, _, rfl, rfl, rfl⟩⟩⟩ := h
  exact rfl
theorem kWhen_mk (w : World) (x : When)  : kWhen.K w x [.int .u32 x.f0, .int .u8 x.f1, .int .i64 x.f2, .int .i64 x.f3] := ⟨[.int .u32 x.f0], [.int .u8 x.f1, .int .i64 x.f2, .int .i64 x.f3], rfl, rfl, ⟨[.int .u8 x.f1], [.int .i64 x.f2, .int .i64 x.f3], rfl, rfl, ⟨[.int .i64 x.f2], [.int .i64 x.f3], rfl, rfl, rfl⟩⟩⟩
theorem kWhen_mkM (w : World) (base : Nat) (ok : Nat → Prop) (x : When)  : kWhen.M w base ok x [.int .u32 x.f0, .int .u8 x.f1, .int .i64 x.f2, .int .i64 x.f3] := ⟨[.int .u32 x.f0], [.int .u8 x.f1, .int .i64 x.f2, .int .i64 x.f3], rfl, rfl, ⟨[.int .u8 x.f1], [.int .i64 x.f2, .int .i64 x.f3], rfl, rfl, ⟨[.int .i64 x.f2], [.int .i64 x.f3], rfl, rfl, rfl⟩⟩⟩
def rd_When (xs : List When) (i : Int) : When := xs.getD i.toNat zWhen
theorem at_When {w : World} {A : Option Addr} {n : Nat} {xs : List When} (h : Kd.C kWhen w A n xs) (i : Int) (h0 : 0 ≤ i) (h1 : i < n) : ∃ ad , A = some ad ∧ w.cell? (ad.add (i.toNat * 4)) = some (.int .u32 (rd_When xs i).f0) ∧ w.cell? ⟨(ad.add (i.toNat * 4)).block, (ad.add (i.toNat * 4)).off + 1, none⟩ = some (.int .u8 (rd_When xs i).f1) ∧ w.cell? ⟨(ad.add (i.toNat * 4)).block, (ad.add (i.toNat * 4)).off + 2, none⟩ = some (.int .i64 (rd_When xs i).f2) ∧ w.cell? ⟨(ad.add (i.toNat * 4)).block, (ad.add (i.toNat * 4)).off + 3, none⟩ = some (.int .i64 (rd_When xs i).f3) := by
  obtain ⟨ad, c, e, _, hK, hc0⟩ := Kd.C_get h zWhen i h0 h1
  have hc : ∀ j u, c[j]? = some u → w.cell? (ad.add (i.toNat * 4 + j)) = some u := hc0
  obtain rfl := kWhen_open hK
  exact ⟨ad, e, hc 0 _ rfl, by rw [← add_field _ _ 1 (by omega)]; exact hc 1 _ rfl, by rw [← add_field _ _ 2 (by omega)]; exact hc 2 _ rfl, by rw [← add_field _ _ 3 (by omega)]; exact hc 3 _ rfl⟩

def rd_LWhen (xs : List (List When)) (i : Int) : (List When) := xs.getD i.toNat ([] : List When)
theorem at_LWhen {w : World} {A : Option Addr} {n : Nat} {xs : List (List When)} (h : Kd.C (Kd.slice 117 kWhen) w A n xs) (i : Int) (h0 : 0 ≤ i) (h1 : i < n) : ∃ ad A0 c0, A = some ad ∧ w.cell? (ad.add i.toNat) = some (.slice A0 (rd_LWhen xs i).length c0) ∧ (rd_LWhen xs i).length ≤ c0 ∧ kWhen.C w A0 (rd_LWhen xs i).length (rd_LWhen xs i) := by
  obtain ⟨ad, c, e, _, hK, hc0⟩ := Kd.C_get h ([] : List When) i h0 h1
  have hc : ∀ j u, c[j]? = some u → w.cell? (ad.add (i.toNat * 1 + j)) = some u := hc0
  obtain ⟨A0, c0, rfl, l0, g0⟩ := hK
  exact ⟨ad, A0, c0, e, by have hq := hc 0 _ rfl; rwa [Nat.mul_one, Nat.add_zero] at hq, l0, g0⟩

/-! #### struct type Room -/
structure Room where
  f0 : ByteArray
  f1 : Int
  f2 : Int
  f3 : (List When)
def zRoom : Room := ⟨(⟨#[]⟩ : ByteArray), (0 : Int), (0 : Int), ([] : List When)⟩
def kRoom : Kd Room := Kd.iso (Kd.pair Kd.string (Kd.pair (Kd.int .i64) (Kd.pair (Kd.int .u16) (Kd.slice 117 kWhen)))) (fun x : Room => (x.f0, x.f1, x.f2, x.f3))
theorem kRoom_open {w : World} {x : Room} {cs : List Value} (h : kRoom.K w x cs) : ∃ A3 c3, cs = [.string x.f0, .int .i64 x.f1, .int .u16 x.f2, .slice A3 x.f3.length c3] ∧ x.f3.length ≤ c3 ∧ kWhen.C w A3 x.f3.length x.f3 := by
  obtain ⟨_, _, rfl, rfl, ⟨_, _, rfl, rfl, ⟨_, _, rfl, rfl, ⟨A3, c3, rfl, l3, g3⟩⟩⟩⟩ := h
  exact ⟨A3, c3, rfl, l3, g3⟩
theorem kRoom_openM {w : World} {base : Nat} {ok : Nat → Prop} {x : Room} {cs : List Value} (h : kRoom.M w base ok x cs) : ∃ v3, cs = [.string x.f0, .int .i64 x.f1, .int .u16 x.f2, v3] ∧ kWhen.R 117 w base ok v3 x.f3 := by
  obtain ⟨_, _, rfl, rfl, ⟨_, _, rfl, rfl, ⟨_, _, rfl, rfl, ⟨v3, rfl, g3⟩⟩⟩⟩ := h
  exact ⟨v3, rfl, g3⟩
theorem kRoom_mk (w : World) (x : Room) {A3 : Option Addr} {c3 : Nat} (l3 : x.f3.length ≤ c3) (g3 : kWhen.C w A3 x.f3.length x.f3) : kRoom.K w x [.string x.f0, .int .i64 x.f1, .int .u16 x.f2, .slice A3 x.f3.length c3] := ⟨[.string x.f0], [.int .i64 x.f1, .int .u16 x.f2, .slice A3 x.f3.length c3], rfl, rfl, ⟨[.int .i64 x.f1], [.int .u16 x.f2, .slice A3 x.f3.length c3], rfl, rfl, ⟨[.int .u16 x.f2], [.slice A3 x.f3.length c3], rfl, rfl, ⟨A3, c3, rfl, l3, g3⟩⟩⟩⟩
theorem kRoom_mkM (w : World) (base : Nat) (ok : Nat → Prop) (x : Room) {v3 : Value} (g3 : kWhen.R 117 w base ok v3 x.f3) : kRoom.M w base ok x [.string x.f0, .int .i64 x.f1, .int .u16 x.f2, v3] := ⟨[.string x.f0], [.int .i64 x.f1, .int .u16 x.f2, v3], rfl, rfl, ⟨[.int .i64 x.f1], [.int .u16 x.f2, v3], rfl, rfl, ⟨[.int .u16 x.f2], [v3], rfl, rfl, ⟨v3, rfl, g3⟩⟩⟩⟩
def rd_Room (xs : List Room) (i : Int) : Room := xs.getD i.toNat zRoom
theorem at_Room {w : World} {A : Option Addr} {n : Nat} {xs : List Room} (h : Kd.C kRoom w A n xs) (i : Int) (h0 : 0 ≤ i) (h1 : i < n) : ∃ ad A3 c3, A = some ad ∧ w.cell? (ad.add (i.toNat * 4)) = some (.string (rd_Room xs i).f0) ∧ w.cell? ⟨(ad.add (i.toNat * 4)).block, (ad.add (i.toNat * 4)).off + 1, none⟩ = some (.int .i64 (rd_Room xs i).f1) ∧ w.cell? ⟨(ad.add (i.toNat * 4)).block, (ad.add (i.toNat * 4)).off + 2, none⟩ = some (.int .u16 (rd_Room xs i).f2) ∧ w.cell? ⟨(ad.add (i.toNat * 4)).block, (ad.add (i.toNat * 4)).off + 3, none⟩ = some (.slice A3 (rd_Room xs i).f3.length c3) ∧ (rd_Room xs i).f3.length ≤ c3 ∧ kWhen.C w A3 (rd_Room xs i).f3.length (rd_Room xs i).f3 := by
  obtain ⟨ad, c, e, _, hK, hc0⟩ := Kd.C_get h zRoom i h0 h1
  have hc : ∀ j u, c[j]? = some u → w.cell? (ad.add (i.toNat * 4 + j)) = some u := hc0
  obtain ⟨A3, c3, rfl, l3, g3⟩ := kRoom_open hK
  exact ⟨ad, A3, c3, e, hc 0 _ rfl, by rw [← add_field _ _ 1 (by omega)]; exact hc 1 _ rfl, by rw [← add_field _ _ 2 (by omega)]; exact hc 2 _ rfl, by rw [← add_field _ _ 3 (by omega)]; exact hc 3 _ rfl, l3, g3⟩

/-! #### struct type Person -/
structure Person where
  f0 : ByteArray
  f1 : (List When)
def zPerson : Person := ⟨(⟨#[]⟩ : ByteArray), ([] : List When)⟩
def kPerson : Kd Person := Kd.iso (Kd.pair Kd.string (Kd.slice 117 kWhen)) (fun x : Person => (x.f0, x.f1))
theorem kPerson_open {w : World} {x : Person} {cs : List Value} (h : kPerson.K w x cs) : ∃ A1 c1, cs = [.string x.f0, .slice A1 x.f1.length c1] ∧ x.f1.length ≤ c1 ∧ kWhen.C w A1 x.f1.length x.f1 := by
  obtain ⟨_, _, rfl, rfl, ⟨A1, c1, rfl, l1, g1⟩⟩ := h
  exact ⟨A1, c1, rfl, l1, g1⟩
theorem kPerson_openM {w : World} {base : Nat} {ok : Nat → Prop} {x : Person} {cs : List Value} (h : kPerson.M w base ok x cs) : ∃ v1, cs = [.string x.f0, v1] ∧ kWhen.R 117 w base ok v1 x.f1 := by
  obtain ⟨_, _, rfl, rfl, ⟨v1, rfl, g1⟩⟩ := h
  exact ⟨v1, rfl, g1⟩
theorem kPerson_mk (w : World) (x : Person) {A1 : Option Addr} {c1 : Nat} (l1 : x.f1.length ≤ c1) (g1 : kWhen.C w A1 x.f1.length x.f1) : kPerson.K w x [.string x.f0, .slice A1 x.f1.length c1] := ⟨[.string x.f0], [.slice A1 x.f1.length c1], rfl, rfl, ⟨A1, c1, rfl, l1, g1⟩⟩
theorem kPerson_mkM (w : World) (base : Nat) (ok : Nat → Prop) (x : Person) {v1 : Value} (g1 : kWhen.R 117 w base ok v1 x.f1) : kPerson.M w base ok x [.string x.f0, v1] := ⟨[.string x.f0], [v1], rfl, rfl, ⟨v1, rfl, g1⟩⟩
def rd_Person (xs : List Person) (i : Int) : Person := xs.getD i.toNat zPerson
theorem at_Person {w : World} {A : Option Addr} {n : Nat} {xs : List Person} (h : Kd.C kPerson w A n xs) (i : Int) (h0 : 0 ≤ i) (h1 : i < n) : ∃ ad A1 c1, A = some ad ∧ w.cell? (ad.add (i.toNat * 2)) = some (.string (rd_Person xs i).f0) ∧ w.cell? ⟨(ad.add (i.toNat * 2)).block, (ad.add (i.toNat * 2)).off + 1, none⟩ = some (.slice A1 (rd_Person xs i).f1.length c1) ∧ (rd_Person xs i).f1.length ≤ c1 ∧ kWhen.C w A1 (rd_Person xs i).f1.length (rd_Person xs i).f1 := by
  obtain ⟨ad, c, e, _, hK, hc0⟩ := Kd.C_get h zPerson i h0 h1
  have hc : ∀ j u, c[j]? = some u → w.cell? (ad.add (i.toNat * 2 + j)) = some u := hc0
  obtain ⟨A1, c1, rfl, l1, g1⟩ := kPerson_open hK
  exact ⟨ad, A1, c1, e, hc 0 _ rfl, by rw [← add_field _ _ 1 (by omega)]; exact hc 1 _ rfl, l1, g1⟩

/-! #### struct type Time -/
structure Time where
  f0 : When
  f1 : Int
def zTime : Time := ⟨zWhen, (0 : Int)⟩
def kTime : Kd Time := Kd.iso (Kd.pair kWhen (Kd.int .i64)) (fun x : Time => (x.f0, x.f1))
theorem kTime_open {w : World} {x : Time} {cs : List Value} (h : kTime.K w x cs) : cs = [.int .u32 x.f0.f0, .int .u8 x.f0.f1, .int .i64 x.f0.f2, .int .i64 x.f0.f3, .int .i64 x.f1] := by
  obtain ⟨_, _, rfl, s0, rfl⟩ := h
  obtain rfl := kWhen_open s0
  exact rfl
theorem kTime_openM {w : World} {base : Nat} {ok : Nat → Prop} {x : Time} {cs : List Value} (h : kTime.M w base ok x cs) : cs = [.int .u32 x.f0.f0, .int .u8 x.f0.f1, .int .i64 x.f0.f2, .int .i64 x.f0.f3, .int .i64 x.f1] := by
  obtain ⟨_, _, rfl, s0, rfl⟩ := h
  obtain rfl := kWhen_openM s0
  exact rfl
theorem kTime_mk (w : World) (x : Time)  : kTime.K w x [.int .u32 x.f0.f0, .int .u8 x.f0.f1, .int .i64 x.f0.f2, .int .i64 x.f0.f3, .int .i64 x.f1] := ⟨[.int .u32 x.f0.f0, .int .u8 x.f0.f1, .int .i64 x.f0.f2, .int .i64 x.f0.f3], [.int .i64 x.f1], rfl, (kWhen_mk w x.f0 ), rfl⟩
theorem kTime_mkM (w : World) (base : Nat) (ok : Nat → Prop) (x : Time)  : kTime.M w base ok x [.int .u32 x.f0.f0, .int .u8 x.f0.f1, .int .i64 x.f0.f2, .int .i64 x.f0.f3, .int .i64 x.f1] := ⟨[.int .u32 x.f0.f0, .int .u8 x.f0.f1, .int .i64 x.f0.f2, .int .i64 x.f0.f3], [.int .i64 x.f1], rfl, (kWhen_mkM w base ok x.f0 ), rfl⟩
def rd_Time (xs : List Time) (i : Int) : Time := xs.getD i.toNat zTime
theorem at_Time {w : World} {A : Option Addr} {n : Nat} {xs : List Time} (h : Kd.C kTime w A n xs) (i : Int) (h0 : 0 ≤ i) (h1 : i < n) : ∃ ad , A = some ad ∧ w.cell? (ad.add (i.toNat * 5)) = some (.int .u32 (rd_Time xs i).f0.f0) ∧ w.cell? ⟨(ad.add (i.toNat * 5)).block, (ad.add (i.toNat * 5)).off + 1, none⟩ = some (.int .u8 (rd_Time xs i).f0.f1) ∧ w.cell? ⟨(ad.add (i.toNat * 5)).block, (ad.add (i.toNat * 5)).off + 2, none⟩ = some (.int .i64 (rd_Time xs i).f0.f2) ∧ w.cell? ⟨(ad.add (i.toNat * 5)).block, (ad.add (i.toNat * 5)).off + 3, none⟩ = some (.int .i64 (rd_Time xs i).f0.f3) ∧ w.cell? ⟨(ad.add (i.toNat * 5)).block, (ad.add (i.toNat * 5)).off + 4, none⟩ = some (.int .i64 (rd_Time xs i).f1) := by
  obtain ⟨ad, c, e, _, hK, hc0⟩ := Kd.C_get h zTime i h0 h1
  have hc : ∀ j u, c[j]? = some u → w.cell? (ad.add (i.toNat * 5 + j)) = some u := hc0
  obtain rfl := kTime_open hK
  exact ⟨ad, e, hc 0 _ rfl, by rw [← add_field _ _ 1 (by omega)]; exact hc 1 _ rfl, by rw [← add_field _ _ 2 (by omega)]; exact hc 2 _ rfl, by rw [← add_field _ _ 3 (by omega)]; exact hc 3 _ rfl, by rw [← add_field _ _ 4 (by omega)]; exact hc 4 _ rfl⟩

/-! #### struct type Place -/
structure Place where
  f0 : Int
  f1 : Int
def zPlace : Place := ⟨(0 : Int), (0 : Int)⟩
def kPlace : Kd Place := Kd.iso (Kd.pair (Kd.int .i64) (Kd.int .i64)) (fun x : Place => (x.f0, x.f1))
theorem kPlace_open {w : World} {x : Place} {cs : List Value} (h : kPlace.K w x cs) : cs = [.int .i64 x.f0, .int .i64 x.f1] := by
  obtain ⟨_, _, rfl, rfl, rfl⟩ := h
  exact rfl
theorem kPlace_openM {w : World} {base : Nat} {ok : Nat → Prop} {x : Place} {cs : List Value} (h : kPlace.M w base ok x cs) : cs = [.int .i64 x.f0, .int .i64 x.f1] := by
  obtain ⟨_, _, rfl, rfl, rfl⟩ := h
  exact rfl
theorem kPlace_mk (w : World) (x : Place)  : kPlace.K w x [.int .i64 x.f0, .int .i64 x.f1] := ⟨[.int .i64 x.f0], [.int .i64 x.f1], rfl, rfl, rfl⟩
theorem kPlace_mkM (w : World) (base : Nat) (ok : Nat → Prop) (x : Place)  : kPlace.M w base ok x [.int .i64 x.f0, .int .i64 x.f1] := ⟨[.int .i64 x.f0], [.int .i64 x.f1], rfl, rfl, rfl⟩
def rd_Place (xs : List Place) (i : Int) : Place := xs.getD i.toNat zPlace
theorem at_Place {w : World} {A : Option Addr} {n : Nat} {xs : List Place} (h : Kd.C kPlace w A n xs) (i : Int) (h0 : 0 ≤ i) (h1 : i < n) : ∃ ad , A = some ad ∧ w.cell? (ad.add (i.toNat * 2)) = some (.int .i64 (rd_Place xs i).f0) ∧ w.cell? ⟨(ad.add (i.toNat * 2)).block, (ad.add (i.toNat * 2)).off + 1, none⟩ = some (.int .i64 (rd_Place xs i).f1) := by
  obtain ⟨ad, c, e, _, hK, hc0⟩ := Kd.C_get h zPlace i h0 h1
  have hc : ∀ j u, c[j]? = some u → w.cell? (ad.add (i.toNat * 2 + j)) = some u := hc0
  obtain rfl := kPlace_open hK
  exact ⟨ad, e, hc 0 _ rfl, by rw [← add_field _ _ 1 (by omega)]; exact hc 1 _ rfl⟩

def rd_LI64 (xs : List (List Int)) (i : Int) : (List Int) := xs.getD i.toNat ([] : List Int)
theorem at_LI64 {w : World} {A : Option Addr} {n : Nat} {xs : List (List Int)} (h : Kd.C (Kd.slice 3 (Kd.int .i64)) w A n xs) (i : Int) (h0 : 0 ≤ i) (h1 : i < n) : ∃ ad A0 c0, A = some ad ∧ w.cell? (ad.add i.toNat) = some (.slice A0 (rd_LI64 xs i).length c0) ∧ (rd_LI64 xs i).length ≤ c0 ∧ (Kd.int .i64).C w A0 (rd_LI64 xs i).length (rd_LI64 xs i) := by
  obtain ⟨ad, c, e, _, hK, hc0⟩ := Kd.C_get h ([] : List Int) i h0 h1
  have hc : ∀ j u, c[j]? = some u → w.cell? (ad.add (i.toNat * 1 + j)) = some u := hc0
  obtain ⟨A0, c0, rfl, l0, g0⟩ := hK
  exact ⟨ad, A0, c0, e, by have hq := hc 0 _ rfl; rwa [Nat.mul_one, Nat.add_zero] at hq, l0, g0⟩

def rd_LTime (xs : List (List Time)) (i : Int) : (List Time) := xs.getD i.toNat ([] : List Time)
theorem at_LTime {w : World} {A : Option Addr} {n : Nat} {xs : List (List Time)} (h : Kd.C (Kd.slice 120 kTime) w A n xs) (i : Int) (h0 : 0 ≤ i) (h1 : i < n) : ∃ ad A0 c0, A = some ad ∧ w.cell? (ad.add i.toNat) = some (.slice A0 (rd_LTime xs i).length c0) ∧ (rd_LTime xs i).length ≤ c0 ∧ kTime.C w A0 (rd_LTime xs i).length (rd_LTime xs i) := by
  obtain ⟨ad, c, e, _, hK, hc0⟩ := Kd.C_get h ([] : List Time) i h0 h1
  have hc : ∀ j u, c[j]? = some u → w.cell? (ad.add (i.toNat * 1 + j)) = some u := hc0
  obtain ⟨A0, c0, rfl, l0, g0⟩ := hK
  exact ⟨ad, A0, c0, e, by have hq := hc 0 _ rfl; rwa [Nat.mul_one, Nat.add_zero] at hq, l0, g0⟩

def rd_LPlace (xs : List (List Place)) (i : Int) : (List Place) := xs.getD i.toNat ([] : List Place)
theorem at_LPlace {w : World} {A : Option Addr} {n : Nat} {xs : List (List Place)} (h : Kd.C (Kd.slice 122 kPlace) w A n xs) (i : Int) (h0 : 0 ≤ i) (h1 : i < n) : ∃ ad A0 c0, A = some ad ∧ w.cell? (ad.add i.toNat) = some (.slice A0 (rd_LPlace xs i).length c0) ∧ (rd_LPlace xs i).length ≤ c0 ∧ kPlace.C w A0 (rd_LPlace xs i).length (rd_LPlace xs i) := by
  obtain ⟨ad, c, e, _, hK, hc0⟩ := Kd.C_get h ([] : List Place) i h0 h1
  have hc : ∀ j u, c[j]? = some u → w.cell? (ad.add (i.toNat * 1 + j)) = some u := hc0
  obtain ⟨A0, c0, rfl, l0, g0⟩ := hK
  exact ⟨ad, A0, c0, e, by have hq := hc 0 _ rfl; rwa [Nat.mul_one, Nat.add_zero] at hq, l0, g0⟩

/-! #### struct type Class -/
structure Class where
  f0 : ByteArray
  f1 : Int
  f2 : Int
  f3 : (List Int)
  f4 : (List Time)
  f5 : (List Place)
  f6 : Int
def zClass : Class := ⟨(⟨#[]⟩ : ByteArray), (0 : Int), (0 : Int), ([] : List Int), ([] : List Time), ([] : List Place), (0 : Int)⟩
def kClass : Kd Class := Kd.iso (Kd.pair Kd.string (Kd.pair (Kd.int .i64) (Kd.pair (Kd.int .u16) (Kd.pair (Kd.slice 3 (Kd.int .i64)) (Kd.pair (Kd.slice 120 kTime) (Kd.pair (Kd.slice 122 kPlace) (Kd.int .i64))))))) (fun x : Class => (x.f0, x.f1, x.f2, x.f3, x.f4, x.f5, x.f6))
theorem kClass_open {w : World} {x : Class} {cs : List Value} (h : kClass.K w x cs) : ∃ A3 c3 A4 c4 A5 c5, cs = [.string x.f0, .int .i64 x.f1, .int .u16 x.f2, .slice A3 x.f3.length c3, .slice A4 x.f4.length c4, .slice A5 x.f5.length c5, .int .i64 x.f6] ∧ x.f3.length ≤ c3 ∧ (Kd.int .i64).C w A3 x.f3.length x.f3 ∧ x.f4.length ≤ c4 ∧ kTime.C w A4 x.f4.length x.f4 ∧ x.f5.length ≤ c5 ∧ kPlace.C w A5 x.f5.length x.f5 := by
  obtain ⟨_, _, rfl, rfl, ⟨_, _, rfl, rfl, ⟨_, _, rfl, rfl, ⟨_, _, rfl, ⟨A3, c3, rfl, l3, g3⟩, ⟨_, _, rfl, ⟨A4, c4, rfl, l4, g4⟩, ⟨_, _, rfl, ⟨A5, c5, rfl, l5, g5⟩, rfl⟩⟩⟩⟩⟩⟩ := h
  exact ⟨A3, c3, A4, c4, A5, c5, rfl, l3, g3, l4, g4, l5, g5⟩
theorem kClass_openM {w : World} {base : Nat} {ok : Nat → Prop} {x : Class} {cs : List Value} (h : kClass.M w base ok x cs) : ∃ v3 v4 v5, cs = [.string x.f0, .int .i64 x.f1, .int .u16 x.f2, v3, v4, v5, .int .i64 x.f6] ∧ (Kd.int .i64).R 3 w base ok v3 x.f3 ∧ kTime.R 120 w base ok v4 x.f4 ∧ kPlace.R 122 w base ok v5 x.f5 := by
  obtain ⟨_, _, rfl, rfl, ⟨_, _, rfl, rfl, ⟨_, _, rfl, rfl, ⟨_, _, rfl, ⟨v3, rfl, g3⟩, ⟨_, _, rfl, ⟨v4, rfl, g4⟩, ⟨_, _, rfl, ⟨v5, rfl, g5⟩, rfl⟩⟩⟩⟩⟩⟩ := h
  exact ⟨v3, v4, v5, rfl, g3, g4, g5⟩
theorem kClass_mk (w : World) (x : Class) {A3 : Option Addr} {c3 : Nat} (l3 : x.f3.length ≤ c3) (g3 : (Kd.int .i64).C w A3 x.f3.length x.f3) {A4 : Option Addr} {c4 : Nat} (l4 : x.f4.length ≤ c4) (g4 : kTime.C w A4 x.f4.length x.f4) {A5 : Option Addr} {c5 : Nat} (l5 : x.f5.length ≤ c5) (g5 : kPlace.C w A5 x.f5.length x.f5) : kClass.K w x [.string x.f0, .int .i64 x.f1, .int .u16 x.f2, .slice A3 x.f3.length c3, .slice A4 x.f4.length c4, .slice A5 x.f5.length c5, .int .i64 x.f6] := ⟨[.string x.f0], [.int .i64 x.f1, .int .u16 x.f2, .slice A3 x.f3.length c3, .slice A4 x.f4.length c4, .slice A5 x.f5.length c5, .int .i64 x.f6], rfl, rfl, ⟨[.int .i64 x.f1], [.int .u16 x.f2, .slice A3 x.f3.length c3, .slice A4 x.f4.length c4, .slice A5 x.f5.length c5, .int .i64 x.f6], rfl, rfl, ⟨[.int .u16 x.f2], [.slice A3 x.f3.length c3, .slice A4 x.f4.length c4, .slice A5 x.f5.length c5, .int .i64 x.f6], rfl, rfl, ⟨[.slice A3 x.f3.length c3], [.slice A4 x.f4.length c4, .slice A5 x.f5.length c5, .int .i64 x.f6], rfl, ⟨A3, c3, rfl, l3, g3⟩, ⟨[.slice A4 x.f4.length c4], [.slice A5 x.f5.length c5, .int .i64 x.f6], rfl, ⟨A4, c4, rfl, l4, g4⟩, ⟨[.slice A5 x.f5.length c5], [.int .i64 x.f6], rfl, ⟨A5, c5, rfl, l5, g5⟩, rfl⟩⟩⟩⟩⟩⟩
theorem kClass_mkM (w : World) (base : Nat) (ok : Nat → Prop) (x : Class) {v3 : Value} (g3 : (Kd.int .i64).R 3 w base ok v3 x.f3) {v4 : Value} (g4 : kTime.R 120 w base ok v4 x.f4) {v5 : Value} (g5 : kPlace.R 122 w base ok v5 x.f5) : kClass.M w base ok x [.string x.f0, .int .i64 x.f1, .int .u16 x.f2, v3, v4, v5, .int .i64 x.f6] := ⟨[.string x.f0], [.int .i64 x.f1, .int .u16 x.f2, v3, v4, v5, .int .i64 x.f6], rfl, rfl, ⟨[.int .i64 x.f1], [.int .u16 x.f2, v3, v4, v5, .int .i64 x.f6], rfl, rfl, ⟨[.int .u16 x.f2], [v3, v4, v5, .int .i64 x.f6], rfl, rfl, ⟨[v3], [v4, v5, .int .i64 x.f6], rfl, ⟨v3, rfl, g3⟩, ⟨[v4], [v5, .int .i64 x.f6], rfl, ⟨v4, rfl, g4⟩, ⟨[v5], [.int .i64 x.f6], rfl, ⟨v5, rfl, g5⟩, rfl⟩⟩⟩⟩⟩⟩
def rd_Class (xs : List Class) (i : Int) : Class := xs.getD i.toNat zClass
theorem at_Class {w : World} {A : Option Addr} {n : Nat} {xs : List Class} (h : Kd.C kClass w A n xs) (i : Int) (h0 : 0 ≤ i) (h1 : i < n) : ∃ ad A3 c3 A4 c4 A5 c5, A = some ad ∧ w.cell? (ad.add (i.toNat * 7)) = some (.string (rd_Class xs i).f0) ∧ w.cell? ⟨(ad.add (i.toNat * 7)).block, (ad.add (i.toNat * 7)).off + 1, none⟩ = some (.int .i64 (rd_Class xs i).f1) ∧ w.cell? ⟨(ad.add (i.toNat * 7)).block, (ad.add (i.toNat * 7)).off + 2, none⟩ = some (.int .u16 (rd_Class xs i).f2) ∧ w.cell? ⟨(ad.add (i.toNat * 7)).block, (ad.add (i.toNat * 7)).off + 3, none⟩ = some (.slice A3 (rd_Class xs i).f3.length c3) ∧ w.cell? ⟨(ad.add (i.toNat * 7)).block, (ad.add (i.toNat * 7)).off + 4, none⟩ = some (.slice A4 (rd_Class xs i).f4.length c4) ∧ w.cell? ⟨(ad.add (i.toNat * 7)).block, (ad.add (i.toNat * 7)).off + 5, none⟩ = some (.slice A5 (rd_Class xs i).f5.length c5) ∧ w.cell? ⟨(ad.add (i.toNat * 7)).block, (ad.add (i.toNat * 7)).off + 6, none⟩ = some (.int .i64 (rd_Class xs i).f6) ∧ (rd_Class xs i).f3.length ≤ c3 ∧ (Kd.int .i64).C w A3 (rd_Class xs i).f3.length (rd_Class xs i).f3 ∧ (rd_Class xs i).f4.length ≤ c4 ∧ kTime.C w A4 (rd_Class xs i).f4.length (rd_Class xs i).f4 ∧ (rd_Class xs i).f5.length ≤ c5 ∧ kPlace.C w A5 (rd_Class xs i).f5.length (rd_Class xs i).f5 := by
  obtain ⟨ad, c, e, _, hK, hc0⟩ := Kd.C_get h zClass i h0 h1
  have hc : ∀ j u, c[j]? = some u → w.cell? (ad.add (i.toNat * 7 + j)) = some u := hc0
  obtain ⟨A3, c3, A4, c4, A5, c5, rfl, l3, g3, l4, g4, l5, g5⟩ := kClass_open hK
  exact ⟨ad, A3, c3, A4, c4, A5, c5, e, hc 0 _ rfl, by rw [← add_field _ _ 1 (by omega)]; exact hc 1 _ rfl, by rw [← add_field _ _ 2 (by omega)]; exact hc 2 _ rfl, by rw [← add_field _ _ 3 (by omega)]; exact hc 3 _ rfl, by rw [← add_field _ _ 4 (by omega)]; exact hc 4 _ rfl, by rw [← add_field _ _ 5 (by omega)]; exact hc 5 _ rfl, by rw [← add_field _ _ 6 (by omega)]; exact hc 6 _ rfl, l3, g3, l4, g4, l5, g5⟩

def rd_LLI64 (xs : List (List (List Int))) (i : Int) : (List (List Int)) := xs.getD i.toNat ([] : List (List Int))
theorem at_LLI64 {w : World} {A : Option Addr} {n : Nat} {xs : List (List (List Int))} (h : Kd.C (Kd.slice 22 (Kd.slice 3 (Kd.int .i64))) w A n xs) (i : Int) (h0 : 0 ≤ i) (h1 : i < n) : ∃ ad A0 c0, A = some ad ∧ w.cell? (ad.add i.toNat) = some (.slice A0 (rd_LLI64 xs i).length c0) ∧ (rd_LLI64 xs i).length ≤ c0 ∧ (Kd.slice 3 (Kd.int .i64)).C w A0 (rd_LLI64 xs i).length (rd_LLI64 xs i) := by
  obtain ⟨ad, c, e, _, hK, hc0⟩ := Kd.C_get h ([] : List (List Int)) i h0 h1
  have hc : ∀ j u, c[j]? = some u → w.cell? (ad.add (i.toNat * 1 + j)) = some u := hc0
  obtain ⟨A0, c0, rfl, l0, g0⟩ := hK
  exact ⟨ad, A0, c0, e, by have hq := hc 0 _ rfl; rwa [Nat.mul_one, Nat.add_zero] at hq, l0, g0⟩

/-! #### struct type Way -/
structure Way where
  f0 : (List (List Int))
def zWay : Way := ⟨([] : List (List Int))⟩
def kWay : Kd Way := Kd.iso (Kd.slice 22 (Kd.slice 3 (Kd.int .i64))) (fun x : Way => x.f0)
theorem kWay_open {w : World} {x : Way} {cs : List Value} (h : kWay.K w x cs) : ∃ A0 c0, cs = [.slice A0 x.f0.length c0] ∧ x.f0.length ≤ c0 ∧ (Kd.slice 3 (Kd.int .i64)).C w A0 x.f0.length x.f0 := by
  obtain ⟨A0, c0, rfl, l0, g0⟩ := h
  exact ⟨A0, c0, rfl, l0, g0⟩
theorem kWay_openM {w : World} {base : Nat} {ok : Nat → Prop} {x : Way} {cs : List Value} (h : kWay.M w base ok x cs) : ∃ v0, cs = [v0] ∧ (Kd.slice 3 (Kd.int .i64)).R 22 w base ok v0 x.f0 := by
  obtain ⟨v0, rfl, g0⟩ := h
  exact ⟨v0, rfl, g0⟩
theorem kWay_mk (w : World) (x : Way) {A0 : Option Addr} {c0 : Nat} (l0 : x.f0.length ≤ c0) (g0 : (Kd.slice 3 (Kd.int .i64)).C w A0 x.f0.length x.f0) : kWay.K w x [.slice A0 x.f0.length c0] := ⟨A0, c0, rfl, l0, g0⟩
theorem kWay_mkM (w : World) (base : Nat) (ok : Nat → Prop) (x : Way) {v0 : Value} (g0 : (Kd.slice 3 (Kd.int .i64)).R 22 w base ok v0 x.f0) : kWay.M w base ok x [v0] := ⟨v0, rfl, g0⟩
def rd_Way (xs : List Way) (i : Int) : Way := xs.getD i.toNat zWay
theorem at_Way {w : World} {A : Option Addr} {n : Nat} {xs : List Way} (h : Kd.C kWay w A n xs) (i : Int) (h0 : 0 ≤ i) (h1 : i < n) : ∃ ad A0 c0, A = some ad ∧ w.cell? (ad.add i.toNat) = some (.slice A0 (rd_Way xs i).f0.length c0) ∧ (rd_Way xs i).f0.length ≤ c0 ∧ (Kd.slice 3 (Kd.int .i64)).C w A0 (rd_Way xs i).f0.length (rd_Way xs i).f0 := by
  obtain ⟨ad, c, e, _, hK, hc0⟩ := Kd.C_get h zWay i h0 h1
  have hc : ∀ j u, c[j]? = some u → w.cell? (ad.add (i.toNat * 1 + j)) = some u := hc0
  obtain ⟨A0, c0, rfl, l0, g0⟩ := kWay_open hK
  exact ⟨ad, A0, c0, e, by have hq := hc 0 _ rfl; rwa [Nat.mul_one, Nat.add_zero] at hq, l0, g0⟩

def rd_LWay (xs : List (List Way)) (i : Int) : (List Way) := xs.getD i.toNat ([] : List Way)
theorem at_LWay {w : World} {A : Option Addr} {n : Nat} {xs : List (List Way)} (h : Kd.C (Kd.slice 138 kWay) w A n xs) (i : Int) (h0 : 0 ≤ i) (h1 : i < n) : ∃ ad A0 c0, A = some ad ∧ w.cell? (ad.add i.toNat) = some (.slice A0 (rd_LWay xs i).length c0) ∧ (rd_LWay xs i).length ≤ c0 ∧ kWay.C w A0 (rd_LWay xs i).length (rd_LWay xs i) := by
  obtain ⟨ad, c, e, _, hK, hc0⟩ := Kd.C_get h ([] : List Way) i h0 h1
  have hc : ∀ j u, c[j]? = some u → w.cell? (ad.add (i.toNat * 1 + j)) = some u := hc0
  obtain ⟨A0, c0, rfl, l0, g0⟩ := hK
  exact ⟨ad, A0, c0, e, by have hq := hc 0 _ rfl; rwa [Nat.mul_one, Nat.add_zero] at hq, l0, g0⟩

/-! #### struct type Course -/
structure Course where
  f0 : ByteArray
  f1 : (List Way)
def zCourse : Course := ⟨(⟨#[]⟩ : ByteArray), ([] : List Way)⟩
def kCourse : Kd Course := Kd.iso (Kd.pair Kd.string (Kd.slice 138 kWay)) (fun x : Course => (x.f0, x.f1))
theorem kCourse_open {w : World} {x : Course} {cs : List Value} (h : kCourse.K w x cs) : ∃ A1 c1, cs = [.string x.f0, .slice A1 x.f1.length c1] ∧ x.f1.length ≤ c1 ∧ kWay.C w A1 x.f1.length x.f1 := by
  obtain ⟨_, _, rfl, rfl, ⟨A1, c1, rfl, l1, g1⟩⟩ := h
  exact ⟨A1, c1, rfl, l1, g1⟩
theorem kCourse_openM {w : World} {base : Nat} {ok : Nat → Prop} {x : Course} {cs : List Value} (h : kCourse.M w base ok x cs) : ∃ v1, cs = [.string x.f0, v1] ∧ kWay.R 138 w base ok v1 x.f1 := by
  obtain ⟨_, _, rfl, rfl, ⟨v1, rfl, g1⟩⟩ := h
  exact ⟨v1, rfl, g1⟩
theorem kCourse_mk (w : World) (x : Course) {A1 : Option Addr} {c1 : Nat} (l1 : x.f1.length ≤ c1) (g1 : kWay.C w A1 x.f1.length x.f1) : kCourse.K w x [.string x.f0, .slice A1 x.f1.length c1] := ⟨[.string x.f0], [.slice A1 x.f1.length c1], rfl, rfl, ⟨A1, c1, rfl, l1, g1⟩⟩
theorem kCourse_mkM (w : World) (base : Nat) (ok : Nat → Prop) (x : Course) {v1 : Value} (g1 : kWay.R 138 w base ok v1 x.f1) : kCourse.M w base ok x [.string x.f0, v1] := ⟨[.string x.f0], [v1], rfl, rfl, ⟨v1, rfl, g1⟩⟩
def rd_Course (xs : List Course) (i : Int) : Course := xs.getD i.toNat zCourse
theorem at_Course {w : World} {A : Option Addr} {n : Nat} {xs : List Course} (h : Kd.C kCourse w A n xs) (i : Int) (h0 : 0 ≤ i) (h1 : i < n) : ∃ ad A1 c1, A = some ad ∧ w.cell? (ad.add (i.toNat * 2)) = some (.string (rd_Course xs i).f0) ∧ w.cell? ⟨(ad.add (i.toNat * 2)).block, (ad.add (i.toNat * 2)).off + 1, none⟩ = some (.slice A1 (rd_Course xs i).f1.length c1) ∧ (rd_Course xs i).f1.length ≤ c1 ∧ kWay.C w A1 (rd_Course xs i).f1.length (rd_Course xs i).f1 := by
  obtain ⟨ad, c, e, _, hK, hc0⟩ := Kd.C_get h zCourse i h0 h1
  have hc : ∀ j u, c[j]? = some u → w.cell? (ad.add (i.toNat * 2 + j)) = some u := hc0
  obtain ⟨A1, c1, rfl, l1, g1⟩ := kCourse_open hK
  exact ⟨ad, A1, c1, e, hc 0 _ rfl, by rw [← add_field _ _ 1 (by omega)]; exact hc 1 _ rfl, l1, g1⟩

/-! #### struct type Student -/
structure Student where
  f0 : ByteArray
  f1 : (List Int)
def zStudent : Student := ⟨(⟨#[]⟩ : ByteArray), ([] : List Int)⟩
def kStudent : Kd Student := Kd.iso (Kd.pair Kd.string (Kd.slice 3 (Kd.int .i64))) (fun x : Student => (x.f0, x.f1))
theorem kStudent_open {w : World} {x : Student} {cs : List Value} (h : kStudent.K w x cs) : ∃ A1 c1, cs = [.string x.f0, .slice A1 x.f1.length c1] ∧ x.f1.length ≤ c1 ∧ (Kd.int .i64).C w A1 x.f1.length x.f1 := by
  obtain ⟨_, _, rfl, rfl, ⟨A1, c1, rfl, l1, g1⟩⟩ := h
  exact ⟨A1, c1, rfl, l1, g1⟩
theorem kStudent_openM {w : World} {base : Nat} {ok : Nat → Prop} {x : Student} {cs : List Value} (h : kStudent.M w base ok x cs) : ∃ v1, cs = [.string x.f0, v1] ∧ (Kd.int .i64).R 3 w base ok v1 x.f1 := by
  obtain ⟨_, _, rfl, rfl, ⟨v1, rfl, g1⟩⟩ := h
  exact ⟨v1, rfl, g1⟩
theorem kStudent_mk (w : World) (x : Student) {A1 : Option Addr} {c1 : Nat} (l1 : x.f1.length ≤ c1) (g1 : (Kd.int .i64).C w A1 x.f1.length x.f1) : kStudent.K w x [.string x.f0, .slice A1 x.f1.length c1] := ⟨[.string x.f0], [.slice A1 x.f1.length c1], rfl, rfl, ⟨A1, c1, rfl, l1, g1⟩⟩
theorem kStudent_mkM (w : World) (base : Nat) (ok : Nat → Prop) (x : Student) {v1 : Value} (g1 : (Kd.int .i64).R 3 w base ok v1 x.f1) : kStudent.M w base ok x [.string x.f0, v1] := ⟨[.string x.f0], [v1], rfl, rfl, ⟨v1, rfl, g1⟩⟩
def rd_Student (xs : List Student) (i : Int) : Student := xs.getD i.toNat zStudent
theorem at_Student {w : World} {A : Option Addr} {n : Nat} {xs : List Student} (h : Kd.C kStudent w A n xs) (i : Int) (h0 : 0 ≤ i) (h1 : i < n) : ∃ ad A1 c1, A = some ad ∧ w.cell? (ad.add (i.toNat * 2)) = some (.string (rd_Student xs i).f0) ∧ w.cell? ⟨(ad.add (i.toNat * 2)).block, (ad.add (i.toNat * 2)).off + 1, none⟩ = some (.slice A1 (rd_Student xs i).f1.length c1) ∧ (rd_Student xs i).f1.length ≤ c1 ∧ (Kd.int .i64).C w A1 (rd_Student xs i).f1.length (rd_Student xs i).f1 := by
  obtain ⟨ad, c, e, _, hK, hc0⟩ := Kd.C_get h zStudent i h0 h1
  have hc : ∀ j u, c[j]? = some u → w.cell? (ad.add (i.toNat * 2 + j)) = some u := hc0
  obtain ⟨A1, c1, rfl, l1, g1⟩ := kStudent_open hK
  exact ⟨ad, A1, c1, e, hc 0 _ rfl, by rw [← add_field _ _ 1 (by omega)]; exact hc 1 _ rfl, l1, g1⟩

/-! #### struct type Rule -/
structure Rule where
  f0 : Int
  f1 : (List Int)
  f2 : Int
  f3 : Int
  f4 : Bool
  f5 : Int
def zRule : Rule := ⟨(0 : Int), ([] : List Int), (0 : Int), (0 : Int), false, (0 : Int)⟩
def kRule : Kd Rule := Kd.iso (Kd.pair (Kd.int .i64) (Kd.pair (Kd.slice 3 (Kd.int .i64)) (Kd.pair (Kd.int .i64) (Kd.pair (Kd.int .i64) (Kd.pair Kd.bool (Kd.int .i64)))))) (fun x : Rule => (x.f0, x.f1, x.f2, x.f3, x.f4, x.f5))
theorem kRule_open {w : World} {x : Rule} {cs : List Value} (h : kRule.K w x cs) : ∃ A1 c1, cs = [.int .i64 x.f0, .slice A1 x.f1.length c1, .int .i64 x.f2, .int .i64 x.f3, .bool x.f4, .int .i64 x.f5] ∧ x.f1.length ≤ c1 ∧ (Kd.int .i64).C w A1 x.f1.length x.f1 := by
  obtain ⟨_, _, rfl, rfl, ⟨_, _, rfl, ⟨A1, c1, rfl, l1, g1⟩, ⟨_, _, rfl, rfl, ⟨_, _, rfl, rfl, ⟨_, _, rfl, rfl, rfl⟩⟩⟩⟩⟩ := h
  exact ⟨A1, c1, rfl, l1, g1⟩
theorem kRule_openM {w : World} {base : Nat} {ok : Nat → Prop} {x : Rule} {cs : List Value} (h : kRule.M w base ok x cs) : ∃ v1, cs = [.int .i64 x.f0, v1, .int .i64 x.f2, .int .i64 x.f3, .bool x.f4, .int .i64 x.f5] ∧ (Kd.int .i64).R 3 w base ok v1 x.f1 := by
  obtain ⟨_, _, rfl, rfl, ⟨_, _, rfl, ⟨v1, rfl, g1⟩, ⟨_, _, rfl, rfl, ⟨_, _, rfl, rfl, ⟨_, _, rfl, rfl, rfl⟩⟩⟩⟩⟩ := h
  exact ⟨v1, rfl, g1⟩
theorem kRule_mk (w : World) (x : Rule) {A1 : Option Addr} {c1 : Nat} (l1 : x.f1.length ≤ c1) (g1 : (Kd.int .i64).C w A1 x.f1.length x.f1) : kRule.K w x [.int .i64 x.f0, .slice A1 x.f1.length c1, .int .i64 x.f2, .int .i64 x.f3, .bool x.f4, .int .i64 x.f5] := ⟨[.int .i64 x.f0], [.slice A1 x.f1.length c1, .int .i64 x.f2, .int .i64 x.f3, .bool x.f4, .int .i64 x.f5], rfl, rfl, ⟨[.slice A1 x.f1.length c1], [.int .i64 x.f2, .int .i64 x.f3, .bool x.f4, .int .i64 x.f5], rfl, ⟨A1, c1, rfl, l1, g1⟩, ⟨[.int .i64 x.f2], [.int .i64 x.f3, .bool x.f4, .int .i64 x.f5], rfl, rfl, ⟨[.int .i64 x.f3], [.bool x.f4, .int .i64 x.f5], rfl, rfl, ⟨[.bool x.f4], [.int .i64 x.f5], rfl, rfl, rfl⟩⟩⟩⟩⟩
theorem kRule_mkM (w : World) (base : Nat) (ok : Nat → Prop) (x : Rule) {v1 : Value} (g1 : (Kd.int .i64).R 3 w base ok v1 x.f1) : kRule.M w base ok x [.int .i64 x.f0, v1, .int .i64 x.f2, .int .i64 x.f3, .bool x.f4, .int .i64 x.f5] := ⟨[.int .i64 x.f0], [v1, .int .i64 x.f2, .int .i64 x.f3, .bool x.f4, .int .i64 x.f5], rfl, rfl, ⟨[v1], [.int .i64 x.f2, .int .i64 x.f3, .bool x.f4, .int .i64 x.f5], rfl, ⟨v1, rfl, g1⟩, ⟨[.int .i64 x.f2], [.int .i64 x.f3, .bool x.f4, .int .i64 x.f5], rfl, rfl, ⟨[.int .i64 x.f3], [.bool x.f4, .int .i64 x.f5], rfl, rfl, ⟨[.bool x.f4], [.int .i64 x.f5], rfl, rfl, rfl⟩⟩⟩⟩⟩
def rd_Rule (xs : List Rule) (i : Int) : Rule := xs.getD i.toNat zRule
theorem at_Rule {w : World} {A : Option Addr} {n : Nat} {xs : List Rule} (h : Kd.C kRule w A n xs) (i : Int) (h0 : 0 ≤ i) (h1 : i < n) : ∃ ad A1 c1, A = some ad ∧ w.cell? (ad.add (i.toNat * 6)) = some (.int .i64 (rd_Rule xs i).f0) ∧ w.cell? ⟨(ad.add (i.toNat * 6)).block, (ad.add (i.toNat * 6)).off + 1, none⟩ = some (.slice A1 (rd_Rule xs i).f1.length c1) ∧ w.cell? ⟨(ad.add (i.toNat * 6)).block, (ad.add (i.toNat * 6)).off + 2, none⟩ = some (.int .i64 (rd_Rule xs i).f2) ∧ w.cell? ⟨(ad.add (i.toNat * 6)).block, (ad.add (i.toNat * 6)).off + 3, none⟩ = some (.int .i64 (rd_Rule xs i).f3) ∧ w.cell? ⟨(ad.add (i.toNat * 6)).block, (ad.add (i.toNat * 6)).off + 4, none⟩ = some (.bool (rd_Rule xs i).f4) ∧ w.cell? ⟨(ad.add (i.toNat * 6)).block, (ad.add (i.toNat * 6)).off + 5, none⟩ = some (.int .i64 (rd_Rule xs i).f5) ∧ (rd_Rule xs i).f1.length ≤ c1 ∧ (Kd.int .i64).C w A1 (rd_Rule xs i).f1.length (rd_Rule xs i).f1 := by
  obtain ⟨ad, c, e, _, hK, hc0⟩ := Kd.C_get h zRule i h0 h1
  have hc : ∀ j u, c[j]? = some u → w.cell? (ad.add (i.toNat * 6 + j)) = some u := hc0
  obtain ⟨A1, c1, rfl, l1, g1⟩ := kRule_open hK
  exact ⟨ad, A1, c1, e, hc 0 _ rfl, by rw [← add_field _ _ 1 (by omega)]; exact hc 1 _ rfl, by rw [← add_field _ _ 2 (by omega)]; exact hc 2 _ rfl, by rw [← add_field _ _ 3 (by omega)]; exact hc 3 _ rfl, by rw [← add_field _ _ 4 (by omega)]; exact hc 4 _ rfl, by rw [← add_field _ _ 5 (by omega)]; exact hc 5 _ rfl, l1, g1⟩

/-! #### struct type Weigh -/
structure Weigh where
  f0 : Int
  f1 : Int
  f2 : Int
  f3 : Int
def zWeigh : Weigh := ⟨(0 : Int), (0 : Int), (0 : Int), (0 : Int)⟩
def kWeigh : Kd Weigh := Kd.iso (Kd.pair (Kd.int .i64) (Kd.pair (Kd.int .i64) (Kd.pair (Kd.int .i64) (Kd.int .i64)))) (fun x : Weigh => (x.f0, x.f1, x.f2, x.f3))
theorem kWeigh_open {w : World} {x : Weigh} {cs : List Value} (h : kWeigh.K w x cs) : cs = [.int .i64 x.f0, .int .i64 x.f1, .int .i64 x.f2, .int .i64 x.f3] := by
  obtain ⟨_, _, rfl, rfl, ⟨_, _, rfl, rfl, ⟨_, _, rfl, rfl, rfl⟩⟩⟩ := h
  exact rfl
theorem kWeigh_openM {w : World} {base : Nat} {ok : Nat → Prop} {x : Weigh} {cs : List Value} (h : kWeigh.M w base ok x cs) : cs = [.int .i64 x.f0, .int .i64 x.f1, .int .i64 x.f2, .int .i64 x.f3] := by
  obtain ⟨_, _, rfl, rfl, ⟨_, _, rfl, rfl, ⟨_, _, rfl, rfl, rfl⟩⟩⟩ := h
  exact rfl
theorem kWeigh_mk (w : World) (x : Weigh)  : kWeigh.K w x [.int .i64 x.f0, .int .i64 x.f1, .int .i64 x.f2, .int .i64 x.f3] := ⟨[.int .i64 x.f0], [.int .i64 x.f1, .int .i64 x.f2, .int .i64 x.f3], rfl, rfl, ⟨[.int .i64 x.f1], [.int .i64 x.f2, .int .i64 x.f3], rfl, rfl, ⟨[.int .i64 x.f2], [.int .i64 x.f3], rfl, rfl, rfl⟩⟩⟩
theorem kWeigh_mkM (w : World) (base : Nat) (ok : Nat → Prop) (x : Weigh)  : kWeigh.M w base ok x [.int .i64 x.f0, .int .i64 x.f1, .int .i64 x.f2, .int .i64 x.f3] := ⟨[.int .i64 x.f0], [.int .i64 x.f1, .int .i64 x.f2, .int .i64 x.f3], rfl, rfl, ⟨[.int .i64 x.f1], [.int .i64 x.f2, .int .i64 x.f3], rfl, rfl, ⟨[.int .i64 x.f2], [.int .i64 x.f3], rfl, rfl, rfl⟩⟩⟩
def rd_Weigh (xs : List Weigh) (i : Int) : Weigh := xs.getD i.toNat zWeigh
theorem at_Weigh {w : World} {A : Option Addr} {n : Nat} {xs : List Weigh} (h : Kd.C kWeigh w A n xs) (i : Int) (h0 : 0 ≤ i) (h1 : i < n) : ∃ ad , A = some ad ∧ w.cell? (ad.add (i.toNat * 4)) = some (.int .i64 (rd_Weigh xs i).f0) ∧ w.cell? ⟨(ad.add (i.toNat * 4)).block, (ad.add (i.toNat * 4)).off + 1, none⟩ = some (.int .i64 (rd_Weigh xs i).f1) ∧ w.cell? ⟨(ad.add (i.toNat * 4)).block, (ad.add (i.toNat * 4)).off + 2, none⟩ = some (.int .i64 (rd_Weigh xs i).f2) ∧ w.cell? ⟨(ad.add (i.toNat * 4)).block, (ad.add (i.toNat * 4)).off + 3, none⟩ = some (.int .i64 (rd_Weigh xs i).f3) := by
  obtain ⟨ad, c, e, _, hK, hc0⟩ := Kd.C_get h zWeigh i h0 h1
  have hc : ∀ j u, c[j]? = some u → w.cell? (ad.add (i.toNat * 4 + j)) = some u := hc0
  obtain rfl := kWeigh_open hK
  exact ⟨ad, e, hc 0 _ rfl, by rw [← add_field _ _ 1 (by omega)]; exact hc 1 _ rfl, by rw [← add_field _ _ 2 (by omega)]; exact hc 2 _ rfl, by rw [← add_field _ _ 3 (by omega)]; exact hc 3 _ rfl⟩

def rd_LRoom (xs : List (List Room)) (i : Int) : (List Room) := xs.getD i.toNat ([] : List Room)
theorem at_LRoom {w : World} {A : Option Addr} {n : Nat} {xs : List (List Room)} (h : Kd.C (Kd.slice 114 kRoom) w A n xs) (i : Int) (h0 : 0 ≤ i) (h1 : i < n) : ∃ ad A0 c0, A = some ad ∧ w.cell? (ad.add i.toNat) = some (.slice A0 (rd_LRoom xs i).length c0) ∧ (rd_LRoom xs i).length ≤ c0 ∧ kRoom.C w A0 (rd_LRoom xs i).length (rd_LRoom xs i) := by
  obtain ⟨ad, c, e, _, hK, hc0⟩ := Kd.C_get h ([] : List Room) i h0 h1
  have hc : ∀ j u, c[j]? = some u → w.cell? (ad.add (i.toNat * 1 + j)) = some u := hc0
  obtain ⟨A0, c0, rfl, l0, g0⟩ := hK
  exact ⟨ad, A0, c0, e, by have hq := hc 0 _ rfl; rwa [Nat.mul_one, Nat.add_zero] at hq, l0, g0⟩

def rd_LPerson (xs : List (List Person)) (i : Int) : (List Person) := xs.getD i.toNat ([] : List Person)
theorem at_LPerson {w : World} {A : Option Addr} {n : Nat} {xs : List (List Person)} (h : Kd.C (Kd.slice 128 kPerson) w A n xs) (i : Int) (h0 : 0 ≤ i) (h1 : i < n) : ∃ ad A0 c0, A = some ad ∧ w.cell? (ad.add i.toNat) = some (.slice A0 (rd_LPerson xs i).length c0) ∧ (rd_LPerson xs i).length ≤ c0 ∧ kPerson.C w A0 (rd_LPerson xs i).length (rd_LPerson xs i) := by
  obtain ⟨ad, c, e, _, hK, hc0⟩ := Kd.C_get h ([] : List Person) i h0 h1
  have hc : ∀ j u, c[j]? = some u → w.cell? (ad.add (i.toNat * 1 + j)) = some u := hc0
  obtain ⟨A0, c0, rfl, l0, g0⟩ := hK
  exact ⟨ad, A0, c0, e, by have hq := hc 0 _ rfl; rwa [Nat.mul_one, Nat.add_zero] at hq, l0, g0⟩

def rd_LClass (xs : List (List Class)) (i : Int) : (List Class) := xs.getD i.toNat ([] : List Class)
theorem at_LClass {w : World} {A : Option Addr} {n : Nat} {xs : List (List Class)} (h : Kd.C (Kd.slice 96 kClass) w A n xs) (i : Int) (h0 : 0 ≤ i) (h1 : i < n) : ∃ ad A0 c0, A = some ad ∧ w.cell? (ad.add i.toNat) = some (.slice A0 (rd_LClass xs i).length c0) ∧ (rd_LClass xs i).length ≤ c0 ∧ kClass.C w A0 (rd_LClass xs i).length (rd_LClass xs i) := by
  obtain ⟨ad, c, e, _, hK, hc0⟩ := Kd.C_get h ([] : List Class) i h0 h1
  have hc : ∀ j u, c[j]? = some u → w.cell? (ad.add (i.toNat * 1 + j)) = some u := hc0
  obtain ⟨A0, c0, rfl, l0, g0⟩ := hK
  exact ⟨ad, A0, c0, e, by have hq := hc 0 _ rfl; rwa [Nat.mul_one, Nat.add_zero] at hq, l0, g0⟩

def rd_LCourse (xs : List (List Course)) (i : Int) : (List Course) := xs.getD i.toNat ([] : List Course)
theorem at_LCourse {w : World} {A : Option Addr} {n : Nat} {xs : List (List Course)} (h : Kd.C (Kd.slice 136 kCourse) w A n xs) (i : Int) (h0 : 0 ≤ i) (h1 : i < n) : ∃ ad A0 c0, A = some ad ∧ w.cell? (ad.add i.toNat) = some (.slice A0 (rd_LCourse xs i).length c0) ∧ (rd_LCourse xs i).length ≤ c0 ∧ kCourse.C w A0 (rd_LCourse xs i).length (rd_LCourse xs i) := by
  obtain ⟨ad, c, e, _, hK, hc0⟩ := Kd.C_get h ([] : List Course) i h0 h1
  have hc : ∀ j u, c[j]? = some u → w.cell? (ad.add (i.toNat * 1 + j)) = some u := hc0
  obtain ⟨A0, c0, rfl, l0, g0⟩ := hK
  exact ⟨ad, A0, c0, e, by have hq := hc 0 _ rfl; rwa [Nat.mul_one, Nat.add_zero] at hq, l0, g0⟩

def rd_LStudent (xs : List (List Student)) (i : Int) : (List Student) := xs.getD i.toNat ([] : List Student)
theorem at_LStudent {w : World} {A : Option Addr} {n : Nat} {xs : List (List Student)} (h : Kd.C (Kd.slice 130 kStudent) w A n xs) (i : Int) (h0 : 0 ≤ i) (h1 : i < n) : ∃ ad A0 c0, A = some ad ∧ w.cell? (ad.add i.toNat) = some (.slice A0 (rd_LStudent xs i).length c0) ∧ (rd_LStudent xs i).length ≤ c0 ∧ kStudent.C w A0 (rd_LStudent xs i).length (rd_LStudent xs i) := by
  obtain ⟨ad, c, e, _, hK, hc0⟩ := Kd.C_get h ([] : List Student) i h0 h1
  have hc : ∀ j u, c[j]? = some u → w.cell? (ad.add (i.toNat * 1 + j)) = some u := hc0
  obtain ⟨A0, c0, rfl, l0, g0⟩ := hK
  exact ⟨ad, A0, c0, e, by have hq := hc 0 _ rfl; rwa [Nat.mul_one, Nat.add_zero] at hq, l0, g0⟩

def rd_LRule (xs : List (List Rule)) (i : Int) : (List Rule) := xs.getD i.toNat ([] : List Rule)
theorem at_LRule {w : World} {A : Option Addr} {n : Nat} {xs : List (List Rule)} (h : Kd.C (Kd.slice 133 kRule) w A n xs) (i : Int) (h0 : 0 ≤ i) (h1 : i < n) : ∃ ad A0 c0, A = some ad ∧ w.cell? (ad.add i.toNat) = some (.slice A0 (rd_LRule xs i).length c0) ∧ (rd_LRule xs i).length ≤ c0 ∧ kRule.C w A0 (rd_LRule xs i).length (rd_LRule xs i) := by
  obtain ⟨ad, c, e, _, hK, hc0⟩ := Kd.C_get h ([] : List Rule) i h0 h1
  have hc : ∀ j u, c[j]? = some u → w.cell? (ad.add (i.toNat * 1 + j)) = some u := hc0
  obtain ⟨A0, c0, rfl, l0, g0⟩ := hK
  exact ⟨ad, A0, c0, e, by have hq := hc 0 _ rfl; rwa [Nat.mul_one, Nat.add_zero] at hq, l0, g0⟩

/-! #### struct type Problem -/
structure Problem where
  f0 : ByteArray
  f1 : Grid
  f2 : (List Room)
  f3 : (List (List Int))
  f4 : (List Person)
  f5 : (List Class)
  f6 : (List Course)
  f7 : (List Student)
  f8 : (List Rule)
  f9 : Weigh
def zProblem : Problem := ⟨(⟨#[]⟩ : ByteArray), zGrid, ([] : List Room), ([] : List (List Int)), ([] : List Person), ([] : List Class), ([] : List Course), ([] : List Student), ([] : List Rule), zWeigh⟩
def kProblem : Kd Problem := Kd.iso (Kd.pair Kd.string (Kd.pair kGrid (Kd.pair (Kd.slice 114 kRoom) (Kd.pair (Kd.slice 22 (Kd.slice 3 (Kd.int .i64))) (Kd.pair (Kd.slice 128 kPerson) (Kd.pair (Kd.slice 96 kClass) (Kd.pair (Kd.slice 136 kCourse) (Kd.pair (Kd.slice 130 kStudent) (Kd.pair (Kd.slice 133 kRule) kWeigh))))))))) (fun x : Problem => (x.f0, x.f1, x.f2, x.f3, x.f4, x.f5, x.f6, x.f7, x.f8, x.f9))
theorem kProblem_open {w : World} {x : Problem} {cs : List Value} (h : kProblem.K w x cs) : ∃ A4 c4 A5 c5 A6 c6 A7 c7 A8 c8 A9 c9 A10 c10, cs = [.string x.f0, .int .i64 x.f1.f0, .int .i64 x.f1.f1, .int .i64 x.f1.f2, .slice A4 x.f2.length c4, .slice A5 x.f3.length c5, .slice A6 x.f4.length c6, .slice A7 x.f5.length c7, .slice A8 x.f6.length c8, .slice A9 x.f7.length c9, .slice A10 x.f8.length c10, .int .i64 x.f9.f0, .int .i64 x.f9.f1, .int .i64 x.f9.f2, .int .i64 x.f9.f3] ∧ x.f2.length ≤ c4 ∧ kRoom.C w A4 x.f2.length x.f2 ∧ x.f3.length ≤ c5 ∧ (Kd.slice 3 (Kd.int .i64)).C w A5 x.f3.length x.f3 ∧ x.f4.length ≤ c6 ∧ kPerson.C w A6 x.f4.length x.f4 ∧ x.f5.length ≤ c7 ∧ kClass.C w A7 x.f5.length x.f5 ∧ x.f6.length ≤ c8 ∧ kCourse.C w A8 x.f6.length x.f6 ∧ x.f7.length ≤ c9 ∧ kStudent.C w A9 x.f7.length x.f7 ∧ x.f8.length ≤ c10 ∧ kRule.C w A10 x.f8.length x.f8 := by
  obtain ⟨_, _, rfl, rfl, ⟨_, _, rfl, s1, ⟨_, _, rfl, ⟨A4, c4, rfl, l4, g4⟩, ⟨_, _, rfl, ⟨A5, c5, rfl, l5, g5⟩, ⟨_, _, rfl, ⟨A6, c6, rfl, l6, g6⟩, ⟨_, _, rfl, ⟨A7, c7, rfl, l7, g7⟩, ⟨_, _, rfl, ⟨A8, c8, rfl, l8, g8⟩, ⟨_, _, rfl, ⟨A9, c9, rfl, l9, g9⟩, ⟨_, _, rfl, ⟨A10, c10, rfl, l10, g10⟩, s11⟩⟩⟩⟩⟩⟩⟩⟩⟩ := h
  obtain rfl := kGrid_open s1
  obtain rfl := kWeigh_open s11
  exact ⟨A4, c4, A5, c5, A6, c6, A7, c7, A8, c8, A9, c9, A10, c10, rfl, l4, g4, l5, g5, l6, g6, l7, g7, l8, g8, l9, g9, l10, g10⟩
theorem kProblem_openM {w : World} {base : Nat} {ok : Nat → Prop} {x : Problem} {cs : List Value} (h : kProblem.M w base ok x cs) : ∃ v4 v5 v6 v7 v8 v9 v10, cs = [.string x.f0, .int .i64 x.f1.f0, .int .i64 x.f1.f1, .int .i64 x.f1.f2, v4, v5, v6, v7, v8, v9, v10, .int .i64 x.f9.f0, .int .i64 x.f9.f1, .int .i64 x.f9.f2, .int .i64 x.f9.f3] ∧ kRoom.R 114 w base ok v4 x.f2 ∧ (Kd.slice 3 (Kd.int .i64)).R 22 w base ok v5 x.f3 ∧ kPerson.R 128 w base ok v6 x.f4 ∧ kClass.R 96 w base ok v7 x.f5 ∧ kCourse.R 136 w base ok v8 x.f6 ∧ kStudent.R 130 w base ok v9 x.f7 ∧ kRule.R 133 w base ok v10 x.f8 := by
  obtain ⟨_, _, rfl, rfl, ⟨_, _, rfl, s1, ⟨_, _, rfl, ⟨v4, rfl, g4⟩, ⟨_, _, rfl, ⟨v5, rfl, g5⟩, ⟨_, _, rfl, ⟨v6, rfl, g6⟩, ⟨_, _, rfl, ⟨v7, rfl, g7⟩, ⟨_, _, rfl, ⟨v8, rfl, g8⟩, ⟨_, _, rfl, ⟨v9, rfl, g9⟩, ⟨_, _, rfl, ⟨v10, rfl, g10⟩, s11⟩⟩⟩⟩⟩⟩⟩⟩⟩ := h
  obtain rfl := kGrid_openM s1
  obtain rfl := kWeigh_openM s11
  exact ⟨v4, v5, v6, v7, v8, v9, v10, rfl, g4, g5, g6, g7, g8, g9, g10⟩
theorem kProblem_mk (w : World) (x : Problem) {A4 : Option Addr} {c4 : Nat} (l4 : x.f2.length ≤ c4) (g4 : kRoom.C w A4 x.f2.length x.f2) {A5 : Option Addr} {c5 : Nat} (l5 : x.f3.length ≤ c5) (g5 : (Kd.slice 3 (Kd.int .i64)).C w A5 x.f3.length x.f3) {A6 : Option Addr} {c6 : Nat} (l6 : x.f4.length ≤ c6) (g6 : kPerson.C w A6 x.f4.length x.f4) {A7 : Option Addr} {c7 : Nat} (l7 : x.f5.length ≤ c7) (g7 : kClass.C w A7 x.f5.length x.f5) {A8 : Option Addr} {c8 : Nat} (l8 : x.f6.length ≤ c8) (g8 : kCourse.C w A8 x.f6.length x.f6) {A9 : Option Addr} {c9 : Nat} (l9 : x.f7.length ≤ c9) (g9 : kStudent.C w A9 x.f7.length x.f7) {A10 : Option Addr} {c10 : Nat} (l10 : x.f8.length ≤ c10) (g10 : kRule.C w A10 x.f8.length x.f8) : kProblem.K w x [.string x.f0, .int .i64 x.f1.f0, .int .i64 x.f1.f1, .int .i64 x.f1.f2, .slice A4 x.f2.length c4, .slice A5 x.f3.length c5, .slice A6 x.f4.length c6, .slice A7 x.f5.length c7, .slice A8 x.f6.length c8, .slice A9 x.f7.length c9, .slice A10 x.f8.length c10, .int .i64 x.f9.f0, .int .i64 x.f9.f1, .int .i64 x.f9.f2, .int .i64 x.f9.f3] := ⟨[.string x.f0], [.int .i64 x.f1.f0, .int .i64 x.f1.f1, .int .i64 x.f1.f2, .slice A4 x.f2.length c4, .slice A5 x.f3.length c5, .slice A6 x.f4.length c6, .slice A7 x.f5.length c7, .slice A8 x.f6.length c8, .slice A9 x.f7.length c9, .slice A10 x.f8.length c10, .int .i64 x.f9.f0, .int .i64 x.f9.f1, .int .i64 x.f9.f2, .int .i64 x.f9.f3], rfl, rfl, ⟨[.int .i64 x.f1.f0, .int .i64 x.f1.f1, .int .i64 x.f1.f2], [.slice A4 x.f2.length c4, .slice A5 x.f3.length c5, .slice A6 x.f4.length c6, .slice A7 x.f5.length c7, .slice A8 x.f6.length c8, .slice A9 x.f7.length c9, .slice A10 x.f8.length c10, .int .i64 x.f9.f0, .int .i64 x.f9.f1, .int .i64 x.f9.f2, .int .i64 x.f9.f3], rfl, (kGrid_mk w x.f1 ), ⟨[.slice A4 x.f2.length c4], [.slice A5 x.f3.length c5, .slice A6 x.f4.length c6, .slice A7 x.f5.length c7, .slice A8 x.f6.length c8, .slice A9 x.f7.length c9, .slice A10 x.f8.length c10, .int .i64 x.f9.f0, .int .i64 x.f9.f1, .int .i64 x.f9.f2, .int .i64 x.f9.f3], rfl, ⟨A4, c4, rfl, l4, g4⟩, ⟨[.slice A5 x.f3.length c5], [.slice A6 x.f4.length c6, .slice A7 x.f5.length c7, .slice A8 x.f6.length c8, .slice A9 x.f7.length c9, .slice A10 x.f8.length c10, .int .i64 x.f9.f0, .int .i64 x.f9.f1, .int .i64 x.f9.f2, .int .i64 x.f9.f3], rfl, ⟨A5, c5, rfl, l5, g5⟩, ⟨[.slice A6 x.f4.length c6], [.slice A7 x.f5.length c7, .slice A8 x.f6.length c8, .slice A9 x.f7.length c9, .slice A10 x.f8.length c10, .int .i64 x.f9.f0, .int .i64 x.f9.f1, .int .i64 x.f9.f2, .int .i64 x.f9.f3], rfl, ⟨A6, c6, rfl, l6, g6⟩, ⟨[.slice A7 x.f5.length c7], [.slice A8 x.f6.length c8, .slice A9 x.f7.length c9, .slice A10 x.f8.length c10, .int .i64 x.f9.f0, .int .i64 x.f9.f1, .int .i64 x.f9.f2, .int .i64 x.f9.f3], rfl, ⟨A7, c7, rfl, l7, g7⟩, ⟨[.slice A8 x.f6.length c8], [.slice A9 x.f7.length c9, .slice A10 x.f8.length c10, .int .i64 x.f9.f0, .int .i64 x.f9.f1, .int .i64 x.f9.f2, .int .i64 x.f9.f3], rfl, ⟨A8, c8, rfl, l8, g8⟩, ⟨[.slice A9 x.f7.length c9], [.slice A10 x.f8.length c10, .int .i64 x.f9.f0, .int .i64 x.f9.f1, .int .i64 x.f9.f2, .int .i64 x.f9.f3], rfl, ⟨A9, c9, rfl, l9, g9⟩, ⟨[.slice A10 x.f8.length c10], [.int .i64 x.f9.f0, .int .i64 x.f9.f1, .int .i64 x.f9.f2, .int .i64 x.f9.f3], rfl, ⟨A10, c10, rfl, l10, g10⟩, (kWeigh_mk w x.f9 )⟩⟩⟩⟩⟩⟩⟩⟩⟩
theorem kProblem_mkM (w : World) (base : Nat) (ok : Nat → Prop) (x : Problem) {v4 : Value} (g4 : kRoom.R 114 w base ok v4 x.f2) {v5 : Value} (g5 : (Kd.slice 3 (Kd.int .i64)).R 22 w base ok v5 x.f3) {v6 : Value} (g6 : kPerson.R 128 w base ok v6 x.f4) {v7 : Value} (g7 : kClass.R 96 w base ok v7 x.f5) {v8 : Value} (g8 : kCourse.R 136 w base ok v8 x.f6) {v9 : Value} (g9 : kStudent.R 130 w base ok v9 x.f7) {v10 : Value} (g10 : kRule.R 133 w base ok v10 x.f8) : kProblem.M w base ok x [.string x.f0, .int .i64 x.f1.f0, .int .i64 x.f1.f1, .int .i64 x.f1.f2, v4, v5, v6, v7, v8, v9, v10, .int .i64 x.f9.f0, .int .i64 x.f9.f1, .int .i64 x.f9.f2, .int .i64 x.f9.f3] := ⟨[.string x.f0], [.int .i64 x.f1.f0, .int .i64 x.f1.f1, .int .i64 x.f1.f2, v4, v5, v6, v7, v8, v9, v10, .int .i64 x.f9.f0, .int .i64 x.f9.f1, .int .i64 x.f9.f2, .int .i64 x.f9.f3], rfl, rfl, ⟨[.int .i64 x.f1.f0, .int .i64 x.f1.f1, .int .i64 x.f1.f2], [v4, v5, v6, v7, v8, v9, v10, .int .i64 x.f9.f0, .int .i64 x.f9.f1, .int .i64 x.f9.f2, .int .i64 x.f9.f3], rfl, (kGrid_mkM w base ok x.f1 ), ⟨[v4], [v5, v6, v7, v8, v9, v10, .int .i64 x.f9.f0, .int .i64 x.f9.f1, .int .i64 x.f9.f2, .int .i64 x.f9.f3], rfl, ⟨v4, rfl, g4⟩, ⟨[v5], [v6, v7, v8, v9, v10, .int .i64 x.f9.f0, .int .i64 x.f9.f1, .int .i64 x.f9.f2, .int .i64 x.f9.f3], rfl, ⟨v5, rfl, g5⟩, ⟨[v6], [v7, v8, v9, v10, .int .i64 x.f9.f0, .int .i64 x.f9.f1, .int .i64 x.f9.f2, .int .i64 x.f9.f3], rfl, ⟨v6, rfl, g6⟩, ⟨[v7], [v8, v9, v10, .int .i64 x.f9.f0, .int .i64 x.f9.f1, .int .i64 x.f9.f2, .int .i64 x.f9.f3], rfl, ⟨v7, rfl, g7⟩, ⟨[v8], [v9, v10, .int .i64 x.f9.f0, .int .i64 x.f9.f1, .int .i64 x.f9.f2, .int .i64 x.f9.f3], rfl, ⟨v8, rfl, g8⟩, ⟨[v9], [v10, .int .i64 x.f9.f0, .int .i64 x.f9.f1, .int .i64 x.f9.f2, .int .i64 x.f9.f3], rfl, ⟨v9, rfl, g9⟩, ⟨[v10], [.int .i64 x.f9.f0, .int .i64 x.f9.f1, .int .i64 x.f9.f2, .int .i64 x.f9.f3], rfl, ⟨v10, rfl, g10⟩, (kWeigh_mkM w base ok x.f9 )⟩⟩⟩⟩⟩⟩⟩⟩⟩
def rd_Problem (xs : List Problem) (i : Int) : Problem := xs.getD i.toNat zProblem
theorem at_Problem {w : World} {A : Option Addr} {n : Nat} {xs : List Problem} (h : Kd.C kProblem w A n xs) (i : Int) (h0 : 0 ≤ i) (h1 : i < n) : ∃ ad A4 c4 A5 c5 A6 c6 A7 c7 A8 c8 A9 c9 A10 c10, A = some ad ∧ w.cell? (ad.add (i.toNat * 15)) = some (.string (rd_Problem xs i).f0) ∧ w.cell? ⟨(ad.add (i.toNat * 15)).block, (ad.add (i.toNat * 15)).off + 1, none⟩ = some (.int .i64 (rd_Problem xs i).f1.f0) ∧ w.cell? ⟨(ad.add (i.toNat * 15)).block, (ad.add (i.toNat * 15)).off + 2, none⟩ = some (.int .i64 (rd_Problem xs i).f1.f1) ∧ w.cell? ⟨(ad.add (i.toNat * 15)).block, (ad.add (i.toNat * 15)).off + 3, none⟩ = some (.int .i64 (rd_Problem xs i).f1.f2) ∧ w.cell? ⟨(ad.add (i.toNat * 15)).block, (ad.add (i.toNat * 15)).off + 4, none⟩ = some (.slice A4 (rd_Problem xs i).f2.length c4) ∧ w.cell? ⟨(ad.add (i.toNat * 15)).block, (ad.add (i.toNat * 15)).off + 5, none⟩ = some (.slice A5 (rd_Problem xs i).f3.length c5) ∧ w.cell? ⟨(ad.add (i.toNat * 15)).block, (ad.add (i.toNat * 15)).off + 6, none⟩ = some (.slice A6 (rd_Problem xs i).f4.length c6) ∧ w.cell? ⟨(ad.add (i.toNat * 15)).block, (ad.add (i.toNat * 15)).off + 7, none⟩ = some (.slice A7 (rd_Problem xs i).f5.length c7) ∧ w.cell? ⟨(ad.add (i.toNat * 15)).block, (ad.add (i.toNat * 15)).off + 8, none⟩ = some (.slice A8 (rd_Problem xs i).f6.length c8) ∧ w.cell? ⟨(ad.add (i.toNat * 15)).block, (ad.add (i.toNat * 15)).off + 9, none⟩ = some (.slice A9 (rd_Problem xs i).f7.length c9) ∧ w.cell? ⟨(ad.add (i.toNat * 15)).block, (ad.add (i.toNat * 15)).off + 10, none⟩ = some (.slice A10 (rd_Problem xs i).f8.length c10) ∧ w.cell? ⟨(ad.add (i.toNat * 15)).block, (ad.add (i.toNat * 15)).off + 11, none⟩ = some (.int .i64 (rd_Problem xs i).f9.f0) ∧ w.cell? ⟨(ad.add (i.toNat * 15)).block, (ad.add (i.toNat * 15)).off + 12, none⟩ = some (.int .i64 (rd_Problem xs i).f9.f1) ∧ w.cell? ⟨(ad.add (i.toNat * 15)).block, (ad.add (i.toNat * 15)).off + 13, none⟩ = some (.int .i64 (rd_Problem xs i).f9.f2) ∧ w.cell? ⟨(ad.add (i.toNat * 15)).block, (ad.add (i.toNat * 15)).off + 14, none⟩ = some (.int .i64 (rd_Problem xs i).f9.f3) ∧ (rd_Problem xs i).f2.length ≤ c4 ∧ kRoom.C w A4 (rd_Problem xs i).f2.length (rd_Problem xs i).f2 ∧ (rd_Problem xs i).f3.length ≤ c5 ∧ (Kd.slice 3 (Kd.int .i64)).C w A5 (rd_Problem xs i).f3.length (rd_Problem xs i).f3 ∧ (rd_Problem xs i).f4.length ≤ c6 ∧ kPerson.C w A6 (rd_Problem xs i).f4.length (rd_Problem xs i).f4 ∧ (rd_Problem xs i).f5.length ≤ c7 ∧ kClass.C w A7 (rd_Problem xs i).f5.length (rd_Problem xs i).f5 ∧ (rd_Problem xs i).f6.length ≤ c8 ∧ kCourse.C w A8 (rd_Problem xs i).f6.length (rd_Problem xs i).f6 ∧ (rd_Problem xs i).f7.length ≤ c9 ∧ kStudent.C w A9 (rd_Problem xs i).f7.length (rd_Problem xs i).f7 ∧ (rd_Problem xs i).f8.length ≤ c10 ∧ kRule.C w A10 (rd_Problem xs i).f8.length (rd_Problem xs i).f8 := by
  obtain ⟨ad, c, e, _, hK, hc0⟩ := Kd.C_get h zProblem i h0 h1
  have hc : ∀ j u, c[j]? = some u → w.cell? (ad.add (i.toNat * 15 + j)) = some u := hc0
  obtain ⟨A4, c4, A5, c5, A6, c6, A7, c7, A8, c8, A9, c9, A10, c10, rfl, l4, g4, l5, g5, l6, g6, l7, g7, l8, g8, l9, g9, l10, g10⟩ := kProblem_open hK
  exact ⟨ad, A4, c4, A5, c5, A6, c6, A7, c7, A8, c8, A9, c9, A10, c10, e, hc 0 _ rfl, by rw [← add_field _ _ 1 (by omega)]; exact hc 1 _ rfl, by rw [← add_field _ _ 2 (by omega)]; exact hc 2 _ rfl, by rw [← add_field _ _ 3 (by omega)]; exact hc 3 _ rfl, by rw [← add_field _ _ 4 (by omega)]; exact hc 4 _ rfl, by rw [← add_field _ _ 5 (by omega)]; exact hc 5 _ rfl, by rw [← add_field _ _ 6 (by omega)]; exact hc 6 _ rfl, by rw [← add_field _ _ 7 (by omega)]; exact hc 7 _ rfl, by rw [← add_field _ _ 8 (by omega)]; exact hc 8 _ rfl, by rw [← add_field _ _ 9 (by omega)]; exact hc 9 _ rfl, by rw [← add_field _ _ 10 (by omega)]; exact hc 10 _ rfl, by rw [← add_field _ _ 11 (by omega)]; exact hc 11 _ rfl, by rw [← add_field _ _ 12 (by omega)]; exact hc 12 _ rfl, by rw [← add_field _ _ 13 (by omega)]; exact hc 13 _ rfl, by rw [← add_field _ _ 14 (by omega)]; exact hc 14 _ rfl, l4, g4, l5, g5, l6, g6, l7, g7, l8, g8, l9, g9, l10, g10⟩

/-! #### struct type Seat -/
structure Seat where
  f0 : Int
  f1 : Int
def zSeat : Seat := ⟨(0 : Int), (0 : Int)⟩
def kSeat : Kd Seat := Kd.iso (Kd.pair (Kd.int .i64) (Kd.int .i64)) (fun x : Seat => (x.f0, x.f1))
theorem kSeat_open {w : World} {x : Seat} {cs : List Value} (h : kSeat.K w x cs) : cs = [.int .i64 x.f0, .int .i64 x.f1] := by
  obtain ⟨_, _, rfl, rfl, rfl⟩ := h
  exact rfl
theorem kSeat_openM {w : World} {base : Nat} {ok : Nat → Prop} {x : Seat} {cs : List Value} (h : kSeat.M w base ok x cs) : cs = [.int .i64 x.f0, .int .i64 x.f1] := by
  obtain ⟨_, _, rfl, rfl, rfl⟩ := h
  exact rfl
theorem kSeat_mk (w : World) (x : Seat)  : kSeat.K w x [.int .i64 x.f0, .int .i64 x.f1] := ⟨[.int .i64 x.f0], [.int .i64 x.f1], rfl, rfl, rfl⟩
theorem kSeat_mkM (w : World) (base : Nat) (ok : Nat → Prop) (x : Seat)  : kSeat.M w base ok x [.int .i64 x.f0, .int .i64 x.f1] := ⟨[.int .i64 x.f0], [.int .i64 x.f1], rfl, rfl, rfl⟩
def rd_Seat (xs : List Seat) (i : Int) : Seat := xs.getD i.toNat zSeat
theorem at_Seat {w : World} {A : Option Addr} {n : Nat} {xs : List Seat} (h : Kd.C kSeat w A n xs) (i : Int) (h0 : 0 ≤ i) (h1 : i < n) : ∃ ad , A = some ad ∧ w.cell? (ad.add (i.toNat * 2)) = some (.int .i64 (rd_Seat xs i).f0) ∧ w.cell? ⟨(ad.add (i.toNat * 2)).block, (ad.add (i.toNat * 2)).off + 1, none⟩ = some (.int .i64 (rd_Seat xs i).f1) := by
  obtain ⟨ad, c, e, _, hK, hc0⟩ := Kd.C_get h zSeat i h0 h1
  have hc : ∀ j u, c[j]? = some u → w.cell? (ad.add (i.toNat * 2 + j)) = some u := hc0
  obtain rfl := kSeat_open hK
  exact ⟨ad, e, hc 0 _ rfl, by rw [← add_field _ _ 1 (by omega)]; exact hc 1 _ rfl⟩

/-! #### struct type Choice -/
structure Choice where
  f0 : Int
  f1 : Bool
  f2 : Int
def zChoice : Choice := ⟨(0 : Int), false, (0 : Int)⟩
def kChoice : Kd Choice := Kd.iso (Kd.pair (Kd.int .i64) (Kd.pair Kd.bool (Kd.int .i64))) (fun x : Choice => (x.f0, x.f1, x.f2))
theorem kChoice_open {w : World} {x : Choice} {cs : List Value} (h : kChoice.K w x cs) : cs = [.int .i64 x.f0, .bool x.f1, .int .i64 x.f2] := by
  obtain ⟨_, _, rfl, rfl, ⟨_, _, rfl, rfl, rfl⟩⟩ := h
  exact rfl
theorem kChoice_openM {w : World} {base : Nat} {ok : Nat → Prop} {x : Choice} {cs : List Value} (h : kChoice.M w base ok x cs) : cs = [.int .i64 x.f0, .bool x.f1, .int .i64 x.f2] := by
  obtain ⟨_, _, rfl, rfl, ⟨_, _, rfl, rfl, rfl⟩⟩ := h
  exact rfl
theorem kChoice_mk (w : World) (x : Choice)  : kChoice.K w x [.int .i64 x.f0, .bool x.f1, .int .i64 x.f2] := ⟨[.int .i64 x.f0], [.bool x.f1, .int .i64 x.f2], rfl, rfl, ⟨[.bool x.f1], [.int .i64 x.f2], rfl, rfl, rfl⟩⟩
theorem kChoice_mkM (w : World) (base : Nat) (ok : Nat → Prop) (x : Choice)  : kChoice.M w base ok x [.int .i64 x.f0, .bool x.f1, .int .i64 x.f2] := ⟨[.int .i64 x.f0], [.bool x.f1, .int .i64 x.f2], rfl, rfl, ⟨[.bool x.f1], [.int .i64 x.f2], rfl, rfl, rfl⟩⟩
def rd_Choice (xs : List Choice) (i : Int) : Choice := xs.getD i.toNat zChoice
theorem at_Choice {w : World} {A : Option Addr} {n : Nat} {xs : List Choice} (h : Kd.C kChoice w A n xs) (i : Int) (h0 : 0 ≤ i) (h1 : i < n) : ∃ ad , A = some ad ∧ w.cell? (ad.add (i.toNat * 3)) = some (.int .i64 (rd_Choice xs i).f0) ∧ w.cell? ⟨(ad.add (i.toNat * 3)).block, (ad.add (i.toNat * 3)).off + 1, none⟩ = some (.bool (rd_Choice xs i).f1) ∧ w.cell? ⟨(ad.add (i.toNat * 3)).block, (ad.add (i.toNat * 3)).off + 2, none⟩ = some (.int .i64 (rd_Choice xs i).f2) := by
  obtain ⟨ad, c, e, _, hK, hc0⟩ := Kd.C_get h zChoice i h0 h1
  have hc : ∀ j u, c[j]? = some u → w.cell? (ad.add (i.toNat * 3 + j)) = some u := hc0
  obtain rfl := kChoice_open hK
  exact ⟨ad, e, hc 0 _ rfl, by rw [← add_field _ _ 1 (by omega)]; exact hc 1 _ rfl, by rw [← add_field _ _ 2 (by omega)]; exact hc 2 _ rfl⟩

def rd_LChoice (xs : List (List Choice)) (i : Int) : (List Choice) := xs.getD i.toNat ([] : List Choice)
theorem at_LChoice {w : World} {A : Option Addr} {n : Nat} {xs : List (List Choice)} (h : Kd.C (Kd.slice 42 kChoice) w A n xs) (i : Int) (h0 : 0 ≤ i) (h1 : i < n) : ∃ ad A0 c0, A = some ad ∧ w.cell? (ad.add i.toNat) = some (.slice A0 (rd_LChoice xs i).length c0) ∧ (rd_LChoice xs i).length ≤ c0 ∧ kChoice.C w A0 (rd_LChoice xs i).length (rd_LChoice xs i) := by
  obtain ⟨ad, c, e, _, hK, hc0⟩ := Kd.C_get h ([] : List Choice) i h0 h1
  have hc : ∀ j u, c[j]? = some u → w.cell? (ad.add (i.toNat * 1 + j)) = some u := hc0
  obtain ⟨A0, c0, rfl, l0, g0⟩ := hK
  exact ⟨ad, A0, c0, e, by have hq := hc 0 _ rfl; rwa [Nat.mul_one, Nat.add_zero] at hq, l0, g0⟩

/-! #### struct type Map -/
structure Map where
  f0 : Problem
  f1 : (List Choice)
  f2 : (List Int)
  f3 : (List Int)
def zMap : Map := ⟨zProblem, ([] : List Choice), ([] : List Int), ([] : List Int)⟩
def kMap : Kd Map := Kd.iso (Kd.pair kProblem (Kd.pair (Kd.slice 42 kChoice) (Kd.pair (Kd.slice 3 (Kd.int .i64)) (Kd.slice 3 (Kd.int .i64))))) (fun x : Map => (x.f0, x.f1, x.f2, x.f3))
theorem kMap_open {w : World} {x : Map} {cs : List Value} (h : kMap.K w x cs) : ∃ A4 c4 A5 c5 A6 c6 A7 c7 A8 c8 A9 c9 A10 c10 A15 c15 A16 c16 A17 c17, cs = [.string x.f0.f0, .int .i64 x.f0.f1.f0, .int .i64 x.f0.f1.f1, .int .i64 x.f0.f1.f2, .slice A4 x.f0.f2.length c4, .slice A5 x.f0.f3.length c5, .slice A6 x.f0.f4.length c6, .slice A7 x.f0.f5.length c7, .slice A8 x.f0.f6.length c8, .slice A9 x.f0.f7.length c9, .slice A10 x.f0.f8.length c10, .int .i64 x.f0.f9.f0, .int .i64 x.f0.f9.f1, .int .i64 x.f0.f9.f2, .int .i64 x.f0.f9.f3, .slice A15 x.f1.length c15, .slice A16 x.f2.length c16, .slice A17 x.f3.length c17] ∧ x.f0.f2.length ≤ c4 ∧ kRoom.C w A4 x.f0.f2.length x.f0.f2 ∧ x.f0.f3.length ≤ c5 ∧ (Kd.slice 3 (Kd.int .i64)).C w A5 x.f0.f3.length x.f0.f3 ∧ x.f0.f4.length ≤ c6 ∧ kPerson.C w A6 x.f0.f4.length x.f0.f4 ∧ x.f0.f5.length ≤ c7 ∧ kClass.C w A7 x.f0.f5.length x.f0.f5 ∧ x.f0.f6.length ≤ c8 ∧ kCourse.C w A8 x.f0.f6.length x.f0.f6 ∧ x.f0.f7.length ≤ c9 ∧ kStudent.C w A9 x.f0.f7.length x.f0.f7 ∧ x.f0.f8.length ≤ c10 ∧ kRule.C w A10 x.f0.f8.length x.f0.f8 ∧ x.f1.length ≤ c15 ∧ kChoice.C w A15 x.f1.length x.f1 ∧ x.f2.length ≤ c16 ∧ (Kd.int .i64).C w A16 x.f2.length x.f2 ∧ x.f3.length ≤ c17 ∧ (Kd.int .i64).C w A17 x.f3.length x.f3 := by
  obtain ⟨_, _, rfl, s0, ⟨_, _, rfl, ⟨A15, c15, rfl, l15, g15⟩, ⟨_, _, rfl, ⟨A16, c16, rfl, l16, g16⟩, ⟨A17, c17, rfl, l17, g17⟩⟩⟩⟩ := h
  obtain ⟨A4, c4, A5, c5, A6, c6, A7, c7, A8, c8, A9, c9, A10, c10, rfl, l4, g4, l5, g5, l6, g6, l7, g7, l8, g8, l9, g9, l10, g10⟩ := kProblem_open s0
  exact ⟨A4, c4, A5, c5, A6, c6, A7, c7, A8, c8, A9, c9, A10, c10, A15, c15, A16, c16, A17, c17, rfl, l4, g4, l5, g5, l6, g6, l7, g7, l8, g8, l9, g9, l10, g10, l15, g15, l16, g16, l17, g17⟩
theorem kMap_openM {w : World} {base : Nat} {ok : Nat → Prop} {x : Map} {cs : List Value} (h : kMap.M w base ok x cs) : ∃ v4 v5 v6 v7 v8 v9 v10 v15 v16 v17, cs = [.string x.f0.f0, .int .i64 x.f0.f1.f0, .int .i64 x.f0.f1.f1, .int .i64 x.f0.f1.f2, v4, v5, v6, v7, v8, v9, v10, .int .i64 x.f0.f9.f0, .int .i64 x.f0.f9.f1, .int .i64 x.f0.f9.f2, .int .i64 x.f0.f9.f3, v15, v16, v17] ∧ kRoom.R 114 w base ok v4 x.f0.f2 ∧ (Kd.slice 3 (Kd.int .i64)).R 22 w base ok v5 x.f0.f3 ∧ kPerson.R 128 w base ok v6 x.f0.f4 ∧ kClass.R 96 w base ok v7 x.f0.f5 ∧ kCourse.R 136 w base ok v8 x.f0.f6 ∧ kStudent.R 130 w base ok v9 x.f0.f7 ∧ kRule.R 133 w base ok v10 x.f0.f8 ∧ kChoice.R 42 w base ok v15 x.f1 ∧ (Kd.int .i64).R 3 w base ok v16 x.f2 ∧ (Kd.int .i64).R 3 w base ok v17 x.f3 := by
  obtain ⟨_, _, rfl, s0, ⟨_, _, rfl, ⟨v15, rfl, g15⟩, ⟨_, _, rfl, ⟨v16, rfl, g16⟩, ⟨v17, rfl, g17⟩⟩⟩⟩ := h
  obtain ⟨v4, v5, v6, v7, v8, v9, v10, rfl, g4, g5, g6, g7, g8, g9, g10⟩ := kProblem_openM s0
  exact ⟨v4, v5, v6, v7, v8, v9, v10, v15, v16, v17, rfl, g4, g5, g6, g7, g8, g9, g10, g15, g16, g17⟩
theorem kMap_mk (w : World) (x : Map) {A4 : Option Addr} {c4 : Nat} (l4 : x.f0.f2.length ≤ c4) (g4 : kRoom.C w A4 x.f0.f2.length x.f0.f2) {A5 : Option Addr} {c5 : Nat} (l5 : x.f0.f3.length ≤ c5) (g5 : (Kd.slice 3 (Kd.int .i64)).C w A5 x.f0.f3.length x.f0.f3) {A6 : Option Addr} {c6 : Nat} (l6 : x.f0.f4.length ≤ c6) (g6 : kPerson.C w A6 x.f0.f4.length x.f0.f4) {A7 : Option Addr} {c7 : Nat} (l7 : x.f0.f5.length ≤ c7) (g7 : kClass.C w A7 x.f0.f5.length x.f0.f5) {A8 : Option Addr} {c8 : Nat} (l8 : x.f0.f6.length ≤ c8) (g8 : kCourse.C w A8 x.f0.f6.length x.f0.f6) {A9 : Option Addr} {c9 : Nat} (l9 : x.f0.f7.length ≤ c9) (g9 : kStudent.C w A9 x.f0.f7.length x.f0.f7) {A10 : Option Addr} {c10 : Nat} (l10 : x.f0.f8.length ≤ c10) (g10 : kRule.C w A10 x.f0.f8.length x.f0.f8) {A15 : Option Addr} {c15 : Nat} (l15 : x.f1.length ≤ c15) (g15 : kChoice.C w A15 x.f1.length x.f1) {A16 : Option Addr} {c16 : Nat} (l16 : x.f2.length ≤ c16) (g16 : (Kd.int .i64).C w A16 x.f2.length x.f2) {A17 : Option Addr} {c17 : Nat} (l17 : x.f3.length ≤ c17) (g17 : (Kd.int .i64).C w A17 x.f3.length x.f3) : kMap.K w x [.string x.f0.f0, .int .i64 x.f0.f1.f0, .int .i64 x.f0.f1.f1, .int .i64 x.f0.f1.f2, .slice A4 x.f0.f2.length c4, .slice A5 x.f0.f3.length c5, .slice A6 x.f0.f4.length c6, .slice A7 x.f0.f5.length c7, .slice A8 x.f0.f6.length c8, .slice A9 x.f0.f7.length c9, .slice A10 x.f0.f8.length c10, .int .i64 x.f0.f9.f0, .int .i64 x.f0.f9.f1, .int .i64 x.f0.f9.f2, .int .i64 x.f0.f9.f3, .slice A15 x.f1.length c15, .slice A16 x.f2.length c16, .slice A17 x.f3.length c17] := ⟨[.string x.f0.f0, .int .i64 x.f0.f1.f0, .int .i64 x.f0.f1.f1, .int .i64 x.f0.f1.f2, .slice A4 x.f0.f2.length c4, .slice A5 x.f0.f3.length c5, .slice A6 x.f0.f4.length c6, .slice A7 x.f0.f5.length c7, .slice A8 x.f0.f6.length c8, .slice A9 x.f0.f7.length c9, .slice A10 x.f0.f8.length c10, .int .i64 x.f0.f9.f0, .int .i64 x.f0.f9.f1, .int .i64 x.f0.f9.f2, .int .i64 x.f0.f9.f3], [.slice A15 x.f1.length c15, .slice A16 x.f2.length c16, .slice A17 x.f3.length c17], rfl, (kProblem_mk w x.f0 l4 g4 l5 g5 l6 g6 l7 g7 l8 g8 l9 g9 l10 g10), ⟨[.slice A15 x.f1.length c15], [.slice A16 x.f2.length c16, .slice A17 x.f3.length c17], rfl, ⟨A15, c15, rfl, l15, g15⟩, ⟨[.slice A16 x.f2.length c16], [.slice A17 x.f3.length c17], rfl, ⟨A16, c16, rfl, l16, g16⟩, ⟨A17, c17, rfl, l17, g17⟩⟩⟩⟩
theorem kMap_mkM (w : World) (base : Nat) (ok : Nat → Prop) (x : Map) {v4 : Value} (g4 : kRoom.R 114 w base ok v4 x.f0.f2) {v5 : Value} (g5 : (Kd.slice 3 (Kd.int .i64)).R 22 w base ok v5 x.f0.f3) {v6 : Value} (g6 : kPerson.R 128 w base ok v6 x.f0.f4) {v7 : Value} (g7 : kClass.R 96 w base ok v7 x.f0.f5) {v8 : Value} (g8 : kCourse.R 136 w base ok v8 x.f0.f6) {v9 : Value} (g9 : kStudent.R 130 w base ok v9 x.f0.f7) {v10 : Value} (g10 : kRule.R 133 w base ok v10 x.f0.f8) {v15 : Value} (g15 : kChoice.R 42 w base ok v15 x.f1) {v16 : Value} (g16 : (Kd.int .i64).R 3 w base ok v16 x.f2) {v17 : Value} (g17 : (Kd.int .i64).R 3 w base ok v17 x.f3) : kMap.M w base ok x [.string x.f0.f0, .int .i64 x.f0.f1.f0, .int .i64 x.f0.f1.f1, .int .i64 x.f0.f1.f2, v4, v5, v6, v7, v8, v9, v10, .int .i64 x.f0.f9.f0, .int .i64 x.f0.f9.f1, .int .i64 x.f0.f9.f2, .int .i64 x.f0.f9.f3, v15, v16, v17] := ⟨[.string x.f0.f0, .int .i64 x.f0.f1.f0, .int .i64 x.f0.f1.f1, .int .i64 x.f0.f1.f2, v4, v5, v6, v7, v8, v9, v10, .int .i64 x.f0.f9.f0, .int .i64 x.f0.f9.f1, .int .i64 x.f0.f9.f2, .int .i64 x.f0.f9.f3], [v15, v16, v17], rfl, (kProblem_mkM w base ok x.f0 g4 g5 g6 g7 g8 g9 g10), ⟨[v15], [v16, v17], rfl, ⟨v15, rfl, g15⟩, ⟨[v16], [v17], rfl, ⟨v16, rfl, g16⟩, ⟨v17, rfl, g17⟩⟩⟩⟩
def rd_Map (xs : List Map) (i : Int) : Map := xs.getD i.toNat zMap
theorem at_Map {w : World} {A : Option Addr} {n : Nat} {xs : List Map} (h : Kd.C kMap w A n xs) (i : Int) (h0 : 0 ≤ i) (h1 : i < n) : ∃ ad A4 c4 A5 c5 A6 c6 A7 c7 A8 c8 A9 c9 A10 c10 A15 c15 A16 c16 A17 c17, A = some ad ∧ w.cell? (ad.add (i.toNat * 18)) = some (.string (rd_Map xs i).f0.f0) ∧ w.cell? ⟨(ad.add (i.toNat * 18)).block, (ad.add (i.toNat * 18)).off + 1, none⟩ = some (.int .i64 (rd_Map xs i).f0.f1.f0) ∧ w.cell? ⟨(ad.add (i.toNat * 18)).block, (ad.add (i.toNat * 18)).off + 2, none⟩ = some (.int .i64 (rd_Map xs i).f0.f1.f1) ∧ w.cell? ⟨(ad.add (i.toNat * 18)).block, (ad.add (i.toNat * 18)).off + 3, none⟩ = some (.int .i64 (rd_Map xs i).f0.f1.f2) ∧ w.cell? ⟨(ad.add (i.toNat * 18)).block, (ad.add (i.toNat * 18)).off + 4, none⟩ = some (.slice A4 (rd_Map xs i).f0.f2.length c4) ∧ w.cell? ⟨(ad.add (i.toNat * 18)).block, (ad.add (i.toNat * 18)).off + 5, none⟩ = some (.slice A5 (rd_Map xs i).f0.f3.length c5) ∧ w.cell? ⟨(ad.add (i.toNat * 18)).block, (ad.add (i.toNat * 18)).off + 6, none⟩ = some (.slice A6 (rd_Map xs i).f0.f4.length c6) ∧ w.cell? ⟨(ad.add (i.toNat * 18)).block, (ad.add (i.toNat * 18)).off + 7, none⟩ = some (.slice A7 (rd_Map xs i).f0.f5.length c7) ∧ w.cell? ⟨(ad.add (i.toNat * 18)).block, (ad.add (i.toNat * 18)).off + 8, none⟩ = some (.slice A8 (rd_Map xs i).f0.f6.length c8) ∧ w.cell? ⟨(ad.add (i.toNat * 18)).block, (ad.add (i.toNat * 18)).off + 9, none⟩ = some (.slice A9 (rd_Map xs i).f0.f7.length c9) ∧ w.cell? ⟨(ad.add (i.toNat * 18)).block, (ad.add (i.toNat * 18)).off + 10, none⟩ = some (.slice A10 (rd_Map xs i).f0.f8.length c10) ∧ w.cell? ⟨(ad.add (i.toNat * 18)).block, (ad.add (i.toNat * 18)).off + 11, none⟩ = some (.int .i64 (rd_Map xs i).f0.f9.f0) ∧ w.cell? ⟨(ad.add (i.toNat * 18)).block, (ad.add (i.toNat * 18)).off + 12, none⟩ = some (.int .i64 (rd_Map xs i).f0.f9.f1) ∧ w.cell? ⟨(ad.add (i.toNat * 18)).block, (ad.add (i.toNat * 18)).off + 13, none⟩ = some (.int .i64 (rd_Map xs i).f0.f9.f2) ∧ w.cell? ⟨(ad.add (i.toNat * 18)).block, (ad.add (i.toNat * 18)).off + 14, none⟩ = some (.int .i64 (rd_Map xs i).f0.f9.f3) ∧ w.cell? ⟨(ad.add (i.toNat * 18)).block, (ad.add (i.toNat * 18)).off + 15, none⟩ = some (.slice A15 (rd_Map xs i).f1.length c15) ∧ w.cell? ⟨(ad.add (i.toNat * 18)).block, (ad.add (i.toNat * 18)).off + 16, none⟩ = some (.slice A16 (rd_Map xs i).f2.length c16) ∧ w.cell? ⟨(ad.add (i.toNat * 18)).block, (ad.add (i.toNat * 18)).off + 17, none⟩ = some (.slice A17 (rd_Map xs i).f3.length c17) ∧ (rd_Map xs i).f0.f2.length ≤ c4 ∧ kRoom.C w A4 (rd_Map xs i).f0.f2.length (rd_Map xs i).f0.f2 ∧ (rd_Map xs i).f0.f3.length ≤ c5 ∧ (Kd.slice 3 (Kd.int .i64)).C w A5 (rd_Map xs i).f0.f3.length (rd_Map xs i).f0.f3 ∧ (rd_Map xs i).f0.f4.length ≤ c6 ∧ kPerson.C w A6 (rd_Map xs i).f0.f4.length (rd_Map xs i).f0.f4 ∧ (rd_Map xs i).f0.f5.length ≤ c7 ∧ kClass.C w A7 (rd_Map xs i).f0.f5.length (rd_Map xs i).f0.f5 ∧ (rd_Map xs i).f0.f6.length ≤ c8 ∧ kCourse.C w A8 (rd_Map xs i).f0.f6.length (rd_Map xs i).f0.f6 ∧ (rd_Map xs i).f0.f7.length ≤ c9 ∧ kStudent.C w A9 (rd_Map xs i).f0.f7.length (rd_Map xs i).f0.f7 ∧ (rd_Map xs i).f0.f8.length ≤ c10 ∧ kRule.C w A10 (rd_Map xs i).f0.f8.length (rd_Map xs i).f0.f8 ∧ (rd_Map xs i).f1.length ≤ c15 ∧ kChoice.C w A15 (rd_Map xs i).f1.length (rd_Map xs i).f1 ∧ (rd_Map xs i).f2.length ≤ c16 ∧ (Kd.int .i64).C w A16 (rd_Map xs i).f2.length (rd_Map xs i).f2 ∧ (rd_Map xs i).f3.length ≤ c17 ∧ (Kd.int .i64).C w A17 (rd_Map xs i).f3.length (rd_Map xs i).f3 := by
  obtain ⟨ad, c, e, _, hK, hc0⟩ := Kd.C_get h zMap i h0 h1
  have hc : ∀ j u, c[j]? = some u → w.cell? (ad.add (i.toNat * 18 + j)) = some u := hc0
  obtain ⟨A4, c4, A5, c5, A6, c6, A7, c7, A8, c8, A9, c9, A10, c10, A15, c15, A16, c16, A17, c17, rfl, l4, g4, l5, g5, l6, g6, l7, g7, l8, g8, l9, g9, l10, g10, l15, g15, l16, g16, l17, g17⟩ := kMap_open hK
  exact ⟨ad, A4, c4, A5, c5, A6, c6, A7, c7, A8, c8, A9, c9, A10, c10, A15, c15, A16, c16, A17, c17, e, hc 0 _ rfl, by rw [← add_field _ _ 1 (by omega)]; exact hc 1 _ rfl, by rw [← add_field _ _ 2 (by omega)]; exact hc 2 _ rfl, by rw [← add_field _ _ 3 (by omega)]; exact hc 3 _ rfl, by rw [← add_field _ _ 4 (by omega)]; exact hc 4 _ rfl, by rw [← add_field _ _ 5 (by omega)]; exact hc 5 _ rfl, by rw [← add_field _ _ 6 (by omega)]; exact hc 6 _ rfl, by rw [← add_field _ _ 7 (by omega)]; exact hc 7 _ rfl, by rw [← add_field _ _ 8 (by omega)]; exact hc 8 _ rfl, by rw [← add_field _ _ 9 (by omega)]; exact hc 9 _ rfl, by rw [← add_field _ _ 10 (by omega)]; exact hc 10 _ rfl, by rw [← add_field _ _ 11 (by omega)]; exact hc 11 _ rfl, by rw [← add_field _ _ 12 (by omega)]; exact hc 12 _ rfl, by rw [← add_field _ _ 13 (by omega)]; exact hc 13 _ rfl, by rw [← add_field _ _ 14 (by omega)]; exact hc 14 _ rfl, by rw [← add_field _ _ 15 (by omega)]; exact hc 15 _ rfl, by rw [← add_field _ _ 16 (by omega)]; exact hc 16 _ rfl, by rw [← add_field _ _ 17 (by omega)]; exact hc 17 _ rfl, l4, g4, l5, g5, l6, g6, l7, g7, l8, g8, l9, g9, l10, g10, l15, g15, l16, g16, l17, g17⟩

theorem el_Grid {w : World} {A : Option Addr} {n : Nat} {xs : List Grid} (h : Kd.C kGrid w A n xs) (i : Nat) (x : Grid) (hx : xs[i]? = some x) : ∃ ad , A = some ad ∧ w.cell? (ad.add (i * 3)) = some (.int .i64 x.f0) ∧ w.cell? ⟨(ad.add (i * 3)).block, (ad.add (i * 3)).off + 1, none⟩ = some (.int .i64 x.f1) ∧ w.cell? ⟨(ad.add (i * 3)).block, (ad.add (i * 3)).off + 2, none⟩ = some (.int .i64 x.f2) := by
  have hl : i < xs.length := (List.getElem?_eq_some_iff.1 hx).1
  have e : rd_Grid xs (i : Int) = x := by simp [rd_Grid, hx]
  have h2 := at_Grid h (i : Int) (by omega) (by have := Kd.C_len h; omega)
  simp only [e, Int.toNat_natCast] at h2
  exact h2
theorem el_When {w : World} {A : Option Addr} {n : Nat} {xs : List When} (h : Kd.C kWhen w A n xs) (i : Nat) (x : When) (hx : xs[i]? = some x) : ∃ ad , A = some ad ∧ w.cell? (ad.add (i * 4)) = some (.int .u32 x.f0) ∧ w.cell? ⟨(ad.add (i * 4)).block, (ad.add (i * 4)).off + 1, none⟩ = some (.int .u8 x.f1) ∧ w.cell? ⟨(ad.add (i * 4)).block, (ad.add (i * 4)).off + 2, none⟩ = some (.int .i64 x.f2) ∧ w.cell? ⟨(ad.add (i * 4)).block, (ad.add (i * 4)).off + 3, none⟩ = some (.int .i64 x.f3) := by
  have hl : i < xs.length := (List.getElem?_eq_some_iff.1 hx).1
  have e : rd_When xs (i : Int) = x := by simp [rd_When, hx]
  have h2 := at_When h (i : Int) (by omega) (by have := Kd.C_len h; omega)
  simp only [e, Int.toNat_natCast] at h2
  exact h2
theorem el_LWhen {w : World} {A : Option Addr} {n : Nat} {xs : List (List When)} (h : Kd.C (Kd.slice 117 kWhen) w A n xs) (i : Nat) (x : (List When)) (hx : xs[i]? = some x) : ∃ ad A0 c0, A = some ad ∧ w.cell? (ad.add i) = some (.slice A0 x.length c0) ∧ x.length ≤ c0 ∧ kWhen.C w A0 x.length x := by
  have hl : i < xs.length := (List.getElem?_eq_some_iff.1 hx).1
  have e : rd_LWhen xs (i : Int) = x := by simp [rd_LWhen, hx]
  have h2 := at_LWhen h (i : Int) (by omega) (by have := Kd.C_len h; omega)
  simp only [e, Int.toNat_natCast] at h2
  exact h2
theorem el_Room {w : World} {A : Option Addr} {n : Nat} {xs : List Room} (h : Kd.C kRoom w A n xs) (i : Nat) (x : Room) (hx : xs[i]? = some x) : ∃ ad A3 c3, A = some ad ∧ w.cell? (ad.add (i * 4)) = some (.string x.f0) ∧ w.cell? ⟨(ad.add (i * 4)).block, (ad.add (i * 4)).off + 1, none⟩ = some (.int .i64 x.f1) ∧ w.cell? ⟨(ad.add (i * 4)).block, (ad.add (i * 4)).off + 2, none⟩ = some (.int .u16 x.f2) ∧ w.cell? ⟨(ad.add (i * 4)).block, (ad.add (i * 4)).off + 3, none⟩ = some (.slice A3 x.f3.length c3) ∧ x.f3.length ≤ c3 ∧ kWhen.C w A3 x.f3.length x.f3 := by
  have hl : i < xs.length := (List.getElem?_eq_some_iff.1 hx).1
  have e : rd_Room xs (i : Int) = x := by simp [rd_Room, hx]
  have h2 := at_Room h (i : Int) (by omega) (by have := Kd.C_len h; omega)
  simp only [e, Int.toNat_natCast] at h2
  exact h2
theorem el_Person {w : World} {A : Option Addr} {n : Nat} {xs : List Person} (h : Kd.C kPerson w A n xs) (i : Nat) (x : Person) (hx : xs[i]? = some x) : ∃ ad A1 c1, A = some ad ∧ w.cell? (ad.add (i * 2)) = some (.string x.f0) ∧ w.cell? ⟨(ad.add (i * 2)).block, (ad.add (i * 2)).off + 1, none⟩ = some (.slice A1 x.f1.length c1) ∧ x.f1.length ≤ c1 ∧ kWhen.C w A1 x.f1.length x.f1 := by
  have hl : i < xs.length := (List.getElem?_eq_some_iff.1 hx).1
  have e : rd_Person xs (i : Int) = x := by simp [rd_Person, hx]
  have h2 := at_Person h (i : Int) (by omega) (by have := Kd.C_len h; omega)
  simp only [e, Int.toNat_natCast] at h2
  exact h2
theorem el_Time {w : World} {A : Option Addr} {n : Nat} {xs : List Time} (h : Kd.C kTime w A n xs) (i : Nat) (x : Time) (hx : xs[i]? = some x) : ∃ ad , A = some ad ∧ w.cell? (ad.add (i * 5)) = some (.int .u32 x.f0.f0) ∧ w.cell? ⟨(ad.add (i * 5)).block, (ad.add (i * 5)).off + 1, none⟩ = some (.int .u8 x.f0.f1) ∧ w.cell? ⟨(ad.add (i * 5)).block, (ad.add (i * 5)).off + 2, none⟩ = some (.int .i64 x.f0.f2) ∧ w.cell? ⟨(ad.add (i * 5)).block, (ad.add (i * 5)).off + 3, none⟩ = some (.int .i64 x.f0.f3) ∧ w.cell? ⟨(ad.add (i * 5)).block, (ad.add (i * 5)).off + 4, none⟩ = some (.int .i64 x.f1) := by
  have hl : i < xs.length := (List.getElem?_eq_some_iff.1 hx).1
  have e : rd_Time xs (i : Int) = x := by simp [rd_Time, hx]
  have h2 := at_Time h (i : Int) (by omega) (by have := Kd.C_len h; omega)
  simp only [e, Int.toNat_natCast] at h2
  exact h2
theorem el_Place {w : World} {A : Option Addr} {n : Nat} {xs : List Place} (h : Kd.C kPlace w A n xs) (i : Nat) (x : Place) (hx : xs[i]? = some x) : ∃ ad , A = some ad ∧ w.cell? (ad.add (i * 2)) = some (.int .i64 x.f0) ∧ w.cell? ⟨(ad.add (i * 2)).block, (ad.add (i * 2)).off + 1, none⟩ = some (.int .i64 x.f1) := by
  have hl : i < xs.length := (List.getElem?_eq_some_iff.1 hx).1
  have e : rd_Place xs (i : Int) = x := by simp [rd_Place, hx]
  have h2 := at_Place h (i : Int) (by omega) (by have := Kd.C_len h; omega)
  simp only [e, Int.toNat_natCast] at h2
  exact h2
theorem el_LI64 {w : World} {A : Option Addr} {n : Nat} {xs : List (List Int)} (h : Kd.C (Kd.slice 3 (Kd.int .i64)) w A n xs) (i : Nat) (x : (List Int)) (hx : xs[i]? = some x) : ∃ ad A0 c0, A = some ad ∧ w.cell? (ad.add i) = some (.slice A0 x.length c0) ∧ x.length ≤ c0 ∧ (Kd.int .i64).C w A0 x.length x := by
  have hl : i < xs.length := (List.getElem?_eq_some_iff.1 hx).1
  have e : rd_LI64 xs (i : Int) = x := by simp [rd_LI64, hx]
  have h2 := at_LI64 h (i : Int) (by omega) (by have := Kd.C_len h; omega)
  simp only [e, Int.toNat_natCast] at h2
  exact h2
theorem el_LTime {w : World} {A : Option Addr} {n : Nat} {xs : List (List Time)} (h : Kd.C (Kd.slice 120 kTime) w A n xs) (i : Nat) (x : (List Time)) (hx : xs[i]? = some x) : ∃ ad A0 c0, A = some ad ∧ w.cell? (ad.add i) = some (.slice A0 x.length c0) ∧ x.length ≤ c0 ∧ kTime.C w A0 x.length x := by
  have hl : i < xs.length := (List.getElem?_eq_some_iff.1 hx).1
  have e : rd_LTime xs (i : Int) = x := by simp [rd_LTime, hx]
  have h2 := at_LTime h (i : Int) (by omega) (by have := Kd.C_len h; omega)
  simp only [e, Int.toNat_natCast] at h2
  exact h2
theorem el_LPlace {w : World} {A : Option Addr} {n : Nat} {xs : List (List Place)} (h : Kd.C (Kd.slice 122 kPlace) w A n xs) (i : Nat) (x : (List Place)) (hx : xs[i]? = some x) : ∃ ad A0 c0, A = some ad ∧ w.cell? (ad.add i) = some (.slice A0 x.length c0) ∧ x.length ≤ c0 ∧ kPlace.C w A0 x.length x := by
  have hl : i < xs.length := (List.getElem?_eq_some_iff.1 hx).1
  have e : rd_LPlace xs (i : Int) = x := by simp [rd_LPlace, hx]
  have h2 := at_LPlace h (i : Int) (by omega) (by have := Kd.C_len h; omega)
  simp only [e, Int.toNat_natCast] at h2
  exact h2
theorem el_Class {w : World} {A : Option Addr} {n : Nat} {xs : List Class} (h : Kd.C kClass w A n xs) (i : Nat) (x : Class) (hx : xs[i]? = some x) : ∃ ad A3 c3 A4 c4 A5 c5, A = some ad ∧ w.cell? (ad.add (i * 7)) = some (.string x.f0) ∧ w.cell? ⟨(ad.add (i * 7)).block, (ad.add (i * 7)).off + 1, none⟩ = some (.int .i64 x.f1) ∧ w.cell? ⟨(ad.add (i * 7)).block, (ad.add (i * 7)).off + 2, none⟩ = some (.int .u16 x.f2) ∧ w.cell? ⟨(ad.add (i * 7)).block, (ad.add (i * 7)).off + 3, none⟩ = some (.slice A3 x.f3.length c3) ∧ w.cell? ⟨(ad.add (i * 7)).block, (ad.add (i * 7)).off + 4, none⟩ = some (.slice A4 x.f4.length c4) ∧ w.cell? ⟨(ad.add (i * 7)).block, (ad.add (i * 7)).off + 5, none⟩ = some (.slice A5 x.f5.length c5) ∧ w.cell? ⟨(ad.add (i * 7)).block, (ad.add (i * 7)).off + 6, none⟩ = some (.int .i64 x.f6) ∧ x.f3.length ≤ c3 ∧ (Kd.int .i64).C w A3 x.f3.length x.f3 ∧ x.f4.length ≤ c4 ∧ kTime.C w A4 x.f4.length x.f4 ∧ x.f5.length ≤ c5 ∧ kPlace.C w A5 x.f5.length x.f5 := by
  have hl : i < xs.length := (List.getElem?_eq_some_iff.1 hx).1
  have e : rd_Class xs (i : Int) = x := by simp [rd_Class, hx]
  have h2 := at_Class h (i : Int) (by omega) (by have := Kd.C_len h; omega)
  simp only [e, Int.toNat_natCast] at h2
  exact h2
theorem el_LLI64 {w : World} {A : Option Addr} {n : Nat} {xs : List (List (List Int))} (h : Kd.C (Kd.slice 22 (Kd.slice 3 (Kd.int .i64))) w A n xs) (i : Nat) (x : (List (List Int))) (hx : xs[i]? = some x) : ∃ ad A0 c0, A = some ad ∧ w.cell? (ad.add i) = some (.slice A0 x.length c0) ∧ x.length ≤ c0 ∧ (Kd.slice 3 (Kd.int .i64)).C w A0 x.length x := by
  have hl : i < xs.length := (List.getElem?_eq_some_iff.1 hx).1
  have e : rd_LLI64 xs (i : Int) = x := by simp [rd_LLI64, hx]
  have h2 := at_LLI64 h (i : Int) (by omega) (by have := Kd.C_len h; omega)
  simp only [e, Int.toNat_natCast] at h2
  exact h2
theorem el_Way {w : World} {A : Option Addr} {n : Nat} {xs : List Way} (h : Kd.C kWay w A n xs) (i : Nat) (x : Way) (hx : xs[i]? = some x) : ∃ ad A0 c0, A = some ad ∧ w.cell? (ad.add i) = some (.slice A0 x.f0.length c0) ∧ x.f0.length ≤ c0 ∧ (Kd.slice 3 (Kd.int .i64)).C w A0 x.f0.length x.f0 := by
  have hl : i < xs.length := (List.getElem?_eq_some_iff.1 hx).1
  have e : rd_Way xs (i : Int) = x := by simp [rd_Way, hx]
  have h2 := at_Way h (i : Int) (by omega) (by have := Kd.C_len h; omega)
  simp only [e, Int.toNat_natCast] at h2
  exact h2
theorem el_LWay {w : World} {A : Option Addr} {n : Nat} {xs : List (List Way)} (h : Kd.C (Kd.slice 138 kWay) w A n xs) (i : Nat) (x : (List Way)) (hx : xs[i]? = some x) : ∃ ad A0 c0, A = some ad ∧ w.cell? (ad.add i) = some (.slice A0 x.length c0) ∧ x.length ≤ c0 ∧ kWay.C w A0 x.length x := by
  have hl : i < xs.length := (List.getElem?_eq_some_iff.1 hx).1
  have e : rd_LWay xs (i : Int) = x := by simp [rd_LWay, hx]
  have h2 := at_LWay h (i : Int) (by omega) (by have := Kd.C_len h; omega)
  simp only [e, Int.toNat_natCast] at h2
  exact h2
theorem el_Course {w : World} {A : Option Addr} {n : Nat} {xs : List Course} (h : Kd.C kCourse w A n xs) (i : Nat) (x : Course) (hx : xs[i]? = some x) : ∃ ad A1 c1, A = some ad ∧ w.cell? (ad.add (i * 2)) = some (.string x.f0) ∧ w.cell? ⟨(ad.add (i * 2)).block, (ad.add (i * 2)).off + 1, none⟩ = some (.slice A1 x.f1.length c1) ∧ x.f1.length ≤ c1 ∧ kWay.C w A1 x.f1.length x.f1 := by
  have hl : i < xs.length := (List.getElem?_eq_some_iff.1 hx).1
  have e : rd_Course xs (i : Int) = x := by simp [rd_Course, hx]
  have h2 := at_Course h (i : Int) (by omega) (by have := Kd.C_len h; omega)
  simp only [e, Int.toNat_natCast] at h2
  exact h2
theorem el_Student {w : World} {A : Option Addr} {n : Nat} {xs : List Student} (h : Kd.C kStudent w A n xs) (i : Nat) (x : Student) (hx : xs[i]? = some x) : ∃ ad A1 c1, A = some ad ∧ w.cell? (ad.add (i * 2)) = some (.string x.f0) ∧ w.cell? ⟨(ad.add (i * 2)).block, (ad.add (i * 2)).off + 1, none⟩ = some (.slice A1 x.f1.length c1) ∧ x.f1.length ≤ c1 ∧ (Kd.int .i64).C w A1 x.f1.length x.f1 := by
  have hl : i < xs.length := (List.getElem?_eq_some_iff.1 hx).1
  have e : rd_Student xs (i : Int) = x := by simp [rd_Student, hx]
  have h2 := at_Student h (i : Int) (by omega) (by have := Kd.C_len h; omega)
  simp only [e, Int.toNat_natCast] at h2
  exact h2
theorem el_Rule {w : World} {A : Option Addr} {n : Nat} {xs : List Rule} (h : Kd.C kRule w A n xs) (i : Nat) (x : Rule) (hx : xs[i]? = some x) : ∃ ad A1 c1, A = some ad ∧ w.cell? (ad.add (i * 6)) = some (.int .i64 x.f0) ∧ w.cell? ⟨(ad.add (i * 6)).block, (ad.add (i * 6)).off + 1, none⟩ = some (.slice A1 x.f1.length c1) ∧ w.cell? ⟨(ad.add (i * 6)).block, (ad.add (i * 6)).off + 2, none⟩ = some (.int .i64 x.f2) ∧ w.cell? ⟨(ad.add (i * 6)).block, (ad.add (i * 6)).off + 3, none⟩ = some (.int .i64 x.f3) ∧ w.cell? ⟨(ad.add (i * 6)).block, (ad.add (i * 6)).off + 4, none⟩ = some (.bool x.f4) ∧ w.cell? ⟨(ad.add (i * 6)).block, (ad.add (i * 6)).off + 5, none⟩ = some (.int .i64 x.f5) ∧ x.f1.length ≤ c1 ∧ (Kd.int .i64).C w A1 x.f1.length x.f1 := by
  have hl : i < xs.length := (List.getElem?_eq_some_iff.1 hx).1
  have e : rd_Rule xs (i : Int) = x := by simp [rd_Rule, hx]
  have h2 := at_Rule h (i : Int) (by omega) (by have := Kd.C_len h; omega)
  simp only [e, Int.toNat_natCast] at h2
  exact h2
theorem el_Weigh {w : World} {A : Option Addr} {n : Nat} {xs : List Weigh} (h : Kd.C kWeigh w A n xs) (i : Nat) (x : Weigh) (hx : xs[i]? = some x) : ∃ ad , A = some ad ∧ w.cell? (ad.add (i * 4)) = some (.int .i64 x.f0) ∧ w.cell? ⟨(ad.add (i * 4)).block, (ad.add (i * 4)).off + 1, none⟩ = some (.int .i64 x.f1) ∧ w.cell? ⟨(ad.add (i * 4)).block, (ad.add (i * 4)).off + 2, none⟩ = some (.int .i64 x.f2) ∧ w.cell? ⟨(ad.add (i * 4)).block, (ad.add (i * 4)).off + 3, none⟩ = some (.int .i64 x.f3) := by
  have hl : i < xs.length := (List.getElem?_eq_some_iff.1 hx).1
  have e : rd_Weigh xs (i : Int) = x := by simp [rd_Weigh, hx]
  have h2 := at_Weigh h (i : Int) (by omega) (by have := Kd.C_len h; omega)
  simp only [e, Int.toNat_natCast] at h2
  exact h2
theorem el_LRoom {w : World} {A : Option Addr} {n : Nat} {xs : List (List Room)} (h : Kd.C (Kd.slice 114 kRoom) w A n xs) (i : Nat) (x : (List Room)) (hx : xs[i]? = some x) : ∃ ad A0 c0, A = some ad ∧ w.cell? (ad.add i) = some (.slice A0 x.length c0) ∧ x.length ≤ c0 ∧ kRoom.C w A0 x.length x := by
  have hl : i < xs.length := (List.getElem?_eq_some_iff.1 hx).1
  have e : rd_LRoom xs (i : Int) = x := by simp [rd_LRoom, hx]
  have h2 := at_LRoom h (i : Int) (by omega) (by have := Kd.C_len h; omega)
  simp only [e, Int.toNat_natCast] at h2
  exact h2
theorem el_LPerson {w : World} {A : Option Addr} {n : Nat} {xs : List (List Person)} (h : Kd.C (Kd.slice 128 kPerson) w A n xs) (i : Nat) (x : (List Person)) (hx : xs[i]? = some x) : ∃ ad A0 c0, A = some ad ∧ w.cell? (ad.add i) = some (.slice A0 x.length c0) ∧ x.length ≤ c0 ∧ kPerson.C w A0 x.length x := by
  have hl : i < xs.length := (List.getElem?_eq_some_iff.1 hx).1
  have e : rd_LPerson xs (i : Int) = x := by simp [rd_LPerson, hx]
  have h2 := at_LPerson h (i : Int) (by omega) (by have := Kd.C_len h; omega)
  simp only [e, Int.toNat_natCast] at h2
  exact h2
theorem el_LClass {w : World} {A : Option Addr} {n : Nat} {xs : List (List Class)} (h : Kd.C (Kd.slice 96 kClass) w A n xs) (i : Nat) (x : (List Class)) (hx : xs[i]? = some x) : ∃ ad A0 c0, A = some ad ∧ w.cell? (ad.add i) = some (.slice A0 x.length c0) ∧ x.length ≤ c0 ∧ kClass.C w A0 x.length x := by
  have hl : i < xs.length := (List.getElem?_eq_some_iff.1 hx).1
  have e : rd_LClass xs (i : Int) = x := by simp [rd_LClass, hx]
  have h2 := at_LClass h (i : Int) (by omega) (by have := Kd.C_len h; omega)
  simp only [e, Int.toNat_natCast] at h2
  exact h2
theorem el_LCourse {w : World} {A : Option Addr} {n : Nat} {xs : List (List Course)} (h : Kd.C (Kd.slice 136 kCourse) w A n xs) (i : Nat) (x : (List Course)) (hx : xs[i]? = some x) : ∃ ad A0 c0, A = some ad ∧ w.cell? (ad.add i) = some (.slice A0 x.length c0) ∧ x.length ≤ c0 ∧ kCourse.C w A0 x.length x := by
  have hl : i < xs.length := (List.getElem?_eq_some_iff.1 hx).1
  have e : rd_LCourse xs (i : Int) = x := by simp [rd_LCourse, hx]
  have h2 := at_LCourse h (i : Int) (by omega) (by have := Kd.C_len h; omega)
  simp only [e, Int.toNat_natCast] at h2
  exact h2
theorem el_LStudent {w : World} {A : Option Addr} {n : Nat} {xs : List (List Student)} (h : Kd.C (Kd.slice 130 kStudent) w A n xs) (i : Nat) (x : (List Student)) (hx : xs[i]? = some x) : ∃ ad A0 c0, A = some ad ∧ w.cell? (ad.add i) = some (.slice A0 x.length c0) ∧ x.length ≤ c0 ∧ kStudent.C w A0 x.length x := by
  have hl : i < xs.length := (List.getElem?_eq_some_iff.1 hx).1
  have e : rd_LStudent xs (i : Int) = x := by simp [rd_LStudent, hx]
  have h2 := at_LStudent h (i : Int) (by omega) (by have := Kd.C_len h; omega)
  simp only [e, Int.toNat_natCast] at h2
  exact h2
theorem el_LRule {w : World} {A : Option Addr} {n : Nat} {xs : List (List Rule)} (h : Kd.C (Kd.slice 133 kRule) w A n xs) (i : Nat) (x : (List Rule)) (hx : xs[i]? = some x) : ∃ ad A0 c0, A = some ad ∧ w.cell? (ad.add i) = some (.slice A0 x.length c0) ∧ x.length ≤ c0 ∧ kRule.C w A0 x.length x := by
  have hl : i < xs.length := (List.getElem?_eq_some_iff.1 hx).1
  have e : rd_LRule xs (i : Int) = x := by simp [rd_LRule, hx]
  have h2 := at_LRule h (i : Int) (by omega) (by have := Kd.C_len h; omega)
  simp only [e, Int.toNat_natCast] at h2
  exact h2
theorem el_Problem {w : World} {A : Option Addr} {n : Nat} {xs : List Problem} (h : Kd.C kProblem w A n xs) (i : Nat) (x : Problem) (hx : xs[i]? = some x) : ∃ ad A4 c4 A5 c5 A6 c6 A7 c7 A8 c8 A9 c9 A10 c10, A = some ad ∧ w.cell? (ad.add (i * 15)) = some (.string x.f0) ∧ w.cell? ⟨(ad.add (i * 15)).block, (ad.add (i * 15)).off + 1, none⟩ = some (.int .i64 x.f1.f0) ∧ w.cell? ⟨(ad.add (i * 15)).block, (ad.add (i * 15)).off + 2, none⟩ = some (.int .i64 x.f1.f1) ∧ w.cell? ⟨(ad.add (i * 15)).block, (ad.add (i * 15)).off + 3, none⟩ = some (.int .i64 x.f1.f2) ∧ w.cell? ⟨(ad.add (i * 15)).block, (ad.add (i * 15)).off + 4, none⟩ = some (.slice A4 x.f2.length c4) ∧ w.cell? ⟨(ad.add (i * 15)).block, (ad.add (i * 15)).off + 5, none⟩ = some (.slice A5 x.f3.length c5) ∧ w.cell? ⟨(ad.add (i * 15)).block, (ad.add (i * 15)).off + 6, none⟩ = some (.slice A6 x.f4.length c6) ∧ w.cell? ⟨(ad.add (i * 15)).block, (ad.add (i * 15)).off + 7, none⟩ = some (.slice A7 x.f5.length c7) ∧ w.cell? ⟨(ad.add (i * 15)).block, (ad.add (i * 15)).off + 8, none⟩ = some (.slice A8 x.f6.length c8) ∧ w.cell? ⟨(ad.add (i * 15)).block, (ad.add (i * 15)).off + 9, none⟩ = some (.slice A9 x.f7.length c9) ∧ w.cell? ⟨(ad.add (i * 15)).block, (ad.add (i * 15)).off + 10, none⟩ = some (.slice A10 x.f8.length c10) ∧ w.cell? ⟨(ad.add (i * 15)).block, (ad.add (i * 15)).off + 11, none⟩ = some (.int .i64 x.f9.f0) ∧ w.cell? ⟨(ad.add (i * 15)).block, (ad.add (i * 15)).off + 12, none⟩ = some (.int .i64 x.f9.f1) ∧ w.cell? ⟨(ad.add (i * 15)).block, (ad.add (i * 15)).off + 13, none⟩ = some (.int .i64 x.f9.f2) ∧ w.cell? ⟨(ad.add (i * 15)).block, (ad.add (i * 15)).off + 14, none⟩ = some (.int .i64 x.f9.f3) ∧ x.f2.length ≤ c4 ∧ kRoom.C w A4 x.f2.length x.f2 ∧ x.f3.length ≤ c5 ∧ (Kd.slice 3 (Kd.int .i64)).C w A5 x.f3.length x.f3 ∧ x.f4.length ≤ c6 ∧ kPerson.C w A6 x.f4.length x.f4 ∧ x.f5.length ≤ c7 ∧ kClass.C w A7 x.f5.length x.f5 ∧ x.f6.length ≤ c8 ∧ kCourse.C w A8 x.f6.length x.f6 ∧ x.f7.length ≤ c9 ∧ kStudent.C w A9 x.f7.length x.f7 ∧ x.f8.length ≤ c10 ∧ kRule.C w A10 x.f8.length x.f8 := by
  have hl : i < xs.length := (List.getElem?_eq_some_iff.1 hx).1
  have e : rd_Problem xs (i : Int) = x := by simp [rd_Problem, hx]
  have h2 := at_Problem h (i : Int) (by omega) (by have := Kd.C_len h; omega)
  simp only [e, Int.toNat_natCast] at h2
  exact h2
theorem el_Seat {w : World} {A : Option Addr} {n : Nat} {xs : List Seat} (h : Kd.C kSeat w A n xs) (i : Nat) (x : Seat) (hx : xs[i]? = some x) : ∃ ad , A = some ad ∧ w.cell? (ad.add (i * 2)) = some (.int .i64 x.f0) ∧ w.cell? ⟨(ad.add (i * 2)).block, (ad.add (i * 2)).off + 1, none⟩ = some (.int .i64 x.f1) := by
  have hl : i < xs.length := (List.getElem?_eq_some_iff.1 hx).1
  have e : rd_Seat xs (i : Int) = x := by simp [rd_Seat, hx]
  have h2 := at_Seat h (i : Int) (by omega) (by have := Kd.C_len h; omega)
  simp only [e, Int.toNat_natCast] at h2
  exact h2
theorem el_Choice {w : World} {A : Option Addr} {n : Nat} {xs : List Choice} (h : Kd.C kChoice w A n xs) (i : Nat) (x : Choice) (hx : xs[i]? = some x) : ∃ ad , A = some ad ∧ w.cell? (ad.add (i * 3)) = some (.int .i64 x.f0) ∧ w.cell? ⟨(ad.add (i * 3)).block, (ad.add (i * 3)).off + 1, none⟩ = some (.bool x.f1) ∧ w.cell? ⟨(ad.add (i * 3)).block, (ad.add (i * 3)).off + 2, none⟩ = some (.int .i64 x.f2) := by
  have hl : i < xs.length := (List.getElem?_eq_some_iff.1 hx).1
  have e : rd_Choice xs (i : Int) = x := by simp [rd_Choice, hx]
  have h2 := at_Choice h (i : Int) (by omega) (by have := Kd.C_len h; omega)
  simp only [e, Int.toNat_natCast] at h2
  exact h2
theorem el_LChoice {w : World} {A : Option Addr} {n : Nat} {xs : List (List Choice)} (h : Kd.C (Kd.slice 42 kChoice) w A n xs) (i : Nat) (x : (List Choice)) (hx : xs[i]? = some x) : ∃ ad A0 c0, A = some ad ∧ w.cell? (ad.add i) = some (.slice A0 x.length c0) ∧ x.length ≤ c0 ∧ kChoice.C w A0 x.length x := by
  have hl : i < xs.length := (List.getElem?_eq_some_iff.1 hx).1
  have e : rd_LChoice xs (i : Int) = x := by simp [rd_LChoice, hx]
  have h2 := at_LChoice h (i : Int) (by omega) (by have := Kd.C_len h; omega)
  simp only [e, Int.toNat_natCast] at h2
  exact h2
theorem el_Map {w : World} {A : Option Addr} {n : Nat} {xs : List Map} (h : Kd.C kMap w A n xs) (i : Nat) (x : Map) (hx : xs[i]? = some x) : ∃ ad A4 c4 A5 c5 A6 c6 A7 c7 A8 c8 A9 c9 A10 c10 A15 c15 A16 c16 A17 c17, A = some ad ∧ w.cell? (ad.add (i * 18)) = some (.string x.f0.f0) ∧ w.cell? ⟨(ad.add (i * 18)).block, (ad.add (i * 18)).off + 1, none⟩ = some (.int .i64 x.f0.f1.f0) ∧ w.cell? ⟨(ad.add (i * 18)).block, (ad.add (i * 18)).off + 2, none⟩ = some (.int .i64 x.f0.f1.f1) ∧ w.cell? ⟨(ad.add (i * 18)).block, (ad.add (i * 18)).off + 3, none⟩ = some (.int .i64 x.f0.f1.f2) ∧ w.cell? ⟨(ad.add (i * 18)).block, (ad.add (i * 18)).off + 4, none⟩ = some (.slice A4 x.f0.f2.length c4) ∧ w.cell? ⟨(ad.add (i * 18)).block, (ad.add (i * 18)).off + 5, none⟩ = some (.slice A5 x.f0.f3.length c5) ∧ w.cell? ⟨(ad.add (i * 18)).block, (ad.add (i * 18)).off + 6, none⟩ = some (.slice A6 x.f0.f4.length c6) ∧ w.cell? ⟨(ad.add (i * 18)).block, (ad.add (i * 18)).off + 7, none⟩ = some (.slice A7 x.f0.f5.length c7) ∧ w.cell? ⟨(ad.add (i * 18)).block, (ad.add (i * 18)).off + 8, none⟩ = some (.slice A8 x.f0.f6.length c8) ∧ w.cell? ⟨(ad.add (i * 18)).block, (ad.add (i * 18)).off + 9, none⟩ = some (.slice A9 x.f0.f7.length c9) ∧ w.cell? ⟨(ad.add (i * 18)).block, (ad.add (i * 18)).off + 10, none⟩ = some (.slice A10 x.f0.f8.length c10) ∧ w.cell? ⟨(ad.add (i * 18)).block, (ad.add (i * 18)).off + 11, none⟩ = some (.int .i64 x.f0.f9.f0) ∧ w.cell? ⟨(ad.add (i * 18)).block, (ad.add (i * 18)).off + 12, none⟩ = some (.int .i64 x.f0.f9.f1) ∧ w.cell? ⟨(ad.add (i * 18)).block, (ad.add (i * 18)).off + 13, none⟩ = some (.int .i64 x.f0.f9.f2) ∧ w.cell? ⟨(ad.add (i * 18)).block, (ad.add (i * 18)).off + 14, none⟩ = some (.int .i64 x.f0.f9.f3) ∧ w.cell? ⟨(ad.add (i * 18)).block, (ad.add (i * 18)).off + 15, none⟩ = some (.slice A15 x.f1.length c15) ∧ w.cell? ⟨(ad.add (i * 18)).block, (ad.add (i * 18)).off + 16, none⟩ = some (.slice A16 x.f2.length c16) ∧ w.cell? ⟨(ad.add (i * 18)).block, (ad.add (i * 18)).off + 17, none⟩ = some (.slice A17 x.f3.length c17) ∧ x.f0.f2.length ≤ c4 ∧ kRoom.C w A4 x.f0.f2.length x.f0.f2 ∧ x.f0.f3.length ≤ c5 ∧ (Kd.slice 3 (Kd.int .i64)).C w A5 x.f0.f3.length x.f0.f3 ∧ x.f0.f4.length ≤ c6 ∧ kPerson.C w A6 x.f0.f4.length x.f0.f4 ∧ x.f0.f5.length ≤ c7 ∧ kClass.C w A7 x.f0.f5.length x.f0.f5 ∧ x.f0.f6.length ≤ c8 ∧ kCourse.C w A8 x.f0.f6.length x.f0.f6 ∧ x.f0.f7.length ≤ c9 ∧ kStudent.C w A9 x.f0.f7.length x.f0.f7 ∧ x.f0.f8.length ≤ c10 ∧ kRule.C w A10 x.f0.f8.length x.f0.f8 ∧ x.f1.length ≤ c15 ∧ kChoice.C w A15 x.f1.length x.f1 ∧ x.f2.length ≤ c16 ∧ (Kd.int .i64).C w A16 x.f2.length x.f2 ∧ x.f3.length ≤ c17 ∧ (Kd.int .i64).C w A17 x.f3.length x.f3 := by
  have hl : i < xs.length := (List.getElem?_eq_some_iff.1 hx).1
  have e : rd_Map xs (i : Int) = x := by simp [rd_Map, hx]
  have h2 := at_Map h (i : Int) (by omega) (by have := Kd.C_len h; omega)
  simp only [e, Int.toNat_natCast] at h2
  exact h2
def wfInt (k : IntKind) (x : Int) : Prop := (Lit.int k x).wf = true
def wfBool (_ : Bool) : Prop := True
def wfStr (s : ByteArray) : Prop := s.size ≤ 140737488351232
structure wfL {α : Type} (b : Nat) (p : α → Prop) (l : List α) : Prop where
  len : l.length * b ≤ 140737488351232
  all : ∀ x ∈ l, p x
/-- The numbers of a value of this type are of their kinds. -/
structure wfGrid (x : Grid) : Prop where
  h0 : wfInt .i64 x.f0
  h1 : wfInt .i64 x.f1
  h2 : wfInt .i64 x.f2
/-- The numbers of a value of this type are of their kinds. -/
structure wfWhen (x : When) : Prop where
  h0 : wfInt .u32 x.f0
  h1 : wfInt .u8 x.f1
  h2 : wfInt .i64 x.f2
  h3 : wfInt .i64 x.f3
/-- The numbers of a value of this type are of their kinds. -/
structure wfRoom (x : Room) : Prop where
  h0 : wfStr x.f0
  h1 : wfInt .i64 x.f1
  h2 : wfInt .u16 x.f2
  h3 : wfL 24 (wfWhen) x.f3
/-- The numbers of a value of this type are of their kinds. -/
structure wfPerson (x : Person) : Prop where
  h0 : wfStr x.f0
  h1 : wfL 24 (wfWhen) x.f1
/-- The numbers of a value of this type are of their kinds. -/
structure wfTime (x : Time) : Prop where
  h0 : wfWhen x.f0
  h1 : wfInt .i64 x.f1
/-- The numbers of a value of this type are of their kinds. -/
structure wfPlace (x : Place) : Prop where
  h0 : wfInt .i64 x.f0
  h1 : wfInt .i64 x.f1
/-- The numbers of a value of this type are of their kinds. -/
structure wfClass (x : Class) : Prop where
  h0 : wfStr x.f0
  h1 : wfInt .i64 x.f1
  h2 : wfInt .u16 x.f2
  h3 : wfL 8 (wfInt .i64) x.f3
  h4 : wfL 32 (wfTime) x.f4
  h5 : wfL 16 (wfPlace) x.f5
  h6 : wfInt .i64 x.f6
/-- The numbers of a value of this type are of their kinds. -/
structure wfWay (x : Way) : Prop where
  h0 : wfL 24 (wfL 8 (wfInt .i64)) x.f0
/-- The numbers of a value of this type are of their kinds. -/
structure wfCourse (x : Course) : Prop where
  h0 : wfStr x.f0
  h1 : wfL 24 (wfWay) x.f1
/-- The numbers of a value of this type are of their kinds. -/
structure wfStudent (x : Student) : Prop where
  h0 : wfStr x.f0
  h1 : wfL 8 (wfInt .i64) x.f1
/-- The numbers of a value of this type are of their kinds. -/
structure wfRule (x : Rule) : Prop where
  h0 : wfInt .i64 x.f0
  h1 : wfL 8 (wfInt .i64) x.f1
  h2 : wfInt .i64 x.f2
  h3 : wfInt .i64 x.f3
  h4 : wfBool x.f4
  h5 : wfInt .i64 x.f5
/-- The numbers of a value of this type are of their kinds. -/
structure wfWeigh (x : Weigh) : Prop where
  h0 : wfInt .i64 x.f0
  h1 : wfInt .i64 x.f1
  h2 : wfInt .i64 x.f2
  h3 : wfInt .i64 x.f3
/-- The numbers of a value of this type are of their kinds. -/
structure wfProblem (x : Problem) : Prop where
  h0 : wfStr x.f0
  h1 : wfGrid x.f1
  h2 : wfL 56 (wfRoom) x.f2
  h3 : wfL 24 (wfL 8 (wfInt .i64)) x.f3
  h4 : wfL 40 (wfPerson) x.f4
  h5 : wfL 112 (wfClass) x.f5
  h6 : wfL 40 (wfCourse) x.f6
  h7 : wfL 40 (wfStudent) x.f7
  h8 : wfL 64 (wfRule) x.f8
  h9 : wfWeigh x.f9
/-- The numbers of a value of this type are of their kinds. -/
structure wfSeat (x : Seat) : Prop where
  h0 : wfInt .i64 x.f0
  h1 : wfInt .i64 x.f1
/-- The numbers of a value of this type are of their kinds. -/
structure wfChoice (x : Choice) : Prop where
  h0 : wfInt .i64 x.f0
  h1 : wfBool x.f1
  h2 : wfInt .i64 x.f2
/-- The numbers of a value of this type are of their kinds. -/
structure wfMap (x : Map) : Prop where
  h0 : wfProblem x.f0
  h1 : wfL 24 (wfChoice) x.f1
  h2 : wfL 8 (wfInt .i64) x.f2
  h3 : wfL 8 (wfInt .i64) x.f3

end Go.Proofs.YthalgemkblkhgaaGreat
