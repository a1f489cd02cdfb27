/- What the checks of package class come to. What the references' checks of rooms, persons, walks and classes come to. '==' of structs, field by field. -/
import Derived.Test.YthalgemkblkhgaaGreatQMC
import Derived.Test.YthalgemkblkhgaaGreatQMA
import Derived.Deep.QuietTactic
import Derived.BigQuiet
namespace Go.Proofs.YthalgemkblkhgaaGreat
open Go.RowKit Go.Proofs.YthalgemkblkhgaaGreatW.PrintWords Go.Proofs.YthalgemkblkhgaaGreatW.PrintLast
set_option linter.unusedVariables false
set_option linter.unusedSimpArgs false

def cheap (n : Int) : Bool := decide (0 ≤ n) && decide (n ≤ 1000)
set_option maxHeartbeats 400000 in
theorem cheap_calls (n : Int) (r : Bool) (h : cheap n = r) (w : World) : Calls Tryz.prog 199 #[.int .i64 n] w fun e w' => e = .returned (.bool r) ∧ w = w' := by
  subst h
  by_cases h1 : 0 ≤ n
  all_goals
    go_enter Tryz.func199, Tryz.ntmps199
    go_wp2
    go_ret
    exact ⟨ret_bool (by rw [Bool.eq_iff_iff]; simp [cheap]; try omega), rfl⟩
set_option maxHeartbeats 400000 in
theorem cheap_ref (n : Int) (r : Bool) (h : cheap n = r) (w : World) : Calls Tryz.prog 202 #[.int .i64 n] w fun e w' => e = .returned (.bool r) ∧ w = w' := by
  subst h
  by_cases h1 : 0 ≤ n
  all_goals
    go_enter Tryz.func202, Tryz.ntmps202
    go_wp2
    go_ret
    exact ⟨ret_bool (by rw [Bool.eq_iff_iff]; simp [cheap]; try omega), rfl⟩

/-- Is the number at place i from 0 below n, and greater than the one ahead? -/
def riseAt (l : List Int) (n : Int) (i : Nat) : Bool := decide (0 ≤ l.getD i 0) && (decide (l.getD i 0 < n) && (decide (i = 0) || decide (l.getD (i - 1) 0 < l.getD i 0)))
def risingOk (l : List Int) (n : Int) : Bool := allB l.length (riseAt l n)
theorem getD_of {α : Type} {l : List α} {i : Nat} {x d : α} (h : l[i]? = some x) : l.getD i d = x := by simp [h]

set_option maxRecDepth 100000 in
set_option maxHeartbeats 1000000 in
theorem folk_calls (l : List Int) (n : Int) (A : Option Addr) (c : Nat) (w : World) (hA : (Kd.int .i64).C w A l.length l) (r : Bool) (h : (risingOk l n && decide (l.length ≤ 4)) = r) :
    Calls Tryz.prog 177 #[.slice A l.length c, .int .i64 n] w fun e w' => e = .returned (.bool r) ∧ w = w' := by
  subst h
  have hm := Kd.C_max hA
  have HA := Aside0.mk hA
  clear hA
  go_enter Tryz.func177, Tryz.ntmps177
  go_wp2
  go_loop [5, 10] (fun v5 v10 => ∃ (i : Nat) (y : Int), v10 = .int .i64 i ∧ v5 = .int .i64 y ∧ i ≤ l.length ∧ Aside0 (upTo (riseAt l n) i) ∧ Aside0 ((i = 0 ∧ y = -1) ∨ (0 < i ∧ l.getD (i - 1) 0 = y ∧ 0 ≤ y))) (fun _ v => l.length - (intOf v).toNat)
  case atStart => exact ⟨0, _, rfl, rfl, by omega, ⟨upTo_zero _⟩, ⟨.inl ⟨rfl, rfl⟩⟩⟩
  case round =>
    obtain ⟨i, y, rfl, rfl, hi, hno, hy⟩ := hrel
    by_cases hlt : i < l.length
    · have hx : l[i]? = some l[i] := List.getElem?_eq_getElem hlt
      generalize l[i] = x at hx
      obtain ⟨ad, rfl, h0⟩ := el_int HA.out i x hx
      have hsp : riseAt l n i = (decide (y < x) && decide (x < n)) := by
        rcases hy.out with ⟨e1, e2⟩ | ⟨e1, e2, e3⟩
        · subst e2 e1
          simp only [riseAt, getD_of hx]
          rw [Bool.eq_iff_iff]
          simp; omega
        · simp only [riseAt, getD_of hx, e2]
          rw [Bool.eq_iff_iff]
          simp [show ¬ i = 0 by omega]; omega
      have hg := getD_of (d := 0) hx
      replace hsp := Aside0.mk hsp
      replace hg := Aside0.mk hg
      clear hx
      by_cases c1 : x ≤ y
      · go_wp2
        go_ret
        exact ⟨ret_bool (by rw [risingOk, allB_no hlt (by rw [hsp.out]; simp; omega)]; rfl), rfl⟩
      by_cases c2 : n ≤ x
      · go_wp2
        go_ret
        exact ⟨ret_bool (by rw [risingOk, allB_no hlt (by rw [hsp.out]; simp; omega)]; rfl), rfl⟩
      go_wp2
      go_round
      case rel => exact ⟨i + 1, x, by go_num, rfl, by omega, ⟨upTo_snoc hno.out (by rw [hsp.out]; simp; omega)⟩, ⟨.inr ⟨by omega, hg.out, by have := hy.out; omega⟩⟩⟩
      case measure => simp [intOf]; omega
    · obtain rfl : i = l.length := by omega
      go_wp2
      go_ret
      exact ⟨ret_bool (by rw [risingOk, allB_yes hno.out, Bool.eq_iff_iff]; simp; try omega), rfl⟩

def timeAt (g : Grid) (l : List Time) (i : Nat) : Bool := match l[i]? with | some t => whenOk g t.f0 && (cheap t.f1 && !decide (t.f0 ∈ (l.take i).map Time.f0)) | none => true
def timesOk (g : Grid) (l : List Time) : Bool := allB l.length (timeAt g l) && (decide (1 ≤ l.length) && decide (l.length ≤ 16))
def placeAt (n : Int) (l : List Place) (i : Nat) : Bool := match l[i]? with | some t => decide (0 ≤ t.f0) && (decide (t.f0 < n) && (cheap t.f1 && !decide (t.f0 ∈ (l.take i).map Place.f0))) | none => true
def placesOk (n : Int) (l : List Place) : Bool := allB l.length (placeAt n l) && decide (l.length ≤ 12)

set_option maxRecDepth 100000 in
set_option maxHeartbeats 2000000 in
theorem times_calls (g : Grid) (l : List Time) (hl : wfL 32 wfTime l) (A : Option Addr) (c : Nat) (w : World) (hA : kTime.C w A l.length l) (r : Bool) (h : timesOk g l = r) :
    Calls Tryz.prog 178 #[.agg #[.int .i64 g.f0, .int .i64 g.f1, .int .i64 g.f2], .slice A l.length c] w fun e w' => e = .returned (.bool r) ∧ Below w.heap.size w w' := by
  subst h
  have hm := Kd.C_max hA
  have HA := Aside0.mk hA
  clear hA
  have hu29 := Tryz.underlying29
  have hu80 := Tryz.underlying117
  have hu145 := Tryz.underlying120
  have hmm := @run_makeMap Tryz.prog
  go_enter Tryz.func178, Tryz.ntmps178
  go_wp2
  go_loopw [11] (fun v wr => ∃ (i n : Nat) (S : List When), v = .int .i64 i ∧ i ≤ l.length ∧ n ≤ i ∧ Aside0 (upTo (timeAt g l) i) ∧ Aside0 (Below (w.alloc (.cells #[.int .i64 g.f0, .int .i64 g.f1, .int .i64 g.f2] 29)).heap.size (w.alloc (.cells #[.int .i64 g.f0, .int .i64 g.f1, .int .i64 g.f2] 29)) wr) ∧ Aside0 (OwnsSet eWhen 117 wr (w.heap.size + 1) n S) ∧ Aside0 (∀ x, x ∈ S ↔ x ∈ (l.take i).map Time.f0)) (fun v _ => l.length - (intOf v).toNat)
  case atStart => exact ⟨0, 0, [], rfl, by omega, by omega, ⟨upTo_zero _⟩, ⟨(Below.refl _ _).alloc (by simp) _⟩, ⟨by have := OwnsSet.made (w.alloc (.cells #[.int .i64 g.f0, .int .i64 g.f1, .int .i64 g.f2] 29)) eWhen 117; simpa using this⟩, ⟨fun x => by simp⟩⟩
  case round =>
    obtain ⟨i, n, S, rfl, hi, hn, hno, hb, HS, hS⟩ := hrel
    by_cases hlt : i < l.length
    · have hx : l[i]? = some l[i] := List.getElem?_eq_getElem hlt
      generalize l[i] = x at hx
      obtain ⟨ad, rfl, h0, h1, h2, h3, h4⟩ := el_Time (Kd.C_below HA.out (below1 hb.out)) i x hx
      have hwx := Aside0.mk (hl.all x (List.mem_of_getElem? hx))
      have hsp : timeAt g l i = (whenOk g x.f0 && (cheap x.f1 && !decide (x.f0 ∈ (l.take i).map Time.f0))) := by simp only [timeAt, hx]
      replace hsp := Aside0.mk hsp
      have HX := Aside0.mk hx
      have hc := (bcell hb.out).1
      have b0 : wr.cell? ⟨w.heap.size, 0, none⟩ = some (.int .i64 g.f0) := by rw [hc _ _ (by simp)]; go_simp
      have b1 : wr.cell? ⟨w.heap.size, 1, none⟩ = some (.int .i64 g.f1) := by rw [hc _ _ (by simp)]; go_simp
      have b2 : wr.cell? ⟨w.heap.size, 2, none⟩ = some (.int .i64 g.f2) := by rw [hc _ _ (by simp)]; go_simp
      have hwl : w.heap.size < wr.heap.size := by have := hb.out.size; simp at this; omega
      clear hx hc
      go_wp2_with fail
      cases h1w : whenOk g x.f0
      · refine (whenOk_calls _ _ hwx.out.h0 _ h1w _).mono ?_
        rintro e w1 ⟨rfl, hb1⟩
        replace h1w := Aside0.mk h1w
        go_wp2_with fail
        go_ret
        exact ⟨ret_bool (by rw [timesOk, allB_no hlt (by rw [hsp.out, h1w.out]; rfl)]; rfl), bthen (below1 hb.out) (below1 hb1) (by omega)⟩
      refine (whenOk_calls _ _ hwx.out.h0 _ h1w _).mono ?_
      rintro e w1 ⟨rfl, hb1⟩
      replace h1w := Aside0.mk h1w
      have hc1 := (bcell hb1).1
      have hbb := Aside0.mk (bthen hb.out (below1 hb1) (Nat.le_refl _))
      have HS1 := Aside0.mk (HS.out.below (below1 hb1))
      go_wp2_with fail
      cases h2w : cheap x.f1
      · (refine (cheap_calls _ _ h2w _).mono ?_; rintro e w' ⟨rfl, rfl⟩; go_wp2_with fail)
        go_ret
        exact ⟨ret_bool (by rw [timesOk, allB_no hlt (by rw [hsp.out, h1w.out, h2w]; rfl)]; rfl), below1 hbb.out⟩
      refine (cheap_calls _ _ h2w _).mono ?_
      rintro e w' ⟨rfl, rfl⟩
      replace h2w := Aside0.mk h2w
      obtain ⟨kl, hkl⟩ := key_when hwx.out.h0
      replace hkl := Aside0.mk hkl
      go_wp2_with (first | (at_lookup; refine wpList_set_lookup eWhen 117 (by rfl) _ _ _ rfl HS1.out kWhenKey Tryz.underlying236 rfl x.f0 rfl hkl.out ?_) | (at_mapUpdate; refine wpList_set_put eWhen 117 (by rfl) _ _ _ _ rfl HS1.out kWhenKey Tryz.underlying236 rfl x.f0 rfl rfl hkl.out (by unfold maxLen; omega) eWhen_inj ?_; intro w2 HS2 hg2))
      · go_ret
        have hin : x.f0 ∈ S := by assumption
        exact ⟨ret_bool (by rw [timesOk, allB_no hlt (by rw [hsp.out, h1w.out, h2w.out, decide_eq_true ((hS.out _).1 hin)]; rfl)]; rfl), below1 hbb.out⟩
      · have hin : ¬ x.f0 ∈ S := by assumption
        go_roundw
        case rel => exact ⟨i + 1, n + 1, x.f0 :: S, by go_num, by omega, by omega, ⟨upTo_snoc hno.out (by rw [hsp.out, h1w.out, h2w.out, decide_eq_false (fun h => hin ((hS.out _).2 h))]; rfl)⟩, ⟨pw_below_grown hbb.out _ hbb.out.size hg2 (fun k e => by cases e; simp)⟩, ⟨HS2⟩, ⟨fun y => by rw [mem_take_succ HX.out, List.mem_cons, hS.out]; exact Or.comm⟩⟩
        case measure => simp [intOf]; omega
    · obtain rfl : i = l.length := by omega
      go_wp2
      all_goals
        go_ret
        exact ⟨ret_bool (by rw [timesOk, allB_yes hno.out, Bool.eq_iff_iff]; simp; try omega), below1 hb.out⟩

set_option maxRecDepth 100000 in
set_option maxHeartbeats 2000000 in
theorem places_calls (n : Int) (l : List Place) (hl : wfL 16 wfPlace l) (A : Option Addr) (c : Nat) (w : World) (hA : kPlace.C w A l.length l) (r : Bool) (h : placesOk n l = r) :
    Calls Tryz.prog 179 #[.int .i64 n, .slice A l.length c] w fun e w' => e = .returned (.bool r) ∧ Below w.heap.size w w' := by
  subst h
  have hm := Kd.C_max hA
  have HA := Aside0.mk hA
  clear hA
  have hu173 := Tryz.underlying122
  have hmm := @run_makeMap Tryz.prog
  go_enter Tryz.func179, Tryz.ntmps179
  go_wp2
  go_loopw [11] (fun v wr => ∃ (i m : Nat) (S : List Int), v = .int .i64 i ∧ i ≤ l.length ∧ m ≤ i ∧ Aside0 (upTo (placeAt n l) i) ∧ Aside0 (Below w.heap.size w wr) ∧ Aside0 (OwnsSet eInt 3 wr w.heap.size m S) ∧ Aside0 (∀ x, x ∈ S ↔ x ∈ (l.take i).map Place.f0)) (fun v _ => l.length - (intOf v).toNat)
  case atStart => exact ⟨0, 0, [], rfl, by omega, by omega, ⟨upTo_zero _⟩, ⟨(Below.refl _ _).alloc (by simp) _⟩, ⟨OwnsSet.made w eInt 3⟩, ⟨fun x => by simp⟩⟩
  case round =>
    obtain ⟨i, m, S, rfl, hi, hn, hno, hb, HS, hS⟩ := hrel
    by_cases hlt : i < l.length
    · have hx : l[i]? = some l[i] := List.getElem?_eq_getElem hlt
      generalize l[i] = x at hx
      obtain ⟨ad, rfl, h0, h1⟩ := el_Place (Kd.C_below HA.out hb.out) i x hx
      have hwx := Aside0.mk (hl.all x (List.mem_of_getElem? hx))
      have hsp : placeAt n l i = (decide (0 ≤ x.f0) && (decide (x.f0 < n) && (cheap x.f1 && !decide (x.f0 ∈ (l.take i).map Place.f0)))) := by simp only [placeAt, hx]
      replace hsp := Aside0.mk hsp
      have HX := Aside0.mk hx
      have hwl : w.heap.size ≤ wr.heap.size := hb.out.size
      clear hx
      by_cases c1 : x.f0 < 0
      · go_wp2_with fail
        go_ret
        exact ⟨ret_bool (by rw [placesOk, allB_no hlt (by rw [hsp.out, decide_eq_false (by omega)]; rfl)]; rfl), hb.out.alloc (by omega) _⟩
      by_cases c2 : n ≤ x.f0
      · go_wp2_with fail
        go_ret
        exact ⟨ret_bool (by rw [placesOk, allB_no hlt (by rw [hsp.out, decide_eq_true (by omega : 0 ≤ x.f0), decide_eq_false (by omega : ¬ x.f0 < n)]; rfl)]; rfl), hb.out.alloc (by omega) _⟩
      have hsp2 : placeAt n l i = (cheap x.f1 && !decide (x.f0 ∈ (l.take i).map Place.f0)) := by rw [hsp.out, decide_eq_true (by omega : 0 ≤ x.f0), decide_eq_true (by omega : x.f0 < n)]; rfl
      replace hsp := Aside0.mk hsp2
      clear hsp2
      go_wp2_with fail
      cases h2w : cheap x.f1
      · (refine (cheap_calls _ _ h2w _).mono ?_; rintro e w' ⟨rfl, rfl⟩; go_wp2_with fail)
        go_ret
        exact ⟨ret_bool (by rw [placesOk, allB_no hlt (by rw [hsp.out, h2w]; rfl)]; rfl), hb.out.alloc (by omega) _⟩
      refine (cheap_calls _ _ h2w _).mono ?_
      rintro e w' ⟨rfl, rfl⟩
      replace h2w := Aside0.mk h2w
      have hkl := Aside0.mk (key_int hwx.out.h0)
      have HS1 := fun o => Aside0.mk (HS.out.below ((Below.refl _ _).alloc (Nat.le_refl _) o))
      go_wp2_with (first | (at_lookup; refine wpList_set_lookup eInt 3 (by rfl) _ _ _ rfl (HS1 _).out kInt Tryz.underlying226 rfl x.f0 rfl hkl.out ?_) | (at_mapUpdate; refine wpList_set_put eInt 3 (by rfl) _ _ _ _ rfl (HS1 _).out kInt Tryz.underlying226 rfl x.f0 rfl rfl hkl.out (by unfold maxLen; omega) eInt_inj ?_; intro w2 HS2 hg2))
      · go_ret
        have hin : x.f0 ∈ S := by assumption
        exact ⟨ret_bool (by rw [placesOk, allB_no hlt (by rw [hsp.out, h2w.out, decide_eq_true ((hS.out _).1 hin)]; rfl)]; rfl), hb.out.alloc (by omega) _⟩
      · have hin : ¬ x.f0 ∈ S := by assumption
        go_roundw
        case rel => exact ⟨i + 1, m + 1, x.f0 :: S, by go_num, by omega, by omega, ⟨upTo_snoc hno.out (by rw [hsp.out, h2w.out, decide_eq_false (fun h => hin ((hS.out _).2 h))]; rfl)⟩, ⟨pw_below_grown (hb.out.alloc (by omega) _) _ (by simp; omega) hg2 (fun k e => by cases e; simp)⟩, ⟨HS2⟩, ⟨fun y => by rw [mem_take_succ HX.out, List.mem_cons, hS.out]; exact Or.comm⟩⟩
        case measure => simp [intOf]; omega
    · obtain rfl : i = l.length := by omega
      go_wp2
      go_ret
      exact ⟨ret_bool (by rw [placesOk, allB_yes hno.out, Bool.eq_iff_iff]; simp; try omega), hb.out⟩

def classOk (g : Grid) (rooms persons classes : Int) (x : Class) : Bool := gridOk g && (nameOk x.f0 && (decide (0 ≤ x.f1) && (decide (x.f1 ≤ 10000) && (decide (-1 ≤ x.f6) && (decide (x.f6 < classes) && ((risingOk x.f3 persons && decide (x.f3.length ≤ 4)) && (timesOk g x.f4 && placesOk rooms x.f5)))))))

set_option maxRecDepth 100000 in
set_option maxHeartbeats 2000000 in
theorem classOk_calls (g : Grid) (rooms persons classes : Int) (x : Class) (hx : wfClass x) (cs : List Value) (w : World) (hK : kClass.K w x cs) (r : Bool) (h : classOk g rooms persons classes x = r) :
    Calls Tryz.prog 139 #[.agg #[.int .i64 g.f0, .int .i64 g.f1, .int .i64 g.f2], .int .i64 rooms, .int .i64 persons, .int .i64 classes, .agg cs.toArray] w fun e w' => e = .returned (.bool r) ∧ Below w.heap.size w w' := by
  subst h
  obtain ⟨A3, c3, A4, c4, A5, c5, rfl, l3, g3, l4, g4, l5, g5⟩ := kClass_open hK
  clear hK
  have HC3 := Aside0.mk g3
  have HC4 := Aside0.mk g4
  have HC5 := Aside0.mk g5
  clear g3 g4 g5
  have hu29 := Tryz.underlying29
  have hu86 := Tryz.underlying96
  go_enter Tryz.func139, Tryz.ntmps139
  go_wp2_with fail
  cases h1 : gridOk g
  · (refine (gridOk_calls _ _ h1 _).mono ?_; rintro e w1 ⟨rfl, hb⟩; have hc_hb := (bcell hb).1; go_wp2_with fail)
    go_ret
    exact ⟨ret_bool (by simp [classOk, h1]), below2 hb⟩
  replace h1 := Aside0.mk h1
  (refine (gridOk_calls _ _ h1.out _).mono ?_; rintro e w1 ⟨rfl, hb⟩; have hc_hb := (bcell hb).1; go_wp2_with fail)
  cases h2 : nameOk x.f0
  · (refine (name_calls _ _ h2 _).mono ?_; rintro e w' ⟨rfl, rfl⟩; go_wp2_with fail)
    go_ret
    exact ⟨ret_bool (by simp [classOk, h2]), below2 hb⟩
  replace h2 := Aside0.mk h2
  by_cases c1 : x.f1 < 0
  · (refine (name_calls _ _ h2.out _).mono ?_; rintro e w' ⟨rfl, rfl⟩; go_wp2_with fail)
    go_ret
    exact ⟨ret_bool (by rw [classOk, decide_eq_false (by omega : ¬ 0 ≤ x.f1)]; simp), below2 hb⟩
  by_cases c2 : 10000 < x.f1
  · (refine (name_calls _ _ h2.out _).mono ?_; rintro e w' ⟨rfl, rfl⟩; go_wp2_with fail)
    go_ret
    exact ⟨ret_bool (by rw [classOk, decide_eq_false (by omega : ¬ x.f1 ≤ 10000)]; simp), below2 hb⟩
  by_cases c3 : x.f6 < -1
  · (refine (name_calls _ _ h2.out _).mono ?_; rintro e w' ⟨rfl, rfl⟩; go_wp2_with fail)
    go_ret
    exact ⟨ret_bool (by rw [classOk, decide_eq_false (by omega : ¬ -1 ≤ x.f6)]; simp), below2 hb⟩
  by_cases c4 : classes ≤ x.f6
  · (refine (name_calls _ _ h2.out _).mono ?_; rintro e w' ⟨rfl, rfl⟩; go_wp2_with fail)
    go_ret
    exact ⟨ret_bool (by rw [classOk, decide_eq_false (by omega : ¬ x.f6 < classes)]; simp), below2 hb⟩
  have hsp : classOk g rooms persons classes x = ((risingOk x.f3 persons && decide (x.f3.length ≤ 4)) && (timesOk g x.f4 && placesOk rooms x.f5)) := by
    simp only [classOk, h1.out, h2.out, decide_eq_true (by omega : 0 ≤ x.f1), decide_eq_true (by omega : x.f1 ≤ 10000), decide_eq_true (by omega : -1 ≤ x.f6), decide_eq_true (by omega : x.f6 < classes), Bool.true_and]
  replace hsp := Aside0.mk hsp
  (refine (name_calls _ _ h2.out _).mono ?_; rintro e w' ⟨rfl, rfl⟩; go_wp2_with fail)
  have hC3 := Kd.C_below HC3.out (below2 hb)
  cases h3 : (risingOk x.f3 persons && decide (x.f3.length ≤ 4))
  · replace h3 := Aside0.mk h3
    (refine (folk_calls x.f3 _ _ _ _ hC3 _ h3.out).mono ?_; rintro e w' ⟨rfl, rfl⟩; go_wp2_with fail)
    go_ret
    exact ⟨ret_bool (by rw [hsp.out, h3.out]; rfl), below2 hb⟩
  replace h3 := Aside0.mk h3
  (refine (folk_calls x.f3 _ _ _ _ hC3 _ h3.out).mono ?_; rintro e w' ⟨rfl, rfl⟩; go_wp2_with fail)
  clear hC3
  have hC4 := Kd.C_below HC4.out (below2 hb)
  cases h4 : timesOk g x.f4
  · replace h4 := Aside0.mk h4
    (refine (times_calls g x.f4 hx.h4 _ _ _ hC4 _ h4.out).mono ?_; rintro e w1 ⟨rfl, hb_⟩; replace hb := bthen hb hb_ (Nat.le_refl _); clear hb_; replace hc_hb := (bcell hb).1; go_wp2_with fail)
    go_ret
    exact ⟨ret_bool (by rw [hsp.out, h3.out, h4.out]; rfl), below2 hb⟩
  replace h4 := Aside0.mk h4
  (refine (times_calls g x.f4 hx.h4 _ _ _ hC4 _ h4.out).mono ?_; rintro e w1 ⟨rfl, hb_⟩; replace hb := bthen hb hb_ (Nat.le_refl _); clear hb_; replace hc_hb := (bcell hb).1; go_wp2_with fail)
  clear hC4
  have hC5 := Kd.C_below HC5.out (below2 hb)
  cases h5 : placesOk rooms x.f5
  all_goals
    replace h5 := Aside0.mk h5
    (refine (places_calls rooms x.f5 hx.h5 _ _ _ hC5 _ h5.out).mono ?_; rintro e w1 ⟨rfl, hb_⟩; replace hb := bthen hb hb_ (Nat.le_refl _); clear hb_; replace hc_hb := (bcell hb).1; go_wp2_with fail)
    go_ret
    exact ⟨ret_bool (by rw [hsp.out, h3.out, h4.out, h5.out]; rfl), below2 hb⟩
end Go.Proofs.YthalgemkblkhgaaGreat
namespace Go.Proofs.YthalgemkblkhgaaGreat
open Go.RowKit Go.Proofs.YthalgemkblkhgaaGreatW.PrintWords Go.Proofs.YthalgemkblkhgaaGreatW.PrintLast
set_option linter.unusedVariables false
set_option linter.unusedSimpArgs false

theorem whensOk_16 (g : Grid) (l : List When) : whensOk g l 16 = (decide (l.length ≤ 16) && l.all (whenOk g)) := by
  rw [whensOk, Bool.and_comm, Bool.eq_iff_iff]; simp; omega

set_option maxRecDepth 100000 in
set_option maxHeartbeats 1000000 in
theorem roomOk_ref (g : Grid) (hg : wfGrid g) (x : Room) (hx : wfRoom x) (cs : List Value) (w : World) (hK : kRoom.K w x cs) (r : Bool) (h : roomOk g x = r) :
    Calls Tryz.prog 153 #[.agg #[.int .i64 g.f0, .int .i64 g.f1, .int .i64 g.f2], .agg cs.toArray] w fun e w' => e = .returned (.bool r) ∧ Below w.heap.size w w' := by
  subst h
  obtain ⟨A3, c3, rfl, l3, g3⟩ := kRoom_open hK
  clear hK
  have HC := Aside0.mk g3
  clear g3
  have hu29 := Tryz.underlying29
  have hu86 := Tryz.underlying114
  go_enter Tryz.func153, Tryz.ntmps153
  go_wp2_with fail
  cases h1 : gridOk g
  · (refine (gridOk_ref _ _ h1 _).mono ?_; rintro e w1 ⟨rfl, hb⟩; have hc_hb := (bcell hb).1; go_wp2_with fail)
    go_ret
    exact ⟨ret_bool (by simp [roomOk, h1]), below2 hb⟩
  replace h1 := Aside0.mk h1
  (refine (gridOk_ref _ _ h1.out _).mono ?_; rintro e w1 ⟨rfl, hb⟩; have hc_hb := (bcell hb).1; go_wp2_with fail)
  cases h2 : nameOk x.f0
  · (refine (name_ref _ _ h2 _).mono ?_; rintro e w' ⟨rfl, rfl⟩; go_wp2_with fail)
    go_ret
    exact ⟨ret_bool (by simp [roomOk, h2]), below2 hb⟩
  replace h2 := Aside0.mk h2
  by_cases c1 : x.f1 < 0
  · (refine (name_ref _ _ h2.out _).mono ?_; rintro e w' ⟨rfl, rfl⟩; go_wp2_with fail)
    go_ret
    exact ⟨ret_bool (by rw [roomOk, decide_eq_false (by omega : ¬ 0 ≤ x.f1)]; simp), below2 hb⟩
  by_cases c2 : 10000 < x.f1
  · (refine (name_ref _ _ h2.out _).mono ?_; rintro e w' ⟨rfl, rfl⟩; go_wp2_with fail)
    go_ret
    exact ⟨ret_bool (by rw [roomOk, decide_eq_false (by omega : ¬ x.f1 ≤ 10000)]; simp), below2 hb⟩
  have hsp : roomOk g x = whensOk g x.f3 16 := by
    rw [whensOk_16]
    simp only [roomOk, h1.out, h2.out, decide_eq_true (by omega : 0 ≤ x.f1), decide_eq_true (by omega : x.f1 ≤ 10000), Bool.true_and]
  replace hsp := Aside0.mk hsp
  (refine (name_ref _ _ h2.out _).mono ?_; rintro e w' ⟨rfl, rfl⟩; go_wp2_with fail)
  have hC := Kd.C_below HC.out (below2 hb)
  cases h3 : whensOk g x.f3 16
  all_goals
    replace h3 := Aside0.mk h3
    (refine (whens_ref g hg x.f3 hx.h3.all 16 _ _ _ hC _ h3.out).mono ?_; rintro e w1 ⟨rfl, hb_⟩; replace hb := bthen hb hb_ (Nat.le_refl _); clear hb_; replace hc_hb := (bcell hb).1; go_wp2_with fail)
    go_ret
    exact ⟨ret_bool (by rw [hsp.out, h3.out]), below2 hb⟩

set_option maxRecDepth 100000 in
set_option maxHeartbeats 1000000 in
theorem personOk_ref (g : Grid) (hg : wfGrid g) (x : Person) (hx : wfPerson x) (cs : List Value) (w : World) (hK : kPerson.K w x cs) (r : Bool) (h : personOk g x = r) :
    Calls Tryz.prog 155 #[.agg #[.int .i64 g.f0, .int .i64 g.f1, .int .i64 g.f2], .agg cs.toArray] w fun e w' => e = .returned (.bool r) ∧ Below w.heap.size w w' := by
  subst h
  obtain ⟨A3, c3, rfl, l3, g3⟩ := kPerson_open hK
  clear hK
  have HC := Aside0.mk g3
  clear g3
  have hu29 := Tryz.underlying29
  have hu86 := Tryz.underlying128
  go_enter Tryz.func155, Tryz.ntmps155
  go_wp2_with fail
  cases h1 : gridOk g
  · (refine (gridOk_ref _ _ h1 _).mono ?_; rintro e w1 ⟨rfl, hb⟩; have hc_hb := (bcell hb).1; go_wp2_with fail)
    go_ret
    exact ⟨ret_bool (by simp [personOk, h1]), below2 hb⟩
  replace h1 := Aside0.mk h1
  (refine (gridOk_ref _ _ h1.out _).mono ?_; rintro e w1 ⟨rfl, hb⟩; have hc_hb := (bcell hb).1; go_wp2_with fail)
  cases h2 : nameOk x.f0
  · (refine (name_ref _ _ h2 _).mono ?_; rintro e w' ⟨rfl, rfl⟩; go_wp2_with fail)
    go_ret
    exact ⟨ret_bool (by simp [personOk, h2]), below2 hb⟩
  replace h2 := Aside0.mk h2
  have hsp : personOk g x = whensOk g x.f1 16 := by
    rw [whensOk_16]
    simp only [personOk, h1.out, h2.out, Bool.true_and]
  replace hsp := Aside0.mk hsp
  (refine (name_ref _ _ h2.out _).mono ?_; rintro e w' ⟨rfl, rfl⟩; go_wp2_with fail)
  have hC := Kd.C_below HC.out (below2 hb)
  cases h3 : whensOk g x.f1 16
  all_goals
    replace h3 := Aside0.mk h3
    (refine (whens_ref g hg x.f1 hx.h1.all 16 _ _ _ hC _ h3.out).mono ?_; rintro e w1 ⟨rfl, hb_⟩; replace hb := bthen hb hb_ (Nat.le_refl _); clear hb_; replace hc_hb := (bcell hb).1; go_wp2_with fail)
    go_ret
    exact ⟨ret_bool (by rw [hsp.out, h3.out]), below2 hb⟩

set_option maxRecDepth 100000 in
set_option maxHeartbeats 1000000 in
theorem rising_ref (l : List Int) (n : Int) (A : Option Addr) (c : Nat) (w : World) (hA : (Kd.int .i64).C w A l.length l) (r : Bool) (h : risingOk l n = r) :
    Calls Tryz.prog 187 #[.slice A l.length c, .int .i64 n] w fun e w' => e = .returned (.bool r) ∧ Below w.heap.size w w' := by
  subst h
  have hm := Kd.C_max hA
  have HA := Aside0.mk hA
  clear hA
  go_enter Tryz.func187, Tryz.ntmps187
  go_wp2
  go_loopw [5] (fun v wr => ∃ (i : Nat), v = .int .i64 i ∧ i ≤ l.length ∧ Aside0 (upTo (riseAt l n) i) ∧ Aside0 (Below w.heap.size w wr)) (fun v _ => l.length - (intOf v).toNat)
  case atStart => exact ⟨0, rfl, by omega, ⟨upTo_zero _⟩, ⟨Below.refl _ _⟩⟩
  case round =>
    obtain ⟨i, rfl, hi, hno, hb⟩ := hrel
    by_cases hlt : i < l.length
    · have hx : l[i]? = some l[i] := List.getElem?_eq_getElem hlt
      generalize l[i] = x at hx
      obtain ⟨ad, rfl, h0⟩ := el_int (Kd.C_below HA.out hb.out) i x hx
      by_cases c1 : x < 0
      · have hsp := Aside0.mk (show riseAt l n i = false by simp only [riseAt, getD_of hx]; rw [decide_eq_false (by omega)]; rfl)
        clear hx
        go_wp2
        go_big_quiet (fail)
        go_wp2
        go_ret
        exact ⟨ret_bool (by rw [risingOk, allB_no hlt hsp.out]), pw_below_drewN hb.out _⟩
      have d1 : decide (x < 0) = false := decide_eq_false c1
      replace c1 := Aside0.mk c1
      by_cases c2 : n ≤ x
      · have hsp := Aside0.mk (show riseAt l n i = false by simp only [riseAt, getD_of hx]; rw [decide_eq_false (by omega : ¬ x < n)]; simp)
        clear hx
        go_wp2
        go_big_quiet (fail)
        go_wp2
        go_ret
        exact ⟨ret_bool (by rw [risingOk, allB_no hlt hsp.out]), pw_below_drewN hb.out _⟩
      have d2 : decide (n ≤ x) = false := decide_eq_false c2
      by_cases c3 : i = 0
      · have hsp := Aside0.mk (show riseAt l n i = true by have := c1.out; simp only [riseAt, getD_of hx]; rw [decide_eq_true (by omega : 0 ≤ x), decide_eq_true (by omega : x < n), decide_eq_true c3]; rfl)
        have d3 : decide (0 < (i : Int)) = false := decide_eq_false (by omega)
        have d5 : decide (0 < i) = false := decide_eq_false (by omega)
        clear hx c2
        replace c3 := Aside0.mk c3
        go_wp2
        go_big_quiet (fail)
        go_wp2
        go_roundw
        case rel => exact ⟨i + 1, by go_num, by omega, ⟨upTo_snoc hno.out hsp.out⟩, ⟨pw_below_drewN hb.out _⟩⟩
        case measure => simp [intOf]; omega
      have hj : i - 1 < l.length := by omega
      have hy : l[i - 1]? = some l[i - 1] := List.getElem?_eq_getElem hj
      generalize l[i - 1] = y at hy
      have hsp := Aside0.mk (show riseAt l n i = decide (y < x) by have := c1.out; simp only [riseAt, getD_of hx, getD_of hy]; rw [decide_eq_true (by omega : 0 ≤ x), decide_eq_true (by omega : x < n), decide_eq_false c3]; rfl)
      obtain ⟨k, hk⟩ : ∃ k, k = i - 1 := ⟨_, rfl⟩
      rw [← hk] at hy hj
      obtain ⟨ad2, e2, h02⟩ := el_int (Kd.C_below HA.out hb.out) k y hy
      cases e2
      have s1 : IntKind.i64.wrap ((i : Int) - 1) = (k : Int) := by rw [IntWalk.i64_in _ (by omega)]; omega
      have d4 : decide (0 < (i : Int)) = true := decide_eq_true (by omega)
      have d5 : decide (0 < i) = true := decide_eq_true (by omega)
      replace hk := Aside0.mk hk
      replace c3 := Aside0.mk c3
      clear hx hy c2
      by_cases c4 : x ≤ y
      · have d3 : decide (x ≤ y) = true := decide_eq_true c4
        replace c4 := Aside0.mk c4
        go_wp2
        go_big_quiet (fail)
        clear s1
        go_wp2
        go_ret
        exact ⟨ret_bool (by rw [risingOk, allB_no hlt (by rw [hsp.out]; exact decide_eq_false (by have := c4.out; omega))]), pw_below_drewN hb.out _⟩
      · have d3 : decide (x ≤ y) = false := decide_eq_false c4
        replace c4 := Aside0.mk c4
        go_wp2
        go_big_quiet (fail)
        clear s1
        go_wp2
        go_roundw
        case rel => exact ⟨i + 1, by go_num, by omega, ⟨upTo_snoc hno.out (by rw [hsp.out]; exact decide_eq_true (by have := c4.out; omega))⟩, ⟨pw_below_drewN hb.out _⟩⟩
        case measure => simp [intOf]; omega
    · obtain rfl : i = l.length := by omega
      go_wp2
      go_ret
      exact ⟨ret_bool (by rw [risingOk, allB_yes hno.out]), hb.out⟩
end Go.Proofs.YthalgemkblkhgaaGreat
namespace Go.Proofs.YthalgemkblkhgaaGreat
open Go.RowKit Go.Proofs.YthalgemkblkhgaaGreatW.PrintWords Go.Proofs.YthalgemkblkhgaaGreatW.PrintLast
set_option linter.unusedVariables false
set_option linter.unusedSimpArgs false

theorem eqA_When (d : Nat) (w : World) (x0 y0 : Int) (x1 y1 : Int) (x2 y2 : Int) (x3 y3 : Int) :
    (Op.equalIn (d + 2) 117 (.agg #[.int .u32 x0, .int .u8 x1, .int .i64 x2, .int .i64 x3]) (.agg #[.int .u32 y0, .int .u8 y1, .int .i64 y2, .int .i64 y3])).run Tryz.prog w = .ok (x0 == y0 && (x1 == y1 && (x2 == y2 && (x3 == y3)))) w := by
  refine eqA_of Tryz.underlying117 (by kernel_rfl) ?_
  refine eqf_cons (by rfl) (by go_simp; rfl) (by go_simp; rfl) (by go_simp) ?_
  refine eqf_cons (by rfl) (by go_simp; rfl) (by go_simp; rfl) (by go_simp) ?_
  refine eqf_cons (by rfl) (by go_simp; rfl) (by go_simp; rfl) (by go_simp) ?_
  exact eqf_last (by rfl) (by go_simp; rfl) (by go_simp; rfl) (by go_simp)
theorem eqA_Seat (d : Nat) (w : World) (x0 y0 : Int) (x1 y1 : Int) :
    (Op.equalIn (d + 2) 103 (.agg #[.int .i64 x0, .int .i64 x1]) (.agg #[.int .i64 y0, .int .i64 y1])).run Tryz.prog w = .ok (x0 == y0 && (x1 == y1)) w := by
  refine eqA_of Tryz.underlying103 (by kernel_rfl) ?_
  refine eqf_cons (by rfl) (by go_simp; rfl) (by go_simp; rfl) (by go_simp) ?_
  exact eqf_last (by rfl) (by go_simp; rfl) (by go_simp; rfl) (by go_simp)
theorem when_eqB (x y : When) : (x.f0 == y.f0 && (x.f1 == y.f1 && (x.f2 == y.f2 && (x.f3 == y.f3)))) = decide (x = y) := by
  cases x; cases y; rw [Bool.eq_iff_iff]; simp
theorem seat_eqB (x y : Seat) : (x.f0 == y.f0 && (x.f1 == y.f1)) = true ↔ x = y := by
  cases x; cases y; simp
end Go.Proofs.YthalgemkblkhgaaGreat
