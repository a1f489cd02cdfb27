/- What bad comes to, for each kind of things that have names. -/
import Derived.Test.YthalgemkblkhgaaGreatQMF
import Derived.Test.YthalgemkblkhgaaGreatQMA
namespace Go.Proofs.YthalgemkblkhgaaGreat
open Go.RowKit Go.Proofs.YthalgemkblkhgaaGreatW.PrintWords Go.Proofs.YthalgemkblkhgaaGreatW.PrintLast
set_option linter.unusedVariables false
set_option linter.unusedSimpArgs false

def badIn {α : Type} (name : α → ByteArray) (right : α → Bool) (most : Int) (l : List α) (i : Nat) : Bool := match l[i]? with | some x => decide ((i : Int) = most) || (!right x || decide (name x ∈ (l.take i).map name)) | none => false
def ret2 (o : Option Nat) : Ending := .returned (.tuple #[.int .i64 (o.getD 0 : Nat), .bool o.isSome])

set_option maxHeartbeats 400000 in
theorem roomName_calls (x : Room) (cs : List Value) (w : World) (hK : kRoom.K w x cs) : Calls Tryz.prog 128 #[.agg cs.toArray] w fun e w' => e = .returned (.string x.f0) ∧ Below w.heap.size w w' := by
  obtain ⟨A3, c3, rfl, l3, g3⟩ := kRoom_open hK
  have hu1 := Tryz.underlying114
  go_enter Tryz.func128, Tryz.ntmps128
  go_wp2
  go_ret
  exact ⟨rfl, below1 (Below.refl _ _)⟩
set_option maxHeartbeats 400000 in
theorem personName_calls (x : Person) (cs : List Value) (w : World) (hK : kPerson.K w x cs) : Calls Tryz.prog 133 #[.agg cs.toArray] w fun e w' => e = .returned (.string x.f0) ∧ Below w.heap.size w w' := by
  obtain ⟨A3, c3, rfl, l3, g3⟩ := kPerson_open hK
  have hu1 := Tryz.underlying128
  go_enter Tryz.func133, Tryz.ntmps133
  go_wp2
  go_ret
  exact ⟨rfl, below1 (Below.refl _ _)⟩
set_option maxHeartbeats 400000 in
theorem className_calls (x : Class) (cs : List Value) (w : World) (hK : kClass.K w x cs) : Calls Tryz.prog 137 #[.agg cs.toArray] w fun e w' => e = .returned (.string x.f0) ∧ Below w.heap.size w w' := by
  obtain ⟨A3, c3, A4, c4, A5, c5, rfl, l3, g3, l4, g4, l5, g5⟩ := kClass_open hK
  have hu1 := Tryz.underlying96
  go_enter Tryz.func137, Tryz.ntmps137
  go_wp2
  go_ret
  exact ⟨rfl, below1 (Below.refl _ _)⟩
set_option maxHeartbeats 400000 in
theorem courseName_calls (x : Course) (cs : List Value) (w : World) (hK : kCourse.K w x cs) : Calls Tryz.prog 141 #[.agg cs.toArray] w fun e w' => e = .returned (.string x.f0) ∧ Below w.heap.size w w' := by
  obtain ⟨A3, c3, rfl, l3, g3⟩ := kCourse_open hK
  have hu1 := Tryz.underlying136
  go_enter Tryz.func141, Tryz.ntmps141
  go_wp2
  go_ret
  exact ⟨rfl, below1 (Below.refl _ _)⟩
set_option maxHeartbeats 400000 in
theorem studentName_calls (x : Student) (cs : List Value) (w : World) (hK : kStudent.K w x cs) : Calls Tryz.prog 145 #[.agg cs.toArray] w fun e w' => e = .returned (.string x.f0) ∧ Below w.heap.size w w' := by
  obtain ⟨A3, c3, rfl, l3, g3⟩ := kStudent_open hK
  have hu1 := Tryz.underlying130
  go_enter Tryz.func145, Tryz.ntmps145
  go_wp2
  go_ret
  exact ⟨rfl, below1 (Below.refl _ _)⟩

set_option maxRecDepth 100000 in
set_option maxHeartbeats 4000000 in
theorem badRoom_calls (right : Room → Bool) (cp : Value) (l : List Room) (hl : wfL 56 wfRoom l) (most : Int) (A : Option Addr) (c : Nat) (w : World) (hA : kRoom.C w A l.length l)
    (hr : ∀ (x : Room) (cs : List Value) (w' : World), Below w.heap.size w w' → x ∈ l → kRoom.K w' x cs → Calls Tryz.prog 129 #[.agg cs.toArray, cp] w' fun e w'' => e = .returned (.bool (right x)) ∧ Below w'.heap.size w' w'')
    (r : Option Nat) (h : firstBad l.length (badIn Room.f0 right most l) = r) :
    Calls Tryz.prog 127 #[.slice A l.length c, .int .i64 most, .func (.func 128) #[] #[], .func (.func 129) #[] #[cp]] w fun e w' => e = ret2 r ∧ Below w.heap.size w w' := by
  subst h
  have hm := Kd.C_max hA
  have hpl := hl.len
  have HA := Aside0.mk hA
  replace hr := Aside0.mk hr
  clear hA
  have hmm := @run_makeMap Tryz.prog
  have hu1 := Tryz.underlying114
  have hneq : ∀ w', Sem.run Tryz.prog (binOp .neq 180 (.func (.func 128) #[] #[]) .nilFunc) w' = .ok (.bool true) w' := fun w' => rfl
  go_enter Tryz.func127, Tryz.ntmps127
  go_wp2
  go_loopw [16] (fun v wr => ∃ (i m : Nat) (S : List ByteArray), v = .int .i64 i ∧ i ≤ l.length ∧ m ≤ i ∧ Aside0 (upTo (fun j => !badIn Room.f0 right most l j) i) ∧ Aside0 (Below w.heap.size w wr) ∧ Aside0 (OwnsSet eStr 9 wr w.heap.size m S) ∧ Aside0 (∀ x, x ∈ S ↔ x ∈ (l.take i).map Room.f0)) (fun v _ => l.length - (intOf v).toNat)
  case atStart => exact ⟨0, 0, [], rfl, by omega, by omega, ⟨upTo_zero _⟩, ⟨(Below.refl _ _).alloc (by simp) _⟩, ⟨OwnsSet.made w eStr 9⟩, ⟨fun x => by simp⟩⟩
  case round =>
    obtain ⟨i, m, S, rfl, hi, hn, hno, hb, HS, hS⟩ := hrel
    by_cases hlt : i < l.length
    · have hx : l[i]? = some l[i] := List.getElem?_eq_getElem hlt
      generalize l[i] = x at hx
      obtain ⟨ad, A3, c3, rfl, h0, h1, h2, h3, l3, g3⟩ := el_Room (Kd.C_below HA.out hb.out) i x hx
      have HG := Aside0.mk g3; clear g3
      have hsp : badIn Room.f0 right most l i = (decide ((i : Int) = most) || (!right x || decide (x.f0 ∈ (l.take i).map Room.f0))) := by simp only [badIn, hx]
      replace hsp := Aside0.mk hsp
      have hmem := Aside0.mk (List.mem_of_getElem? hx)
      have hkl := Aside0.mk (key_str (hl.all x (List.mem_of_getElem? hx)).h0)
      have HX := Aside0.mk hx
      have hwl : w.heap.size ≤ wr.heap.size := hb.out.size
      clear hx
      by_cases e1 : (i : Int) = most
      · have d1 : ((i : Int) == most) = true := beq_iff_eq.2 e1
        replace e1 := Aside0.mk e1
        go_wp2_with fail
        go_ret2
        exact ⟨by rw [firstBad_some hlt hno.out (by rw [hsp.out, decide_eq_true e1.out]; rfl)]; rfl, hb.out.alloc (by omega) _⟩
      have d1 : ((i : Int) == most) = false := beq_eq_false_iff_ne.2 e1
      replace hsp := Aside0.mk (hsp.out.trans (show _ = (!right x || decide (x.f0 ∈ (l.take i).map Room.f0)) by rw [decide_eq_false e1]; rfl))
      replace e1 := Aside0.mk e1
      go_wp2_with fail
      cases hrx : right x
      · replace hrx := Aside0.mk hrx
        refine (hr.out x _ _ ((hb.out.alloc (by omega) _)) hmem.out (kRoom_mk _ x l3 (Kd.C_below HG.out (by first | exact (below_alloc (Below.refl _ _) _) | exact below1 (by assumption))))).mono ?_
        rw [hrx.out]
        rintro e w1 ⟨rfl, hb1⟩
        go_wp2_with fail
        go_ret2
        exact ⟨by rw [firstBad_some hlt hno.out (by rw [hsp.out, hrx.out]; rfl)]; rfl, bthen (hb.out.alloc (by omega) _) hb1 (Nat.le_refl _)⟩
      replace hsp := Aside0.mk (hsp.out.trans (show _ = decide (x.f0 ∈ (l.take i).map Room.f0) by rw [hrx]; rfl))
      replace hrx := Aside0.mk hrx
      refine (hr.out x _ _ ((hb.out.alloc (by omega) _)) hmem.out (kRoom_mk _ x l3 (Kd.C_below HG.out (by first | exact (below_alloc (Below.refl _ _) _) | exact below1 (by assumption))))).mono ?_
      rw [hrx.out]
      rintro e w1 ⟨rfl, hb1⟩
      have hc_hb1 := (bcell hb1).1
      go_wp2_with fail
      refine (roomName_calls x _ _ (kRoom_mk _ x l3 (Kd.C_below HG.out (by first | exact (below_alloc (Below.refl _ _) _) | exact below1 (by assumption))))).mono ?_
      rintro e w2 ⟨rfl, hb2⟩
      replace hb1 := bthen hb1 hb2 (Nat.le_refl _)
      replace hc_hb1 := (bcell hb1).1
      clear hb2
      have HS2 := Aside0.mk (HS.out.below (below1 hb1))
      go_wp2_with (first | (at_lookup; refine wpList_set_lookup eStr 9 (by rfl) _ _ _ rfl HS2.out kStr Tryz.underlying220 rfl x.f0 rfl hkl.out ?_))
      · go_ret2
        have hin : x.f0 ∈ S := by assumption
        exact ⟨by rw [firstBad_some hlt hno.out (by rw [hsp.out]; exact decide_eq_true ((hS.out _).1 hin))]; rfl, bthen hb.out (below1 hb1) (Nat.le_refl _)⟩
      · have hin : ¬ x.f0 ∈ S := by assumption
        refine (roomName_calls x _ _ (kRoom_mk _ x l3 (Kd.C_below HG.out (by first | exact (below_alloc (Below.refl _ _) _) | exact below1 (by assumption))))).mono ?_
        rintro e w3 ⟨rfl, hb2⟩
        replace hb1 := bthen hb1 hb2 (Nat.le_refl _)
        replace hc_hb1 := (bcell hb1).1
        replace HS2 := Aside0.mk (HS2.out.below hb2)
        clear hb2
        go_wp2_with (first | (at_mapUpdate; refine wpList_set_put eStr 9 (by rfl) _ _ _ _ rfl HS2.out kStr Tryz.underlying220 rfl x.f0 rfl rfl hkl.out (by unfold maxLen; omega) eStr_inj ?_; intro w4 HS4 hg4))
        go_roundw
        case rel => exact ⟨i + 1, m + 1, x.f0 :: S, by go_num, by omega, by omega, ⟨upTo_snoc hno.out (by rw [hsp.out, decide_eq_false (fun h => hin ((hS.out _).2 h))]; rfl)⟩, ⟨pw_below_grown (bthen hb.out (below1 hb1) (Nat.le_refl _)) _ (by have := (below1 hb1).size; omega) hg4 (fun k e => by cases e; exact Nat.le_refl _)⟩, ⟨HS4⟩, ⟨fun y => by rw [mem_take_succ HX.out, List.mem_cons, hS.out]; exact Or.comm⟩⟩
        case measure => simp [intOf]; omega
    · obtain rfl : i = l.length := by omega
      go_wp2
      go_ret2
      exact ⟨by rw [firstBad_none hno.out]; rfl, hb.out⟩
set_option maxRecDepth 100000 in
set_option maxHeartbeats 4000000 in
theorem badPerson_calls (right : Person → Bool) (cp : Value) (l : List Person) (hl : wfL 40 wfPerson l) (most : Int) (A : Option Addr) (c : Nat) (w : World) (hA : kPerson.C w A l.length l)
    (hr : ∀ (x : Person) (cs : List Value) (w' : World), Below w.heap.size w w' → x ∈ l → kPerson.K w' x cs → Calls Tryz.prog 134 #[.agg cs.toArray, cp] w' fun e w'' => e = .returned (.bool (right x)) ∧ Below w'.heap.size w' w'')
    (r : Option Nat) (h : firstBad l.length (badIn Person.f0 right most l) = r) :
    Calls Tryz.prog 132 #[.slice A l.length c, .int .i64 most, .func (.func 133) #[] #[], .func (.func 134) #[] #[cp]] w fun e w' => e = ret2 r ∧ Below w.heap.size w w' := by
  subst h
  have hm := Kd.C_max hA
  have hpl := hl.len
  have HA := Aside0.mk hA
  replace hr := Aside0.mk hr
  clear hA
  have hmm := @run_makeMap Tryz.prog
  have hu1 := Tryz.underlying128
  have hneq : ∀ w', Sem.run Tryz.prog (binOp .neq 184 (.func (.func 133) #[] #[]) .nilFunc) w' = .ok (.bool true) w' := fun w' => rfl
  go_enter Tryz.func132, Tryz.ntmps132
  go_wp2
  go_loopw [16] (fun v wr => ∃ (i m : Nat) (S : List ByteArray), v = .int .i64 i ∧ i ≤ l.length ∧ m ≤ i ∧ Aside0 (upTo (fun j => !badIn Person.f0 right most l j) i) ∧ Aside0 (Below w.heap.size w wr) ∧ Aside0 (OwnsSet eStr 9 wr w.heap.size m S) ∧ Aside0 (∀ x, x ∈ S ↔ x ∈ (l.take i).map Person.f0)) (fun v _ => l.length - (intOf v).toNat)
  case atStart => exact ⟨0, 0, [], rfl, by omega, by omega, ⟨upTo_zero _⟩, ⟨(Below.refl _ _).alloc (by simp) _⟩, ⟨OwnsSet.made w eStr 9⟩, ⟨fun x => by simp⟩⟩
  case round =>
    obtain ⟨i, m, S, rfl, hi, hn, hno, hb, HS, hS⟩ := hrel
    by_cases hlt : i < l.length
    · have hx : l[i]? = some l[i] := List.getElem?_eq_getElem hlt
      generalize l[i] = x at hx
      obtain ⟨ad, A3, c3, rfl, h0, h1, l3, g3⟩ := el_Person (Kd.C_below HA.out hb.out) i x hx
      have HG := Aside0.mk g3; clear g3
      have hsp : badIn Person.f0 right most l i = (decide ((i : Int) = most) || (!right x || decide (x.f0 ∈ (l.take i).map Person.f0))) := by simp only [badIn, hx]
      replace hsp := Aside0.mk hsp
      have hmem := Aside0.mk (List.mem_of_getElem? hx)
      have hkl := Aside0.mk (key_str (hl.all x (List.mem_of_getElem? hx)).h0)
      have HX := Aside0.mk hx
      have hwl : w.heap.size ≤ wr.heap.size := hb.out.size
      clear hx
      by_cases e1 : (i : Int) = most
      · have d1 : ((i : Int) == most) = true := beq_iff_eq.2 e1
        replace e1 := Aside0.mk e1
        go_wp2_with fail
        go_ret2
        exact ⟨by rw [firstBad_some hlt hno.out (by rw [hsp.out, decide_eq_true e1.out]; rfl)]; rfl, hb.out.alloc (by omega) _⟩
      have d1 : ((i : Int) == most) = false := beq_eq_false_iff_ne.2 e1
      replace hsp := Aside0.mk (hsp.out.trans (show _ = (!right x || decide (x.f0 ∈ (l.take i).map Person.f0)) by rw [decide_eq_false e1]; rfl))
      replace e1 := Aside0.mk e1
      go_wp2_with fail
      cases hrx : right x
      · replace hrx := Aside0.mk hrx
        refine (hr.out x _ _ ((hb.out.alloc (by omega) _)) hmem.out (kPerson_mk _ x l3 (Kd.C_below HG.out (by first | exact (below_alloc (Below.refl _ _) _) | exact below1 (by assumption))))).mono ?_
        rw [hrx.out]
        rintro e w1 ⟨rfl, hb1⟩
        go_wp2_with fail
        go_ret2
        exact ⟨by rw [firstBad_some hlt hno.out (by rw [hsp.out, hrx.out]; rfl)]; rfl, bthen (hb.out.alloc (by omega) _) hb1 (Nat.le_refl _)⟩
      replace hsp := Aside0.mk (hsp.out.trans (show _ = decide (x.f0 ∈ (l.take i).map Person.f0) by rw [hrx]; rfl))
      replace hrx := Aside0.mk hrx
      refine (hr.out x _ _ ((hb.out.alloc (by omega) _)) hmem.out (kPerson_mk _ x l3 (Kd.C_below HG.out (by first | exact (below_alloc (Below.refl _ _) _) | exact below1 (by assumption))))).mono ?_
      rw [hrx.out]
      rintro e w1 ⟨rfl, hb1⟩
      have hc_hb1 := (bcell hb1).1
      go_wp2_with fail
      refine (personName_calls x _ _ (kPerson_mk _ x l3 (Kd.C_below HG.out (by first | exact (below_alloc (Below.refl _ _) _) | exact below1 (by assumption))))).mono ?_
      rintro e w2 ⟨rfl, hb2⟩
      replace hb1 := bthen hb1 hb2 (Nat.le_refl _)
      replace hc_hb1 := (bcell hb1).1
      clear hb2
      have HS2 := Aside0.mk (HS.out.below (below1 hb1))
      go_wp2_with (first | (at_lookup; refine wpList_set_lookup eStr 9 (by rfl) _ _ _ rfl HS2.out kStr Tryz.underlying220 rfl x.f0 rfl hkl.out ?_))
      · go_ret2
        have hin : x.f0 ∈ S := by assumption
        exact ⟨by rw [firstBad_some hlt hno.out (by rw [hsp.out]; exact decide_eq_true ((hS.out _).1 hin))]; rfl, bthen hb.out (below1 hb1) (Nat.le_refl _)⟩
      · have hin : ¬ x.f0 ∈ S := by assumption
        refine (personName_calls x _ _ (kPerson_mk _ x l3 (Kd.C_below HG.out (by first | exact (below_alloc (Below.refl _ _) _) | exact below1 (by assumption))))).mono ?_
        rintro e w3 ⟨rfl, hb2⟩
        replace hb1 := bthen hb1 hb2 (Nat.le_refl _)
        replace hc_hb1 := (bcell hb1).1
        replace HS2 := Aside0.mk (HS2.out.below hb2)
        clear hb2
        go_wp2_with (first | (at_mapUpdate; refine wpList_set_put eStr 9 (by rfl) _ _ _ _ rfl HS2.out kStr Tryz.underlying220 rfl x.f0 rfl rfl hkl.out (by unfold maxLen; omega) eStr_inj ?_; intro w4 HS4 hg4))
        go_roundw
        case rel => exact ⟨i + 1, m + 1, x.f0 :: S, by go_num, by omega, by omega, ⟨upTo_snoc hno.out (by rw [hsp.out, decide_eq_false (fun h => hin ((hS.out _).2 h))]; rfl)⟩, ⟨pw_below_grown (bthen hb.out (below1 hb1) (Nat.le_refl _)) _ (by have := (below1 hb1).size; omega) hg4 (fun k e => by cases e; exact Nat.le_refl _)⟩, ⟨HS4⟩, ⟨fun y => by rw [mem_take_succ HX.out, List.mem_cons, hS.out]; exact Or.comm⟩⟩
        case measure => simp [intOf]; omega
    · obtain rfl : i = l.length := by omega
      go_wp2
      go_ret2
      exact ⟨by rw [firstBad_none hno.out]; rfl, hb.out⟩
set_option maxRecDepth 100000 in
set_option maxHeartbeats 4000000 in
theorem badClass_calls (right : Class → Bool) (cp : Value) (l : List Class) (hl : wfL 112 wfClass l) (most : Int) (A : Option Addr) (c : Nat) (w : World) (hA : kClass.C w A l.length l)
    (hr : ∀ (x : Class) (cs : List Value) (w' : World), Below w.heap.size w w' → x ∈ l → kClass.K w' x cs → Calls Tryz.prog 138 #[.agg cs.toArray, cp] w' fun e w'' => e = .returned (.bool (right x)) ∧ Below w'.heap.size w' w'')
    (r : Option Nat) (h : firstBad l.length (badIn Class.f0 right most l) = r) :
    Calls Tryz.prog 136 #[.slice A l.length c, .int .i64 most, .func (.func 137) #[] #[], .func (.func 138) #[] #[cp]] w fun e w' => e = ret2 r ∧ Below w.heap.size w w' := by
  subst h
  have hm := Kd.C_max hA
  have hpl := hl.len
  have HA := Aside0.mk hA
  replace hr := Aside0.mk hr
  clear hA
  have hmm := @run_makeMap Tryz.prog
  have hu1 := Tryz.underlying96
  have hneq : ∀ w', Sem.run Tryz.prog (binOp .neq 188 (.func (.func 137) #[] #[]) .nilFunc) w' = .ok (.bool true) w' := fun w' => rfl
  go_enter Tryz.func136, Tryz.ntmps136
  go_wp2
  go_loopw [16] (fun v wr => ∃ (i m : Nat) (S : List ByteArray), v = .int .i64 i ∧ i ≤ l.length ∧ m ≤ i ∧ Aside0 (upTo (fun j => !badIn Class.f0 right most l j) i) ∧ Aside0 (Below w.heap.size w wr) ∧ Aside0 (OwnsSet eStr 9 wr w.heap.size m S) ∧ Aside0 (∀ x, x ∈ S ↔ x ∈ (l.take i).map Class.f0)) (fun v _ => l.length - (intOf v).toNat)
  case atStart => exact ⟨0, 0, [], rfl, by omega, by omega, ⟨upTo_zero _⟩, ⟨(Below.refl _ _).alloc (by simp) _⟩, ⟨OwnsSet.made w eStr 9⟩, ⟨fun x => by simp⟩⟩
  case round =>
    obtain ⟨i, m, S, rfl, hi, hn, hno, hb, HS, hS⟩ := hrel
    by_cases hlt : i < l.length
    · have hx : l[i]? = some l[i] := List.getElem?_eq_getElem hlt
      generalize l[i] = x at hx
      obtain ⟨ad, A3, c3, A4, c4, A5, c5, rfl, h0, h1, h2, h3, h4, h5, h6, l3, g3, l4, g4, l5, g5⟩ := el_Class (Kd.C_below HA.out hb.out) i x hx
      have HG := Aside0.mk g3; have HG4 := Aside0.mk g4; have HG5 := Aside0.mk g5; clear g3 g4 g5
      have hsp : badIn Class.f0 right most l i = (decide ((i : Int) = most) || (!right x || decide (x.f0 ∈ (l.take i).map Class.f0))) := by simp only [badIn, hx]
      replace hsp := Aside0.mk hsp
      have hmem := Aside0.mk (List.mem_of_getElem? hx)
      have hkl := Aside0.mk (key_str (hl.all x (List.mem_of_getElem? hx)).h0)
      have HX := Aside0.mk hx
      have hwl : w.heap.size ≤ wr.heap.size := hb.out.size
      clear hx
      by_cases e1 : (i : Int) = most
      · have d1 : ((i : Int) == most) = true := beq_iff_eq.2 e1
        replace e1 := Aside0.mk e1
        go_wp2_with fail
        go_ret2
        exact ⟨by rw [firstBad_some hlt hno.out (by rw [hsp.out, decide_eq_true e1.out]; rfl)]; rfl, hb.out.alloc (by omega) _⟩
      have d1 : ((i : Int) == most) = false := beq_eq_false_iff_ne.2 e1
      replace hsp := Aside0.mk (hsp.out.trans (show _ = (!right x || decide (x.f0 ∈ (l.take i).map Class.f0)) by rw [decide_eq_false e1]; rfl))
      replace e1 := Aside0.mk e1
      go_wp2_with fail
      cases hrx : right x
      · replace hrx := Aside0.mk hrx
        refine (hr.out x _ _ ((hb.out.alloc (by omega) _)) hmem.out (kClass_mk _ x l3 (Kd.C_below HG.out (by first | exact (below_alloc (Below.refl _ _) _) | exact below1 (by assumption))) l4 (Kd.C_below HG4.out (by first | exact (below_alloc (Below.refl _ _) _) | exact below1 (by assumption))) l5 (Kd.C_below HG5.out (by first | exact (below_alloc (Below.refl _ _) _) | exact below1 (by assumption))))).mono ?_
        rw [hrx.out]
        rintro e w1 ⟨rfl, hb1⟩
        go_wp2_with fail
        go_ret2
        exact ⟨by rw [firstBad_some hlt hno.out (by rw [hsp.out, hrx.out]; rfl)]; rfl, bthen (hb.out.alloc (by omega) _) hb1 (Nat.le_refl _)⟩
      replace hsp := Aside0.mk (hsp.out.trans (show _ = decide (x.f0 ∈ (l.take i).map Class.f0) by rw [hrx]; rfl))
      replace hrx := Aside0.mk hrx
      refine (hr.out x _ _ ((hb.out.alloc (by omega) _)) hmem.out (kClass_mk _ x l3 (Kd.C_below HG.out (by first | exact (below_alloc (Below.refl _ _) _) | exact below1 (by assumption))) l4 (Kd.C_below HG4.out (by first | exact (below_alloc (Below.refl _ _) _) | exact below1 (by assumption))) l5 (Kd.C_below HG5.out (by first | exact (below_alloc (Below.refl _ _) _) | exact below1 (by assumption))))).mono ?_
      rw [hrx.out]
      rintro e w1 ⟨rfl, hb1⟩
      have hc_hb1 := (bcell hb1).1
      go_wp2_with fail
      refine (className_calls x _ _ (kClass_mk _ x l3 (Kd.C_below HG.out (by first | exact (below_alloc (Below.refl _ _) _) | exact below1 (by assumption))) l4 (Kd.C_below HG4.out (by first | exact (below_alloc (Below.refl _ _) _) | exact below1 (by assumption))) l5 (Kd.C_below HG5.out (by first | exact (below_alloc (Below.refl _ _) _) | exact below1 (by assumption))))).mono ?_
      rintro e w2 ⟨rfl, hb2⟩
      replace hb1 := bthen hb1 hb2 (Nat.le_refl _)
      replace hc_hb1 := (bcell hb1).1
      clear hb2
      have HS2 := Aside0.mk (HS.out.below (below1 hb1))
      go_wp2_with (first | (at_lookup; refine wpList_set_lookup eStr 9 (by rfl) _ _ _ rfl HS2.out kStr Tryz.underlying220 rfl x.f0 rfl hkl.out ?_))
      · go_ret2
        have hin : x.f0 ∈ S := by assumption
        exact ⟨by rw [firstBad_some hlt hno.out (by rw [hsp.out]; exact decide_eq_true ((hS.out _).1 hin))]; rfl, bthen hb.out (below1 hb1) (Nat.le_refl _)⟩
      · have hin : ¬ x.f0 ∈ S := by assumption
        refine (className_calls x _ _ (kClass_mk _ x l3 (Kd.C_below HG.out (by first | exact (below_alloc (Below.refl _ _) _) | exact below1 (by assumption))) l4 (Kd.C_below HG4.out (by first | exact (below_alloc (Below.refl _ _) _) | exact below1 (by assumption))) l5 (Kd.C_below HG5.out (by first | exact (below_alloc (Below.refl _ _) _) | exact below1 (by assumption))))).mono ?_
        rintro e w3 ⟨rfl, hb2⟩
        replace hb1 := bthen hb1 hb2 (Nat.le_refl _)
        replace hc_hb1 := (bcell hb1).1
        replace HS2 := Aside0.mk (HS2.out.below hb2)
        clear hb2
        go_wp2_with (first | (at_mapUpdate; refine wpList_set_put eStr 9 (by rfl) _ _ _ _ rfl HS2.out kStr Tryz.underlying220 rfl x.f0 rfl rfl hkl.out (by unfold maxLen; omega) eStr_inj ?_; intro w4 HS4 hg4))
        go_roundw
        case rel => exact ⟨i + 1, m + 1, x.f0 :: S, by go_num, by omega, by omega, ⟨upTo_snoc hno.out (by rw [hsp.out, decide_eq_false (fun h => hin ((hS.out _).2 h))]; rfl)⟩, ⟨pw_below_grown (bthen hb.out (below1 hb1) (Nat.le_refl _)) _ (by have := (below1 hb1).size; omega) hg4 (fun k e => by cases e; exact Nat.le_refl _)⟩, ⟨HS4⟩, ⟨fun y => by rw [mem_take_succ HX.out, List.mem_cons, hS.out]; exact Or.comm⟩⟩
        case measure => simp [intOf]; omega
    · obtain rfl : i = l.length := by omega
      go_wp2
      go_ret2
      exact ⟨by rw [firstBad_none hno.out]; rfl, hb.out⟩
set_option maxRecDepth 100000 in
set_option maxHeartbeats 4000000 in
theorem badCourse_calls (right : Course → Bool) (cp : Value) (l : List Course) (hl : wfL 40 wfCourse l) (most : Int) (A : Option Addr) (c : Nat) (w : World) (hA : kCourse.C w A l.length l)
    (hr : ∀ (x : Course) (cs : List Value) (w' : World), Below w.heap.size w w' → x ∈ l → kCourse.K w' x cs → Calls Tryz.prog 142 #[.agg cs.toArray, cp] w' fun e w'' => e = .returned (.bool (right x)) ∧ Below w'.heap.size w' w'')
    (r : Option Nat) (h : firstBad l.length (badIn Course.f0 right most l) = r) :
    Calls Tryz.prog 140 #[.slice A l.length c, .int .i64 most, .func (.func 141) #[] #[], .func (.func 142) #[] #[cp]] w fun e w' => e = ret2 r ∧ Below w.heap.size w w' := by
  subst h
  have hm := Kd.C_max hA
  have hpl := hl.len
  have HA := Aside0.mk hA
  replace hr := Aside0.mk hr
  clear hA
  have hmm := @run_makeMap Tryz.prog
  have hu1 := Tryz.underlying136
  have hneq : ∀ w', Sem.run Tryz.prog (binOp .neq 192 (.func (.func 141) #[] #[]) .nilFunc) w' = .ok (.bool true) w' := fun w' => rfl
  go_enter Tryz.func140, Tryz.ntmps140
  go_wp2
  go_loopw [16] (fun v wr => ∃ (i m : Nat) (S : List ByteArray), v = .int .i64 i ∧ i ≤ l.length ∧ m ≤ i ∧ Aside0 (upTo (fun j => !badIn Course.f0 right most l j) i) ∧ Aside0 (Below w.heap.size w wr) ∧ Aside0 (OwnsSet eStr 9 wr w.heap.size m S) ∧ Aside0 (∀ x, x ∈ S ↔ x ∈ (l.take i).map Course.f0)) (fun v _ => l.length - (intOf v).toNat)
  case atStart => exact ⟨0, 0, [], rfl, by omega, by omega, ⟨upTo_zero _⟩, ⟨(Below.refl _ _).alloc (by simp) _⟩, ⟨OwnsSet.made w eStr 9⟩, ⟨fun x => by simp⟩⟩
  case round =>
    obtain ⟨i, m, S, rfl, hi, hn, hno, hb, HS, hS⟩ := hrel
    by_cases hlt : i < l.length
    · have hx : l[i]? = some l[i] := List.getElem?_eq_getElem hlt
      generalize l[i] = x at hx
      obtain ⟨ad, A3, c3, rfl, h0, h1, l3, g3⟩ := el_Course (Kd.C_below HA.out hb.out) i x hx
      have HG := Aside0.mk g3; clear g3
      have hsp : badIn Course.f0 right most l i = (decide ((i : Int) = most) || (!right x || decide (x.f0 ∈ (l.take i).map Course.f0))) := by simp only [badIn, hx]
      replace hsp := Aside0.mk hsp
      have hmem := Aside0.mk (List.mem_of_getElem? hx)
      have hkl := Aside0.mk (key_str (hl.all x (List.mem_of_getElem? hx)).h0)
      have HX := Aside0.mk hx
      have hwl : w.heap.size ≤ wr.heap.size := hb.out.size
      clear hx
      by_cases e1 : (i : Int) = most
      · have d1 : ((i : Int) == most) = true := beq_iff_eq.2 e1
        replace e1 := Aside0.mk e1
        go_wp2_with fail
        go_ret2
        exact ⟨by rw [firstBad_some hlt hno.out (by rw [hsp.out, decide_eq_true e1.out]; rfl)]; rfl, hb.out.alloc (by omega) _⟩
      have d1 : ((i : Int) == most) = false := beq_eq_false_iff_ne.2 e1
      replace hsp := Aside0.mk (hsp.out.trans (show _ = (!right x || decide (x.f0 ∈ (l.take i).map Course.f0)) by rw [decide_eq_false e1]; rfl))
      replace e1 := Aside0.mk e1
      go_wp2_with fail
      cases hrx : right x
      · replace hrx := Aside0.mk hrx
        refine (hr.out x _ _ ((hb.out.alloc (by omega) _)) hmem.out (kCourse_mk _ x l3 (Kd.C_below HG.out (by first | exact (below_alloc (Below.refl _ _) _) | exact below1 (by assumption))))).mono ?_
        rw [hrx.out]
        rintro e w1 ⟨rfl, hb1⟩
        go_wp2_with fail
        go_ret2
        exact ⟨by rw [firstBad_some hlt hno.out (by rw [hsp.out, hrx.out]; rfl)]; rfl, bthen (hb.out.alloc (by omega) _) hb1 (Nat.le_refl _)⟩
      replace hsp := Aside0.mk (hsp.out.trans (show _ = decide (x.f0 ∈ (l.take i).map Course.f0) by rw [hrx]; rfl))
      replace hrx := Aside0.mk hrx
      refine (hr.out x _ _ ((hb.out.alloc (by omega) _)) hmem.out (kCourse_mk _ x l3 (Kd.C_below HG.out (by first | exact (below_alloc (Below.refl _ _) _) | exact below1 (by assumption))))).mono ?_
      rw [hrx.out]
      rintro e w1 ⟨rfl, hb1⟩
      have hc_hb1 := (bcell hb1).1
      go_wp2_with fail
      refine (courseName_calls x _ _ (kCourse_mk _ x l3 (Kd.C_below HG.out (by first | exact (below_alloc (Below.refl _ _) _) | exact below1 (by assumption))))).mono ?_
      rintro e w2 ⟨rfl, hb2⟩
      replace hb1 := bthen hb1 hb2 (Nat.le_refl _)
      replace hc_hb1 := (bcell hb1).1
      clear hb2
      have HS2 := Aside0.mk (HS.out.below (below1 hb1))
      go_wp2_with (first | (at_lookup; refine wpList_set_lookup eStr 9 (by rfl) _ _ _ rfl HS2.out kStr Tryz.underlying220 rfl x.f0 rfl hkl.out ?_))
      · go_ret2
        have hin : x.f0 ∈ S := by assumption
        exact ⟨by rw [firstBad_some hlt hno.out (by rw [hsp.out]; exact decide_eq_true ((hS.out _).1 hin))]; rfl, bthen hb.out (below1 hb1) (Nat.le_refl _)⟩
      · have hin : ¬ x.f0 ∈ S := by assumption
        refine (courseName_calls x _ _ (kCourse_mk _ x l3 (Kd.C_below HG.out (by first | exact (below_alloc (Below.refl _ _) _) | exact below1 (by assumption))))).mono ?_
        rintro e w3 ⟨rfl, hb2⟩
        replace hb1 := bthen hb1 hb2 (Nat.le_refl _)
        replace hc_hb1 := (bcell hb1).1
        replace HS2 := Aside0.mk (HS2.out.below hb2)
        clear hb2
        go_wp2_with (first | (at_mapUpdate; refine wpList_set_put eStr 9 (by rfl) _ _ _ _ rfl HS2.out kStr Tryz.underlying220 rfl x.f0 rfl rfl hkl.out (by unfold maxLen; omega) eStr_inj ?_; intro w4 HS4 hg4))
        go_roundw
        case rel => exact ⟨i + 1, m + 1, x.f0 :: S, by go_num, by omega, by omega, ⟨upTo_snoc hno.out (by rw [hsp.out, decide_eq_false (fun h => hin ((hS.out _).2 h))]; rfl)⟩, ⟨pw_below_grown (bthen hb.out (below1 hb1) (Nat.le_refl _)) _ (by have := (below1 hb1).size; omega) hg4 (fun k e => by cases e; exact Nat.le_refl _)⟩, ⟨HS4⟩, ⟨fun y => by rw [mem_take_succ HX.out, List.mem_cons, hS.out]; exact Or.comm⟩⟩
        case measure => simp [intOf]; omega
    · obtain rfl : i = l.length := by omega
      go_wp2
      go_ret2
      exact ⟨by rw [firstBad_none hno.out]; rfl, hb.out⟩
set_option maxRecDepth 100000 in
set_option maxHeartbeats 4000000 in
theorem badStudent_calls (right : Student → Bool) (cp : Value) (l : List Student) (hl : wfL 40 wfStudent l) (most : Int) (A : Option Addr) (c : Nat) (w : World) (hA : kStudent.C w A l.length l)
    (hr : ∀ (x : Student) (cs : List Value) (w' : World), Below w.heap.size w w' → x ∈ l → kStudent.K w' x cs → Calls Tryz.prog 146 #[.agg cs.toArray, cp] w' fun e w'' => e = .returned (.bool (right x)) ∧ Below w'.heap.size w' w'')
    (r : Option Nat) (h : firstBad l.length (badIn Student.f0 right most l) = r) :
    Calls Tryz.prog 144 #[.slice A l.length c, .int .i64 most, .func (.func 145) #[] #[], .func (.func 146) #[] #[cp]] w fun e w' => e = ret2 r ∧ Below w.heap.size w w' := by
  subst h
  have hm := Kd.C_max hA
  have hpl := hl.len
  have HA := Aside0.mk hA
  replace hr := Aside0.mk hr
  clear hA
  have hmm := @run_makeMap Tryz.prog
  have hu1 := Tryz.underlying130
  have hneq : ∀ w', Sem.run Tryz.prog (binOp .neq 196 (.func (.func 145) #[] #[]) .nilFunc) w' = .ok (.bool true) w' := fun w' => rfl
  go_enter Tryz.func144, Tryz.ntmps144
  go_wp2
  go_loopw [16] (fun v wr => ∃ (i m : Nat) (S : List ByteArray), v = .int .i64 i ∧ i ≤ l.length ∧ m ≤ i ∧ Aside0 (upTo (fun j => !badIn Student.f0 right most l j) i) ∧ Aside0 (Below w.heap.size w wr) ∧ Aside0 (OwnsSet eStr 9 wr w.heap.size m S) ∧ Aside0 (∀ x, x ∈ S ↔ x ∈ (l.take i).map Student.f0)) (fun v _ => l.length - (intOf v).toNat)
  case atStart => exact ⟨0, 0, [], rfl, by omega, by omega, ⟨upTo_zero _⟩, ⟨(Below.refl _ _).alloc (by simp) _⟩, ⟨OwnsSet.made w eStr 9⟩, ⟨fun x => by simp⟩⟩
  case round =>
    obtain ⟨i, m, S, rfl, hi, hn, hno, hb, HS, hS⟩ := hrel
    by_cases hlt : i < l.length
    · have hx : l[i]? = some l[i] := List.getElem?_eq_getElem hlt
      generalize l[i] = x at hx
      obtain ⟨ad, A3, c3, rfl, h0, h1, l3, g3⟩ := el_Student (Kd.C_below HA.out hb.out) i x hx
      have HG := Aside0.mk g3; clear g3
      have hsp : badIn Student.f0 right most l i = (decide ((i : Int) = most) || (!right x || decide (x.f0 ∈ (l.take i).map Student.f0))) := by simp only [badIn, hx]
      replace hsp := Aside0.mk hsp
      have hmem := Aside0.mk (List.mem_of_getElem? hx)
      have hkl := Aside0.mk (key_str (hl.all x (List.mem_of_getElem? hx)).h0)
      have HX := Aside0.mk hx
      have hwl : w.heap.size ≤ wr.heap.size := hb.out.size
      clear hx
      by_cases e1 : (i : Int) = most
      · have d1 : ((i : Int) == most) = true := beq_iff_eq.2 e1
        replace e1 := Aside0.mk e1
        go_wp2_with fail
        go_ret2
        exact ⟨by rw [firstBad_some hlt hno.out (by rw [hsp.out, decide_eq_true e1.out]; rfl)]; rfl, hb.out.alloc (by omega) _⟩
      have d1 : ((i : Int) == most) = false := beq_eq_false_iff_ne.2 e1
      replace hsp := Aside0.mk (hsp.out.trans (show _ = (!right x || decide (x.f0 ∈ (l.take i).map Student.f0)) by rw [decide_eq_false e1]; rfl))
      replace e1 := Aside0.mk e1
      go_wp2_with fail
      cases hrx : right x
      · replace hrx := Aside0.mk hrx
        refine (hr.out x _ _ ((hb.out.alloc (by omega) _)) hmem.out (kStudent_mk _ x l3 (Kd.C_below HG.out (by first | exact (below_alloc (Below.refl _ _) _) | exact below1 (by assumption))))).mono ?_
        rw [hrx.out]
        rintro e w1 ⟨rfl, hb1⟩
        go_wp2_with fail
        go_ret2
        exact ⟨by rw [firstBad_some hlt hno.out (by rw [hsp.out, hrx.out]; rfl)]; rfl, bthen (hb.out.alloc (by omega) _) hb1 (Nat.le_refl _)⟩
      replace hsp := Aside0.mk (hsp.out.trans (show _ = decide (x.f0 ∈ (l.take i).map Student.f0) by rw [hrx]; rfl))
      replace hrx := Aside0.mk hrx
      refine (hr.out x _ _ ((hb.out.alloc (by omega) _)) hmem.out (kStudent_mk _ x l3 (Kd.C_below HG.out (by first | exact (below_alloc (Below.refl _ _) _) | exact below1 (by assumption))))).mono ?_
      rw [hrx.out]
      rintro e w1 ⟨rfl, hb1⟩
      have hc_hb1 := (bcell hb1).1
      go_wp2_with fail
      refine (studentName_calls x _ _ (kStudent_mk _ x l3 (Kd.C_below HG.out (by first | exact (below_alloc (Below.refl _ _) _) | exact below1 (by assumption))))).mono ?_
      rintro e w2 ⟨rfl, hb2⟩
      replace hb1 := bthen hb1 hb2 (Nat.le_refl _)
      replace hc_hb1 := (bcell hb1).1
      clear hb2
      have HS2 := Aside0.mk (HS.out.below (below1 hb1))
      go_wp2_with (first | (at_lookup; refine wpList_set_lookup eStr 9 (by rfl) _ _ _ rfl HS2.out kStr Tryz.underlying220 rfl x.f0 rfl hkl.out ?_))
      · go_ret2
        have hin : x.f0 ∈ S := by assumption
        exact ⟨by rw [firstBad_some hlt hno.out (by rw [hsp.out]; exact decide_eq_true ((hS.out _).1 hin))]; rfl, bthen hb.out (below1 hb1) (Nat.le_refl _)⟩
      · have hin : ¬ x.f0 ∈ S := by assumption
        refine (studentName_calls x _ _ (kStudent_mk _ x l3 (Kd.C_below HG.out (by first | exact (below_alloc (Below.refl _ _) _) | exact below1 (by assumption))))).mono ?_
        rintro e w3 ⟨rfl, hb2⟩
        replace hb1 := bthen hb1 hb2 (Nat.le_refl _)
        replace hc_hb1 := (bcell hb1).1
        replace HS2 := Aside0.mk (HS2.out.below hb2)
        clear hb2
        go_wp2_with (first | (at_mapUpdate; refine wpList_set_put eStr 9 (by rfl) _ _ _ _ rfl HS2.out kStr Tryz.underlying220 rfl x.f0 rfl rfl hkl.out (by unfold maxLen; omega) eStr_inj ?_; intro w4 HS4 hg4))
        go_roundw
        case rel => exact ⟨i + 1, m + 1, x.f0 :: S, by go_num, by omega, by omega, ⟨upTo_snoc hno.out (by rw [hsp.out, decide_eq_false (fun h => hin ((hS.out _).2 h))]; rfl)⟩, ⟨pw_below_grown (bthen hb.out (below1 hb1) (Nat.le_refl _)) _ (by have := (below1 hb1).size; omega) hg4 (fun k e => by cases e; exact Nat.le_refl _)⟩, ⟨HS4⟩, ⟨fun y => by rw [mem_take_succ HX.out, List.mem_cons, hS.out]; exact Or.comm⟩⟩
        case measure => simp [intOf]; omega
    · obtain rfl : i = l.length := by omega
      go_wp2
      go_ret2
      exact ⟨by rw [firstBad_none hno.out]; rfl, hb.out⟩

def badAlone {α : Type} (right : α → Bool) (most : Int) (l : List α) (i : Nat) : Bool := match l[i]? with | some x => decide ((i : Int) = most) || !right x | none => false
set_option maxRecDepth 100000 in
set_option maxHeartbeats 4000000 in
theorem badRule_calls (right : Rule → Bool) (cp : Value) (l : List Rule) (hl : wfL 64 wfRule l) (most : Int) (A : Option Addr) (c : Nat) (w : World) (hA : kRule.C w A l.length l)
    (hr : ∀ (x : Rule) (cs : List Value) (w' : World), Below w.heap.size w w' → x ∈ l → kRule.K w' x cs → Calls Tryz.prog 149 #[.agg cs.toArray, cp] w' fun e w'' => e = .returned (.bool (right x)) ∧ Below w'.heap.size w' w'')
    (r : Option Nat) (h : firstBad l.length (badAlone right most l) = r) :
    Calls Tryz.prog 148 #[.slice A l.length c, .int .i64 most, .nilFunc, .func (.func 149) #[] #[cp]] w fun e w' => e = ret2 r ∧ Below w.heap.size w w' := by
  subst h
  have hm := Kd.C_max hA
  have hpl := hl.len
  have HA := Aside0.mk hA
  replace hr := Aside0.mk hr
  clear hA
  have hmm := @run_makeMap Tryz.prog
  have hu1 := Tryz.underlying133
  have hneq : ∀ w', Sem.run Tryz.prog (binOp .neq 229 .nilFunc .nilFunc) w' = .ok (.bool false) w' := fun w' => rfl
  go_enter Tryz.func148, Tryz.ntmps148
  go_wp2
  go_loopw [16] (fun v wr => ∃ (i : Nat), v = .int .i64 i ∧ i ≤ l.length ∧ Aside0 (upTo (fun j => !badAlone right most l j) i) ∧ Aside0 (Below w.heap.size w wr)) (fun v _ => l.length - (intOf v).toNat)
  case atStart => exact ⟨0, rfl, by omega, ⟨upTo_zero _⟩, ⟨(Below.refl _ _).alloc (by simp) _⟩⟩
  case round =>
    obtain ⟨i, rfl, hi, hno, hb⟩ := hrel
    by_cases hlt : i < l.length
    · have hx : l[i]? = some l[i] := List.getElem?_eq_getElem hlt
      generalize l[i] = x at hx
      obtain ⟨ad, A3, c3, rfl, h0, h1, h2, h3, h4, h5, l3, g3⟩ := el_Rule (Kd.C_below HA.out hb.out) i x hx
      have HG := Aside0.mk g3; clear g3
      have hsp : badAlone right most l i = (decide ((i : Int) = most) || !right x) := by simp only [badAlone, hx]
      replace hsp := Aside0.mk hsp
      have hmem := Aside0.mk (List.mem_of_getElem? hx)
      have hwl : w.heap.size ≤ wr.heap.size := hb.out.size
      clear hx
      by_cases e1 : (i : Int) = most
      · have d1 : ((i : Int) == most) = true := beq_iff_eq.2 e1
        replace e1 := Aside0.mk e1
        go_wp2_with fail
        go_ret2
        exact ⟨by rw [firstBad_some hlt hno.out (by rw [hsp.out, decide_eq_true e1.out]; rfl)]; rfl, hb.out.alloc (by omega) _⟩
      have d1 : ((i : Int) == most) = false := beq_eq_false_iff_ne.2 e1
      replace hsp := Aside0.mk (hsp.out.trans (show _ = !right x by rw [decide_eq_false e1]; rfl))
      replace e1 := Aside0.mk e1
      go_wp2_with fail
      cases hrx : right x
      · replace hrx := Aside0.mk hrx
        refine (hr.out x _ _ ((hb.out.alloc (by omega) _)) hmem.out (kRule_mk _ x l3 (Kd.C_below HG.out (by first | exact (below_alloc (Below.refl _ _) _) | exact below1 (by assumption))))).mono ?_
        rw [hrx.out]
        rintro e w1 ⟨rfl, hb1⟩
        go_wp2_with fail
        go_ret2
        exact ⟨by rw [firstBad_some hlt hno.out (by rw [hsp.out, hrx.out]; rfl)]; rfl, bthen (hb.out.alloc (by omega) _) hb1 (Nat.le_refl _)⟩
      · replace hrx := Aside0.mk hrx
        refine (hr.out x _ _ ((hb.out.alloc (by omega) _)) hmem.out (kRule_mk _ x l3 (Kd.C_below HG.out (by first | exact (below_alloc (Below.refl _ _) _) | exact below1 (by assumption))))).mono ?_
        rw [hrx.out]
        rintro e w1 ⟨rfl, hb1⟩
        replace hb1 := Aside0.mk hb1
        go_wp2_with fail
        go_roundw
        case rel => exact ⟨i + 1, by go_num, by omega, ⟨upTo_snoc hno.out (by rw [hsp.out, hrx.out]; rfl)⟩, ⟨bthen (hb.out.alloc (by omega) _) hb1.out (Nat.le_refl _)⟩⟩
        case measure => simp [intOf]; omega
    · obtain rfl : i = l.length := by omega
      go_wp2
      go_ret2
      exact ⟨by rw [firstBad_none hno.out]; rfl, hb.out⟩
end Go.Proofs.YthalgemkblkhgaaGreat
