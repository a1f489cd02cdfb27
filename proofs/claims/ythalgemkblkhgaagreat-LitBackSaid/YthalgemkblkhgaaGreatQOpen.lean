/- Data that can be read at a type of the program are a Lean value of its kind, with numbers of their kinds and no greater than the row allows. -/
import Derived.Test.YthalgemkblkhgaaGreatQMA
import Derived.Handed
import Derived.ChangeArms
import Derived.DataElems
import Derived.OpenShut
import Derived.Lib.SmallJoins
namespace Go.Proofs.YthalgemkblkhgaaGreat
open Go.RowKit Go.WideShapes Go.Proofs.YthalgemkblkhgaaGreatW.PrintWords Go.Proofs.YthalgemkblkhgaaGreatW.PrintLast
set_option linter.unusedVariables false
set_option linter.unusedSimpArgs false

/-- Whatever can be read at type t, no greater than the row allows, is of the kind d. -/
def Opens (P : Program) {α : Type} (d : Kd α) (wf : α → Prop) (t : TypeId) : Prop :=
  ∀ (H : Type) (enc : TypeId × Value → H) (w : World) (base : Nat) (spare : Nat → Bool) (held : Bool) (fuel : Nat) (cs : List Value) (x : DataW H × List MemPlace),
    DataW.trod enc P w base spare held fuel t cs = some x → (x.1.weights P t).all (· ≤ reachBytes) = true → ∃ a, d.K w a cs ∧ wf a
section
variable {P : Program} {t e : TypeId}
theorem opens_int {k : IntKind} (ht : P.underlying t = some (.int k)) : Opens P (Kd.int k) (wfInt k) t := by
  intro H enc w base spare held fuel cs x h _
  obtain ⟨n, rfl, _, hw⟩ := DataW.trod_int ht h
  exact ⟨n, rfl, hw⟩
theorem opens_bool (ht : P.underlying t = some .bool) : Opens P Kd.bool wfBool t := by
  intro H enc w base spare held fuel cs x h _
  obtain ⟨b, rfl, _⟩ := DataW.trod_bool ht h
  exact ⟨b, rfl, trivial⟩
theorem opens_string (ht : P.underlying t = some .string) : Opens P Kd.string wfStr t := by
  intro H enc w base spare held fuel cs x h hz
  obtain ⟨s, rfl, rfl, _⟩ := DataW.trod_string ht h
  refine ⟨s, rfl, ?_⟩
  simp only [DataW.weights, List.all_cons, List.all_nil, Bool.and_true, decide_eq_true_eq, Array.length_toList] at hz
  exact hz
theorem weightsAll_mem {H : Type} {d : DataW H} {q : Nat → Bool} : ∀ {l : List (DataW H)}, d ∈ l → (DataW.weightsAll P e l).all q = true → (d.weights P e).all q = true
  | a :: l, hm, h => by
    rw [DataW.weightsAll, List.all_append, Bool.and_eq_true] at h
    rcases List.mem_cons.1 hm with rfl | hm
    · exact h.1
    · exact weightsAll_mem hm h.2
theorem opens_slice {α : Type} {d : Kd α} {p : α → Prop} {T B : Nat} (ht : P.underlying t = some (.slice e)) (hc : P.cellsOf e = d.sz) (hB : P.bytesOf e = B) (h : Opens P d p e) : Opens P (Kd.slice T d) (wfL B p) t := by
  intro H enc w base spare held fuel cs x hT hz
  rcases DataW.trod_slice ht hT with ⟨rfl, rfl⟩ | ⟨a, len, cap, elems, rest, n, _, rfl, rfl, hb, hl, hm, hlen, hel, _⟩
  · exact ⟨[], ⟨none, 0, rfl, Nat.le_refl _, rfl, by simp, fun h => absurd h (by simp)⟩, ⟨by simp, fun x hx => by cases hx⟩⟩
  simp only [DataW.weights, ht, List.all_cons, Bool.and_eq_true, decide_eq_true_eq, List.all_append, List.length_map] at hz
  obtain ⟨hz1, hz2, _⟩ := hz
  have key : ∀ i : Fin len, ∃ v, (∃ c, c.length = d.sz ∧ d.K w v c ∧ ∀ k u, c[k]? = some u → w.cell? (a.add (i * d.sz + k)) = some u) ∧ p v := by
    intro i
    have hi : i.1 < elems.length := by rw [hlen]; exact i.2
    have h1 := hel i i.2
    rw [List.getElem?_eq_getElem hi] at h1
    obtain ⟨cs', h2, h3⟩ := Option.bind_eq_some_iff.1 h1
    obtain ⟨v, hv, hp⟩ := h H enc w base spare held n cs' _ h3 (weightsAll_mem (List.mem_map_of_mem (List.getElem_mem hi)) hz2)
    obtain ⟨_, h4, h5⟩ := World.cells?_some h2
    rw [hc] at h4
    refine ⟨v, ⟨cs', h4, hv, fun k u hu => ?_⟩, hp⟩
    have hk : k < d.sz := by rw [← h4]; exact (List.getElem?_eq_some_iff.1 hu).1
    have h6 := h5 k (by rw [hc]; exact hk)
    rw [Addr.add_add, hc, hu] at h6
    exact h6
  have hch := Classical.axiomOfChoice key
  obtain ⟨f, hf⟩ := hch
  have hlf : (List.ofFn f).length = len := List.length_ofFn
  have hmx : maxLen ≤ 9223372036854775807 := by decide
  refine ⟨List.ofFn f, ⟨some a, cap, by rw [hlf], by rw [hlf]; exact hl, rfl, by rw [hlf]; omega, fun _ => ⟨a, rfl, fun j v hj => ?_⟩⟩, ⟨?_, fun v hv => ?_⟩⟩
  · obtain ⟨hj1, rfl⟩ := List.getElem?_eq_some_iff.1 hj
    rw [hlf] at hj1
    obtain ⟨⟨c, h1, h2, h3⟩, _⟩ := hf ⟨j, hj1⟩
    rw [List.getElem_ofFn]
    exact ⟨c, h1, h2, h3⟩
  · rw [hlf]
    rw [hB, hlen] at hz1
    refine Nat.le_trans (Nat.mul_le_mul_right _ (Nat.le_add_right len rest.length)) (Nat.le_trans hz1 ?_)
    decide
  · obtain ⟨i, rfl⟩ := List.mem_ofFn.1 hv
    exact (hf i).2
/-- The fields of a struct, one after the other. -/
def TrodF {H : Type} (enc : TypeId × Value → H) (P : Program) (w : World) (base : Nat) (spare : Nat → Bool) (held : Bool) (n : Nat) : List TypeId → List Value → List (DataW H × List MemPlace) → Prop
  | [], cs, xs => cs = [] ∧ xs = []
  | t :: ts, cs, xs => ∃ c1 c2 x xs', cs = c1 ++ c2 ∧ xs = x :: xs' ∧ DataW.trod enc P w base spare held n t c1 = some x ∧ TrodF enc P w base spare held n ts c2 xs'
def OpensF (P : Program) {α : Type} (d : Kd α) (wf : α → Prop) (ts : List TypeId) : Prop :=
  ∀ (H : Type) (enc : TypeId × Value → H) (w : World) (base : Nat) (spare : Nat → Bool) (held : Bool) (n : Nat) (cs : List Value) (xs : List (DataW H × List MemPlace)),
    TrodF enc P w base spare held n ts cs xs → (DataW.weightsEach P ts (xs.map (·.1))).all (· ≤ reachBytes) = true → ∃ a, d.K w a cs ∧ wf a
theorem opensF_one {α : Type} {d : Kd α} {wf : α → Prop} (h : Opens P d wf t) : OpensF P d wf [t] := by
  rintro H enc w base spare held n cs xs ⟨c1, c2, x, xs', rfl, rfl, h1, rfl, rfl⟩ hz
  rw [List.map_cons, List.map_nil, DataW.weightsEach, List.all_append, Bool.and_eq_true] at hz
  obtain ⟨a, h2, h3⟩ := h H enc w base spare held n c1 x h1 hz.1
  exact ⟨a, by rw [List.append_nil]; exact h2, h3⟩
theorem opensF_cons {α β : Type} {d : Kd α} {d' : Kd β} {wf : α → Prop} {wf' : β → Prop} {ts : List TypeId} (h : Opens P d wf t) (h' : OpensF P d' wf' ts) : OpensF P (Kd.pair d d') (fun x => wf x.1 ∧ wf' x.2) (t :: ts) := by
  rintro H enc w base spare held n cs xs ⟨c1, c2, x, xs', rfl, rfl, h1, h4⟩ hz
  rw [List.map_cons, DataW.weightsEach, List.all_append, Bool.and_eq_true] at hz
  obtain ⟨a, h2, h3⟩ := h H enc w base spare held n c1 x h1 hz.1
  obtain ⟨b, h5, h6⟩ := h' H enc w base spare held n c2 xs' h4 hz.2
  exact ⟨(a, b), ⟨c1, c2, rfl, h2, h5⟩, h3, h6⟩
/-- The fields lie one behind the other, up to n. -/
def laidF (P : Program) : List Field → Nat → Nat → Bool
  | [], o, n => o == n
  | f :: r, o, n => f.offset == o && laidF P r (o + P.cellsOf f.type) n
theorem trodF_of {H : Type} {enc : TypeId × Value → H} {w : World} {base : Nat} {spare : Nat → Bool} {held : Bool} {m : Nat} {cs : List Value} : ∀ (fs : List Field) (o : Nat) (xs : List (DataW H × List MemPlace)), laidF P fs o cs.length = true → xs.length = fs.length →
    (∀ (i : Nat) (f : Field), fs[i]? = some f → DataW.trod enc P w base spare held m f.type ((cs.drop f.offset).take (P.cellsOf f.type)) = xs[i]?) → TrodF enc P w base spare held m (fs.map (·.type)) (cs.drop o) xs
  | [], o, xs, hl, hx, _ => by
    have e : o = cs.length := by simpa [laidF] using hl
    exact ⟨by rw [e]; exact List.drop_length, List.length_eq_zero_iff.1 hx⟩
  | f :: fs, o, xs, hl, hx, h => by
    rw [laidF, Bool.and_eq_true, beq_iff_eq] at hl
    match xs, hx with
    | x :: xs', hx =>
      have h0 := h 0 f rfl
      rw [hl.1] at h0
      refine ⟨(cs.drop o).take (P.cellsOf f.type), cs.drop (o + P.cellsOf f.type), x, xs', ?_, rfl, h0, trodF_of fs _ xs' hl.2 (by simpa using hx) (fun i g hg => h (i + 1) g hg)⟩
      rw [← List.drop_drop, List.take_append_drop]
theorem opens_struct {α β : Type} {d : Kd α} {wf : α → Prop} {wf' : β → Prop} {fs : Array Field} (ht : P.underlying t = some (.struct fs)) (hl : laidF P fs.toList 0 (P.cellsOf t) = true) {ts : List TypeId} (hts : fs.toList.map (·.type) = ts) (h : OpensF P d wf ts)
    (g : β → α) (mk : α → β) (hg : ∀ a, g (mk a) = a) (hw : ∀ a, wf a → wf' (mk a)) : Opens P (Kd.iso d g) wf' t := by
  intro H enc w base spare held fuel cs x hT hz
  obtain ⟨xs, n, _, rfl, hlen, hxl, hf⟩ := DataW.trod_struct ht hT
  rw [← hlen] at hl
  have h1 := trodF_of (enc := enc) (w := w) (base := base) (spare := spare) (held := held) (m := n) fs.toList 0 xs hl (by rw [hxl]; exact Array.length_toList.symm) (fun i f hi => hf i f (by rw [← hi]; exact Array.getElem?_toList.symm))
  rw [hts, List.drop_zero] at h1
  simp only [DataW.weights, ht, hts] at hz
  obtain ⟨a, h2, h3⟩ := h H enc w base spare held n cs xs h1 hz
  exact ⟨mk a, by show d.K w (g (mk a)) cs; rw [hg]; exact h2, hw a h3⟩
/-- A struct argument of a row. -/
theorem Opens.arg {α : Type} {d : Kd α} {wf : α → Prop} (h : Opens P d wf t) {fs : Array Field} (hs : P.underlying t = some (.struct fs)) {H : Type} {enc : TypeId × Value → H} {W : World} {r : Reach} {b0 base : Nat} {spare : Nat → Bool} {held : Bool} {v : Value} {x : DataW H} {ps : List MemPlace}
    (hv : Value.okWide P W r b0 t v) (hT : DataW.Trod enc P W base spare held t v x ps) (hz : (x.weights P t).all (· ≤ reachBytes) = true) : ∃ a cs, v = .agg cs.toArray ∧ d.K W a cs ∧ wf a := by
  obtain ⟨cs, rfl, _⟩ := okWide_struct hs hv
  obtain ⟨fuel, hf⟩ := hT
  obtain ⟨a, h1, h2⟩ := h H enc W base spare held fuel _ _ hf hz
  exact ⟨a, cs.toList, by simp, by simpa [Value.cells] using h1, h2⟩
/-- A slice argument of a row. -/
theorem Opens.row {α : Type} {d : Kd α} {wf : α → Prop} {B : Nat} (h : Opens P d wf e) (hc : P.cellsOf e = d.sz) (hB : P.bytesOf e = B) (hs : P.underlying t = some (.slice e)) {H : Type} {enc : TypeId × Value → H} {W : World} {r : Reach} {b0 base : Nat} {spare : Nat → Bool} {held : Bool} {v : Value} {x : DataW H} {ps : List MemPlace}
    (hv : Value.okWide P W r b0 t v) (hT : DataW.Trod enc P W base spare held t v x ps) (hz : (x.weights P t).all (· ≤ reachBytes) = true) : ∃ l A c, v = .slice A (List.length l) c ∧ d.C W A l.length l ∧ wfL B wf l := by
  obtain ⟨A, n, c, rfl⟩ := okWide_slice hs hv
  obtain ⟨fuel, hf⟩ := hT
  obtain ⟨l, ⟨A', c', h1, _, h3⟩, h2⟩ := opens_slice (T := 0) hs hc hB h H enc W base spare held fuel _ _ hf hz
  simp only [Value.cells, List.cons.injEq, Value.slice.injEq, and_true] at h1
  obtain ⟨rfl, rfl, rfl⟩ := h1
  exact ⟨l, A, c, rfl, h3, h2⟩
end
set_option maxRecDepth 100000 in
theorem open_Grid : Opens Tryz.prog kGrid wfGrid 29 :=
  opens_struct Tryz.underlying29 (by kernel_rfl) (ts := [3, 3, 3]) rfl (opensF_cons (opens_int Tryz.underlying3) (opensF_cons (opens_int Tryz.underlying3) (opensF_one (opens_int Tryz.underlying3)))) _ (fun a => ⟨a.1, a.2.1, a.2.2⟩) (fun _ => rfl) (fun a h => ⟨h.1, h.2.1, h.2.2⟩)
set_option maxRecDepth 100000 in
theorem open_When : Opens Tryz.prog kWhen wfWhen 117 :=
  opens_struct Tryz.underlying117 (by kernel_rfl) (ts := [115, 5, 3, 3]) rfl (opensF_cons (opens_int Tryz.underlying115) (opensF_cons (opens_int Tryz.underlying5) (opensF_cons (opens_int Tryz.underlying3) (opensF_one (opens_int Tryz.underlying3))))) _ (fun a => ⟨a.1, a.2.1, a.2.2.1, a.2.2.2⟩) (fun _ => rfl) (fun a h => ⟨h.1, h.2.1, h.2.2.1, h.2.2.2⟩)
set_option maxRecDepth 100000 in
theorem open_Room : Opens Tryz.prog kRoom wfRoom 114 :=
  opens_struct Tryz.underlying114 (by kernel_rfl) (ts := [9, 3, 92, 112]) rfl (opensF_cons (opens_string Tryz.underlying9) (opensF_cons (opens_int Tryz.underlying3) (opensF_cons (opens_int Tryz.underlying92) (opensF_one (opens_slice Tryz.underlying112 (by kernel_rfl) (by kernel_rfl) open_When))))) _ (fun a => ⟨a.1, a.2.1, a.2.2.1, a.2.2.2⟩) (fun _ => rfl) (fun a h => ⟨h.1, h.2.1, h.2.2.1, h.2.2.2⟩)
set_option maxRecDepth 100000 in
theorem open_Person : Opens Tryz.prog kPerson wfPerson 128 :=
  opens_struct Tryz.underlying128 (by kernel_rfl) (ts := [9, 112]) rfl (opensF_cons (opens_string Tryz.underlying9) (opensF_one (opens_slice Tryz.underlying112 (by kernel_rfl) (by kernel_rfl) open_When))) _ (fun a => ⟨a.1, a.2⟩) (fun _ => rfl) (fun a h => ⟨h.1, h.2⟩)
set_option maxRecDepth 100000 in
theorem open_Time : Opens Tryz.prog kTime wfTime 120 :=
  opens_struct Tryz.underlying120 (by kernel_rfl) (ts := [117, 3]) rfl (opensF_cons open_When (opensF_one (opens_int Tryz.underlying3))) _ (fun a => ⟨a.1, a.2⟩) (fun _ => rfl) (fun a h => ⟨h.1, h.2⟩)
set_option maxRecDepth 100000 in
theorem open_Place : Opens Tryz.prog kPlace wfPlace 122 :=
  opens_struct Tryz.underlying122 (by kernel_rfl) (ts := [3, 3]) rfl (opensF_cons (opens_int Tryz.underlying3) (opensF_one (opens_int Tryz.underlying3))) _ (fun a => ⟨a.1, a.2⟩) (fun _ => rfl) (fun a h => ⟨h.1, h.2⟩)
set_option maxRecDepth 100000 in
theorem open_Class : Opens Tryz.prog kClass wfClass 96 :=
  opens_struct Tryz.underlying96 (by kernel_rfl) (ts := [9, 3, 92, 22, 93, 94, 3]) rfl (opensF_cons (opens_string Tryz.underlying9) (opensF_cons (opens_int Tryz.underlying3) (opensF_cons (opens_int Tryz.underlying92) (opensF_cons (opens_slice Tryz.underlying22 (by kernel_rfl) (by kernel_rfl) (opens_int Tryz.underlying3)) (opensF_cons (opens_slice Tryz.underlying93 (by kernel_rfl) (by kernel_rfl) open_Time) (opensF_cons (opens_slice Tryz.underlying94 (by kernel_rfl) (by kernel_rfl) open_Place) (opensF_one (opens_int Tryz.underlying3)))))))) _ (fun a => ⟨a.1, a.2.1, a.2.2.1, a.2.2.2.1, a.2.2.2.2.1, a.2.2.2.2.2.1, a.2.2.2.2.2.2⟩) (fun _ => rfl) (fun a h => ⟨h.1, h.2.1, h.2.2.1, h.2.2.2.1, h.2.2.2.2.1, h.2.2.2.2.2.1, h.2.2.2.2.2.2⟩)
set_option maxRecDepth 100000 in
theorem open_Way : Opens Tryz.prog kWay wfWay 138 :=
  opens_struct Tryz.underlying138 (by kernel_rfl) (ts := [31]) rfl (opensF_one (opens_slice Tryz.underlying31 (by kernel_rfl) (by kernel_rfl) (opens_slice Tryz.underlying22 (by kernel_rfl) (by kernel_rfl) (opens_int Tryz.underlying3)))) _ (fun a => ⟨a⟩) (fun _ => rfl) (fun a h => ⟨h⟩)
set_option maxRecDepth 100000 in
theorem open_Course : Opens Tryz.prog kCourse wfCourse 136 :=
  opens_struct Tryz.underlying136 (by kernel_rfl) (ts := [9, 134]) rfl (opensF_cons (opens_string Tryz.underlying9) (opensF_one (opens_slice Tryz.underlying134 (by kernel_rfl) (by kernel_rfl) open_Way))) _ (fun a => ⟨a.1, a.2⟩) (fun _ => rfl) (fun a h => ⟨h.1, h.2⟩)
set_option maxRecDepth 100000 in
theorem open_Student : Opens Tryz.prog kStudent wfStudent 130 :=
  opens_struct Tryz.underlying130 (by kernel_rfl) (ts := [9, 22]) rfl (opensF_cons (opens_string Tryz.underlying9) (opensF_one (opens_slice Tryz.underlying22 (by kernel_rfl) (by kernel_rfl) (opens_int Tryz.underlying3)))) _ (fun a => ⟨a.1, a.2⟩) (fun _ => rfl) (fun a h => ⟨h.1, h.2⟩)
set_option maxRecDepth 100000 in
theorem open_Rule : Opens Tryz.prog kRule wfRule 133 :=
  opens_struct Tryz.underlying133 (by kernel_rfl) (ts := [131, 22, 3, 3, 4, 3]) rfl (opensF_cons (opens_int Tryz.underlying131) (opensF_cons (opens_slice Tryz.underlying22 (by kernel_rfl) (by kernel_rfl) (opens_int Tryz.underlying3)) (opensF_cons (opens_int Tryz.underlying3) (opensF_cons (opens_int Tryz.underlying3) (opensF_cons (opens_bool Tryz.underlying4) (opensF_one (opens_int Tryz.underlying3))))))) _ (fun a => ⟨a.1, a.2.1, a.2.2.1, a.2.2.2.1, a.2.2.2.2.1, a.2.2.2.2.2⟩) (fun _ => rfl) (fun a h => ⟨h.1, h.2.1, h.2.2.1, h.2.2.2.1, h.2.2.2.2.1, h.2.2.2.2.2⟩)
set_option maxRecDepth 100000 in
theorem open_Weigh : Opens Tryz.prog kWeigh wfWeigh 38 :=
  opens_struct Tryz.underlying38 (by kernel_rfl) (ts := [3, 3, 3, 3]) rfl (opensF_cons (opens_int Tryz.underlying3) (opensF_cons (opens_int Tryz.underlying3) (opensF_cons (opens_int Tryz.underlying3) (opensF_one (opens_int Tryz.underlying3))))) _ (fun a => ⟨a.1, a.2.1, a.2.2.1, a.2.2.2⟩) (fun _ => rfl) (fun a h => ⟨h.1, h.2.1, h.2.2.1, h.2.2.2⟩)
set_option maxRecDepth 100000 in
theorem open_Problem : Opens Tryz.prog kProblem wfProblem 40 :=
  opens_struct Tryz.underlying40 (by kernel_rfl) (ts := [9, 29, 30, 31, 32, 33, 34, 35, 36, 38]) rfl (opensF_cons (opens_string Tryz.underlying9) (opensF_cons open_Grid (opensF_cons (opens_slice Tryz.underlying30 (by kernel_rfl) (by kernel_rfl) open_Room) (opensF_cons (opens_slice Tryz.underlying31 (by kernel_rfl) (by kernel_rfl) (opens_slice Tryz.underlying22 (by kernel_rfl) (by kernel_rfl) (opens_int Tryz.underlying3))) (opensF_cons (opens_slice Tryz.underlying32 (by kernel_rfl) (by kernel_rfl) open_Person) (opensF_cons (opens_slice Tryz.underlying33 (by kernel_rfl) (by kernel_rfl) open_Class) (opensF_cons (opens_slice Tryz.underlying34 (by kernel_rfl) (by kernel_rfl) open_Course) (opensF_cons (opens_slice Tryz.underlying35 (by kernel_rfl) (by kernel_rfl) open_Student) (opensF_cons (opens_slice Tryz.underlying36 (by kernel_rfl) (by kernel_rfl) open_Rule) (opensF_one open_Weigh)))))))))) _ (fun a => ⟨a.1, a.2.1, a.2.2.1, a.2.2.2.1, a.2.2.2.2.1, a.2.2.2.2.2.1, a.2.2.2.2.2.2.1, a.2.2.2.2.2.2.2.1, a.2.2.2.2.2.2.2.2.1, a.2.2.2.2.2.2.2.2.2⟩) (fun _ => rfl) (fun a h => ⟨h.1, h.2.1, h.2.2.1, h.2.2.2.1, h.2.2.2.2.1, h.2.2.2.2.2.1, h.2.2.2.2.2.2.1, h.2.2.2.2.2.2.2.1, h.2.2.2.2.2.2.2.2.1, h.2.2.2.2.2.2.2.2.2⟩)
set_option maxRecDepth 100000 in
theorem open_Seat : Opens Tryz.prog kSeat wfSeat 103 :=
  opens_struct Tryz.underlying103 (by kernel_rfl) (ts := [3, 3]) rfl (opensF_cons (opens_int Tryz.underlying3) (opensF_one (opens_int Tryz.underlying3))) _ (fun a => ⟨a.1, a.2⟩) (fun _ => rfl) (fun a h => ⟨h.1, h.2⟩)
set_option maxRecDepth 100000 in
theorem open_Choice : Opens Tryz.prog kChoice wfChoice 42 :=
  opens_struct Tryz.underlying42 (by kernel_rfl) (ts := [3, 4, 3]) rfl (opensF_cons (opens_int Tryz.underlying3) (opensF_cons (opens_bool Tryz.underlying4) (opensF_one (opens_int Tryz.underlying3)))) _ (fun a => ⟨a.1, a.2.1, a.2.2⟩) (fun _ => rfl) (fun a h => ⟨h.1, h.2.1, h.2.2⟩)
end Go.Proofs.YthalgemkblkhgaaGreat
