/- What stays while blocks of one's own are written: facts that do not hang on some blocks, rows whose elements are replaced one by one. slices.Clone at each element type that a problem has: a new row of the same elements. problem.rows: rows of numbers in new memory. Rows of one's own whose elements are replaced, while other facts are kept. Rows of one's own whose elements' own rows are replaced in their turn: a row with a hole, and what of a row is still as it came. -/
import Derived.Test.YthalgemkblkhgaaGreatQMA
import Derived.Lib.SliceRun
namespace Go.Proofs.YthalgemkblkhgaaGreat
open Go.RowKit Go.Proofs.YthalgemkblkhgaaGreatW.PrintWords Go.Proofs.YthalgemkblkhgaaGreatW.PrintLast
set_option linter.unusedVariables false
set_option linter.unusedSimpArgs false

/-- w' is w later on; of w's blocks those of S alone may have been written. -/
structure Off (S : Nat → Prop) (w w' : World) : Prop where
  os : w'.os = w.os
  tape : w'.tape = w.tape
  output : w'.output = w.output
  size : w.heap.size ≤ w'.heap.size
  block : ∀ k, k < w.heap.size → ¬ S k → w'.heap[k]? = w.heap[k]?
section
variable {S S' : Nat → Prop} {w w1 w2 : World}
theorem Off.refl : Off S w w := ⟨rfl, rfl, rfl, Nat.le_refl _, fun _ _ _ => rfl⟩
theorem Off.trans (h : Off S w w1) (k : Off S w1 w2) : Off S w w2 :=
  ⟨k.os.trans h.os, k.tape.trans h.tape, k.output.trans h.output, Nat.le_trans h.size k.size, fun i hi hS => (k.block i (Nat.lt_of_lt_of_le hi h.size) hS).trans (h.block i hi hS)⟩
theorem Off.mono (h : Off S w w1) (hS : ∀ k, S k → S' k) : Off S' w w1 := ⟨h.os, h.tape, h.output, h.size, fun k hk hn => h.block k hk (fun q => hn (hS k q))⟩
theorem Off.below (h : Off S w w1) {b : Nat} (hb : b ≤ w.heap.size) (hS : ∀ k, S k → b ≤ k) : Below b w w1 :=
  ⟨h.os, h.tape, h.output, h.size, fun k hk => h.block k (Nat.lt_of_lt_of_le hk hb) (fun q => by have := hS k q; omega)⟩
theorem off_below (h : Below w.heap.size w w1) : Off S w w1 := ⟨h.os, h.tape, h.output, h.size, fun k hk _ => h.block k hk⟩
theorem off_set (w : World) {B : Nat} (o : Nat) (u : Value) (hB : S B) : Off S w (w.setCell ⟨B, o, none⟩ u) :=
  ⟨rfl, rfl, rfl, by simp [World.setCell], fun k _ hk => Below.heap_setCell _ _ _ _ (fun e => hk (by subst e; exact hB))⟩
end
/-- Q holds now and later, whatever is written into the blocks S. -/
def St (S : Nat → Prop) (w : World) (Q : World → Prop) : Prop := ∀ w', Off S w w' → Q w'
section
variable {S S' : Nat → Prop} {w w1 w2 : World} {Q Q' : World → Prop}
theorem St.now (h : St S w Q) : Q w := h w Off.refl
theorem St.off (h : St S w Q) (ho : Off S w w1) : St S w1 Q := fun w' hw => h w' (ho.trans hw)
theorem St.imp (h : St S w Q) (hq : ∀ w', Q w' → Q' w') : St S w Q' := fun w' hw => hq w' (h w' hw)
theorem St.fresh (h : St S w Q) (ho : Off S w w1) (hS : ∀ k, S' k → S k ∨ w.heap.size ≤ k) : St S' w1 Q := fun w' hw =>
  h w' ⟨hw.os.trans ho.os, hw.tape.trans ho.tape, hw.output.trans ho.output, Nat.le_trans ho.size hw.size, fun k hk hn =>
    (hw.block k (Nat.lt_of_lt_of_le hk ho.size) (fun q => (hS k q).elim hn (fun q => by omega))).trans (ho.block k hk hn)⟩
theorem St.less (h : St S w Q) (hS : ∀ k, S' k → S k) : St S' w Q := fun w' hw => h w' (hw.mono hS)
theorem St.both (h : St S w Q) (h' : St S w Q') : St S w (fun w' => Q w' ∧ Q' w') := fun w' hw => ⟨h w' hw, h' w' hw⟩
end
/-- What a world of old says of a value holds on, whatever is written from there on. -/
theorem st_old {α : Type} {d : Kd α} {S : Nat → Prop} {W w : World} {A : Option Addr} {n : Nat} {l : List α} (h : d.C W A n l) (hb : Below W.heap.size W w) (hS : ∀ k, S k → W.heap.size ≤ k) : St S w (fun w' => d.C w' A n l) := fun w' hw =>
  Kd.C_below h ⟨hw.os.trans hb.os, hw.tape.trans hb.tape, hw.output.trans hb.output, Nat.le_trans hb.size hw.size, fun k hk =>
    (hw.block k (Nat.lt_of_lt_of_le hk hb.size) (fun q => by have := hS k q; omega)).trans (hb.block k hk)⟩

/-- Block B (cells of type T) holds the elements xs; they stay, whatever is written into the blocks S. -/
def OwnAt {α : Type} (d : Kd α) (T : Nat) (S : Nat → Prop) (w : World) (B : Nat) (xs : List α) : Prop :=
  ∃ cur : Array Value, w.heap[B]? = some (.cells cur T (0, 0)) ∧ ∀ j x, xs[j]? = some x → ∃ cs, (∀ i u, cs[i]? = some u → cur[j * d.sz + i]? = some u) ∧ St S w (fun w' => d.K w' x cs)
section
variable {α : Type} {d : Kd α} {T : Nat} {S S' : Nat → Prop} {w w1 : World} {B : Nat} {xs : List α}
theorem OwnAt.lt (h : OwnAt d T S w B xs) : B < w.heap.size := by
  obtain ⟨cur, hc, _⟩ := h
  exact blk_lt hc
theorem OwnAt.off (h : OwnAt d T S w B xs) (ho : Off S w w1) (hB : w1.heap[B]? = w.heap[B]?) : OwnAt d T S w1 B xs := by
  obtain ⟨cur, hc, hx⟩ := h
  refine ⟨cur, hB.trans hc, fun j x hj => ?_⟩
  obtain ⟨cs, h1, h2⟩ := hx j x hj
  exact ⟨cs, h1, h2.off ho⟩
theorem OwnAt.below (h : OwnAt d T S w B xs) (hb : Below w.heap.size w w1) : OwnAt d T S w1 B xs := h.off (off_below hb) (hb.block B h.lt)
theorem OwnAt.fresh (h : OwnAt d T S w B xs) (hb : Off S w w1) (hB : w1.heap[B]? = w.heap[B]?) (hS : ∀ k, S' k → S k ∨ w.heap.size ≤ k) : OwnAt d T S' w1 B xs := by
  obtain ⟨cur, hc, hx⟩ := h
  refine ⟨cur, hB.trans hc, fun j x hj => ?_⟩
  obtain ⟨cs, h1, h2⟩ := hx j x hj
  exact ⟨cs, h1, h2.fresh hb hS⟩
theorem OwnAt.open_ (h : OwnAt d T S w B xs) {j : Nat} {x : α} (hx : xs[j]? = some x) : ∃ cs, (∀ i u, cs[i]? = some u → w.cell? ⟨B, j * d.sz + i, none⟩ = some u) ∧ (∀ i, w.frozen? ⟨B, i, none⟩ = false) ∧ St S w (fun w' => d.K w' x cs) := by
  obtain ⟨cur, hc, hk⟩ := h
  obtain ⟨cs, h1, h2⟩ := hk j x hx
  exact ⟨cs, fun i u hu => (blk_cell hc _).trans (h1 i u hu), fun i => blk_frozen hc _, h2⟩
theorem OwnAt.set_ (h : OwnAt d T S w B xs) (hB : S B) {j : Nat} {x : α} (hx : xs[j]? = some x) {cs : List Value} (hl : cs.length = d.sz) (hcell : ∀ i u, cs[i]? = some u → w.cell? ⟨B, j * d.sz + i, none⟩ = some u)
    (o : Nat) (v : Value) (ho : o < d.sz) (hK : St S w (fun w' => d.K w' x (cs.set o v))) : OwnAt d T S (w.setCell ⟨B, j * d.sz + o, none⟩ v) B xs := by
  obtain ⟨cur, hc, hk⟩ := h
  have hoff : Off S w (w.setCell ⟨B, j * d.sz + o, none⟩ v) := off_set w _ _ hB
  refine ⟨_, blk_set hc _ _, fun j' x' hj' => ?_⟩
  by_cases hjj : j' = j
  · subst hjj
    rw [hx] at hj'
    cases hj'
    refine ⟨cs.set o v, fun i u hu => ?_, hK.off hoff⟩
    rw [Array.getElem?_setIfInBounds]
    rw [List.getElem?_set] at hu
    have hcur : ∀ i u, cs[i]? = some u → cur[j' * d.sz + i]? = some u := fun i u hu => (blk_cell hc _).symm.trans (hcell i u hu)
    by_cases hio : i = o
    · subst hio
      have h1 : i < cs.length := by omega
      rw [if_pos rfl, if_pos h1] at hu
      cases hu
      have h2 := hcur i _ (List.getElem?_eq_getElem h1)
      have h3 : j' * d.sz + i < cur.size := (Array.getElem?_eq_some_iff.1 h2).1
      rw [if_pos rfl, if_pos h3]
    · rw [if_neg (fun e => hio e.symm)] at hu
      rw [if_neg (by omega)]
      exact hcur i u hu
  · obtain ⟨cs', h1, h2⟩ := hk j' x' hj'
    refine ⟨cs', fun i u hu => ?_, h2.off hoff⟩
    have hi : i < d.sz := by
      have := d.K_len h2.now
      have := (List.getElem?_eq_some_iff.1 hu).1
      omega
    rw [Array.getElem?_setIfInBounds, if_neg, h1 i u hu]
    intro e
    rcases Nat.lt_or_gt_of_ne hjj with q | q
    · have : (j' + 1) * d.sz ≤ j * d.sz := Nat.mul_le_mul_right _ q
      rw [Nat.succ_mul] at this
      omega
    · have : (j + 1) * d.sz ≤ j' * d.sz := Nat.mul_le_mul_right _ q
      rw [Nat.succ_mul] at this
      omega
theorem OwnAt.C (h : OwnAt d T S w B xs) (hS : ∀ k, S' k → S k) (hB : ¬ S' B) (hl : xs.length ≤ 9223372036854775807) : St S' w (fun w' => d.C w' (some ⟨B, 0, none⟩) xs.length xs) := by
  intro w' hw
  obtain ⟨cur, hc, hx⟩ := h
  have hc' : w'.heap[B]? = some (.cells cur T (0, 0)) := (hw.block B (blk_lt hc) hB).trans hc
  refine ⟨rfl, hl, fun hp => ⟨_, rfl, fun j x hj => ?_⟩⟩
  obtain ⟨cs, h1, h2⟩ := hx j x hj
  have hK := h2 w' (hw.mono hS)
  refine ⟨cs, d.K_len hK, hK, fun i u hu => ?_⟩
  rw [add_plain]
  exact (blk_cell hc' _).trans (h1 i u hu)
theorem own_seg {cur : Array Value} {inner : List Value} {n sz : Nat} (ht : cur.toList.take n = inner) (j : Nat) : ∀ i u, ((inner.drop (j * sz)).take sz)[i]? = some u → cur[j * sz + i]? = some u := by
  intro i u hu
  rw [List.getElem?_take] at hu
  split at hu
  · rw [List.getElem?_drop, ← ht, List.getElem?_take] at hu
    split at hu
    · rwa [Array.getElem?_toList] at hu
    · cases hu
  · cases hu
def Or1 (S : Nat → Prop) (B : Nat) : Nat → Prop := fun k => S k ∨ k = B
/-- A row just made of elements that an elder world told. -/
theorem ownAt_new {R : α → List Value → Prop} {base : Nat} {v : Value} {xs : List α} (h : OwnRow R T d.sz w base v xs) (hp : 0 < xs.length) (hR : ∀ B, base ≤ B → B < w.heap.size → ∀ x cs, R x cs → St (Or1 S B) w (fun w' => d.K w' x cs)) :
    ∃ B c, v = .slice (some ⟨B, 0, none⟩) xs.length c ∧ xs.length ≤ c ∧ base ≤ B ∧ OwnAt d T (Or1 S B) w B xs := by
  obtain ⟨inner, ho, hr⟩ := h
  rcases ho.2 with ⟨_, hn⟩ | ⟨g, cap, cur, hv, hb, hh, hnc, _, hcs, ht⟩
  · omega
  exact ⟨g, cap, hv, hnc, hb, cur, hh, fun j x hj => ⟨(inner.drop (j * d.sz)).take d.sz, own_seg ht j, hR g hb (blk_lt hh) _ _ (hr.2 j x hj)⟩⟩
theorem ownAt_none {R : α → List Value → Prop} {base : Nat} {v : Value} (h : OwnRow R T d.sz w base v ([] : List α)) : ∃ A c, v = .slice A 0 c ∧ 0 ≤ c := by
  obtain ⟨inner, ho, hr⟩ := h
  rcases ho.2 with ⟨hv, hn⟩ | ⟨g, cap, cur, hv, hb, hh, hnc, _, hcs, ht⟩
  · exact ⟨none, 0, hv, Nat.le_refl _⟩
  · exact ⟨_, _, hv, Nat.zero_le _⟩
theorem st_nil (A : Option Addr) : St S w (fun w' => d.C w' A 0 ([] : List α)) := fun w' _ => ⟨rfl, by omega, fun h => absurd h (by omega)⟩
/-- A row just made of elements that hang on no world. -/
theorem st_own {R : α → List Value → Prop} {base : Nat} {v : Value} {xs : List α} (h : OwnRow R T d.sz w base v xs) (hS : ∀ k, S k → k < base) (hR : ∀ x cs, R x cs → St S w (fun w' => d.K w' x cs)) (hl : xs.length ≤ 9223372036854775807) :
    ∃ A c, v = .slice A xs.length c ∧ xs.length ≤ c ∧ St S w (fun w' => d.C w' A xs.length xs) := by
  rcases Nat.eq_zero_or_pos xs.length with h0 | hp
  · obtain rfl : xs = [] := List.eq_nil_of_length_eq_zero h0
    obtain ⟨A, c, hv, hc⟩ := ownAt_none h
    exact ⟨A, c, hv, hc, st_nil A⟩
  · obtain ⟨inner, ho, hr⟩ := h
    rcases ho.2 with ⟨_, hn⟩ | ⟨g, cap, cur, hv, hb, hh, hnc, _, hcs, ht⟩
    · omega
    have hO : OwnAt d T S w g xs := ⟨cur, hh, fun j x hj => ⟨(inner.drop (j * d.sz)).take d.sz, own_seg ht j, hR _ _ (hr.2 j x hj)⟩⟩
    exact ⟨_, cap, hv, hnc, hO.C (fun _ h => h) (fun q => by have := hS g q; omega) hl⟩
end
end Go.Proofs.YthalgemkblkhgaaGreat
namespace Go.Proofs.YthalgemkblkhgaaGreat
open Go.RowKit Go.Proofs.YthalgemkblkhgaaGreatW.PrintWords Go.Proofs.YthalgemkblkhgaaGreatW.PrintLast
set_option linter.unusedVariables false
set_option linter.unusedSimpArgs false

theorem reps_one {α : Type} {R : α → List Value → Prop} {sz : Nat} (hs0 : 0 < sz) (hR1 : ∀ x cs, R x cs → ∀ u ∈ cs, u.oneCell' = true) {l : List α} {news : List Value} (h : Reps R sz l news) : ∀ u ∈ news, u.oneCell' = true := by
  intro u hu
  obtain ⟨q, hq, rfl⟩ := List.mem_iff_getElem.1 hu
  have hql : q / sz < l.length := by
    rw [Nat.div_lt_iff_lt_mul hs0, ← h.1]
    exact hq
  have hc := h.2 (q / sz) _ (List.getElem?_eq_getElem hql)
  refine hR1 _ _ hc _ ?_
  rw [List.mem_iff_getElem?]
  refine ⟨q % sz, ?_⟩
  rw [List.getElem?_take, if_pos (Nat.mod_lt _ hs0), List.getElem?_drop, Nat.mul_comm, Nat.div_add_mod, List.getElem?_eq_getElem hq]

set_option maxRecDepth 100000 in
set_option maxHeartbeats 2000000 in
theorem clone_int (R : Int → List Value → Prop) (hR1 : ∀ x cs, R x cs → ∀ u ∈ cs, u.oneCell' = true) (l : List (Int)) (A : Option Addr) (c : Nat) (w : World) (hA : ReadsRow R 1 w A l.length l) (hb : l.length * 8 ≤ 140737488355328) :
    Calls Tryz.prog 44 #[.slice A l.length c] w fun e w' => (∃ v, e = .returned v ∧ OwnRow R 3 1 w' w.heap.size v l) ∧ Below w.heap.size w w' := by
  have q : ∀ (w : World) (a : Option Addr) (n c n' c' : Nat), (binOp .eql 22 (.slice a n c) (.slice none n' c')).run Tryz.prog w = .ok (.bool a.isNone) w := fun w a n c n' c' => Lib.run_eql_slice_nil w _ _ a n c n' c' Tryz.underlying22
  rcases A with _ | ad
  · have h0 : l = [] := by
      rcases l with _ | ⟨x, l⟩
      · rfl
      · obtain ⟨ad, h, _⟩ := hA.2.2 (Nat.succ_pos _)
        cases h
    subst h0
    clear hA
    go_enter Tryz.func44, Tryz.ntmps44
    go_wp2
    go_ret
    exact ⟨⟨_, rfl, OwnRow.none_ _ _ _ _ _⟩, Below.refl _ _⟩
  · obtain ⟨news, hr, hc⟩ := ReadsRow.inner_ hA
    have hone := Aside0.mk (reps_one (by decide) hR1 hr)
    have HC := Aside0.mk hc
    have HR := Aside0.mk hr
    have hmax := hA.2.1
    clear hA hc hr
    obtain ⟨z, i0, hi, hz0, hz1, hz2, hz3⟩ : ∃ z i0, (Tryz.prog).info? 3 = some i0 ∧ i0.zero = some z ∧ i0.size = 1 ∧ i0.bytes = 8 ∧ z.cells.size = 1 := ⟨_, _, rfl, rfl, rfl, rfl, rfl⟩
    have HI := Aside0.mk (And.intro hi (And.intro hz0 (And.intro hz1 (And.intro hz2 hz3))))
    clear hi hz0 hz1 hz2 hz3
    go_enter Tryz.func44, Tryz.ntmps44
    go_wp2_with (at_builtin; refine wpList_append_own _ rfl _ _ 22 rfl w.heap.size 3 i0 z 1 8 Tryz.underlying22 HI.out.1 HI.out.2.1 HI.out.2.2.1 HI.out.2.2.2.1 HI.out.2.2.2.2 (by decide) _ _ _ rfl (World.ownsRow_made w #[] 0 (Nat.le_refl _) (Nat.zero_le _) rfl) ad l.length c news rfl ?qc1 ?qc2 ?qc3 ?qc4 ?qc5 ?qc6 ?_)
    case qc1 => exact HR.out.1
    case qc2 => intro j u hj; exact Lib.cell?_alloc_some _ (HC.out j u hj)
    case qc3 => exact hone.out
    case qc4 => unfold maxLen; omega
    case qc5 => omega
    case qc6 => simp
    intro v' w1 hown hgrow hnil
    go_wp2
    go_ret
    refine ⟨⟨v', rfl, news, by simpa using hown, HR.out⟩, ?_⟩
    exact ((Below.refl _ w).alloc (Nat.le_refl _) _).grown hgrow (by simp) (by intro k hk; simp [Value.ownBlock] at hk; omega)
set_option maxRecDepth 100000 in
set_option maxHeartbeats 2000000 in
theorem clone_Ints (R : List Int → List Value → Prop) (hR1 : ∀ x cs, R x cs → ∀ u ∈ cs, u.oneCell' = true) (l : List (List Int)) (A : Option Addr) (c : Nat) (w : World) (hA : ReadsRow R 1 w A l.length l) (hb : l.length * 24 ≤ 140737488355328) :
    Calls Tryz.prog 152 #[.slice A l.length c] w fun e w' => (∃ v, e = .returned v ∧ OwnRow R 22 1 w' w.heap.size v l) ∧ Below w.heap.size w w' := by
  have q : ∀ (w : World) (a : Option Addr) (n c n' c' : Nat), (binOp .eql 31 (.slice a n c) (.slice none n' c')).run Tryz.prog w = .ok (.bool a.isNone) w := fun w a n c n' c' => Lib.run_eql_slice_nil w _ _ a n c n' c' Tryz.underlying31
  rcases A with _ | ad
  · have h0 : l = [] := by
      rcases l with _ | ⟨x, l⟩
      · rfl
      · obtain ⟨ad, h, _⟩ := hA.2.2 (Nat.succ_pos _)
        cases h
    subst h0
    clear hA
    go_enter Tryz.func152, Tryz.ntmps152
    go_wp2
    go_ret
    exact ⟨⟨_, rfl, OwnRow.none_ _ _ _ _ _⟩, Below.refl _ _⟩
  · obtain ⟨news, hr, hc⟩ := ReadsRow.inner_ hA
    have hone := Aside0.mk (reps_one (by decide) hR1 hr)
    have HC := Aside0.mk hc
    have HR := Aside0.mk hr
    have hmax := hA.2.1
    clear hA hc hr
    obtain ⟨z, i0, hi, hz0, hz1, hz2, hz3⟩ : ∃ z i0, (Tryz.prog).info? 22 = some i0 ∧ i0.zero = some z ∧ i0.size = 1 ∧ i0.bytes = 24 ∧ z.cells.size = 1 := ⟨_, _, rfl, rfl, rfl, rfl, rfl⟩
    have HI := Aside0.mk (And.intro hi (And.intro hz0 (And.intro hz1 (And.intro hz2 hz3))))
    clear hi hz0 hz1 hz2 hz3
    go_enter Tryz.func152, Tryz.ntmps152
    go_wp2_with (at_builtin; refine wpList_append_own _ rfl _ _ 31 rfl w.heap.size 22 i0 z 1 24 Tryz.underlying31 HI.out.1 HI.out.2.1 HI.out.2.2.1 HI.out.2.2.2.1 HI.out.2.2.2.2 (by decide) _ _ _ rfl (World.ownsRow_made w #[] 0 (Nat.le_refl _) (Nat.zero_le _) rfl) ad l.length c news rfl ?qc1 ?qc2 ?qc3 ?qc4 ?qc5 ?qc6 ?_)
    case qc1 => exact HR.out.1
    case qc2 => intro j u hj; exact Lib.cell?_alloc_some _ (HC.out j u hj)
    case qc3 => exact hone.out
    case qc4 => unfold maxLen; omega
    case qc5 => omega
    case qc6 => simp
    intro v' w1 hown hgrow hnil
    go_wp2
    go_ret
    refine ⟨⟨v', rfl, news, by simpa using hown, HR.out⟩, ?_⟩
    exact ((Below.refl _ w).alloc (Nat.le_refl _) _).grown hgrow (by simp) (by intro k hk; simp [Value.ownBlock] at hk; omega)
set_option maxRecDepth 100000 in
set_option maxHeartbeats 2000000 in
theorem clone_Room (R : Room → List Value → Prop) (hR1 : ∀ x cs, R x cs → ∀ u ∈ cs, u.oneCell' = true) (l : List (Room)) (A : Option Addr) (c : Nat) (w : World) (hA : ReadsRow R 4 w A l.length l) (hb : l.length * 56 ≤ 140737488355328) :
    Calls Tryz.prog 78 #[.slice A l.length c] w fun e w' => (∃ v, e = .returned v ∧ OwnRow R 114 4 w' w.heap.size v l) ∧ Below w.heap.size w w' := by
  have q : ∀ (w : World) (a : Option Addr) (n c n' c' : Nat), (binOp .eql 30 (.slice a n c) (.slice none n' c')).run Tryz.prog w = .ok (.bool a.isNone) w := fun w a n c n' c' => Lib.run_eql_slice_nil w _ _ a n c n' c' Tryz.underlying30
  rcases A with _ | ad
  · have h0 : l = [] := by
      rcases l with _ | ⟨x, l⟩
      · rfl
      · obtain ⟨ad, h, _⟩ := hA.2.2 (Nat.succ_pos _)
        cases h
    subst h0
    clear hA
    go_enter Tryz.func78, Tryz.ntmps78
    go_wp2
    go_ret
    exact ⟨⟨_, rfl, OwnRow.none_ _ _ _ _ _⟩, Below.refl _ _⟩
  · obtain ⟨news, hr, hc⟩ := ReadsRow.inner_ hA
    have hone := Aside0.mk (reps_one (by decide) hR1 hr)
    have HC := Aside0.mk hc
    have HR := Aside0.mk hr
    have hmax := hA.2.1
    clear hA hc hr
    obtain ⟨z, i0, hi, hz0, hz1, hz2, hz3⟩ : ∃ z i0, (Tryz.prog).info? 114 = some i0 ∧ i0.zero = some z ∧ i0.size = 4 ∧ i0.bytes = 56 ∧ z.cells.size = 4 := ⟨_, _, rfl, rfl, rfl, rfl, rfl⟩
    have HI := Aside0.mk (And.intro hi (And.intro hz0 (And.intro hz1 (And.intro hz2 hz3))))
    clear hi hz0 hz1 hz2 hz3
    go_enter Tryz.func78, Tryz.ntmps78
    go_wp2_with (at_builtin; refine wpList_append_own _ rfl _ _ 30 rfl w.heap.size 114 i0 z 4 56 Tryz.underlying30 HI.out.1 HI.out.2.1 HI.out.2.2.1 HI.out.2.2.2.1 HI.out.2.2.2.2 (by decide) _ _ _ rfl (World.ownsRow_made w #[] 0 (Nat.le_refl _) (Nat.zero_le _) rfl) ad l.length c news rfl ?qc1 ?qc2 ?qc3 ?qc4 ?qc5 ?qc6 ?_)
    case qc1 => exact HR.out.1
    case qc2 => intro j u hj; exact Lib.cell?_alloc_some _ (HC.out j u hj)
    case qc3 => exact hone.out
    case qc4 => unfold maxLen; omega
    case qc5 => omega
    case qc6 => simp
    intro v' w1 hown hgrow hnil
    go_wp2
    go_ret
    refine ⟨⟨v', rfl, news, by simpa using hown, HR.out⟩, ?_⟩
    exact ((Below.refl _ w).alloc (Nat.le_refl _) _).grown hgrow (by simp) (by intro k hk; simp [Value.ownBlock] at hk; omega)
set_option maxRecDepth 100000 in
set_option maxHeartbeats 2000000 in
theorem clone_When (R : When → List Value → Prop) (hR1 : ∀ x cs, R x cs → ∀ u ∈ cs, u.oneCell' = true) (l : List (When)) (A : Option Addr) (c : Nat) (w : World) (hA : ReadsRow R 4 w A l.length l) (hb : l.length * 24 ≤ 140737488355328) :
    Calls Tryz.prog 79 #[.slice A l.length c] w fun e w' => (∃ v, e = .returned v ∧ OwnRow R 117 4 w' w.heap.size v l) ∧ Below w.heap.size w w' := by
  have q : ∀ (w : World) (a : Option Addr) (n c n' c' : Nat), (binOp .eql 112 (.slice a n c) (.slice none n' c')).run Tryz.prog w = .ok (.bool a.isNone) w := fun w a n c n' c' => Lib.run_eql_slice_nil w _ _ a n c n' c' Tryz.underlying112
  rcases A with _ | ad
  · have h0 : l = [] := by
      rcases l with _ | ⟨x, l⟩
      · rfl
      · obtain ⟨ad, h, _⟩ := hA.2.2 (Nat.succ_pos _)
        cases h
    subst h0
    clear hA
    go_enter Tryz.func79, Tryz.ntmps79
    go_wp2
    go_ret
    exact ⟨⟨_, rfl, OwnRow.none_ _ _ _ _ _⟩, Below.refl _ _⟩
  · obtain ⟨news, hr, hc⟩ := ReadsRow.inner_ hA
    have hone := Aside0.mk (reps_one (by decide) hR1 hr)
    have HC := Aside0.mk hc
    have HR := Aside0.mk hr
    have hmax := hA.2.1
    clear hA hc hr
    obtain ⟨z, i0, hi, hz0, hz1, hz2, hz3⟩ : ∃ z i0, (Tryz.prog).info? 117 = some i0 ∧ i0.zero = some z ∧ i0.size = 4 ∧ i0.bytes = 24 ∧ z.cells.size = 4 := ⟨_, _, rfl, rfl, rfl, rfl, rfl⟩
    have HI := Aside0.mk (And.intro hi (And.intro hz0 (And.intro hz1 (And.intro hz2 hz3))))
    clear hi hz0 hz1 hz2 hz3
    go_enter Tryz.func79, Tryz.ntmps79
    go_wp2_with (at_builtin; refine wpList_append_own _ rfl _ _ 112 rfl w.heap.size 117 i0 z 4 24 Tryz.underlying112 HI.out.1 HI.out.2.1 HI.out.2.2.1 HI.out.2.2.2.1 HI.out.2.2.2.2 (by decide) _ _ _ rfl (World.ownsRow_made w #[] 0 (Nat.le_refl _) (Nat.zero_le _) rfl) ad l.length c news rfl ?qc1 ?qc2 ?qc3 ?qc4 ?qc5 ?qc6 ?_)
    case qc1 => exact HR.out.1
    case qc2 => intro j u hj; exact Lib.cell?_alloc_some _ (HC.out j u hj)
    case qc3 => exact hone.out
    case qc4 => unfold maxLen; omega
    case qc5 => omega
    case qc6 => simp
    intro v' w1 hown hgrow hnil
    go_wp2
    go_ret
    refine ⟨⟨v', rfl, news, by simpa using hown, HR.out⟩, ?_⟩
    exact ((Below.refl _ w).alloc (Nat.le_refl _) _).grown hgrow (by simp) (by intro k hk; simp [Value.ownBlock] at hk; omega)
set_option maxRecDepth 100000 in
set_option maxHeartbeats 2000000 in
theorem clone_Person (R : Person → List Value → Prop) (hR1 : ∀ x cs, R x cs → ∀ u ∈ cs, u.oneCell' = true) (l : List (Person)) (A : Option Addr) (c : Nat) (w : World) (hA : ReadsRow R 2 w A l.length l) (hb : l.length * 40 ≤ 140737488355328) :
    Calls Tryz.prog 81 #[.slice A l.length c] w fun e w' => (∃ v, e = .returned v ∧ OwnRow R 128 2 w' w.heap.size v l) ∧ Below w.heap.size w w' := by
  have q : ∀ (w : World) (a : Option Addr) (n c n' c' : Nat), (binOp .eql 32 (.slice a n c) (.slice none n' c')).run Tryz.prog w = .ok (.bool a.isNone) w := fun w a n c n' c' => Lib.run_eql_slice_nil w _ _ a n c n' c' Tryz.underlying32
  rcases A with _ | ad
  · have h0 : l = [] := by
      rcases l with _ | ⟨x, l⟩
      · rfl
      · obtain ⟨ad, h, _⟩ := hA.2.2 (Nat.succ_pos _)
        cases h
    subst h0
    clear hA
    go_enter Tryz.func81, Tryz.ntmps81
    go_wp2
    go_ret
    exact ⟨⟨_, rfl, OwnRow.none_ _ _ _ _ _⟩, Below.refl _ _⟩
  · obtain ⟨news, hr, hc⟩ := ReadsRow.inner_ hA
    have hone := Aside0.mk (reps_one (by decide) hR1 hr)
    have HC := Aside0.mk hc
    have HR := Aside0.mk hr
    have hmax := hA.2.1
    clear hA hc hr
    obtain ⟨z, i0, hi, hz0, hz1, hz2, hz3⟩ : ∃ z i0, (Tryz.prog).info? 128 = some i0 ∧ i0.zero = some z ∧ i0.size = 2 ∧ i0.bytes = 40 ∧ z.cells.size = 2 := ⟨_, _, rfl, rfl, rfl, rfl, rfl⟩
    have HI := Aside0.mk (And.intro hi (And.intro hz0 (And.intro hz1 (And.intro hz2 hz3))))
    clear hi hz0 hz1 hz2 hz3
    go_enter Tryz.func81, Tryz.ntmps81
    go_wp2_with (at_builtin; refine wpList_append_own _ rfl _ _ 32 rfl w.heap.size 128 i0 z 2 40 Tryz.underlying32 HI.out.1 HI.out.2.1 HI.out.2.2.1 HI.out.2.2.2.1 HI.out.2.2.2.2 (by decide) _ _ _ rfl (World.ownsRow_made w #[] 0 (Nat.le_refl _) (Nat.zero_le _) rfl) ad l.length c news rfl ?qc1 ?qc2 ?qc3 ?qc4 ?qc5 ?qc6 ?_)
    case qc1 => exact HR.out.1
    case qc2 => intro j u hj; exact Lib.cell?_alloc_some _ (HC.out j u hj)
    case qc3 => exact hone.out
    case qc4 => unfold maxLen; omega
    case qc5 => omega
    case qc6 => simp
    intro v' w1 hown hgrow hnil
    go_wp2
    go_ret
    refine ⟨⟨v', rfl, news, by simpa using hown, HR.out⟩, ?_⟩
    exact ((Below.refl _ w).alloc (Nat.le_refl _) _).grown hgrow (by simp) (by intro k hk; simp [Value.ownBlock] at hk; omega)
set_option maxRecDepth 100000 in
set_option maxHeartbeats 2000000 in
theorem clone_Class (R : Class → List Value → Prop) (hR1 : ∀ x cs, R x cs → ∀ u ∈ cs, u.oneCell' = true) (l : List (Class)) (A : Option Addr) (c : Nat) (w : World) (hA : ReadsRow R 7 w A l.length l) (hb : l.length * 112 ≤ 140737488355328) :
    Calls Tryz.prog 82 #[.slice A l.length c] w fun e w' => (∃ v, e = .returned v ∧ OwnRow R 96 7 w' w.heap.size v l) ∧ Below w.heap.size w w' := by
  have q : ∀ (w : World) (a : Option Addr) (n c n' c' : Nat), (binOp .eql 33 (.slice a n c) (.slice none n' c')).run Tryz.prog w = .ok (.bool a.isNone) w := fun w a n c n' c' => Lib.run_eql_slice_nil w _ _ a n c n' c' Tryz.underlying33
  rcases A with _ | ad
  · have h0 : l = [] := by
      rcases l with _ | ⟨x, l⟩
      · rfl
      · obtain ⟨ad, h, _⟩ := hA.2.2 (Nat.succ_pos _)
        cases h
    subst h0
    clear hA
    go_enter Tryz.func82, Tryz.ntmps82
    go_wp2
    go_ret
    exact ⟨⟨_, rfl, OwnRow.none_ _ _ _ _ _⟩, Below.refl _ _⟩
  · obtain ⟨news, hr, hc⟩ := ReadsRow.inner_ hA
    have hone := Aside0.mk (reps_one (by decide) hR1 hr)
    have HC := Aside0.mk hc
    have HR := Aside0.mk hr
    have hmax := hA.2.1
    clear hA hc hr
    obtain ⟨z, i0, hi, hz0, hz1, hz2, hz3⟩ : ∃ z i0, (Tryz.prog).info? 96 = some i0 ∧ i0.zero = some z ∧ i0.size = 7 ∧ i0.bytes = 112 ∧ z.cells.size = 7 := ⟨_, _, rfl, rfl, rfl, rfl, rfl⟩
    have HI := Aside0.mk (And.intro hi (And.intro hz0 (And.intro hz1 (And.intro hz2 hz3))))
    clear hi hz0 hz1 hz2 hz3
    go_enter Tryz.func82, Tryz.ntmps82
    go_wp2_with (at_builtin; refine wpList_append_own _ rfl _ _ 33 rfl w.heap.size 96 i0 z 7 112 Tryz.underlying33 HI.out.1 HI.out.2.1 HI.out.2.2.1 HI.out.2.2.2.1 HI.out.2.2.2.2 (by decide) _ _ _ rfl (World.ownsRow_made w #[] 0 (Nat.le_refl _) (Nat.zero_le _) rfl) ad l.length c news rfl ?qc1 ?qc2 ?qc3 ?qc4 ?qc5 ?qc6 ?_)
    case qc1 => exact HR.out.1
    case qc2 => intro j u hj; exact Lib.cell?_alloc_some _ (HC.out j u hj)
    case qc3 => exact hone.out
    case qc4 => unfold maxLen; omega
    case qc5 => omega
    case qc6 => simp
    intro v' w1 hown hgrow hnil
    go_wp2
    go_ret
    refine ⟨⟨v', rfl, news, by simpa using hown, HR.out⟩, ?_⟩
    exact ((Below.refl _ w).alloc (Nat.le_refl _) _).grown hgrow (by simp) (by intro k hk; simp [Value.ownBlock] at hk; omega)
set_option maxRecDepth 100000 in
set_option maxHeartbeats 2000000 in
theorem clone_Time (R : Time → List Value → Prop) (hR1 : ∀ x cs, R x cs → ∀ u ∈ cs, u.oneCell' = true) (l : List (Time)) (A : Option Addr) (c : Nat) (w : World) (hA : ReadsRow R 5 w A l.length l) (hb : l.length * 32 ≤ 140737488355328) :
    Calls Tryz.prog 83 #[.slice A l.length c] w fun e w' => (∃ v, e = .returned v ∧ OwnRow R 120 5 w' w.heap.size v l) ∧ Below w.heap.size w w' := by
  have q : ∀ (w : World) (a : Option Addr) (n c n' c' : Nat), (binOp .eql 93 (.slice a n c) (.slice none n' c')).run Tryz.prog w = .ok (.bool a.isNone) w := fun w a n c n' c' => Lib.run_eql_slice_nil w _ _ a n c n' c' Tryz.underlying93
  rcases A with _ | ad
  · have h0 : l = [] := by
      rcases l with _ | ⟨x, l⟩
      · rfl
      · obtain ⟨ad, h, _⟩ := hA.2.2 (Nat.succ_pos _)
        cases h
    subst h0
    clear hA
    go_enter Tryz.func83, Tryz.ntmps83
    go_wp2
    go_ret
    exact ⟨⟨_, rfl, OwnRow.none_ _ _ _ _ _⟩, Below.refl _ _⟩
  · obtain ⟨news, hr, hc⟩ := ReadsRow.inner_ hA
    have hone := Aside0.mk (reps_one (by decide) hR1 hr)
    have HC := Aside0.mk hc
    have HR := Aside0.mk hr
    have hmax := hA.2.1
    clear hA hc hr
    obtain ⟨z, i0, hi, hz0, hz1, hz2, hz3⟩ : ∃ z i0, (Tryz.prog).info? 120 = some i0 ∧ i0.zero = some z ∧ i0.size = 5 ∧ i0.bytes = 32 ∧ z.cells.size = 5 := ⟨_, _, rfl, rfl, rfl, rfl, rfl⟩
    have HI := Aside0.mk (And.intro hi (And.intro hz0 (And.intro hz1 (And.intro hz2 hz3))))
    clear hi hz0 hz1 hz2 hz3
    go_enter Tryz.func83, Tryz.ntmps83
    go_wp2_with (at_builtin; refine wpList_append_own _ rfl _ _ 93 rfl w.heap.size 120 i0 z 5 32 Tryz.underlying93 HI.out.1 HI.out.2.1 HI.out.2.2.1 HI.out.2.2.2.1 HI.out.2.2.2.2 (by decide) _ _ _ rfl (World.ownsRow_made w #[] 0 (Nat.le_refl _) (Nat.zero_le _) rfl) ad l.length c news rfl ?qc1 ?qc2 ?qc3 ?qc4 ?qc5 ?qc6 ?_)
    case qc1 => exact HR.out.1
    case qc2 => intro j u hj; exact Lib.cell?_alloc_some _ (HC.out j u hj)
    case qc3 => exact hone.out
    case qc4 => unfold maxLen; omega
    case qc5 => omega
    case qc6 => simp
    intro v' w1 hown hgrow hnil
    go_wp2
    go_ret
    refine ⟨⟨v', rfl, news, by simpa using hown, HR.out⟩, ?_⟩
    exact ((Below.refl _ w).alloc (Nat.le_refl _) _).grown hgrow (by simp) (by intro k hk; simp [Value.ownBlock] at hk; omega)
set_option maxRecDepth 100000 in
set_option maxHeartbeats 2000000 in
theorem clone_Place (R : Place → List Value → Prop) (hR1 : ∀ x cs, R x cs → ∀ u ∈ cs, u.oneCell' = true) (l : List (Place)) (A : Option Addr) (c : Nat) (w : World) (hA : ReadsRow R 2 w A l.length l) (hb : l.length * 16 ≤ 140737488355328) :
    Calls Tryz.prog 84 #[.slice A l.length c] w fun e w' => (∃ v, e = .returned v ∧ OwnRow R 122 2 w' w.heap.size v l) ∧ Below w.heap.size w w' := by
  have q : ∀ (w : World) (a : Option Addr) (n c n' c' : Nat), (binOp .eql 94 (.slice a n c) (.slice none n' c')).run Tryz.prog w = .ok (.bool a.isNone) w := fun w a n c n' c' => Lib.run_eql_slice_nil w _ _ a n c n' c' Tryz.underlying94
  rcases A with _ | ad
  · have h0 : l = [] := by
      rcases l with _ | ⟨x, l⟩
      · rfl
      · obtain ⟨ad, h, _⟩ := hA.2.2 (Nat.succ_pos _)
        cases h
    subst h0
    clear hA
    go_enter Tryz.func84, Tryz.ntmps84
    go_wp2
    go_ret
    exact ⟨⟨_, rfl, OwnRow.none_ _ _ _ _ _⟩, Below.refl _ _⟩
  · obtain ⟨news, hr, hc⟩ := ReadsRow.inner_ hA
    have hone := Aside0.mk (reps_one (by decide) hR1 hr)
    have HC := Aside0.mk hc
    have HR := Aside0.mk hr
    have hmax := hA.2.1
    clear hA hc hr
    obtain ⟨z, i0, hi, hz0, hz1, hz2, hz3⟩ : ∃ z i0, (Tryz.prog).info? 122 = some i0 ∧ i0.zero = some z ∧ i0.size = 2 ∧ i0.bytes = 16 ∧ z.cells.size = 2 := ⟨_, _, rfl, rfl, rfl, rfl, rfl⟩
    have HI := Aside0.mk (And.intro hi (And.intro hz0 (And.intro hz1 (And.intro hz2 hz3))))
    clear hi hz0 hz1 hz2 hz3
    go_enter Tryz.func84, Tryz.ntmps84
    go_wp2_with (at_builtin; refine wpList_append_own _ rfl _ _ 94 rfl w.heap.size 122 i0 z 2 16 Tryz.underlying94 HI.out.1 HI.out.2.1 HI.out.2.2.1 HI.out.2.2.2.1 HI.out.2.2.2.2 (by decide) _ _ _ rfl (World.ownsRow_made w #[] 0 (Nat.le_refl _) (Nat.zero_le _) rfl) ad l.length c news rfl ?qc1 ?qc2 ?qc3 ?qc4 ?qc5 ?qc6 ?_)
    case qc1 => exact HR.out.1
    case qc2 => intro j u hj; exact Lib.cell?_alloc_some _ (HC.out j u hj)
    case qc3 => exact hone.out
    case qc4 => unfold maxLen; omega
    case qc5 => omega
    case qc6 => simp
    intro v' w1 hown hgrow hnil
    go_wp2
    go_ret
    refine ⟨⟨v', rfl, news, by simpa using hown, HR.out⟩, ?_⟩
    exact ((Below.refl _ w).alloc (Nat.le_refl _) _).grown hgrow (by simp) (by intro k hk; simp [Value.ownBlock] at hk; omega)
set_option maxRecDepth 100000 in
set_option maxHeartbeats 2000000 in
theorem clone_Course (R : Course → List Value → Prop) (hR1 : ∀ x cs, R x cs → ∀ u ∈ cs, u.oneCell' = true) (l : List (Course)) (A : Option Addr) (c : Nat) (w : World) (hA : ReadsRow R 2 w A l.length l) (hb : l.length * 40 ≤ 140737488355328) :
    Calls Tryz.prog 85 #[.slice A l.length c] w fun e w' => (∃ v, e = .returned v ∧ OwnRow R 136 2 w' w.heap.size v l) ∧ Below w.heap.size w w' := by
  have q : ∀ (w : World) (a : Option Addr) (n c n' c' : Nat), (binOp .eql 34 (.slice a n c) (.slice none n' c')).run Tryz.prog w = .ok (.bool a.isNone) w := fun w a n c n' c' => Lib.run_eql_slice_nil w _ _ a n c n' c' Tryz.underlying34
  rcases A with _ | ad
  · have h0 : l = [] := by
      rcases l with _ | ⟨x, l⟩
      · rfl
      · obtain ⟨ad, h, _⟩ := hA.2.2 (Nat.succ_pos _)
        cases h
    subst h0
    clear hA
    go_enter Tryz.func85, Tryz.ntmps85
    go_wp2
    go_ret
    exact ⟨⟨_, rfl, OwnRow.none_ _ _ _ _ _⟩, Below.refl _ _⟩
  · obtain ⟨news, hr, hc⟩ := ReadsRow.inner_ hA
    have hone := Aside0.mk (reps_one (by decide) hR1 hr)
    have HC := Aside0.mk hc
    have HR := Aside0.mk hr
    have hmax := hA.2.1
    clear hA hc hr
    obtain ⟨z, i0, hi, hz0, hz1, hz2, hz3⟩ : ∃ z i0, (Tryz.prog).info? 136 = some i0 ∧ i0.zero = some z ∧ i0.size = 2 ∧ i0.bytes = 40 ∧ z.cells.size = 2 := ⟨_, _, rfl, rfl, rfl, rfl, rfl⟩
    have HI := Aside0.mk (And.intro hi (And.intro hz0 (And.intro hz1 (And.intro hz2 hz3))))
    clear hi hz0 hz1 hz2 hz3
    go_enter Tryz.func85, Tryz.ntmps85
    go_wp2_with (at_builtin; refine wpList_append_own _ rfl _ _ 34 rfl w.heap.size 136 i0 z 2 40 Tryz.underlying34 HI.out.1 HI.out.2.1 HI.out.2.2.1 HI.out.2.2.2.1 HI.out.2.2.2.2 (by decide) _ _ _ rfl (World.ownsRow_made w #[] 0 (Nat.le_refl _) (Nat.zero_le _) rfl) ad l.length c news rfl ?qc1 ?qc2 ?qc3 ?qc4 ?qc5 ?qc6 ?_)
    case qc1 => exact HR.out.1
    case qc2 => intro j u hj; exact Lib.cell?_alloc_some _ (HC.out j u hj)
    case qc3 => exact hone.out
    case qc4 => unfold maxLen; omega
    case qc5 => omega
    case qc6 => simp
    intro v' w1 hown hgrow hnil
    go_wp2
    go_ret
    refine ⟨⟨v', rfl, news, by simpa using hown, HR.out⟩, ?_⟩
    exact ((Below.refl _ w).alloc (Nat.le_refl _) _).grown hgrow (by simp) (by intro k hk; simp [Value.ownBlock] at hk; omega)
set_option maxRecDepth 100000 in
set_option maxHeartbeats 2000000 in
theorem clone_Way (R : Way → List Value → Prop) (hR1 : ∀ x cs, R x cs → ∀ u ∈ cs, u.oneCell' = true) (l : List (Way)) (A : Option Addr) (c : Nat) (w : World) (hA : ReadsRow R 1 w A l.length l) (hb : l.length * 24 ≤ 140737488355328) :
    Calls Tryz.prog 86 #[.slice A l.length c] w fun e w' => (∃ v, e = .returned v ∧ OwnRow R 138 1 w' w.heap.size v l) ∧ Below w.heap.size w w' := by
  have q : ∀ (w : World) (a : Option Addr) (n c n' c' : Nat), (binOp .eql 134 (.slice a n c) (.slice none n' c')).run Tryz.prog w = .ok (.bool a.isNone) w := fun w a n c n' c' => Lib.run_eql_slice_nil w _ _ a n c n' c' Tryz.underlying134
  rcases A with _ | ad
  · have h0 : l = [] := by
      rcases l with _ | ⟨x, l⟩
      · rfl
      · obtain ⟨ad, h, _⟩ := hA.2.2 (Nat.succ_pos _)
        cases h
    subst h0
    clear hA
    go_enter Tryz.func86, Tryz.ntmps86
    go_wp2
    go_ret
    exact ⟨⟨_, rfl, OwnRow.none_ _ _ _ _ _⟩, Below.refl _ _⟩
  · obtain ⟨news, hr, hc⟩ := ReadsRow.inner_ hA
    have hone := Aside0.mk (reps_one (by decide) hR1 hr)
    have HC := Aside0.mk hc
    have HR := Aside0.mk hr
    have hmax := hA.2.1
    clear hA hc hr
    obtain ⟨z, i0, hi, hz0, hz1, hz2, hz3⟩ : ∃ z i0, (Tryz.prog).info? 138 = some i0 ∧ i0.zero = some z ∧ i0.size = 1 ∧ i0.bytes = 24 ∧ z.cells.size = 1 := ⟨_, _, rfl, rfl, rfl, rfl, rfl⟩
    have HI := Aside0.mk (And.intro hi (And.intro hz0 (And.intro hz1 (And.intro hz2 hz3))))
    clear hi hz0 hz1 hz2 hz3
    go_enter Tryz.func86, Tryz.ntmps86
    go_wp2_with (at_builtin; refine wpList_append_own _ rfl _ _ 134 rfl w.heap.size 138 i0 z 1 24 Tryz.underlying134 HI.out.1 HI.out.2.1 HI.out.2.2.1 HI.out.2.2.2.1 HI.out.2.2.2.2 (by decide) _ _ _ rfl (World.ownsRow_made w #[] 0 (Nat.le_refl _) (Nat.zero_le _) rfl) ad l.length c news rfl ?qc1 ?qc2 ?qc3 ?qc4 ?qc5 ?qc6 ?_)
    case qc1 => exact HR.out.1
    case qc2 => intro j u hj; exact Lib.cell?_alloc_some _ (HC.out j u hj)
    case qc3 => exact hone.out
    case qc4 => unfold maxLen; omega
    case qc5 => omega
    case qc6 => simp
    intro v' w1 hown hgrow hnil
    go_wp2
    go_ret
    refine ⟨⟨v', rfl, news, by simpa using hown, HR.out⟩, ?_⟩
    exact ((Below.refl _ w).alloc (Nat.le_refl _) _).grown hgrow (by simp) (by intro k hk; simp [Value.ownBlock] at hk; omega)
set_option maxRecDepth 100000 in
set_option maxHeartbeats 2000000 in
theorem clone_Student (R : Student → List Value → Prop) (hR1 : ∀ x cs, R x cs → ∀ u ∈ cs, u.oneCell' = true) (l : List (Student)) (A : Option Addr) (c : Nat) (w : World) (hA : ReadsRow R 2 w A l.length l) (hb : l.length * 40 ≤ 140737488355328) :
    Calls Tryz.prog 87 #[.slice A l.length c] w fun e w' => (∃ v, e = .returned v ∧ OwnRow R 130 2 w' w.heap.size v l) ∧ Below w.heap.size w w' := by
  have q : ∀ (w : World) (a : Option Addr) (n c n' c' : Nat), (binOp .eql 35 (.slice a n c) (.slice none n' c')).run Tryz.prog w = .ok (.bool a.isNone) w := fun w a n c n' c' => Lib.run_eql_slice_nil w _ _ a n c n' c' Tryz.underlying35
  rcases A with _ | ad
  · have h0 : l = [] := by
      rcases l with _ | ⟨x, l⟩
      · rfl
      · obtain ⟨ad, h, _⟩ := hA.2.2 (Nat.succ_pos _)
        cases h
    subst h0
    clear hA
    go_enter Tryz.func87, Tryz.ntmps87
    go_wp2
    go_ret
    exact ⟨⟨_, rfl, OwnRow.none_ _ _ _ _ _⟩, Below.refl _ _⟩
  · obtain ⟨news, hr, hc⟩ := ReadsRow.inner_ hA
    have hone := Aside0.mk (reps_one (by decide) hR1 hr)
    have HC := Aside0.mk hc
    have HR := Aside0.mk hr
    have hmax := hA.2.1
    clear hA hc hr
    obtain ⟨z, i0, hi, hz0, hz1, hz2, hz3⟩ : ∃ z i0, (Tryz.prog).info? 130 = some i0 ∧ i0.zero = some z ∧ i0.size = 2 ∧ i0.bytes = 40 ∧ z.cells.size = 2 := ⟨_, _, rfl, rfl, rfl, rfl, rfl⟩
    have HI := Aside0.mk (And.intro hi (And.intro hz0 (And.intro hz1 (And.intro hz2 hz3))))
    clear hi hz0 hz1 hz2 hz3
    go_enter Tryz.func87, Tryz.ntmps87
    go_wp2_with (at_builtin; refine wpList_append_own _ rfl _ _ 35 rfl w.heap.size 130 i0 z 2 40 Tryz.underlying35 HI.out.1 HI.out.2.1 HI.out.2.2.1 HI.out.2.2.2.1 HI.out.2.2.2.2 (by decide) _ _ _ rfl (World.ownsRow_made w #[] 0 (Nat.le_refl _) (Nat.zero_le _) rfl) ad l.length c news rfl ?qc1 ?qc2 ?qc3 ?qc4 ?qc5 ?qc6 ?_)
    case qc1 => exact HR.out.1
    case qc2 => intro j u hj; exact Lib.cell?_alloc_some _ (HC.out j u hj)
    case qc3 => exact hone.out
    case qc4 => unfold maxLen; omega
    case qc5 => omega
    case qc6 => simp
    intro v' w1 hown hgrow hnil
    go_wp2
    go_ret
    refine ⟨⟨v', rfl, news, by simpa using hown, HR.out⟩, ?_⟩
    exact ((Below.refl _ w).alloc (Nat.le_refl _) _).grown hgrow (by simp) (by intro k hk; simp [Value.ownBlock] at hk; omega)
set_option maxRecDepth 100000 in
set_option maxHeartbeats 2000000 in
theorem clone_Rule (R : Rule → List Value → Prop) (hR1 : ∀ x cs, R x cs → ∀ u ∈ cs, u.oneCell' = true) (l : List (Rule)) (A : Option Addr) (c : Nat) (w : World) (hA : ReadsRow R 6 w A l.length l) (hb : l.length * 64 ≤ 140737488355328) :
    Calls Tryz.prog 88 #[.slice A l.length c] w fun e w' => (∃ v, e = .returned v ∧ OwnRow R 133 6 w' w.heap.size v l) ∧ Below w.heap.size w w' := by
  have q : ∀ (w : World) (a : Option Addr) (n c n' c' : Nat), (binOp .eql 36 (.slice a n c) (.slice none n' c')).run Tryz.prog w = .ok (.bool a.isNone) w := fun w a n c n' c' => Lib.run_eql_slice_nil w _ _ a n c n' c' Tryz.underlying36
  rcases A with _ | ad
  · have h0 : l = [] := by
      rcases l with _ | ⟨x, l⟩
      · rfl
      · obtain ⟨ad, h, _⟩ := hA.2.2 (Nat.succ_pos _)
        cases h
    subst h0
    clear hA
    go_enter Tryz.func88, Tryz.ntmps88
    go_wp2
    go_ret
    exact ⟨⟨_, rfl, OwnRow.none_ _ _ _ _ _⟩, Below.refl _ _⟩
  · obtain ⟨news, hr, hc⟩ := ReadsRow.inner_ hA
    have hone := Aside0.mk (reps_one (by decide) hR1 hr)
    have HC := Aside0.mk hc
    have HR := Aside0.mk hr
    have hmax := hA.2.1
    clear hA hc hr
    obtain ⟨z, i0, hi, hz0, hz1, hz2, hz3⟩ : ∃ z i0, (Tryz.prog).info? 133 = some i0 ∧ i0.zero = some z ∧ i0.size = 6 ∧ i0.bytes = 64 ∧ z.cells.size = 6 := ⟨_, _, rfl, rfl, rfl, rfl, rfl⟩
    have HI := Aside0.mk (And.intro hi (And.intro hz0 (And.intro hz1 (And.intro hz2 hz3))))
    clear hi hz0 hz1 hz2 hz3
    go_enter Tryz.func88, Tryz.ntmps88
    go_wp2_with (at_builtin; refine wpList_append_own _ rfl _ _ 36 rfl w.heap.size 133 i0 z 6 64 Tryz.underlying36 HI.out.1 HI.out.2.1 HI.out.2.2.1 HI.out.2.2.2.1 HI.out.2.2.2.2 (by decide) _ _ _ rfl (World.ownsRow_made w #[] 0 (Nat.le_refl _) (Nat.zero_le _) rfl) ad l.length c news rfl ?qc1 ?qc2 ?qc3 ?qc4 ?qc5 ?qc6 ?_)
    case qc1 => exact HR.out.1
    case qc2 => intro j u hj; exact Lib.cell?_alloc_some _ (HC.out j u hj)
    case qc3 => exact hone.out
    case qc4 => unfold maxLen; omega
    case qc5 => omega
    case qc6 => simp
    intro v' w1 hown hgrow hnil
    go_wp2
    go_ret
    refine ⟨⟨v', rfl, news, by simpa using hown, HR.out⟩, ?_⟩
    exact ((Below.refl _ w).alloc (Nat.le_refl _) _).grown hgrow (by simp) (by intro k hk; simp [Value.ownBlock] at hk; omega)
end Go.Proofs.YthalgemkblkhgaaGreat
namespace Go.Proofs.YthalgemkblkhgaaGreat
open Go.RowKit Go.Proofs.YthalgemkblkhgaaGreatW.PrintWords Go.Proofs.YthalgemkblkhgaaGreatW.PrintLast
set_option linter.unusedVariables false
set_option linter.unusedSimpArgs false

theorem few_mul {n : Nat} (h : n ≤ 140737488351232) : n ≤ 140737488355328 := by omega
/-- An element that an elder world told, whatever is written from there on. -/
theorem st_oldK {α : Type} {d : Kd α} {S : Nat → Prop} {W w : World} {x : α} {cs : List Value} (h : d.K W x cs) (hb : Below W.heap.size W w) (hS : ∀ k, S k → W.heap.size ≤ k) : St S w (fun w' => d.K w' x cs) := fun w' hw =>
  d.K_below ⟨hw.os.trans hb.os, hw.tape.trans hb.tape, hw.output.trans hb.output, Nat.le_trans hb.size hw.size, fun k hk =>
    (hw.block k (Nat.lt_of_lt_of_le hk hb.size) (fun q => by have := hS k q; omega)).trans (hb.block k hk)⟩ h
theorem rows_old {α : Type} {d : Kd α} {W w : World} {A : Option Addr} {n : Nat} {l : List α} (h : d.C W A n l) (hb : Below W.heap.size W w) : ReadsRow (d.K W) d.sz w A n l := ReadsRow.imp_ h hb (fun _ _ hp => hp)
theorem kint_st {S : Nat → Prop} {w w0 : World} {k : IntKind} : ∀ x cs, (Kd.int k).K w0 x cs → St S w (fun w' => (Kd.int k).K w' x cs) := fun x cs h w' _ => h

abbrev kRows : Kd (List Int) := Kd.slice 3 (Kd.int .i64)
theorem kRows_one {w : World} : ∀ x cs, kRows.K w x cs → ∀ u ∈ cs, u.oneCell' = true := fun x cs h => kRows.K_one h
theorem kint_one {w : World} : ∀ x cs, (Kd.int .i64).K w x cs → ∀ u ∈ cs, u.oneCell' = true := fun x cs h => (Kd.int .i64).K_one h

set_option maxRecDepth 100000 in
set_option maxHeartbeats 2000000 in
theorem rows_calls (l : List (List Int)) (A : Option Addr) (c : Nat) (W w : World) (hC : kRows.C W A l.length l) (hb : Below W.heap.size W w) (S : Nat → Prop) (hS : ∀ k, S k → W.heap.size ≤ k ∧ k < w.heap.size) (hf : wfL 24 (wfL 8 (wfInt .i64)) l) :
    Calls Tryz.prog 80 #[.slice A l.length c] w fun e w' => (∃ A' c', e = .returned (.slice A' l.length c') ∧ l.length ≤ c' ∧ St S w' (fun w' => kRows.C w' A' l.length l)) ∧ Below w.heap.size w w' := by
  have HC := Aside0.mk (rows_old hC hb)
  have HB := Aside0.mk hb
  have HS := Aside0.mk hS
  have HF := Aside0.mk hf.all
  have hl := hf.len
  clear hC hb hS hf
  go_enter Tryz.func80, Tryz.ntmps80
  go_wp2_with fail
  refine (clone_Ints (kRows.K W) kRows_one l A c w HC.out (by omega)).mono ?_
  rintro e w1 ⟨⟨v, rfl, ho⟩, hb1⟩
  have HB1 := Aside0.mk (HB.out.trans (hb1.mono HB.out.size))
  rcases Nat.eq_zero_or_pos l.length with h0 | hp
  · obtain rfl : l = [] := List.eq_nil_of_length_eq_zero h0
    obtain ⟨A', c', rfl, hc'⟩ := ownAt_none (d := kRows) ho
    clear ho
    have hb1 := Aside0.mk hb1
    go_wp2_with fail
    go_loopw [9] (fun v wr => v = .int .i64 0 ∧ wr = w1) (fun v _ => 0)
    case atStart => exact ⟨rfl, rfl⟩
    case round =>
      obtain ⟨rfl, rfl⟩ := hrel
      go_wp2_with fail
      go_ret
      exact ⟨⟨A', c', rfl, hc', st_nil A'⟩, hb1.out⟩
  obtain ⟨B, c', rfl, hc', hBw, hO⟩ := ownAt_new (d := kRows) (S := S) ho hp (fun B hB hlt x cs h => st_oldK h HB1.out (fun k hk => by
    rcases hk with q | rfl
    · exact (HS.out k q).1
    · exact Nat.le_trans HB.out.size hB))
  obtain ⟨ad, had⟩ : ∃ ad : Addr, ad = ⟨B, 0, none⟩ := ⟨_, rfl⟩
  rw [← had]
  replace had := Aside0.mk had
  replace hO := Aside0.mk hO
  have HBw := Aside0.mk hBw
  clear ho hBw
  go_wp2_with fail
  go_loopw [9] (fun v wr => ∃ i : Nat, v = .int .i64 i ∧ i ≤ l.length ∧ Aside0 (OwnAt kRows 22 (Or1 S B) wr B l) ∧ Aside0 (Below w.heap.size w wr)) (fun v _ => l.length - (intOf v).toNat)
  case atStart => exact ⟨0, rfl, by omega, hO, ⟨hb1⟩⟩
  case round =>
    obtain ⟨i, rfl, hi, HO, hb⟩ := hrel
    by_cases hlt : i < l.length
    · obtain ⟨x, hx⟩ : ∃ x, l[i]? = some x := ⟨_, List.getElem?_eq_getElem hlt⟩
      have HX := Aside0.mk hx
      obtain ⟨cs, h1, h2, h3⟩ := HO.out.open_ hx
      obtain ⟨A2, c2, rfl, hl2, hC2⟩ := h3.now
      have e1 : wr.cell? (ad.add i) = some (.slice A2 x.length c2) := by
        have h10 := h1 0 _ rfl
        rw [show kRows.sz = 1 from rfl, Nat.mul_one, Nat.add_zero] at h10
        rw [had.out, add_plain]; exact h10
      have e2 : wr.frozen? (ad.add i) = false := by rw [had.out, add_plain]; exact h2 _
      have H1 := Aside0.mk h1
      have H3 := Aside0.mk h3
      clear hx h1 h2 h3
      go_wp2_with fail
      refine (clone_int ((Kd.int .i64).K wr) kint_one x A2 c2 wr hC2 (few_mul (HF.out x (List.mem_of_getElem? HX.out)).len)).mono ?_
      rintro e w2 ⟨⟨v, rfl, ho⟩, hb2⟩
      obtain ⟨A3, c3, rfl, hl3, hC3⟩ := st_own (d := Kd.int .i64) (S := Or1 S B) ho (fun k hk => by
        have := HO.out.lt
        rcases hk with q | rfl
        · exact Nat.lt_of_lt_of_le (HS.out k q).2 hb.out.size
        · exact this) kint_st (Kd.C_max hC2)
      have e3 : w2.frozen? (ad.add i) = false := (hb2.frozen (by rw [had.out, add_plain]; exact HO.out.lt)).trans e2
      have e4 : w2.cell? (ad.add i) = some (.slice A2 x.length c2) := (hb2.cell (by rw [had.out, add_plain]; exact HO.out.lt)).trans e1
      have hO2 := Aside0.mk (HO.out.below hb2)
      have H1' : ∀ i' u, [Value.slice A2 x.length c2][i']? = some u → w2.cell? ⟨B, i * kRows.sz + i', none⟩ = some u := fun i' u hu => (hb2.cell (by exact HO.out.lt)).trans (H1.out i' u hu)
      have HC3 := Aside0.mk hC3
      have HL := Aside0.mk H1'
      replace hb2 := Aside0.mk hb2
      clear hC3 H1' ho hC2 e1 e2
      go_wp2_with fail
      go_roundw
      case rel =>
        refine ⟨i + 1, by go_num, by omega, ⟨?_⟩, ⟨?_⟩⟩
        · have := OwnAt.set_ hO2.out (Or.inr rfl) HX.out (cs := [.slice A2 x.length c2]) rfl HL.out 0 (.slice A3 x.length c3) (Nat.zero_lt_one) (HC3.out.imp (fun w' h => ⟨A3, c3, rfl, hl3, h⟩))
          rw [show kRows.sz = 1 from rfl, Nat.mul_one, Nat.add_zero] at this
          rw [had.out, add_plain]
          exact this
        · rw [had.out, add_plain]
          exact (hb.out.trans (hb2.out.mono hb.out.size)).setCell HBw.out _
      case measure => simp [intOf]; omega
    · go_wp2_with fail
      go_ret
      refine ⟨⟨some ad, c', rfl, hc', ?_⟩, hb.out⟩
      rw [had.out]
      exact HO.out.C (fun _ h => Or.inl h) (fun q => by have := (HS.out B q).2; have := HBw.out; omega) (by omega)
end Go.Proofs.YthalgemkblkhgaaGreat
namespace Go.Proofs.YthalgemkblkhgaaGreat
open Go.RowKit Go.Proofs.YthalgemkblkhgaaGreatW.PrintWords Go.Proofs.YthalgemkblkhgaaGreatW.PrintLast
set_option linter.unusedVariables false
set_option linter.unusedSimpArgs false

/-- The row at A is new (from block b on) and holds xs; Q holds too, whatever is written into S. -/
def OwnV {α : Type} (d : Kd α) (T : Nat) (S : Nat → Prop) (b : Nat) (w : World) (A : Option Addr) (xs : List α) (Q : World → Prop) : Prop :=
  St S w Q ∧ (0 < xs.length → ∃ B, A = some ⟨B, 0, none⟩ ∧ b ≤ B ∧ OwnAt d T (Or1 S B) w B xs ∧ St (Or1 S B) w Q)
section
variable {α : Type} {d : Kd α} {T : Nat} {S : Nat → Prop} {b : Nat} {w w0 w1 : World} {A : Option Addr} {xs : List α} {Q : World → Prop}
theorem ownV_new {R : α → List Value → Prop} {v : Value} (d : Kd α) (hQ : St S w0 Q) (hb : Below w0.heap.size w0 w1) (ho : OwnRow R T d.sz w1 w0.heap.size v xs)
    (hR : ∀ B, w0.heap.size ≤ B → ∀ x cs, R x cs → St (Or1 S B) w1 (fun w' => d.K w' x cs)) : ∃ A c, v = .slice A xs.length c ∧ xs.length ≤ c ∧ OwnV d T S w0.heap.size w1 A xs Q := by
  rcases Nat.eq_zero_or_pos xs.length with h0 | hp
  · obtain rfl : xs = [] := List.eq_nil_of_length_eq_zero h0
    obtain ⟨A, c, hv, hc⟩ := ownAt_none ho
    exact ⟨A, c, hv, hc, hQ.off (off_below hb), fun h => absurd h (by simp)⟩
  · obtain ⟨B, c, hv, hc, hB, hO⟩ := ownAt_new (d := d) (S := S) ho hp (fun B hB _ x cs h => hR B hB x cs h)
    exact ⟨_, c, hv, hc, hQ.off (off_below hb), fun _ => ⟨B, rfl, hB, hO, hQ.fresh (off_below hb) (fun k hk => hk.elim Or.inl (fun e => Or.inr (e ▸ hB)))⟩⟩
theorem OwnV.box (h : OwnV d T S b w A xs Q) {g : Nat} (hg : S g) (hgb : g < b) (j : Nat) (u : Value) : OwnV d T S b (w.setCell ⟨g, j, none⟩ u) A xs Q :=
  ⟨h.1.off (off_set w j u hg), fun hp => by
    obtain ⟨B, hA, hB, hO, hQ⟩ := h.2 hp
    exact ⟨B, hA, hB, hO.off (off_set w j u (Or.inl hg)) (Below.heap_setCell _ _ _ _ (by show B ≠ g; omega)), hQ.off (off_set w j u (Or.inl hg))⟩⟩
theorem OwnV.below (h : OwnV d T S b w A xs Q) (hb : Below w.heap.size w w1) : OwnV d T S b w1 A xs Q :=
  ⟨h.1.off (off_below hb), fun hp => by
    obtain ⟨B, hA, hB, hO, hQ⟩ := h.2 hp
    exact ⟨B, hA, hB, hO.below hb, hQ.off (off_below hb)⟩⟩
theorem OwnV.done (h : OwnV d T S b w A xs Q) (hS : ∀ k, S k → k < b) (hl : xs.length ≤ 9223372036854775807) : St S w (fun w' => Q w' ∧ d.C w' A xs.length xs) := by
  rcases Nat.eq_zero_or_pos xs.length with h0 | hp
  · obtain rfl : xs = [] := List.eq_nil_of_length_eq_zero h0
    exact h.1.both (st_nil A)
  · obtain ⟨B, rfl, hB, hO, hQ⟩ := h.2 hp
    exact h.1.both (hO.C (fun k hk => Or.inl hk) (fun q => by have := hS B q; omega) hl)
/-- A round: element j's cells, and what may be put in their place. -/
theorem OwnV.round (h : OwnV d T S b w A xs Q) {j : Nat} {x : α} (hx : xs[j]? = some x) : ∃ B cs, A = some ⟨B, 0, none⟩ ∧ b ≤ B ∧ B < w.heap.size ∧ cs.length = d.sz ∧ (∀ i u, cs[i]? = some u → w.cell? ⟨B, j * d.sz + i, none⟩ = some u) ∧ (∀ i, w.frozen? ⟨B, i, none⟩ = false) ∧ d.K w x cs ∧ St (Or1 S B) w (fun w' => d.K w' x cs) := by
  have hp : 0 < xs.length := by have := (List.getElem?_eq_some_iff.1 hx).1; omega
  obtain ⟨B, hA, hB, hO, hQ⟩ := h.2 hp
  obtain ⟨cs, h1, h2, h3⟩ := hO.open_ hx
  exact ⟨B, cs, hA, hB, hO.lt, d.K_len h3.now, h1, h2, h3.now, h3⟩
theorem OwnV.put (h : OwnV d T S b w A xs Q) {j : Nat} {x : α} (hx : xs[j]? = some x) {B : Nat} (hA : A = some ⟨B, 0, none⟩) {cs : List Value} (hcs : cs.length = d.sz) (hcell : ∀ i u, cs[i]? = some u → w.cell? ⟨B, j * d.sz + i, none⟩ = some u)
    (o : Nat) (v : Value) (ho : o < d.sz) (hK : St (Or1 S B) w (fun w' => d.K w' x (cs.set o v))) :
    OwnV d T S b (w.setCell ⟨B, j * d.sz + o, none⟩ v) A xs Q ∧ (∀ i u, (cs.set o v)[i]? = some u → (w.setCell ⟨B, j * d.sz + o, none⟩ v).cell? ⟨B, j * d.sz + i, none⟩ = some u) := by
  have hp : 0 < xs.length := by have := (List.getElem?_eq_some_iff.1 hx).1; omega
  obtain ⟨B', hA', hB, hO, hQ⟩ := h.2 hp
  have e : B' = B := by
    rw [hA] at hA'
    injection hA' with hA'
    injection hA' with hA'
    exact hA'.symm
  subst e
  have hoff : Off (Or1 S B') w (w.setCell ⟨B', j * d.sz + o, none⟩ v) := off_set w _ v (Or.inr rfl)
  have hQ2 := hQ.off hoff
  refine ⟨⟨hQ2.less (fun k hk => Or.inl hk), fun _ => ⟨B', hA, hB, hO.set_ (Or.inr rfl) hx hcs hcell o v ho hK, hQ2⟩⟩, fun i u hu => ?_⟩
  obtain ⟨cur, hc, _⟩ := hO
  rw [blk_cell (blk_set hc _ _), Array.getElem?_setIfInBounds]
  have hcur : ∀ i u, cs[i]? = some u → cur[j * d.sz + i]? = some u := fun i u hu => (blk_cell hc _).symm.trans (hcell i u hu)
  rw [List.getElem?_set] at hu
  by_cases hio : i = o
  · subst hio
    have h1 : i < cs.length := by omega
    rw [if_pos rfl, if_pos h1] at hu
    cases hu
    have h2 := hcur i _ (List.getElem?_eq_getElem h1)
    have h3 : j * d.sz + i < cur.size := (Array.getElem?_eq_some_iff.1 h2).1
    rw [if_pos rfl, if_pos h3]
  · rw [if_neg (fun e => hio e.symm)] at hu
    rw [if_neg (by omega)]
    exact hcur i u hu
theorem OwnV.bound (h : OwnV d T S b w A xs Q) {j : Nat} {x : α} (hx : xs[j]? = some x) {B : Nat} (hA : A = some ⟨B, 0, none⟩) : b ≤ B ∧ B < w.heap.size := by
  have hp : 0 < xs.length := by have := (List.getElem?_eq_some_iff.1 hx).1; omega
  obtain ⟨B', hA', hB, hO, hQ⟩ := h.2 hp
  have e : B' = B := by
    rw [hA] at hA'
    injection hA' with hA'
    injection hA' with hA'
    exact hA'.symm
  subst e
  exact ⟨hB, hO.lt⟩
end
theorem kRoom_put {w : World} {x : Room} {cs : List Value} (h : kRoom.K w x cs) {A : Option Addr} {c : Nat} (hc : x.f3.length ≤ c) (hC : kWhen.C w A x.f3.length x.f3) : kRoom.K w x (cs.set 3 (.slice A x.f3.length c)) := by
  obtain ⟨A3, c3, rfl, l3, g3⟩ := kRoom_open h
  exact kRoom_mk w x hc hC
theorem kPerson_put {w : World} {x : Person} {cs : List Value} (h : kPerson.K w x cs) {A : Option Addr} {c : Nat} (hc : x.f1.length ≤ c) (hC : kWhen.C w A x.f1.length x.f1) : kPerson.K w x (cs.set 1 (.slice A x.f1.length c)) := by
  obtain ⟨A3, c3, rfl, l3, g3⟩ := kPerson_open h
  exact kPerson_mk w x hc hC
theorem kStudent_put {w : World} {x : Student} {cs : List Value} (h : kStudent.K w x cs) {A : Option Addr} {c : Nat} (hc : x.f1.length ≤ c) (hC : (Kd.int .i64).C w A x.f1.length x.f1) : kStudent.K w x (cs.set 1 (.slice A x.f1.length c)) := by
  obtain ⟨A3, c3, rfl, l3, g3⟩ := kStudent_open h
  exact kStudent_mk w x hc hC
theorem kRule_put {w : World} {x : Rule} {cs : List Value} (h : kRule.K w x cs) {A : Option Addr} {c : Nat} (hc : x.f1.length ≤ c) (hC : (Kd.int .i64).C w A x.f1.length x.f1) : kRule.K w x (cs.set 1 (.slice A x.f1.length c)) := by
  obtain ⟨A3, c3, rfl, l3, g3⟩ := kRule_open h
  exact kRule_mk w x hc hC
theorem kCourse_put {w : World} {x : Course} {cs : List Value} (h : kCourse.K w x cs) {A : Option Addr} {c : Nat} (hc : x.f1.length ≤ c) (hC : kWay.C w A x.f1.length x.f1) : kCourse.K w x (cs.set 1 (.slice A x.f1.length c)) := by
  obtain ⟨A3, c3, rfl, l3, g3⟩ := kCourse_open h
  exact kCourse_mk w x hc hC
theorem kWay_put {w : World} {x : Way} {cs : List Value} (h : kWay.K w x cs) {A : Option Addr} {c : Nat} (hc : x.f0.length ≤ c) (hC : kRows.C w A x.f0.length x.f0) : kWay.K w x (cs.set 0 (.slice A x.f0.length c)) := by
  obtain ⟨A3, c3, rfl, l3, g3⟩ := kWay_open h
  exact kWay_mk w x hc hC
theorem kClass_put3 {w : World} {x : Class} {cs : List Value} (h : kClass.K w x cs) {A : Option Addr} {c : Nat} (hc : x.f3.length ≤ c) (hC : (Kd.int .i64).C w A x.f3.length x.f3) : kClass.K w x (cs.set 3 (.slice A x.f3.length c)) := by
  obtain ⟨A3, c3, A4, c4, A5, c5, rfl, l3, g3, l4, g4, l5, g5⟩ := kClass_open h
  exact kClass_mk w x hc hC l4 g4 l5 g5
theorem kClass_put4 {w : World} {x : Class} {cs : List Value} (h : kClass.K w x cs) {A : Option Addr} {c : Nat} (hc : x.f4.length ≤ c) (hC : kTime.C w A x.f4.length x.f4) : kClass.K w x (cs.set 4 (.slice A x.f4.length c)) := by
  obtain ⟨A3, c3, A4, c4, A5, c5, rfl, l3, g3, l4, g4, l5, g5⟩ := kClass_open h
  exact kClass_mk w x l3 g3 hc hC l5 g5
theorem kClass_put5 {w : World} {x : Class} {cs : List Value} (h : kClass.K w x cs) {A : Option Addr} {c : Nat} (hc : x.f5.length ≤ c) (hC : kPlace.C w A x.f5.length x.f5) : kClass.K w x (cs.set 5 (.slice A x.f5.length c)) := by
  obtain ⟨A3, c3, A4, c4, A5, c5, rfl, l3, g3, l4, g4, l5, g5⟩ := kClass_open h
  exact kClass_mk w x l3 g3 l4 g4 hc hC
theorem kWhen_st {S : Nat → Prop} {w w0 : World} : ∀ x cs, kWhen.K w0 x cs → St S w (fun w' => kWhen.K w' x cs) := fun x cs h w' _ => h
theorem kTime_st {S : Nat → Prop} {w w0 : World} : ∀ x cs, kTime.K w0 x cs → St S w (fun w' => kTime.K w' x cs) := fun x cs h w' _ => h
theorem kPlace_st {S : Nat → Prop} {w w0 : World} : ∀ x cs, kPlace.K w0 x cs → St S w (fun w' => kPlace.K w' x cs) := fun x cs h w' _ => h
end Go.Proofs.YthalgemkblkhgaaGreat
namespace Go.Proofs.YthalgemkblkhgaaGreat
open Go.RowKit Go.Proofs.YthalgemkblkhgaaGreatW.PrintWords Go.Proofs.YthalgemkblkhgaaGreatW.PrintLast
set_option linter.unusedVariables false
set_option linter.unusedSimpArgs false

/-- From element i on the row at A is what the world w0 told. -/
def Rest {α : Type} (d : Kd α) (w0 w : World) (A : Option Addr) (i : Nat) (xs : List α) : Prop :=
  ∀ B, A = some ⟨B, 0, none⟩ → ∀ j x, i ≤ j → xs[j]? = some x → ∃ cs, d.K w0 x cs ∧ ∀ k u, cs[k]? = some u → w.cell? ⟨B, j * d.sz + k, none⟩ = some u
/-- Block B holds the elements xs but for element i, whose cells are csi. -/
def OwnHole {α : Type} (d : Kd α) (T : Nat) (S : Nat → Prop) (w : World) (B : Nat) (xs : List α) (i : Nat) (csi : List Value) : Prop :=
  ∃ cur : Array Value, w.heap[B]? = some (.cells cur T (0, 0)) ∧ (∀ k u, csi[k]? = some u → cur[i * d.sz + k]? = some u) ∧ ∀ j x, xs[j]? = some x → j ≠ i → ∃ cs, (∀ k u, cs[k]? = some u → cur[j * d.sz + k]? = some u) ∧ St S w (fun w' => d.K w' x cs)
section
variable {α : Type} {d : Kd α} {T : Nat} {S S' : Nat → Prop} {w w0 w1 : World} {B i : Nat} {xs : List α} {csi : List Value} {A : Option Addr}
theorem rest_of {base n c : Nat} (d : Kd α) (ho : OwnRow (d.K w0) T d.sz w base (.slice A n c) xs) : Rest d w0 w A 0 xs := by
  intro B hA j x _ hj
  obtain ⟨inner, ho, hr⟩ := ho
  rcases ho.2 with ⟨hv, _⟩ | ⟨g, cap, cur, hv, hb, hh, hnc, _, hcs, ht⟩
  · rw [hA] at hv
    cases hv
  · injection hv with ha
    rw [hA] at ha
    injection ha with ha
    injection ha with ha
    subst ha
    exact ⟨(inner.drop (j * d.sz)).take d.sz, hr.2 j x hj, fun k u hu => (blk_cell hh _).trans (own_seg ht j k u hu)⟩
theorem Rest.on (h : Rest d w0 w A i xs) (hc : 0 < xs.length → ∀ B, A = some ⟨B, 0, none⟩ → w1.heap[B]? = w.heap[B]?) : Rest d w0 w1 A i xs := by
  intro B hA j x hij hj
  obtain ⟨cs, h1, h2⟩ := h B hA j x hij hj
  refine ⟨cs, h1, fun k u hu => ?_⟩
  have := h2 k u hu
  rwa [← World.cell?_of_block (w := w) (w' := w1) (a := ⟨B, j * d.sz + k, none⟩) (hc (by have := (List.getElem?_eq_some_iff.1 hj).1; omega) B hA)] at this
theorem Rest.below (h : Rest d w0 w A i xs) (hb : Below w.heap.size w w1) : Rest d w0 w1 A i xs := by
  intro B hA j x hij hj
  obtain ⟨cs, h1, h2⟩ := h B hA j x hij hj
  exact ⟨cs, h1, fun k u hu => pw_cell_below hb (h2 k u hu)⟩
theorem Rest.put (h : Rest d w0 w A i xs) (hA : A = some ⟨B, 0, none⟩) (o : Nat) (ho : o < d.sz) (v : Value) : Rest d w0 (w.setCell ⟨B, i * d.sz + o, none⟩ v) A (i + 1) xs := by
  intro B' hA' j x hij hj
  rw [hA] at hA'
  injection hA' with hA'
  injection hA' with hA'
  subst hA'
  obtain ⟨cs, h1, h2⟩ := h B hA j x (by omega) hj
  refine ⟨cs, h1, fun k u hu => ?_⟩
  rw [World.cell?_setCell_other _ _ _ _ (by
    intro e
    simp only [Addr.mk.injEq] at e
    have : (i + 1) * d.sz ≤ j * d.sz := Nat.mul_le_mul_right _ hij
    rw [Nat.succ_mul] at this
    omega)]
  exact h2 k u hu
theorem OwnAt.hole (h : OwnAt d T S w B xs) (hb : Below w.heap.size w w1) (hS : ∀ k, S' k → S k ∨ w.heap.size ≤ k) (hB : S' B) {cs : List Value} (hl : cs.length = d.sz) (hcell : ∀ k u, cs[k]? = some u → w1.cell? ⟨B, i * d.sz + k, none⟩ = some u) (o : Nat) (v : Value) (ho : o < d.sz) :
    OwnHole d T S' (w1.setCell ⟨B, i * d.sz + o, none⟩ v) B xs i (cs.set o v) := by
  have h1 := h.fresh (S' := S') (off_below hb) (hb.block B h.lt) hS
  obtain ⟨cur, hc, hx⟩ := h1
  have hoff : Off S' w1 (w1.setCell ⟨B, i * d.sz + o, none⟩ v) := off_set w1 _ _ hB
  refine ⟨_, blk_set hc _ _, fun k u hu => ?_, fun j x hj hji => ?_⟩
  · rw [Array.getElem?_setIfInBounds]
    rw [List.getElem?_set] at hu
    have hcur : ∀ i' u, cs[i']? = some u → cur[i * d.sz + i']? = some u := fun i' u hu => (blk_cell hc _).symm.trans (hcell i' u hu)
    by_cases hio : k = o
    · subst hio
      have h1 : k < cs.length := by omega
      rw [if_pos rfl, if_pos h1] at hu
      cases hu
      have h2 := hcur k _ (List.getElem?_eq_getElem h1)
      have h3 : i * d.sz + k < cur.size := (Array.getElem?_eq_some_iff.1 h2).1
      rw [if_pos rfl, if_pos h3]
    · rw [if_neg (fun e => hio e.symm)] at hu
      rw [if_neg (by omega)]
      exact hcur k u hu
  · obtain ⟨cs', h1, h2⟩ := hx j x hj
    refine ⟨cs', fun k u hu => ?_, h2.off hoff⟩
    have hk : k < d.sz := by
      have := d.K_len h2.now
      have := (List.getElem?_eq_some_iff.1 hu).1
      omega
    rw [Array.getElem?_setIfInBounds, if_neg, h1 k u hu]
    intro e
    rcases Nat.lt_or_gt_of_ne hji with q | q
    · have : (j + 1) * d.sz ≤ i * d.sz := Nat.mul_le_mul_right _ q
      rw [Nat.succ_mul] at this
      omega
    · have : (i + 1) * d.sz ≤ j * d.sz := Nat.mul_le_mul_right _ q
      rw [Nat.succ_mul] at this
      omega
theorem OwnV.parts {b : Nat} {Q : World → Prop} (h : OwnV d T S b w A xs Q) {j : Nat} {x : α} (hx : xs[j]? = some x) (hA : A = some ⟨B, 0, none⟩) : OwnAt d T (Or1 S B) w B xs ∧ St (Or1 S B) w Q ∧ b ≤ B := by
  have hp : 0 < xs.length := by have := (List.getElem?_eq_some_iff.1 hx).1; omega
  obtain ⟨B', hA', hB, hO, hQ⟩ := h.2 hp
  have e : B' = B := by
    rw [hA] at hA'
    injection hA' with hA'
    injection hA' with hA'
    exact hA'.symm
  subst e
  exact ⟨hO, hQ, hB⟩
theorem OwnHole.on (h : OwnHole d T S w B xs i csi) (ho : Off S w w1) (hB : w1.heap[B]? = w.heap[B]?) : OwnHole d T S w1 B xs i csi := by
  obtain ⟨cur, hc, h1, h2⟩ := h
  refine ⟨cur, hB.trans hc, h1, fun j x hj hji => ?_⟩
  obtain ⟨cs, h3, h4⟩ := h2 j x hj hji
  exact ⟨cs, h3, h4.off ho⟩
theorem OwnHole.cell (h : OwnHole d T S w B xs i csi) {k : Nat} {u : Value} (hk : csi[k]? = some u) : w.cell? ⟨B, i * d.sz + k, none⟩ = some u := by
  obtain ⟨cur, hc, h1, _⟩ := h
  exact (blk_cell hc _).trans (h1 k u hk)
theorem OwnHole.lt (h : OwnHole d T S w B xs i csi) : B < w.heap.size := by
  obtain ⟨cur, hc, _⟩ := h
  exact blk_lt hc
theorem OwnHole.fill (h : OwnHole d T S w B xs i csi) (hS : ∀ k, S' k → S k) {x : α} (hx : xs[i]? = some x) (hK : St S' w (fun w' => d.K w' x csi)) : OwnAt d T S' w B xs := by
  obtain ⟨cur, hc, h1, h2⟩ := h
  refine ⟨cur, hc, fun j y hj => ?_⟩
  by_cases hji : j = i
  · subst hji
    rw [hx] at hj
    cases hj
    exact ⟨csi, h1, hK⟩
  · obtain ⟨cs, h3, h4⟩ := h2 j y hj hji
    exact ⟨cs, h3, h4.less hS⟩
end
end Go.Proofs.YthalgemkblkhgaaGreat
