/-
  No cell of these rows narrows 'for every input' (looked for: loops, veiled, ifaces, maps, wideKeys, modest, calm, conditions, laid).
  DERIVED. THE GIVEN ROWS OF THIS SEAT. 7 by the template 'for every input the law returns true; each argument reads behind the call as it read before'; 0 by the template 'total and deterministic' (their statements: YthalgemkblkhgaaGreatTotals.lean).
  GIVEN WITH THE SEED: the statements are not yours to turn. If you find one false, say at which input.
  Laid BY PROGRAM, IN A SANDBOX (cutbox-rows.mjs): the forced cells as the released guide's own fill.sh prints them over the translation fa61c9e8245e3ffe… (all of the seat's roots in one cut). By AI agents, Wed Nov 11 2026. No macro, syntax, notation, axiom, sorry.
-/
import Derived.Test.YthalgemkblkhgaaGreatChecked
import GoSem.Claim
import GoSem.ClaimJoined
import GoSem.ClaimMapViews
import Derived.JoinedTies
import Derived.KernelRfl
namespace Go.Proofs.YthalgemkblkhgaaGreat
/- THE CELL 'sum', in the pinned program and in every row, IS THE sha256 OF THE DUMP (.gsa) THAT YthalgemkblkhgaaGreatProg.lean LOADS. Nothing in Lean hashes anything: it is a label: what it is worth is what the hold of that sum in a sandbox is worth. -/
noncomputable def Tryz.pinned : Pinned := { name := "ythalgemkblkhgaagreat", sum := "fa61c9e8245e3ffe9bec8ae43a2042b2d585dbf4b75713f52619fa50bd340e93", checked := Tryz.checked }
namespace Rows
def none {H : Type} : Left H := { results := [], args := [] }

/-- 'horariumlaw27.LitSorts': WHATEVER THE INPUT: true; the input reads as it did. -/
def litSortsSpec : ChangeSpec := { name := "litSorts", fn := fun _ => fun
  | [d1, d2] => { results := [.lit (.bool true)], args := [d1, d2] }
  | _ => none }
def litSortsRow : OpenClaim := { program := "ythalgemkblkhgaagreat", sum := "fa61c9e8245e3ffe9bec8ae43a2042b2d585dbf4b75713f52619fa50bd340e93", func := "horarium/horariumlaw27.LitSorts", spec := "litSorts", unfollowed := true, recurses := true, plainKeys := false, apart := false }
def LitSortsSaid : Prop := litSortsRow.holds Tryz.pinned (OpenSpec.ofChange litSortsSpec)

/-- ITS FALSE NEIGHBOUR: 'it returns false'. Refute it at one input. -/
def litSortsWrong : ChangeSpec := { name := "litSorts", fn := fun _ => fun
  | [d1, d2] => { results := [.lit (.bool false)], args := [d1, d2] }
  | _ => none }
def LitSortsWrongFalsely : Prop := litSortsRow.holds Tryz.pinned (OpenSpec.ofChange litSortsWrong)

/-- 'horariumlaw27.LitTells': WHATEVER THE INPUT: true; the input reads as it did. -/
def litTellsSpec : ChangeSpec := { name := "litTells", fn := fun _ => fun
  | [d1, d2, d3] => { results := [.lit (.bool true)], args := [d1, d2, d3] }
  | _ => none }
def litTellsRow : OpenClaim := { program := "ythalgemkblkhgaagreat", sum := "fa61c9e8245e3ffe9bec8ae43a2042b2d585dbf4b75713f52619fa50bd340e93", func := "horarium/horariumlaw27.LitTells", spec := "litTells", unfollowed := true, recurses := true, plainKeys := false, apart := false }
def LitTellsSaid : Prop := litTellsRow.holds Tryz.pinned (OpenSpec.ofChange litTellsSpec)

/-- ITS FALSE NEIGHBOUR: 'it returns false'. Refute it at one input. -/
def litTellsWrong : ChangeSpec := { name := "litTells", fn := fun _ => fun
  | [d1, d2, d3] => { results := [.lit (.bool false)], args := [d1, d2, d3] }
  | _ => none }
def LitTellsWrongFalsely : Prop := litTellsRow.holds Tryz.pinned (OpenSpec.ofChange litTellsWrong)

/-- 'horariumlaw27.LitSeats': WHATEVER THE INPUT: true; the input reads as it did. -/
def litSeatsSpec : ChangeSpec := { name := "litSeats", fn := fun _ => fun
  | [d1, d2] => { results := [.lit (.bool true)], args := [d1, d2] }
  | _ => none }
def litSeatsRow : OpenClaim := { program := "ythalgemkblkhgaagreat", sum := "fa61c9e8245e3ffe9bec8ae43a2042b2d585dbf4b75713f52619fa50bd340e93", func := "horarium/horariumlaw27.LitSeats", spec := "litSeats", unfollowed := true, recurses := true, plainKeys := false, apart := false }
def LitSeatsSaid : Prop := litSeatsRow.holds Tryz.pinned (OpenSpec.ofChange litSeatsSpec)

/-- ITS FALSE NEIGHBOUR: 'it returns false'. Refute it at one input. -/
def litSeatsWrong : ChangeSpec := { name := "litSeats", fn := fun _ => fun
  | [d1, d2] => { results := [.lit (.bool false)], args := [d1, d2] }
  | _ => none }
def LitSeatsWrongFalsely : Prop := litSeatsRow.holds Tryz.pinned (OpenSpec.ofChange litSeatsWrong)

/-- 'horariumlaw27.LitTrue': WHATEVER THE INPUT: true; the input reads as it did. -/
def litTrueSpec : ChangeSpec := { name := "litTrue", fn := fun _ => fun
  | [d1, d2, d3, d4] => { results := [.lit (.bool true)], args := [d1, d2, d3, d4] }
  | _ => none }
def litTrueRow : OpenClaim := { program := "ythalgemkblkhgaagreat", sum := "fa61c9e8245e3ffe9bec8ae43a2042b2d585dbf4b75713f52619fa50bd340e93", func := "horarium/horariumlaw27.LitTrue", spec := "litTrue", unfollowed := true, recurses := true, plainKeys := false, apart := false }
def LitTrueSaid : Prop := litTrueRow.holds Tryz.pinned (OpenSpec.ofChange litTrueSpec)

/-- ITS FALSE NEIGHBOUR: 'it returns false'. Refute it at one input. -/
def litTrueWrong : ChangeSpec := { name := "litTrue", fn := fun _ => fun
  | [d1, d2, d3, d4] => { results := [.lit (.bool false)], args := [d1, d2, d3, d4] }
  | _ => none }
def LitTrueWrongFalsely : Prop := litTrueRow.holds Tryz.pinned (OpenSpec.ofChange litTrueWrong)

/-- 'horariumlaw27.LitTexts': WHATEVER THE INPUT: true; the input reads as it did. -/
def litTextsSpec : ChangeSpec := { name := "litTexts", fn := fun _ => fun
  | [d1, d2, d3] => { results := [.lit (.bool true)], args := [d1, d2, d3] }
  | _ => none }
def litTextsRow : OpenClaim := { program := "ythalgemkblkhgaagreat", sum := "fa61c9e8245e3ffe9bec8ae43a2042b2d585dbf4b75713f52619fa50bd340e93", func := "horarium/horariumlaw27.LitTexts", spec := "litTexts", inPlace := ["internal/bytealg.IndexByteString", "internal/bytealg.IndexString"], unfollowed := true, recurses := true, named := ["internal/bytealg.MaxLen"], plainKeys := false, apart := false }
def LitTextsSaid : Prop := litTextsRow.holds Tryz.pinned (OpenSpec.ofChange litTextsSpec)

/-- ITS FALSE NEIGHBOUR: 'it returns false'. Refute it at one input. -/
def litTextsWrong : ChangeSpec := { name := "litTexts", fn := fun _ => fun
  | [d1, d2, d3] => { results := [.lit (.bool false)], args := [d1, d2, d3] }
  | _ => none }
def LitTextsWrongFalsely : Prop := litTextsRow.holds Tryz.pinned (OpenSpec.ofChange litTextsWrong)

/-- 'horariumlaw27.LitBack': WHATEVER THE INPUT: true; the input reads as it did. -/
def litBackSpec : ChangeSpec := { name := "litBack", fn := fun _ => fun
  | [d1, d2] => { results := [.lit (.bool true)], args := [d1, d2] }
  | _ => none }
def litBackRow : OpenClaim := { program := "ythalgemkblkhgaagreat", sum := "fa61c9e8245e3ffe9bec8ae43a2042b2d585dbf4b75713f52619fa50bd340e93", func := "horarium/horariumlaw27.LitBack", spec := "litBack", inPlace := ["internal/bytealg.IndexByteString", "internal/bytealg.IndexString"], unfollowed := true, recurses := true, named := ["internal/bytealg.MaxLen"], plainKeys := false, apart := false }
def LitBackSaid : Prop := litBackRow.holds Tryz.pinned (OpenSpec.ofChange litBackSpec)

/-- ITS FALSE NEIGHBOUR: 'it returns false'. Refute it at one input. -/
def litBackWrong : ChangeSpec := { name := "litBack", fn := fun _ => fun
  | [d1, d2] => { results := [.lit (.bool false)], args := [d1, d2] }
  | _ => none }
def LitBackWrongFalsely : Prop := litBackRow.holds Tryz.pinned (OpenSpec.ofChange litBackWrong)

/-- 'horariumlaw27.LitNone': WHATEVER THE INPUT: true; the input reads as it did. -/
def litNoneSpec : ChangeSpec := { name := "litNone", fn := fun _ => fun
  | [d1, d2, d3, d4] => { results := [.lit (.bool true)], args := [d1, d2, d3, d4] }
  | _ => none }
def litNoneRow : OpenClaim := { program := "ythalgemkblkhgaagreat", sum := "fa61c9e8245e3ffe9bec8ae43a2042b2d585dbf4b75713f52619fa50bd340e93", func := "horarium/horariumlaw27.LitNone", spec := "litNone", inPlace := ["internal/bytealg.IndexByteString", "internal/bytealg.IndexString"], unfollowed := true, recurses := true, named := ["internal/bytealg.MaxLen"], plainKeys := false, apart := false }
def LitNoneSaid : Prop := litNoneRow.holds Tryz.pinned (OpenSpec.ofChange litNoneSpec)

/-- ITS FALSE NEIGHBOUR: 'it returns false'. Refute it at one input. -/
def litNoneWrong : ChangeSpec := { name := "litNone", fn := fun _ => fun
  | [d1, d2, d3, d4] => { results := [.lit (.bool false)], args := [d1, d2, d3, d4] }
  | _ => none }
def LitNoneWrongFalsely : Prop := litNoneRow.holds Tryz.pinned (OpenSpec.ofChange litNoneWrong)

/- THE SECOND FORM. 'bulk': how many values and letters a reading holds, each counted each time it is reached (what is shared counts as often as it is met; a slice's spare places count too). A statement '..UptoSaid' is the law's where the arguments, and the package variables that the reading takes, are together of bulk at most 1048576: NARROWER than '..Said'. Prove '..Said' where nothing that the law and all that it calls make is longer than what came in: it says more and counts as full. Else prove '..UptoSaid'. A law counts once. -/
mutual
def uptoBulk {H : Type} : DataW H → Nat
  | .lit (.string bytes) => bytes.length + 1
  | .lit _ => 1
  | .nil => 1
  | .ptr d => uptoBulk d + 1
  | .slice elems spare => uptoBulkAll elems + uptoBulkAll spare + 1
  | .agg parts => uptoBulkAll parts + 1
  | .iface _ d => uptoBulk d + 1
  | .map entries => uptoBulkEntries entries + 1
  | .held _ => 1
def uptoBulkAll {H : Type} : List (DataW H) → Nat
  | [] => 0
  | d :: r => uptoBulk d + uptoBulkAll r
def uptoBulkEntries {H : Type} : List (Lit × DataW H) → Nat
  | [] => 0
  | x :: r => uptoBulkEntry x + uptoBulkEntries r
def uptoBulkEntry {H : Type} : Lit × DataW H → Nat
  | (.string bytes, d) => bytes.length + uptoBulk d + 1
  | (_, d) => uptoBulk d + 1
 end
def uptoSmall : (H : Type) → List (DataW H) → Bool := fun _ ds => decide (uptoBulkAll ds ≤ 1048576)
def OpenSpec.upto (s : _root_.Go.ChangeSpec) : _root_.Go.OpenSpec := { _root_.Go.OpenSpec.ofChange s with cond := some uptoSmall }

/-- 'horariumlaw27.LitSorts', WHERE WHAT IT READS IS OF BULK AT MOST 1048576: true; the input reads as it did. -/
def litSortsUptoRow : OpenClaim := { program := "ythalgemkblkhgaagreat", sum := "fa61c9e8245e3ffe9bec8ae43a2042b2d585dbf4b75713f52619fa50bd340e93", func := "horarium/horariumlaw27.LitSorts", spec := "litSorts", unfollowed := true, recurses := true, plainKeys := false, apart := false, narrowed := true }
def LitSortsUptoSaid : Prop := litSortsUptoRow.holds Tryz.pinned (OpenSpec.upto litSortsSpec)

/-- 'horariumlaw27.LitTells', WHERE WHAT IT READS IS OF BULK AT MOST 1048576: true; the input reads as it did. -/
def litTellsUptoRow : OpenClaim := { program := "ythalgemkblkhgaagreat", sum := "fa61c9e8245e3ffe9bec8ae43a2042b2d585dbf4b75713f52619fa50bd340e93", func := "horarium/horariumlaw27.LitTells", spec := "litTells", unfollowed := true, recurses := true, plainKeys := false, apart := false, narrowed := true }
def LitTellsUptoSaid : Prop := litTellsUptoRow.holds Tryz.pinned (OpenSpec.upto litTellsSpec)

/-- 'horariumlaw27.LitSeats', WHERE WHAT IT READS IS OF BULK AT MOST 1048576: true; the input reads as it did. -/
def litSeatsUptoRow : OpenClaim := { program := "ythalgemkblkhgaagreat", sum := "fa61c9e8245e3ffe9bec8ae43a2042b2d585dbf4b75713f52619fa50bd340e93", func := "horarium/horariumlaw27.LitSeats", spec := "litSeats", unfollowed := true, recurses := true, plainKeys := false, apart := false, narrowed := true }
def LitSeatsUptoSaid : Prop := litSeatsUptoRow.holds Tryz.pinned (OpenSpec.upto litSeatsSpec)

/-- 'horariumlaw27.LitTrue', WHERE WHAT IT READS IS OF BULK AT MOST 1048576: true; the input reads as it did. -/
def litTrueUptoRow : OpenClaim := { program := "ythalgemkblkhgaagreat", sum := "fa61c9e8245e3ffe9bec8ae43a2042b2d585dbf4b75713f52619fa50bd340e93", func := "horarium/horariumlaw27.LitTrue", spec := "litTrue", unfollowed := true, recurses := true, plainKeys := false, apart := false, narrowed := true }
def LitTrueUptoSaid : Prop := litTrueUptoRow.holds Tryz.pinned (OpenSpec.upto litTrueSpec)

/-- 'horariumlaw27.LitTexts', WHERE WHAT IT READS IS OF BULK AT MOST 1048576: true; the input reads as it did. -/
def litTextsUptoRow : OpenClaim := { program := "ythalgemkblkhgaagreat", sum := "fa61c9e8245e3ffe9bec8ae43a2042b2d585dbf4b75713f52619fa50bd340e93", func := "horarium/horariumlaw27.LitTexts", spec := "litTexts", inPlace := ["internal/bytealg.IndexByteString", "internal/bytealg.IndexString"], unfollowed := true, recurses := true, named := ["internal/bytealg.MaxLen"], plainKeys := false, apart := false, narrowed := true }
def LitTextsUptoSaid : Prop := litTextsUptoRow.holds Tryz.pinned (OpenSpec.upto litTextsSpec)

/-- 'horariumlaw27.LitBack', WHERE WHAT IT READS IS OF BULK AT MOST 1048576: true; the input reads as it did. -/
def litBackUptoRow : OpenClaim := { program := "ythalgemkblkhgaagreat", sum := "fa61c9e8245e3ffe9bec8ae43a2042b2d585dbf4b75713f52619fa50bd340e93", func := "horarium/horariumlaw27.LitBack", spec := "litBack", inPlace := ["internal/bytealg.IndexByteString", "internal/bytealg.IndexString"], unfollowed := true, recurses := true, named := ["internal/bytealg.MaxLen"], plainKeys := false, apart := false, narrowed := true }
def LitBackUptoSaid : Prop := litBackUptoRow.holds Tryz.pinned (OpenSpec.upto litBackSpec)

/-- 'horariumlaw27.LitNone', WHERE WHAT IT READS IS OF BULK AT MOST 1048576: true; the input reads as it did. -/
def litNoneUptoRow : OpenClaim := { program := "ythalgemkblkhgaagreat", sum := "fa61c9e8245e3ffe9bec8ae43a2042b2d585dbf4b75713f52619fa50bd340e93", func := "horarium/horariumlaw27.LitNone", spec := "litNone", inPlace := ["internal/bytealg.IndexByteString", "internal/bytealg.IndexString"], unfollowed := true, recurses := true, named := ["internal/bytealg.MaxLen"], plainKeys := false, apart := false, narrowed := true }
def LitNoneUptoSaid : Prop := litNoneUptoRow.holds Tryz.pinned (OpenSpec.upto litNoneSpec)

end Rows
end Go.Proofs.YthalgemkblkhgaaGreat
