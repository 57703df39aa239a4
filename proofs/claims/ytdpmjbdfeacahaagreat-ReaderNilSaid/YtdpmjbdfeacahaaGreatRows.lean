/-
  No cell of these rows narrows 'for every input' (looked for: loops, veiled, ifaces, maps, wideKeys, modest, calm, conditions, laid).
  DERIVED. THE GIVEN ROWS OF THIS SEAT. 7 by the template 'for every input the law returns true; each argument reads behind the call as it read before'; 0 by the template 'total and deterministic' (their statements: YtdpmjbdfeacahaaGreatTotals.lean).
  GIVEN WITH THE SEED: the statements are not yours to turn. If you find one false, say at which input.
  Laid BY PROGRAM, IN A SANDBOX (cutbox-rows.mjs): the forced cells as the released guide's own fill.sh prints them over the translation 3fecea5091e0a653… (all of the seat's roots in one cut). By AI agents, Wed Nov 11 2026. No macro, syntax, notation, axiom, sorry.
-/
import Derived.Test.YtdpmjbdfeacahaaGreatChecked
import GoSem.Claim
import GoSem.ClaimJoined
import GoSem.ClaimMapViews
import Derived.JoinedTies
import Derived.KernelRfl
namespace Go.Proofs.YtdpmjbdfeacahaaGreat
/- THE CELL 'sum', in the pinned program and in every row, IS THE sha256 OF THE DUMP (.gsa) THAT YtdpmjbdfeacahaaGreatProg.lean LOADS. Nothing in Lean hashes anything: it is a label: what it is worth is what the hold of that sum in a sandbox is worth. -/
noncomputable def Tryz.pinned : Pinned := { name := "ytdpmjbdfeacahaagreat", sum := "3fecea5091e0a653b74c67e51037a51b810535c7fe794efebd253f607e1566dc", checked := Tryz.checked }
namespace Rows
def none {H : Type} : Left H := { results := [], args := [] }

/-- 'portmanteaulaw39.FrameDecodes': WHATEVER THE INPUT: true; the input reads as it did. -/
def frameDecodesSpec : ChangeSpec := { name := "frameDecodes", fn := fun _ => fun
  | [d1, d2, d3, d4] => { results := [.lit (.bool true)], args := [d1, d2, d3, d4] }
  | _ => none }
def frameDecodesRow : OpenClaim := { program := "ytdpmjbdfeacahaagreat", sum := "3fecea5091e0a653b74c67e51037a51b810535c7fe794efebd253f607e1566dc", func := "portmanteau/portmanteaulaw39.FrameDecodes", spec := "frameDecodes", inPlace := ["internal/bytealg.MakeNoZero"], unfollowed := true, recurses := true, apart := false }
def FrameDecodesSaid : Prop := frameDecodesRow.holds Tryz.pinned (OpenSpec.ofChange frameDecodesSpec)

/-- ITS FALSE NEIGHBOUR: 'it returns false'. Refute it at one input. -/
def frameDecodesWrong : ChangeSpec := { name := "frameDecodes", fn := fun _ => fun
  | [d1, d2, d3, d4] => { results := [.lit (.bool false)], args := [d1, d2, d3, d4] }
  | _ => none }
def FrameDecodesWrongFalsely : Prop := frameDecodesRow.holds Tryz.pinned (OpenSpec.ofChange frameDecodesWrong)

/-- 'portmanteaulaw39.FrameJoins': WHATEVER THE INPUT: true; the input reads as it did. -/
def frameJoinsSpec : ChangeSpec := { name := "frameJoins", fn := fun _ => fun
  | [d1, d2, d3] => { results := [.lit (.bool true)], args := [d1, d2, d3] }
  | _ => none }
def frameJoinsRow : OpenClaim := { program := "ytdpmjbdfeacahaagreat", sum := "3fecea5091e0a653b74c67e51037a51b810535c7fe794efebd253f607e1566dc", func := "portmanteau/portmanteaulaw39.FrameJoins", spec := "frameJoins", inPlace := ["internal/bytealg.MakeNoZero"], unfollowed := true, recurses := true, apart := false }
def FrameJoinsSaid : Prop := frameJoinsRow.holds Tryz.pinned (OpenSpec.ofChange frameJoinsSpec)

/-- ITS FALSE NEIGHBOUR: 'it returns false'. Refute it at one input. -/
def frameJoinsWrong : ChangeSpec := { name := "frameJoins", fn := fun _ => fun
  | [d1, d2, d3] => { results := [.lit (.bool false)], args := [d1, d2, d3] }
  | _ => none }
def FrameJoinsWrongFalsely : Prop := frameJoinsRow.holds Tryz.pinned (OpenSpec.ofChange frameJoinsWrong)

/-- 'portmanteaulaw39.FrameMay': WHATEVER THE INPUT: true; the input reads as it did. -/
def frameMaySpec : ChangeSpec := { name := "frameMay", fn := fun _ => fun
  | [d1, d2] => { results := [.lit (.bool true)], args := [d1, d2] }
  | _ => none }
def frameMayRow : OpenClaim := { program := "ytdpmjbdfeacahaagreat", sum := "3fecea5091e0a653b74c67e51037a51b810535c7fe794efebd253f607e1566dc", func := "portmanteau/portmanteaulaw39.FrameMay", spec := "frameMay", inPlace := ["internal/bytealg.MakeNoZero"], unfollowed := true, recurses := true, apart := false }
def FrameMaySaid : Prop := frameMayRow.holds Tryz.pinned (OpenSpec.ofChange frameMaySpec)

/-- ITS FALSE NEIGHBOUR: 'it returns false'. Refute it at one input. -/
def frameMayWrong : ChangeSpec := { name := "frameMay", fn := fun _ => fun
  | [d1, d2] => { results := [.lit (.bool false)], args := [d1, d2] }
  | _ => none }
def FrameMayWrongFalsely : Prop := frameMayRow.holds Tryz.pinned (OpenSpec.ofChange frameMayWrong)

/-- 'portmanteaulaw41.ReaderDivided': WHATEVER THE INPUT: true; the input reads as it did. -/
def readerDividedSpec : ChangeSpec := { name := "readerDivided", fn := fun _ => fun
  | [d1, d2, d3, d4] => { results := [.lit (.bool true)], args := [d1, d2, d3, d4] }
  | _ => none }
def readerDividedRow : OpenClaim := { program := "ytdpmjbdfeacahaagreat", sum := "3fecea5091e0a653b74c67e51037a51b810535c7fe794efebd253f607e1566dc", func := "portmanteau/portmanteaulaw41.ReaderDivided", spec := "readerDivided", inPlace := ["internal/bytealg.MakeNoZero"], unfollowed := true, recurses := true, apart := false }
def ReaderDividedSaid : Prop := readerDividedRow.holds Tryz.pinned (OpenSpec.ofChange readerDividedSpec)

/-- ITS FALSE NEIGHBOUR: 'it returns false'. Refute it at one input. -/
def readerDividedWrong : ChangeSpec := { name := "readerDivided", fn := fun _ => fun
  | [d1, d2, d3, d4] => { results := [.lit (.bool false)], args := [d1, d2, d3, d4] }
  | _ => none }
def ReaderDividedWrongFalsely : Prop := readerDividedRow.holds Tryz.pinned (OpenSpec.ofChange readerDividedWrong)

/-- 'portmanteaulaw41.ReaderWaits': WHATEVER THE INPUT: true; the input reads as it did. -/
def readerWaitsSpec : ChangeSpec := { name := "readerWaits", fn := fun _ => fun
  | [d1, d2] => { results := [.lit (.bool true)], args := [d1, d2] }
  | _ => none }
def readerWaitsRow : OpenClaim := { program := "ytdpmjbdfeacahaagreat", sum := "3fecea5091e0a653b74c67e51037a51b810535c7fe794efebd253f607e1566dc", func := "portmanteau/portmanteaulaw41.ReaderWaits", spec := "readerWaits", inPlace := ["internal/bytealg.MakeNoZero"], unfollowed := true, recurses := true, apart := false }
def ReaderWaitsSaid : Prop := readerWaitsRow.holds Tryz.pinned (OpenSpec.ofChange readerWaitsSpec)

/-- ITS FALSE NEIGHBOUR: 'it returns false'. Refute it at one input. -/
def readerWaitsWrong : ChangeSpec := { name := "readerWaits", fn := fun _ => fun
  | [d1, d2] => { results := [.lit (.bool false)], args := [d1, d2] }
  | _ => none }
def ReaderWaitsWrongFalsely : Prop := readerWaitsRow.holds Tryz.pinned (OpenSpec.ofChange readerWaitsWrong)

/-- 'portmanteaulaw41.ReaderNil': WHATEVER THE INPUT: true; the input reads as it did. -/
def readerNilSpec : ChangeSpec := { name := "readerNil", fn := fun _ => fun
  | [d] => { results := [.lit (.bool true)], args := [d] }
  | _ => none }
def readerNilRow : OpenClaim := { program := "ytdpmjbdfeacahaagreat", sum := "3fecea5091e0a653b74c67e51037a51b810535c7fe794efebd253f607e1566dc", func := "portmanteau/portmanteaulaw41.ReaderNil", spec := "readerNil", inPlace := ["internal/bytealg.MakeNoZero"], unfollowed := true, recurses := true, apart := false }
def ReaderNilSaid : Prop := readerNilRow.holds Tryz.pinned (OpenSpec.ofChange readerNilSpec)

/-- ITS FALSE NEIGHBOUR: 'it returns false'. Refute it at one input. -/
def readerNilWrong : ChangeSpec := { name := "readerNil", fn := fun _ => fun
  | [d] => { results := [.lit (.bool false)], args := [d] }
  | _ => none }
def ReaderNilWrongFalsely : Prop := readerNilRow.holds Tryz.pinned (OpenSpec.ofChange readerNilWrong)

/-- 'portmanteaulaw41.ReaderWhole': WHATEVER THE INPUT: true; the input reads as it did. -/
def readerWholeSpec : ChangeSpec := { name := "readerWhole", fn := fun _ => fun
  | [d1, d2, d3, d4, d5] => { results := [.lit (.bool true)], args := [d1, d2, d3, d4, d5] }
  | _ => none }
def readerWholeRow : OpenClaim := { program := "ytdpmjbdfeacahaagreat", sum := "3fecea5091e0a653b74c67e51037a51b810535c7fe794efebd253f607e1566dc", func := "portmanteau/portmanteaulaw41.ReaderWhole", spec := "readerWhole", inPlace := ["internal/bytealg.MakeNoZero"], unfollowed := true, recurses := true, apart := false }
def ReaderWholeSaid : Prop := readerWholeRow.holds Tryz.pinned (OpenSpec.ofChange readerWholeSpec)

/-- ITS FALSE NEIGHBOUR: 'it returns false'. Refute it at one input. -/
def readerWholeWrong : ChangeSpec := { name := "readerWhole", fn := fun _ => fun
  | [d1, d2, d3, d4, d5] => { results := [.lit (.bool false)], args := [d1, d2, d3, d4, d5] }
  | _ => none }
def ReaderWholeWrongFalsely : Prop := readerWholeRow.holds Tryz.pinned (OpenSpec.ofChange readerWholeWrong)

/- THE SECOND FORM. 'bulk': how many values and letters a reading holds, each counted each time it is reached (what is shared counts as often as it is met; a slice's spare places count too). A statement '..UptoSaid' is the law's where the arguments, and the package variables that the reading takes, are together of bulk at most 1048576: NARROWER than '..Said'. Prove '..Said' where nothing that the law and all that it calls make is longer than what came in: it says more and counts as full. Else prove '..UptoSaid'. A law counts once. -/
mutual
def uptoBulk {H : Type} : DataW H → Nat
  | .lit (.string bytes) => bytes.length + 1
  | .lit _ => 1
  | .nil => 1
  | .ptr d => uptoBulk d + 1
  | .slice elems spare => uptoBulkAll elems + uptoBulkAll spare + 1
  | .agg parts => uptoBulkAll parts + 1
  | .iface _ d => uptoBulk d + 1
  | .map entries => uptoBulkEntries entries + 1
  | .held _ => 1
def uptoBulkAll {H : Type} : List (DataW H) → Nat
  | [] => 0
  | d :: r => uptoBulk d + uptoBulkAll r
def uptoBulkEntries {H : Type} : List (Lit × DataW H) → Nat
  | [] => 0
  | x :: r => uptoBulkEntry x + uptoBulkEntries r
def uptoBulkEntry {H : Type} : Lit × DataW H → Nat
  | (.string bytes, d) => bytes.length + uptoBulk d + 1
  | (_, d) => uptoBulk d + 1
 end
def uptoSmall : (H : Type) → List (DataW H) → Bool := fun _ ds => decide (uptoBulkAll ds ≤ 1048576)
def OpenSpec.upto (s : _root_.Go.ChangeSpec) : _root_.Go.OpenSpec := { _root_.Go.OpenSpec.ofChange s with cond := some uptoSmall }

/-- 'portmanteaulaw39.FrameDecodes', WHERE WHAT IT READS IS OF BULK AT MOST 1048576: true; the input reads as it did. -/
def frameDecodesUptoRow : OpenClaim := { program := "ytdpmjbdfeacahaagreat", sum := "3fecea5091e0a653b74c67e51037a51b810535c7fe794efebd253f607e1566dc", func := "portmanteau/portmanteaulaw39.FrameDecodes", spec := "frameDecodes", inPlace := ["internal/bytealg.MakeNoZero"], unfollowed := true, recurses := true, apart := false, narrowed := true }
def FrameDecodesUptoSaid : Prop := frameDecodesUptoRow.holds Tryz.pinned (OpenSpec.upto frameDecodesSpec)

/-- 'portmanteaulaw39.FrameJoins', WHERE WHAT IT READS IS OF BULK AT MOST 1048576: true; the input reads as it did. -/
def frameJoinsUptoRow : OpenClaim := { program := "ytdpmjbdfeacahaagreat", sum := "3fecea5091e0a653b74c67e51037a51b810535c7fe794efebd253f607e1566dc", func := "portmanteau/portmanteaulaw39.FrameJoins", spec := "frameJoins", inPlace := ["internal/bytealg.MakeNoZero"], unfollowed := true, recurses := true, apart := false, narrowed := true }
def FrameJoinsUptoSaid : Prop := frameJoinsUptoRow.holds Tryz.pinned (OpenSpec.upto frameJoinsSpec)

/-- 'portmanteaulaw39.FrameMay', WHERE WHAT IT READS IS OF BULK AT MOST 1048576: true; the input reads as it did. -/
def frameMayUptoRow : OpenClaim := { program := "ytdpmjbdfeacahaagreat", sum := "3fecea5091e0a653b74c67e51037a51b810535c7fe794efebd253f607e1566dc", func := "portmanteau/portmanteaulaw39.FrameMay", spec := "frameMay", inPlace := ["internal/bytealg.MakeNoZero"], unfollowed := true, recurses := true, apart := false, narrowed := true }
def FrameMayUptoSaid : Prop := frameMayUptoRow.holds Tryz.pinned (OpenSpec.upto frameMaySpec)

/-- 'portmanteaulaw41.ReaderDivided', WHERE WHAT IT READS IS OF BULK AT MOST 1048576: true; the input reads as it did. -/
def readerDividedUptoRow : OpenClaim := { program := "ytdpmjbdfeacahaagreat", sum := "3fecea5091e0a653b74c67e51037a51b810535c7fe794efebd253f607e1566dc", func := "portmanteau/portmanteaulaw41.ReaderDivided", spec := "readerDivided", inPlace := ["internal/bytealg.MakeNoZero"], unfollowed := true, recurses := true, apart := false, narrowed := true }
def ReaderDividedUptoSaid : Prop := readerDividedUptoRow.holds Tryz.pinned (OpenSpec.upto readerDividedSpec)

/-- 'portmanteaulaw41.ReaderWaits', WHERE WHAT IT READS IS OF BULK AT MOST 1048576: true; the input reads as it did. -/
def readerWaitsUptoRow : OpenClaim := { program := "ytdpmjbdfeacahaagreat", sum := "3fecea5091e0a653b74c67e51037a51b810535c7fe794efebd253f607e1566dc", func := "portmanteau/portmanteaulaw41.ReaderWaits", spec := "readerWaits", inPlace := ["internal/bytealg.MakeNoZero"], unfollowed := true, recurses := true, apart := false, narrowed := true }
def ReaderWaitsUptoSaid : Prop := readerWaitsUptoRow.holds Tryz.pinned (OpenSpec.upto readerWaitsSpec)

/-- 'portmanteaulaw41.ReaderNil', WHERE WHAT IT READS IS OF BULK AT MOST 1048576: true; the input reads as it did. -/
def readerNilUptoRow : OpenClaim := { program := "ytdpmjbdfeacahaagreat", sum := "3fecea5091e0a653b74c67e51037a51b810535c7fe794efebd253f607e1566dc", func := "portmanteau/portmanteaulaw41.ReaderNil", spec := "readerNil", inPlace := ["internal/bytealg.MakeNoZero"], unfollowed := true, recurses := true, apart := false, narrowed := true }
def ReaderNilUptoSaid : Prop := readerNilUptoRow.holds Tryz.pinned (OpenSpec.upto readerNilSpec)

/-- 'portmanteaulaw41.ReaderWhole', WHERE WHAT IT READS IS OF BULK AT MOST 1048576: true; the input reads as it did. -/
def readerWholeUptoRow : OpenClaim := { program := "ytdpmjbdfeacahaagreat", sum := "3fecea5091e0a653b74c67e51037a51b810535c7fe794efebd253f607e1566dc", func := "portmanteau/portmanteaulaw41.ReaderWhole", spec := "readerWhole", inPlace := ["internal/bytealg.MakeNoZero"], unfollowed := true, recurses := true, apart := false, narrowed := true }
def ReaderWholeUptoSaid : Prop := readerWholeUptoRow.holds Tryz.pinned (OpenSpec.upto readerWholeSpec)

end Rows
end Go.Proofs.YtdpmjbdfeacahaaGreat
