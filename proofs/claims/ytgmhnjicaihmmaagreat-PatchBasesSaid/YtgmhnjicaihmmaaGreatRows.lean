/-
  No cell of these rows narrows 'for every input' (looked for: loops, veiled, ifaces, maps, wideKeys, modest, calm, conditions, laid).
  DERIVED. THE GIVEN ROWS OF THIS SEAT. 2 by the template 'for every input the law returns true; each argument reads behind the call as it read before'; 0 by the template 'total and deterministic' (their statements: YtgmhnjicaihmmaaGreatTotals.lean).
  GIVEN WITH THE SEED: the statements are not yours to turn. If you find one false, say at which input.
  Laid BY PROGRAM, IN A SANDBOX (cutbox-rows.mjs): the forced cells as the released guide's own fill.sh prints them over the translation e64151275bdd64fc… (all of the seat's roots in one cut). By AI agents, Wed Nov 11 2026. No macro, syntax, notation, axiom, sorry.
-/
import Derived.Test.YtgmhnjicaihmmaaGreatChecked
import GoSem.Claim
import GoSem.ClaimJoined
import GoSem.ClaimMapViews
import Derived.JoinedTies
import Derived.KernelRfl
namespace Go.Proofs.YtgmhnjicaihmmaaGreat
/- THE CELL 'sum', in the pinned program and in every row, IS THE sha256 OF THE DUMP (.gsa) THAT YtgmhnjicaihmmaaGreatProg.lean LOADS. Nothing in Lean hashes anything: it is a label: what it is worth is what the hold of that sum in a sandbox is worth. -/
noncomputable def Tryz.pinned : Pinned := { name := "ytgmhnjicaihmmaagreat", sum := "e64151275bdd64fcdcfdd4338ecc626864b72224277442cac20d24e0334a434a", checked := Tryz.checked }
namespace Rows
def none {H : Type} : Left H := { results := [], args := [] }

/-- 'portmanteaulaw43.PatchHeads': WHATEVER THE INPUT: true; the input reads as it did. -/
def patchHeadsSpec : ChangeSpec := { name := "patchHeads", fn := fun _ => fun
  | [d1, d2, d3, d4] => { results := [.lit (.bool true)], args := [d1, d2, d3, d4] }
  | _ => none }
def patchHeadsRow : OpenClaim := { program := "ytgmhnjicaihmmaagreat", sum := "e64151275bdd64fcdcfdd4338ecc626864b72224277442cac20d24e0334a434a", func := "portmanteau/portmanteaulaw43.PatchHeads", spec := "patchHeads", inPlace := ["internal/bytealg.Count", "internal/bytealg.IndexByte", "internal/bytealg.Index", "internal/bytealg.MakeNoZero"], unfollowed := true, recurses := true, named := ["internal/bytealg.MaxLen"], plainKeys := false, apart := false }
def PatchHeadsSaid : Prop := patchHeadsRow.holds Tryz.pinned (OpenSpec.ofChange patchHeadsSpec)

/-- ITS FALSE NEIGHBOUR: 'it returns false'. Refute it at one input. -/
def patchHeadsWrong : ChangeSpec := { name := "patchHeads", fn := fun _ => fun
  | [d1, d2, d3, d4] => { results := [.lit (.bool false)], args := [d1, d2, d3, d4] }
  | _ => none }
def PatchHeadsWrongFalsely : Prop := patchHeadsRow.holds Tryz.pinned (OpenSpec.ofChange patchHeadsWrong)

/-- 'portmanteaulaw43.PatchBases': WHATEVER THE INPUT: true; the input reads as it did. -/
def patchBasesSpec : ChangeSpec := { name := "patchBases", fn := fun _ => fun
  | [d1, d2, d3] => { results := [.lit (.bool true)], args := [d1, d2, d3] }
  | _ => none }
def patchBasesRow : OpenClaim := { program := "ytgmhnjicaihmmaagreat", sum := "e64151275bdd64fcdcfdd4338ecc626864b72224277442cac20d24e0334a434a", func := "portmanteau/portmanteaulaw43.PatchBases", spec := "patchBases", inPlace := ["internal/bytealg.Count", "internal/bytealg.IndexByte", "internal/bytealg.Index", "internal/bytealg.MakeNoZero"], unfollowed := true, recurses := true, named := ["internal/bytealg.MaxLen"], plainKeys := false, apart := false }
def PatchBasesSaid : Prop := patchBasesRow.holds Tryz.pinned (OpenSpec.ofChange patchBasesSpec)

/-- ITS FALSE NEIGHBOUR: 'it returns false'. Refute it at one input. -/
def patchBasesWrong : ChangeSpec := { name := "patchBases", fn := fun _ => fun
  | [d1, d2, d3] => { results := [.lit (.bool false)], args := [d1, d2, d3] }
  | _ => none }
def PatchBasesWrongFalsely : Prop := patchBasesRow.holds Tryz.pinned (OpenSpec.ofChange patchBasesWrong)

/- THE SECOND FORM. 'bulk': how many values and letters a reading holds, each counted each time it is reached (what is shared counts as often as it is met; a slice's spare places count too). A statement '..UptoSaid' is the law's where the arguments, and the package variables that the reading takes, are together of bulk at most 1048576: NARROWER than '..Said'. Prove '..Said' where nothing that the law and all that it calls make is longer than what came in: it says more and counts as full. Else prove '..UptoSaid'. A law counts once. -/
mutual
def uptoBulk {H : Type} : DataW H → Nat
  | .lit (.string bytes) => bytes.length + 1
  | .lit _ => 1
  | .nil => 1
  | .ptr d => uptoBulk d + 1
  | .slice elems spare => uptoBulkAll elems + uptoBulkAll spare + 1
  | .agg parts => uptoBulkAll parts + 1
  | .iface _ d => uptoBulk d + 1
  | .map entries => uptoBulkEntries entries + 1
  | .held _ => 1
def uptoBulkAll {H : Type} : List (DataW H) → Nat
  | [] => 0
  | d :: r => uptoBulk d + uptoBulkAll r
def uptoBulkEntries {H : Type} : List (Lit × DataW H) → Nat
  | [] => 0
  | x :: r => uptoBulkEntry x + uptoBulkEntries r
def uptoBulkEntry {H : Type} : Lit × DataW H → Nat
  | (.string bytes, d) => bytes.length + uptoBulk d + 1
  | (_, d) => uptoBulk d + 1
 end
def uptoSmall : (H : Type) → List (DataW H) → Bool := fun _ ds => decide (uptoBulkAll ds ≤ 1048576)
def OpenSpec.upto (s : _root_.Go.ChangeSpec) : _root_.Go.OpenSpec := { _root_.Go.OpenSpec.ofChange s with cond := some uptoSmall }

/-- 'portmanteaulaw43.PatchHeads', WHERE WHAT IT READS IS OF BULK AT MOST 1048576: true; the input reads as it did. -/
def patchHeadsUptoRow : OpenClaim := { program := "ytgmhnjicaihmmaagreat", sum := "e64151275bdd64fcdcfdd4338ecc626864b72224277442cac20d24e0334a434a", func := "portmanteau/portmanteaulaw43.PatchHeads", spec := "patchHeads", inPlace := ["internal/bytealg.Count", "internal/bytealg.IndexByte", "internal/bytealg.Index", "internal/bytealg.MakeNoZero"], unfollowed := true, recurses := true, named := ["internal/bytealg.MaxLen"], plainKeys := false, apart := false, narrowed := true }
def PatchHeadsUptoSaid : Prop := patchHeadsUptoRow.holds Tryz.pinned (OpenSpec.upto patchHeadsSpec)

/-- 'portmanteaulaw43.PatchBases', WHERE WHAT IT READS IS OF BULK AT MOST 1048576: true; the input reads as it did. -/
def patchBasesUptoRow : OpenClaim := { program := "ytgmhnjicaihmmaagreat", sum := "e64151275bdd64fcdcfdd4338ecc626864b72224277442cac20d24e0334a434a", func := "portmanteau/portmanteaulaw43.PatchBases", spec := "patchBases", inPlace := ["internal/bytealg.Count", "internal/bytealg.IndexByte", "internal/bytealg.Index", "internal/bytealg.MakeNoZero"], unfollowed := true, recurses := true, named := ["internal/bytealg.MaxLen"], plainKeys := false, apart := false, narrowed := true }
def PatchBasesUptoSaid : Prop := patchBasesUptoRow.holds Tryz.pinned (OpenSpec.upto patchBasesSpec)

end Rows
end Go.Proofs.YtgmhnjicaihmmaaGreat
