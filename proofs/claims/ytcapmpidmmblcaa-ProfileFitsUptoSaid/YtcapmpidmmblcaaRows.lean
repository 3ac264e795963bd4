/-
  No cell of these rows narrows 'for every input' (looked for: loops, veiled, ifaces, maps, wideKeys, modest, calm, conditions, laid).
  DERIVED. THE GIVEN ROWS OF THIS SEAT. 4 by the template 'for every input the law returns true; each argument reads behind the call as it read before'; 0 by the template 'total and deterministic' (their statements: YtcapmpidmmblcaaTotals.lean).
  GIVEN WITH THE SEED: the statements are not yours to turn. If you find one false, say at which input.
  Laid BY PROGRAM, IN A SANDBOX (cutbox-rows.mjs): the forced cells as the released guide's own fill.sh prints them over the translation 7c5ce3ee65a37fb1… (all of the seat's roots in one cut). By AI agents, Wed Nov 11 2026. No macro, syntax, notation, axiom, sorry.
-/
import Derived.Test.YtcapmpidmmblcaaChecked
import GoSem.Claim
import GoSem.ClaimJoined
import GoSem.ClaimMapViews
import Derived.JoinedTies
import Derived.KernelRfl
namespace Go.Proofs.Ytcapmpidmmblcaa
/- THE CELL 'sum', in the pinned program and in every row, IS THE sha256 OF THE DUMP (.gsa) THAT YtcapmpidmmblcaaProg.lean LOADS. Nothing in Lean hashes anything: it is a label: what it is worth is what the hold of that sum in a sandbox is worth. -/
noncomputable def Try.pinned : Pinned := { name := "ytcapmpidmmblcaa", sum := "7c5ce3ee65a37fb1498f3c564ef624e22407a14a7f05c83c5654402bf2ccf3b9", checked := Try.checked }
namespace Rows
def none {H : Type} : Left H := { results := [], args := [] }

/-- 'musterlaw12.ProfileFit': WHATEVER THE INPUT: true; the input reads as it did. -/
def profileFitSpec : ChangeSpec := { name := "profileFit", fn := fun _ => fun
  | [d1, d2] => { results := [.lit (.bool true)], args := [d1, d2] }
  | _ => none }
def profileFitRow : OpenClaim := { program := "ytcapmpidmmblcaa", sum := "7c5ce3ee65a37fb1498f3c564ef624e22407a14a7f05c83c5654402bf2ccf3b9", func := "muster/musterlaw12.ProfileFit", spec := "profileFit", inPlace := ["slices.overlaps[muster/api.Cut]"], unfollowed := true, recurses := true, apart := false }
def ProfileFitSaid : Prop := profileFitRow.holds Try.pinned (OpenSpec.ofChange profileFitSpec)

/-- ITS FALSE NEIGHBOUR: 'it returns false'. Refute it at one input. -/
def profileFitWrong : ChangeSpec := { name := "profileFit", fn := fun _ => fun
  | [d1, d2] => { results := [.lit (.bool false)], args := [d1, d2] }
  | _ => none }
def ProfileFitWrongFalsely : Prop := profileFitRow.holds Try.pinned (OpenSpec.ofChange profileFitWrong)

/-- 'musterlaw12.ProfileBack': WHATEVER THE INPUT: true; the input reads as it did. -/
def profileBackSpec : ChangeSpec := { name := "profileBack", fn := fun _ => fun
  | [d1, d2] => { results := [.lit (.bool true)], args := [d1, d2] }
  | _ => none }
def profileBackRow : OpenClaim := { program := "ytcapmpidmmblcaa", sum := "7c5ce3ee65a37fb1498f3c564ef624e22407a14a7f05c83c5654402bf2ccf3b9", func := "muster/musterlaw12.ProfileBack", spec := "profileBack", inPlace := ["slices.overlaps[muster/api.Cut]"], unfollowed := true, recurses := true, apart := false }
def ProfileBackSaid : Prop := profileBackRow.holds Try.pinned (OpenSpec.ofChange profileBackSpec)

/-- ITS FALSE NEIGHBOUR: 'it returns false'. Refute it at one input. -/
def profileBackWrong : ChangeSpec := { name := "profileBack", fn := fun _ => fun
  | [d1, d2] => { results := [.lit (.bool false)], args := [d1, d2] }
  | _ => none }
def ProfileBackWrongFalsely : Prop := profileBackRow.holds Try.pinned (OpenSpec.ofChange profileBackWrong)

/-- 'musterlaw12.ProfileFits': WHATEVER THE INPUT: true; the input reads as it did. -/
def profileFitsSpec : ChangeSpec := { name := "profileFits", fn := fun _ => fun
  | [d1, d2, d3] => { results := [.lit (.bool true)], args := [d1, d2, d3] }
  | _ => none }
def profileFitsRow : OpenClaim := { program := "ytcapmpidmmblcaa", sum := "7c5ce3ee65a37fb1498f3c564ef624e22407a14a7f05c83c5654402bf2ccf3b9", func := "muster/musterlaw12.ProfileFits", spec := "profileFits", inPlace := ["slices.overlaps[muster/api.Cut]"], unfollowed := true, recurses := true, apart := false }
def ProfileFitsSaid : Prop := profileFitsRow.holds Try.pinned (OpenSpec.ofChange profileFitsSpec)

/-- ITS FALSE NEIGHBOUR: 'it returns false'. Refute it at one input. -/
def profileFitsWrong : ChangeSpec := { name := "profileFits", fn := fun _ => fun
  | [d1, d2, d3] => { results := [.lit (.bool false)], args := [d1, d2, d3] }
  | _ => none }
def ProfileFitsWrongFalsely : Prop := profileFitsRow.holds Try.pinned (OpenSpec.ofChange profileFitsWrong)

/-- 'musterlaw12.ProfileTells': WHATEVER THE INPUT: true; the input reads as it did. -/
def profileTellsSpec : ChangeSpec := { name := "profileTells", fn := fun _ => fun
  | [d1, d2, d3] => { results := [.lit (.bool true)], args := [d1, d2, d3] }
  | _ => none }
def profileTellsRow : OpenClaim := { program := "ytcapmpidmmblcaa", sum := "7c5ce3ee65a37fb1498f3c564ef624e22407a14a7f05c83c5654402bf2ccf3b9", func := "muster/musterlaw12.ProfileTells", spec := "profileTells", inPlace := ["slices.overlaps[muster/api.Cut]"], unfollowed := true, recurses := true, apart := false }
def ProfileTellsSaid : Prop := profileTellsRow.holds Try.pinned (OpenSpec.ofChange profileTellsSpec)

/-- ITS FALSE NEIGHBOUR: 'it returns false'. Refute it at one input. -/
def profileTellsWrong : ChangeSpec := { name := "profileTells", fn := fun _ => fun
  | [d1, d2, d3] => { results := [.lit (.bool false)], args := [d1, d2, d3] }
  | _ => none }
def ProfileTellsWrongFalsely : Prop := profileTellsRow.holds Try.pinned (OpenSpec.ofChange profileTellsWrong)

/- THE SECOND FORM. 'bulk': how many values and letters a reading holds, each counted each time it is reached (what is shared counts as often as it is met; a slice's spare places count too). A statement '..UptoSaid' is the law's where the arguments, and the package variables that the reading takes, are together of bulk at most 1048576: NARROWER than '..Said'. Prove '..Said' where nothing that the law and all that it calls make is longer than what came in: it says more and counts as full. Else prove '..UptoSaid'. A law counts once. -/
mutual
def uptoBulk {H : Type} : DataW H → Nat
  | .lit (.string bytes) => bytes.length + 1
  | .lit _ => 1
  | .nil => 1
  | .ptr d => uptoBulk d + 1
  | .slice elems spare => uptoBulkAll elems + uptoBulkAll spare + 1
  | .agg parts => uptoBulkAll parts + 1
  | .iface _ d => uptoBulk d + 1
  | .map entries => uptoBulkEntries entries + 1
  | .held _ => 1
def uptoBulkAll {H : Type} : List (DataW H) → Nat
  | [] => 0
  | d :: r => uptoBulk d + uptoBulkAll r
def uptoBulkEntries {H : Type} : List (Lit × DataW H) → Nat
  | [] => 0
  | x :: r => uptoBulkEntry x + uptoBulkEntries r
def uptoBulkEntry {H : Type} : Lit × DataW H → Nat
  | (.string bytes, d) => bytes.length + uptoBulk d + 1
  | (_, d) => uptoBulk d + 1
 end
def uptoSmall : (H : Type) → List (DataW H) → Bool := fun _ ds => decide (uptoBulkAll ds ≤ 1048576)
def OpenSpec.upto (s : _root_.Go.ChangeSpec) : _root_.Go.OpenSpec := { _root_.Go.OpenSpec.ofChange s with cond := some uptoSmall }

/-- 'musterlaw12.ProfileFit', WHERE WHAT IT READS IS OF BULK AT MOST 1048576: true; the input reads as it did. -/
def profileFitUptoRow : OpenClaim := { program := "ytcapmpidmmblcaa", sum := "7c5ce3ee65a37fb1498f3c564ef624e22407a14a7f05c83c5654402bf2ccf3b9", func := "muster/musterlaw12.ProfileFit", spec := "profileFit", inPlace := ["slices.overlaps[muster/api.Cut]"], unfollowed := true, recurses := true, apart := false, narrowed := true }
def ProfileFitUptoSaid : Prop := profileFitUptoRow.holds Try.pinned (OpenSpec.upto profileFitSpec)

/-- 'musterlaw12.ProfileBack', WHERE WHAT IT READS IS OF BULK AT MOST 1048576: true; the input reads as it did. -/
def profileBackUptoRow : OpenClaim := { program := "ytcapmpidmmblcaa", sum := "7c5ce3ee65a37fb1498f3c564ef624e22407a14a7f05c83c5654402bf2ccf3b9", func := "muster/musterlaw12.ProfileBack", spec := "profileBack", inPlace := ["slices.overlaps[muster/api.Cut]"], unfollowed := true, recurses := true, apart := false, narrowed := true }
def ProfileBackUptoSaid : Prop := profileBackUptoRow.holds Try.pinned (OpenSpec.upto profileBackSpec)

/-- 'musterlaw12.ProfileFits', WHERE WHAT IT READS IS OF BULK AT MOST 1048576: true; the input reads as it did. -/
def profileFitsUptoRow : OpenClaim := { program := "ytcapmpidmmblcaa", sum := "7c5ce3ee65a37fb1498f3c564ef624e22407a14a7f05c83c5654402bf2ccf3b9", func := "muster/musterlaw12.ProfileFits", spec := "profileFits", inPlace := ["slices.overlaps[muster/api.Cut]"], unfollowed := true, recurses := true, apart := false, narrowed := true }
def ProfileFitsUptoSaid : Prop := profileFitsUptoRow.holds Try.pinned (OpenSpec.upto profileFitsSpec)

/-- 'musterlaw12.ProfileTells', WHERE WHAT IT READS IS OF BULK AT MOST 1048576: true; the input reads as it did. -/
def profileTellsUptoRow : OpenClaim := { program := "ytcapmpidmmblcaa", sum := "7c5ce3ee65a37fb1498f3c564ef624e22407a14a7f05c83c5654402bf2ccf3b9", func := "muster/musterlaw12.ProfileTells", spec := "profileTells", inPlace := ["slices.overlaps[muster/api.Cut]"], unfollowed := true, recurses := true, apart := false, narrowed := true }
def ProfileTellsUptoSaid : Prop := profileTellsUptoRow.holds Try.pinned (OpenSpec.upto profileTellsSpec)

end Rows
end Go.Proofs.Ytcapmpidmmblcaa
