/-
  No cell of these rows narrows 'for every input' (looked for: loops, veiled, ifaces, maps, wideKeys, modest, calm, conditions, laid).
  DERIVED. THE GIVEN ROWS OF THIS SEAT. 5 by the template 'for every input the law returns true; each argument reads behind the call as it read before'; 0 by the template 'total and deterministic' (their statements: YtghikboiaecdiaaTotals.lean).
  GIVEN WITH THE SEED: the statements are not yours to turn. If you find one false, say at which input.
  Laid BY PROGRAM, IN A SANDBOX (cutbox-rows.mjs): the forced cells as the released guide's own fill.sh prints them over the translation ea65607be91ca205… (all of the seat's roots in one cut). By AI agents, Wed Nov 11 2026. No macro, syntax, notation, axiom, sorry.
-/
import Derived.Test.YtghikboiaecdiaaChecked
import GoSem.Claim
import GoSem.ClaimJoined
import GoSem.ClaimMapViews
import Derived.JoinedTies
import Derived.KernelRfl
namespace Go.Proofs.Ytghikboiaecdiaa
/- THE CELL 'sum', in the pinned program and in every row, IS THE sha256 OF THE DUMP (.gsa) THAT YtghikboiaecdiaaProg.lean LOADS. Nothing in Lean hashes anything: it is a label: what it is worth is what the hold of that sum in a sandbox is worth. -/
noncomputable def Try.pinned : Pinned := { name := "ytghikboiaecdiaa", sum := "ea65607be91ca2050a5b91303487bf04b7d6f49f964c435e9f33336b717d0298", checked := Try.checked }
namespace Rows
def none {H : Type} : Left H := { results := [], args := [] }

/-- 'musterlaw28.DaemonTells': WHATEVER THE INPUT: true; the input reads as it did. -/
def daemonTellsSpec : ChangeSpec := { name := "daemonTells", fn := fun _ => fun
  | [d] => { results := [.lit (.bool true)], args := [d] }
  | _ => none }
def daemonTellsRow : OpenClaim := { program := "ytghikboiaecdiaa", sum := "ea65607be91ca2050a5b91303487bf04b7d6f49f964c435e9f33336b717d0298", func := "muster/musterlaw28.DaemonTells", spec := "daemonTells", unfollowed := true, recurses := true, apart := false }
def DaemonTellsSaid : Prop := daemonTellsRow.holds Try.pinned (OpenSpec.ofChange daemonTellsSpec)

/-- ITS FALSE NEIGHBOUR: 'it returns false'. Refute it at one input. -/
def daemonTellsWrong : ChangeSpec := { name := "daemonTells", fn := fun _ => fun
  | [d] => { results := [.lit (.bool false)], args := [d] }
  | _ => none }
def DaemonTellsWrongFalsely : Prop := daemonTellsRow.holds Try.pinned (OpenSpec.ofChange daemonTellsWrong)

/-- 'musterlaw28.DaemonNumbers': WHATEVER THE INPUT: true; the input reads as it did. -/
def daemonNumbersSpec : ChangeSpec := { name := "daemonNumbers", fn := fun _ => fun
  | [] => { results := [.lit (.bool true)], args := [] }
  | _ => none }
def daemonNumbersRow : OpenClaim := { program := "ytghikboiaecdiaa", sum := "ea65607be91ca2050a5b91303487bf04b7d6f49f964c435e9f33336b717d0298", func := "muster/musterlaw28.DaemonNumbers", spec := "daemonNumbers", unfollowed := true, recurses := true, apart := false }
def DaemonNumbersSaid : Prop := daemonNumbersRow.holds Try.pinned (OpenSpec.ofChange daemonNumbersSpec)

/-- ITS FALSE NEIGHBOUR: 'it returns false'. Refute it at one input. -/
def daemonNumbersWrong : ChangeSpec := { name := "daemonNumbers", fn := fun _ => fun
  | [] => { results := [.lit (.bool false)], args := [] }
  | _ => none }
def DaemonNumbersWrongFalsely : Prop := daemonNumbersRow.holds Try.pinned (OpenSpec.ofChange daemonNumbersWrong)

/-- 'musterlaw28.DaemonOnce': WHATEVER THE INPUT: true; the input reads as it did. -/
def daemonOnceSpec : ChangeSpec := { name := "daemonOnce", fn := fun _ => fun
  | [d1, d2] => { results := [.lit (.bool true)], args := [d1, d2] }
  | _ => none }
def daemonOnceRow : OpenClaim := { program := "ytghikboiaecdiaa", sum := "ea65607be91ca2050a5b91303487bf04b7d6f49f964c435e9f33336b717d0298", func := "muster/musterlaw28.DaemonOnce", spec := "daemonOnce", unfollowed := true, recurses := true, apart := false }
def DaemonOnceSaid : Prop := daemonOnceRow.holds Try.pinned (OpenSpec.ofChange daemonOnceSpec)

/-- ITS FALSE NEIGHBOUR: 'it returns false'. Refute it at one input. -/
def daemonOnceWrong : ChangeSpec := { name := "daemonOnce", fn := fun _ => fun
  | [d1, d2] => { results := [.lit (.bool false)], args := [d1, d2] }
  | _ => none }
def DaemonOnceWrongFalsely : Prop := daemonOnceRow.holds Try.pinned (OpenSpec.ofChange daemonOnceWrong)

/-- 'musterlaw28.DaemonPlays': WHATEVER THE INPUT: true; the input reads as it did. -/
def daemonPlaysSpec : ChangeSpec := { name := "daemonPlays", fn := fun _ => fun
  | [d1, d2, d3] => { results := [.lit (.bool true)], args := [d1, d2, d3] }
  | _ => none }
def daemonPlaysRow : OpenClaim := { program := "ytghikboiaecdiaa", sum := "ea65607be91ca2050a5b91303487bf04b7d6f49f964c435e9f33336b717d0298", func := "muster/musterlaw28.DaemonPlays", spec := "daemonPlays", inPlace := ["maps.clone"], unfollowed := true, recurses := true, apart := false }
def DaemonPlaysSaid : Prop := daemonPlaysRow.holds Try.pinned (OpenSpec.ofChange daemonPlaysSpec)

/-- ITS FALSE NEIGHBOUR: 'it returns false'. Refute it at one input. -/
def daemonPlaysWrong : ChangeSpec := { name := "daemonPlays", fn := fun _ => fun
  | [d1, d2, d3] => { results := [.lit (.bool false)], args := [d1, d2, d3] }
  | _ => none }
def DaemonPlaysWrongFalsely : Prop := daemonPlaysRow.holds Try.pinned (OpenSpec.ofChange daemonPlaysWrong)

/-- 'musterlaw28.DaemonNone': WHATEVER THE INPUT: true; the input reads as it did. -/
def daemonNoneSpec : ChangeSpec := { name := "daemonNone", fn := fun _ => fun
  | [d1, d2] => { results := [.lit (.bool true)], args := [d1, d2] }
  | _ => none }
def daemonNoneRow : OpenClaim := { program := "ytghikboiaecdiaa", sum := "ea65607be91ca2050a5b91303487bf04b7d6f49f964c435e9f33336b717d0298", func := "muster/musterlaw28.DaemonNone", spec := "daemonNone", inPlace := ["maps.clone"], unfollowed := true, recurses := true, apart := false }
def DaemonNoneSaid : Prop := daemonNoneRow.holds Try.pinned (OpenSpec.ofChange daemonNoneSpec)

/-- ITS FALSE NEIGHBOUR: 'it returns false'. Refute it at one input. -/
def daemonNoneWrong : ChangeSpec := { name := "daemonNone", fn := fun _ => fun
  | [d1, d2] => { results := [.lit (.bool false)], args := [d1, d2] }
  | _ => none }
def DaemonNoneWrongFalsely : Prop := daemonNoneRow.holds Try.pinned (OpenSpec.ofChange daemonNoneWrong)

/- THE SECOND FORM. 'bulk': how many values and letters a reading holds, each counted each time it is reached (what is shared counts as often as it is met; a slice's spare places count too). A statement '..UptoSaid' is the law's where the arguments, and the package variables that the reading takes, are together of bulk at most 1048576: NARROWER than '..Said'. Prove '..Said' where nothing that the law and all that it calls make is longer than what came in: it says more and counts as full. Else prove '..UptoSaid'. A law counts once. -/
mutual
def uptoBulk {H : Type} : DataW H → Nat
  | .lit (.string bytes) => bytes.length + 1
  | .lit _ => 1
  | .nil => 1
  | .ptr d => uptoBulk d + 1
  | .slice elems spare => uptoBulkAll elems + uptoBulkAll spare + 1
  | .agg parts => uptoBulkAll parts + 1
  | .iface _ d => uptoBulk d + 1
  | .map entries => uptoBulkEntries entries + 1
  | .held _ => 1
def uptoBulkAll {H : Type} : List (DataW H) → Nat
  | [] => 0
  | d :: r => uptoBulk d + uptoBulkAll r
def uptoBulkEntries {H : Type} : List (Lit × DataW H) → Nat
  | [] => 0
  | x :: r => uptoBulkEntry x + uptoBulkEntries r
def uptoBulkEntry {H : Type} : Lit × DataW H → Nat
  | (.string bytes, d) => bytes.length + uptoBulk d + 1
  | (_, d) => uptoBulk d + 1
 end
def uptoSmall : (H : Type) → List (DataW H) → Bool := fun _ ds => decide (uptoBulkAll ds ≤ 1048576)
def OpenSpec.upto (s : _root_.Go.ChangeSpec) : _root_.Go.OpenSpec := { _root_.Go.OpenSpec.ofChange s with cond := some uptoSmall }

/-- 'musterlaw28.DaemonTells', WHERE WHAT IT READS IS OF BULK AT MOST 1048576: true; the input reads as it did. -/
def daemonTellsUptoRow : OpenClaim := { program := "ytghikboiaecdiaa", sum := "ea65607be91ca2050a5b91303487bf04b7d6f49f964c435e9f33336b717d0298", func := "muster/musterlaw28.DaemonTells", spec := "daemonTells", unfollowed := true, recurses := true, apart := false, narrowed := true }
def DaemonTellsUptoSaid : Prop := daemonTellsUptoRow.holds Try.pinned (OpenSpec.upto daemonTellsSpec)

/-- 'musterlaw28.DaemonNumbers', WHERE WHAT IT READS IS OF BULK AT MOST 1048576: true; the input reads as it did. -/
def daemonNumbersUptoRow : OpenClaim := { program := "ytghikboiaecdiaa", sum := "ea65607be91ca2050a5b91303487bf04b7d6f49f964c435e9f33336b717d0298", func := "muster/musterlaw28.DaemonNumbers", spec := "daemonNumbers", unfollowed := true, recurses := true, apart := false, narrowed := true }
def DaemonNumbersUptoSaid : Prop := daemonNumbersUptoRow.holds Try.pinned (OpenSpec.upto daemonNumbersSpec)

/-- 'musterlaw28.DaemonOnce', WHERE WHAT IT READS IS OF BULK AT MOST 1048576: true; the input reads as it did. -/
def daemonOnceUptoRow : OpenClaim := { program := "ytghikboiaecdiaa", sum := "ea65607be91ca2050a5b91303487bf04b7d6f49f964c435e9f33336b717d0298", func := "muster/musterlaw28.DaemonOnce", spec := "daemonOnce", unfollowed := true, recurses := true, apart := false, narrowed := true }
def DaemonOnceUptoSaid : Prop := daemonOnceUptoRow.holds Try.pinned (OpenSpec.upto daemonOnceSpec)

/-- 'musterlaw28.DaemonPlays', WHERE WHAT IT READS IS OF BULK AT MOST 1048576: true; the input reads as it did. -/
def daemonPlaysUptoRow : OpenClaim := { program := "ytghikboiaecdiaa", sum := "ea65607be91ca2050a5b91303487bf04b7d6f49f964c435e9f33336b717d0298", func := "muster/musterlaw28.DaemonPlays", spec := "daemonPlays", inPlace := ["maps.clone"], unfollowed := true, recurses := true, apart := false, narrowed := true }
def DaemonPlaysUptoSaid : Prop := daemonPlaysUptoRow.holds Try.pinned (OpenSpec.upto daemonPlaysSpec)

/-- 'musterlaw28.DaemonNone', WHERE WHAT IT READS IS OF BULK AT MOST 1048576: true; the input reads as it did. -/
def daemonNoneUptoRow : OpenClaim := { program := "ytghikboiaecdiaa", sum := "ea65607be91ca2050a5b91303487bf04b7d6f49f964c435e9f33336b717d0298", func := "muster/musterlaw28.DaemonNone", spec := "daemonNone", inPlace := ["maps.clone"], unfollowed := true, recurses := true, apart := false, narrowed := true }
def DaemonNoneUptoSaid : Prop := daemonNoneUptoRow.holds Try.pinned (OpenSpec.upto daemonNoneSpec)

end Rows
end Go.Proofs.Ytghikboiaecdiaa
