/- DaemonTells: of any list of numbers taken as launches, ends, sights and kills, what is over is told again till it is seen. No conditions but those of the statement itself. -/
import Derived.Test.YtghikboiaecdiaaKo
import Derived.Test.YtghikboiaecdiaaRows
import Derived.Test.YtghikboiaecdiaaChecked
import Derived.ProofKit
import Derived.KernelRfl
set_option linter.unusedVariables false
set_option linter.unusedSimpArgs false

namespace Go.Proofs.Ytghikboiaecdiaa
open Go Go.Lite Go.Proofs Go.ChangeShapes Go.WideShapes Go.ChangeAt Go.RowKit
set_option maxRecDepth 1000000
theorem own0 : ownKnob Try.prog.godebug = none := by kernel_rfl
theorem laidOut0 : laidOutB Try.prog = true := by kernel_rfl
def ats3 : List (Nat × List CT) := [(0, [.list 0 8 [.int .i64]])]
theorem hmain3 (args : List PV) (hl : args.length = ats3.length) (h : ∀ (i : Nat) a d, ats3[i]? = some a → args[i]? = some d → TypedA a d) : ∃ L n, callP Try.prog hh L n 3 args = some (.sc (.bool true)) := by
  match args, hl with
  | [a], _ =>
    obtain ⟨ws, rfl, h1⟩ := ints_inv (h 0 _ _ rfl rfl).cell
    unfold reachBytes at h1
    exact ⟨_, _, main3 ws (by omega)⟩
theorem lifted3 (os : Os) (started : os.Started) (H : Type) (enc : TypeId × Value → H) :
    ReturnsInHanded {} Try.checked os 3 .any (Rows.daemonTellsSpec.pre6 enc Try.prog Try.f3 Rows.daemonTellsRow.domain false) (Rows.daemonTellsSpec.post enc Try.prog Try.f3 false true false false) :=
  lifted (C := Try.checked) (h := hh) (fn := Try.f3) (ats := ats3) (depth := 20) (bt := 4) own0 started (by kernel_rfl) Try.func3
    (ChangeSpec.witness6 (enc := enc) (C := Try.checked) false ⟨#[], zeroArgs Try.prog Try.f3, []⟩ 12 (by kernel_rfl) (by kernel_rfl) (by kernel_rfl) (by kernel_rfl))
    tidyTry (primsOK_none _) primsS0 (primsMOK_none _) rfl rfl
    (fun ds hd => by
      match ds, hd with
      | [a], _ => rfl)
    (by kernel_rfl) (by kernel_rfl) laidOut0 (by kernel_rfl) (reads_of (by kernel_rfl)) hmain3
theorem daemonTells_holds : Rows.DaemonTellsSaid :=
  OpenClaim.holds_of_wide 3 Try.f3 rfl rfl rfl rfl rfl rfl rfl ⟨rfl, rfl, rfl, rfl, rfl⟩ rfl rfl rfl rfl rfl (by kernel_rfl) Try.func3 (by kernel_rfl)
    (of_decide_eq_true (by kernel_rfl)) (by unfold Func.isWrapper; first | (rw [if_pos (by decide +kernel)]; kernel_rfl) | (rw [if_neg (by decide +kernel)]; exact ⟨rfl, rfl⟩))
    (fun os started H enc _ => lifted3 os started H enc)
end Go.Proofs.Ytghikboiaecdiaa
