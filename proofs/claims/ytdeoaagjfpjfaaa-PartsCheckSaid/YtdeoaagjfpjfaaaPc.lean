/- PartsCheck: of any config and specs, a job that parts.Check lets in fits at once on an empty machine, and a smaller one is let in. No conditions but those of the statement itself. -/
import Derived.Test.YtdeoaagjfpjfaaaKc
import Derived.Test.YtdeoaagjfpjfaaaRows
import Derived.Test.YtdeoaagjfpjfaaaChecked
import Derived.ProofKit
import Derived.KernelRfl
set_option linter.unusedVariables false
set_option linter.unusedSimpArgs false

namespace Go.Proofs.Ytdeoaagjfpjfaaa
open Go Go.Lite Go.Lite.Pq Go.Proofs Go.ChangeShapes Go.WideShapes Go.ChangeAt Go.RowKit
set_option maxRecDepth 1000000
theorem own0 : ownKnob Try.prog.godebug = none := by kernel_rfl
theorem laidOut0 : laidOutB Try.prog = true := by kernel_rfl
def ats3 : List (Nat × List CT) := [(6, cfgCT), (9, spCT), (9, spCT)]
theorem hmain3 (args : List PV) (hl : args.length = ats3.length) (h : ∀ (i : Nat) a d, ats3[i]? = some a → args[i]? = some d → TypedA a d) : ∃ L n, callP Try.prog hh L n 3 args = some (.sc (.bool true)) := by
  match args, hl with
  | [a, b, c], _ => exact main3 a b c (h 0 _ _ rfl rfl) (h 1 _ _ rfl rfl) (h 2 _ _ rfl rfl)
theorem lifted3 (os : Os) (started : os.Started) (H : Type) (enc : TypeId × Value → H) :
    ReturnsInHanded {} Try.checked os 3 .any (Rows.partsCheckSpec.pre6 enc Try.prog Try.f3 Rows.partsCheckRow.domain false) (Rows.partsCheckSpec.post enc Try.prog Try.f3 false true false false) :=
  lifted (C := Try.checked) (h := hh) (fn := Try.f3) (ats := ats3) (depth := 20) (bt := 4) own0 started (by kernel_rfl) Try.func3
    (ChangeSpec.witness6 (enc := enc) (C := Try.checked) false ⟨#[], zeroArgs Try.prog Try.f3, []⟩ 8 (by kernel_rfl) (by kernel_rfl) (by kernel_rfl) (by kernel_rfl))
    tidyTry prims_hh primsS_hh primsM_hh primsO_hh (by kernel_rfl) rfl
    (fun ds hd => by
      match ds, hd with
      | [a, b, c], _ => rfl)
    (by kernel_rfl) (by kernel_rfl) laidOut0 (by kernel_rfl) (reads_of (by kernel_rfl)) hmain3
theorem partsCheck_holds : Rows.PartsCheckSaid :=
  OpenClaim.holds_of_wide 3 Try.f3 rfl rfl rfl rfl rfl rfl rfl ⟨rfl, rfl, rfl, rfl, rfl⟩ rfl rfl rfl rfl rfl (by kernel_rfl) Try.func3 (by kernel_rfl)
    (of_decide_eq_true (by kernel_rfl)) (by unfold Func.isWrapper; first | (rw [if_pos (by decide +kernel)]; kernel_rfl) | (rw [if_neg (by decide +kernel)]; exact ⟨rfl, rfl⟩))
    (fun os started H enc _ => lifted3 os started H enc)
end Go.Proofs.Ytdeoaagjfpjfaaa
