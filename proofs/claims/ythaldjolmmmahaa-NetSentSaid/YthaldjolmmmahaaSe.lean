/- NetSent: of any calls, whatever is delivered was sent; no number comes twice. No conditions but those of the statement itself. -/
import Derived.Test.YthaldjolmmmahaaKb
import Derived.Test.YthaldjolmmmahaaRows
import Derived.Test.YthaldjolmmmahaaChecked
import Derived.ProofKit
import Derived.KernelRfl
set_option linter.unusedVariables false
set_option linter.unusedSimpArgs false

namespace Go.Proofs.Ythaldjolmmmahaa
open Go Go.Lite Go.Proofs Go.ChangeShapes Go.WideShapes Go.ChangeAt Go.RowKit
set_option maxRecDepth 1000000
theorem own0 : ownKnob Try.prog.godebug = none := by kernel_rfl
theorem laidOut0 : laidOutB Try.prog = true := by kernel_rfl
theorem primsS_hh : PrimsSOK Try.prog hh.primS := primsS0
def ats4 : List (Nat × List CT) := [(0, [.list 0 8 [.int .i64]])]
theorem hmain4 (args : List PV) (hl : args.length = ats4.length) (h : ∀ (i : Nat) a d, ats4[i]? = some a → args[i]? = some d → TypedA a d) : ∃ L n, callP Try.prog hh L n 4 args = some (.sc (.bool true)) := by
  match args, hl with
  | [a], _ =>
    obtain ⟨ws, rfl, h1⟩ := ints_inv (h 0 _ _ rfl rfl).cell
    unfold reachBytes at h1
    exact ⟨_, _, main4 ws (by omega)⟩
theorem lifted4 (os : Os) (started : os.Started) (H : Type) (enc : TypeId × Value → H) :
    ReturnsInHanded {} Try.checked os 4 .any (Rows.netSentSpec.pre6 enc Try.prog Try.f4 Rows.netSentRow.domain false) (Rows.netSentSpec.post enc Try.prog Try.f4 false true false false) :=
  lifted (C := Try.checked) (h := hh) (fn := Try.f4) (ats := ats4) (depth := 20) (bt := 4) own0 started (by kernel_rfl) Try.func4
    (ChangeSpec.witness6 (enc := enc) (C := Try.checked) false ⟨#[], zeroArgs Try.prog Try.f4, []⟩ 8 (by kernel_rfl) (by kernel_rfl) (by kernel_rfl) (by kernel_rfl))
    tidyTry prims_hh primsS_hh (fun g q h => by simp [hh, h0] at h) (fun g q sp h => by simp [hh, h0] at h) (by kernel_rfl) rfl
    (fun ds hd => by
      match ds, hd with
      | [a], _ => rfl)
    (by kernel_rfl) (by kernel_rfl) laidOut0 (by kernel_rfl) (reads_of (by kernel_rfl)) hmain4
theorem netSent_holds : Rows.NetSentSaid :=
  OpenClaim.holds_of_wide 4 Try.f4 rfl rfl rfl rfl rfl rfl rfl ⟨rfl, rfl, rfl, rfl, rfl⟩ rfl rfl rfl rfl rfl (by kernel_rfl) Try.func4 (by kernel_rfl)
    (of_decide_eq_true (by kernel_rfl)) (by unfold Func.isWrapper; first | (rw [if_pos (by decide +kernel)]; kernel_rfl) | (rw [if_neg (by decide +kernel)]; exact ⟨rfl, rfl⟩))
    (fun os started H enc _ => lifted4 os started H enc)
end Go.Proofs.Ythaldjolmmmahaa
