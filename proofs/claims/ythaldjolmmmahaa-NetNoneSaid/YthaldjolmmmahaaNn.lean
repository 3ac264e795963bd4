/- NetNone: of any number and any bytes, a net that New did not make answers noughts and ErrNil. No conditions but those of the statement itself. -/
import Derived.Test.YthaldjolmmmahaaKe
import Derived.Test.YthaldjolmmmahaaRows
import Derived.Test.YthaldjolmmmahaaChecked
import Derived.ProofKit
import Derived.KernelRfl

namespace Go.Proofs.Ythaldjolmmmahaa
open Go Go.Lite Go.Proofs Go.ChangeShapes Go.WideShapes Go.ChangeAt Go.RowKit
set_option maxRecDepth 1000000
theorem own0 : ownKnob Try.prog.godebug = none := by kernel_rfl
theorem laidOut0 : laidOutB Try.prog = true := by kernel_rfl
theorem tidyTry : TidyF Try.prog := tidyF_of (by kernel_rfl)
def ats8 : List (Nat × List CT) := [(0, [.int .i64]), (0, [.list 0 1 [.int .u8]])]
theorem hmain8 (args : List PV) (hl : args.length = ats8.length) (_h : ∀ (i : Nat) a d, ats8[i]? = some a → args[i]? = some d → TypedA a d) : ∃ L n, callP Try.prog hh L n 8 args = some (.sc (.bool true)) := by
  match args, hl with
  | [a, b], _ => exact ⟨_, _, none8 a b⟩
theorem lifted8 (os : Os) (started : os.Started) (H : Type) (enc : TypeId × Value → H) :
    ReturnsInHanded {} Try.checked os 8 .any (Rows.netNoneSpec.pre6 enc Try.prog Try.f8 Rows.netNoneRow.domain false) (Rows.netNoneSpec.post enc Try.prog Try.f8 false true false false) :=
  lifted (C := Try.checked) (h := hh) (fn := Try.f8) (ats := ats8) (depth := 20) (bt := 4) own0 started (by kernel_rfl) Try.func8
    (ChangeSpec.witness6 (enc := enc) (C := Try.checked) false ⟨#[], zeroArgs Try.prog Try.f8, []⟩ 8 (by kernel_rfl) (by kernel_rfl) (by kernel_rfl) (by kernel_rfl))
    tidyTry (primsOK_none _) primsS_hh rfl rfl
    (fun ds hd => by
      match ds, hd with
      | [a, b], _ => rfl)
    (by kernel_rfl) (by kernel_rfl) laidOut0 (by kernel_rfl) (reads_of (by kernel_rfl)) hmain8
theorem netNone_holds : Rows.NetNoneSaid :=
  OpenClaim.holds_of_wide 8 Try.f8 rfl rfl rfl rfl rfl rfl rfl ⟨rfl, rfl, rfl, rfl, rfl⟩ rfl rfl rfl rfl rfl (by kernel_rfl) Try.func8 (by kernel_rfl)
    (of_decide_eq_true (by kernel_rfl)) (by unfold Func.isWrapper; first | (rw [if_pos (by decide +kernel)]; kernel_rfl) | (rw [if_neg (by decide +kernel)]; exact ⟨rfl, rfl⟩))
    (fun os started H enc _ => lifted8 os started H enc)
end Go.Proofs.Ythaldjolmmmahaa
