/- PartsAdmits: of any tree of accounts and any list of names, parts.Admits of an account tells parts.Admits of all accounts below it, and more names admit no fewer. No conditions but those of the statement itself. -/
import Derived.Test.YtjfjcigpjechfaaCo
import Derived.Test.YtjfjcigpjechfaaRows
import Derived.Test.YtjfjcigpjechfaaChecked
import Derived.ProofKit
import Derived.KernelRfl

namespace Go.Proofs.Ytjfjcigpjechfaa
open Go Go.Lite Go.Proofs Go.ChangeShapes Go.WideShapes Go.ChangeAt Go.RowKit
set_option maxRecDepth 1000000
theorem awake6 : callP Try.prog hh 1000 40 6 [] = some (.sc (.bool true)) := by kernel_rfl
theorem own0 : ownKnob Try.prog.godebug = none := by kernel_rfl
theorem laidOut0 : laidOutB Try.prog = true := by kernel_rfl
theorem tidyTry : TidyF Try.prog := tidyF_of (by kernel_rfl)
def ats4 : List (Nat × List CT) := [(0, [.list 4 [.str, .str, .int .i64]]), (0, [.list 0 [.str]]), (0, [.str])]
theorem hmain4 (args : List PV) (hl : args.length = ats4.length) (h : ∀ (i : Nat) a d, ats4[i]? = some a → args[i]? = some d → TypedA a d) : ∃ L n, callP Try.prog hh L n 4 args = some (.sc (.bool true)) := by
  match args, hl with
  | [a, b, c], _ => exact main4 awake6 a b c (h 0 _ _ rfl rfl) (h 1 _ _ rfl rfl) (h 2 _ _ rfl rfl)
theorem lifted4 (os : Os) (started : os.Started) (H : Type) (enc : TypeId × Value → H) :
    ReturnsInHanded {} Try.checked os 4 .any (Rows.partsAdmitsSpec.pre6 enc Try.prog Try.f4 Rows.partsAdmitsRow.domain false) (Rows.partsAdmitsSpec.post enc Try.prog Try.f4 false true false false) :=
  lifted (C := Try.checked) (h := hh) (fn := Try.f4) (ats := ats4) (depth := 20) (bt := 4) own0 started (by kernel_rfl) Try.func4
    (ChangeSpec.witness6 (enc := enc) (C := Try.checked) false ⟨#[], zeroArgs Try.prog Try.f4, []⟩ 8 (by kernel_rfl) (by kernel_rfl) (by kernel_rfl) (by kernel_rfl))
    tidyTry (primsOK_none _) rfl rfl
    (fun ds hd => by
      match ds, hd with
      | [a, b, c], _ => rfl)
    (by kernel_rfl) (by kernel_rfl) laidOut0 (by kernel_rfl) (reads_of (by kernel_rfl)) hmain4
theorem partsAdmits_holds : Rows.PartsAdmitsSaid :=
  OpenClaim.holds_of_wide 4 Try.f4 rfl rfl rfl rfl rfl rfl rfl ⟨rfl, rfl, rfl, rfl, rfl⟩ rfl rfl rfl rfl rfl (by kernel_rfl) Try.func4 (by kernel_rfl)
    (of_decide_eq_true (by kernel_rfl)) (by unfold Func.isWrapper; first | (rw [if_pos (by decide +kernel)]; kernel_rfl) | (rw [if_neg (by decide +kernel)]; exact ⟨rfl, rfl⟩))
    (fun os started H enc _ => lifted4 os started H enc)
end Go.Proofs.Ytjfjcigpjechfaa
