/- NetOrder: of any bodies and any order, packets are delivered the same, and the others stay. No conditions but those of the statement itself. -/
import Derived.Test.YthaldjolmmmahaaKo
import Derived.Test.YthaldjolmmmahaaRows
import Derived.Test.YthaldjolmmmahaaChecked
import Derived.ProofKit
import Derived.KernelRfl

namespace Go.Proofs.Ythaldjolmmmahaa
open Go Go.Lite Go.Proofs Go.ChangeShapes Go.WideShapes Go.ChangeAt Go.RowKit
set_option maxRecDepth 1000000
theorem own0 : ownKnob Try.prog.godebug = none := by kernel_rfl
theorem laidOut0 : laidOutB Try.prog = true := by kernel_rfl
theorem primsS_hh : PrimsSOK Try.prog hh.primS := primsS0
def ats5 : List (Nat × List CT) := [(0, [.list 0 24 [.list 0 1 [.int .u8]]]), (0, [.list 0 8 [.int .i64]])]
theorem hmain5 (args : List PV) (hl : args.length = ats5.length) (h : ∀ (i : Nat) a d, ats5[i]? = some a → args[i]? = some d → TypedA a d) : ∃ L n, callP Try.prog hh L n 5 args = some (.sc (.bool true)) := by
  match args, hl with
  | [a, b], _ =>
    obtain ⟨bs, rfl, h1⟩ := bodies_inv (h 0 _ _ rfl rfl).cell
    obtain ⟨os, rfl, h2⟩ := ints_inv (h 1 _ _ rfl rfl).cell
    unfold reachBytes at h1 h2
    exact ⟨_, _, main5 bs (by omega) os (by omega)⟩
theorem lifted5 (os : Os) (started : os.Started) (H : Type) (enc : TypeId × Value → H) :
    ReturnsInHanded {} Try.checked os 5 .any (Rows.netOrderSpec.pre6 enc Try.prog Try.f5 Rows.netOrderRow.domain false) (Rows.netOrderSpec.post enc Try.prog Try.f5 false true false false) :=
  lifted (C := Try.checked) (h := hh) (fn := Try.f5) (ats := ats5) (depth := 20) (bt := 4) own0 started (by kernel_rfl) Try.func5
    (ChangeSpec.witness6 (enc := enc) (C := Try.checked) false ⟨#[], zeroArgs Try.prog Try.f5, []⟩ 8 (by kernel_rfl) (by kernel_rfl) (by kernel_rfl) (by kernel_rfl))
    tidyTry prims_hh primsS_hh rfl rfl
    (fun ds hd => by
      match ds, hd with
      | [a, b], _ => rfl)
    (by kernel_rfl) (by kernel_rfl) laidOut0 (by kernel_rfl) (reads_of (by kernel_rfl)) hmain5
theorem netOrder_holds : Rows.NetOrderSaid :=
  OpenClaim.holds_of_wide 5 Try.f5 rfl rfl rfl rfl rfl rfl rfl ⟨rfl, rfl, rfl, rfl, rfl⟩ rfl rfl rfl rfl rfl (by kernel_rfl) Try.func5 (by kernel_rfl)
    (of_decide_eq_true (by kernel_rfl)) (by unfold Func.isWrapper; first | (rw [if_pos (by decide +kernel)]; kernel_rfl) | (rw [if_neg (by decide +kernel)]; exact ⟨rfl, rfl⟩))
    (fun os started H enc _ => lifted5 os started H enc)
end Go.Proofs.Ythaldjolmmmahaa
