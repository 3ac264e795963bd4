/- AuditNumbers: the fixed examples of the chapter come out as written. No conditions: the statement takes no arguments. -/
import Derived.Test.YtdpgfekfkcaccaaGreatRd
import Derived.Test.YtdpgfekfkcaccaaGreatRows
import Derived.Test.YtdpgfekfkcaccaaGreatChecked
import Derived.ProofKit
import Derived.KernelRfl
set_option linter.unusedVariables false
set_option linter.unusedSimpArgs false

namespace Go.Proofs.YtdpgfekfkcaccaaGreat
open Go Go.Lite Go.Proofs Go.ChangeShapes Go.WideShapes Go.ChangeAt Go.RowKit
set_option maxRecDepth 1000000
theorem own0 : ownKnob Tryz.prog.godebug = none := by kernel_rfl
theorem laidOut0 : laidOutB Tryz.prog = true := by kernel_rfl
theorem primsS_hh : PrimsSOK Tryz.prog hh.primS := fun g q h => by simp [hh, h0] at h
def ats3 : List (Nat × List CT) := []
theorem hmain3 (args : List PV) (hl : args.length = ats3.length) (_h : ∀ (i : Nat) a d, ats3[i]? = some a → args[i]? = some d → TypedA a d) : ∃ L n, callP Tryz.prog hh L n 3 args = some (.sc (.bool true)) := by
  match args, hl with
  | [], _ => exact ⟨_, _, t_num⟩
theorem lifted3 (os : Os) (started : os.Started) (H : Type) (enc : TypeId × Value → H) :
    ReturnsInHanded {} Tryz.checked os 3 .any (Rows.auditNumbersSpec.pre6 enc Tryz.prog Tryz.f3 Rows.auditNumbersRow.domain false) (Rows.auditNumbersSpec.post enc Tryz.prog Tryz.f3 false true false false) :=
  lifted (C := Tryz.checked) (h := hh) (fn := Tryz.f3) (ats := ats3) (depth := 20) (bt := 4) own0 started (by kernel_rfl) Tryz.func3
    (ChangeSpec.witness6 (enc := enc) (C := Tryz.checked) false ⟨#[], zeroArgs Tryz.prog Tryz.f3, []⟩ 8 (by kernel_rfl) (by kernel_rfl) (by kernel_rfl) (by kernel_rfl))
    tidyTry prims_hh primsS_hh (fun g q h => by simp [hh, h0] at h) primsO_ok (by kernel_rfl) rfl
    (fun ds hd => by
      match ds, hd with
      | [], _ => rfl)
    (by kernel_rfl) (by kernel_rfl) laidOut0 (by kernel_rfl) (reads_of (by kernel_rfl)) hmain3
theorem auditNumbers_holds : Rows.AuditNumbersSaid :=
  OpenClaim.holds_of_wide 3 Tryz.f3 rfl rfl rfl rfl rfl rfl rfl ⟨rfl, rfl, rfl, rfl, rfl⟩ rfl rfl rfl rfl rfl (by kernel_rfl) Tryz.func3 (by kernel_rfl)
    (of_decide_eq_true (by kernel_rfl)) (by unfold Func.isWrapper; first | (rw [if_pos (by decide +kernel)]; kernel_rfl) | (rw [if_neg (by decide +kernel)]; exact ⟨rfl, rfl⟩))
    (fun os started H enc _ => lifted3 os started H enc)
end Go.Proofs.YtdpgfekfkcaccaaGreat
