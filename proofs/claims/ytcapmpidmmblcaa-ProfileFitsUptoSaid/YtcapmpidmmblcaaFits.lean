/- ProfileFits: of any profile, ask and earlier time that are together of the bulk that the statement names, the place that is found is free, and no earlier one is. No conditions but those of the statement itself. -/
import Derived.Test.YtcapmpidmmblcaaFb
set_option linter.unusedVariables false
set_option linter.unusedSimpArgs false

namespace Go.Proofs.Ytcapmpidmmblcaa
open Go Go.Lite Go.Proofs Go.ChangeShapes Go.WideShapes Go.ChangeAt Go.RowKit
set_option maxRecDepth 1000000
def ats5 : List (Nat × List CT) := [(0, [ctP]), (7, ctA), (0, [.int .i64])]
theorem hmain5 (args : List PV) (hl : args.length = ats5.length) (h : ∀ (i : Nat) a d, ats5[i]? = some a → args[i]? = some d → TypedA a d) (hs : PV.cntA args ≤ 1048576) : ∃ L n, callP Try.prog hh L n 5 args = some (.sc (.bool true)) := by
  match args, hl with
  | [a, b, c], _ => exact main5 a b c (h 0 _ _ rfl rfl) (h 1 _ _ rfl rfl) (h 2 _ _ rfl rfl) hs
theorem lifted5 (os : Os) (started : os.Started) (H : Type) (enc : TypeId × Value → H) (F : Stop.Interp) :
    ReturnsInHanded {} Try.checked os 5 .any ((Rows.OpenSpec.upto Rows.profileFitsSpec).pre6 enc Try.prog Try.f5 Rows.profileFitsUptoRow.domain false) (((Rows.OpenSpec.upto Rows.profileFitsSpec).at F).post enc Try.prog Try.f5 false true false false) := by
  refine returnsInHanded_of_cond_sized (C := Try.checked) (s := Rows.OpenSpec.upto Rows.profileFitsSpec) (k := Rows.uptoSmall) rfl own0 started (by kernel_rfl) Try.func5
    (OpenSpec.witness (enc := enc) (C := Try.checked) (s := Rows.OpenSpec.upto Rows.profileFitsSpec) (k := Rows.uptoSmall) rfl false ⟨#[], zeroArgs Try.prog Try.f5, []⟩ 12 (by kernel_rfl) (by kernel_rfl) (by kernel_rfl)
      (x := ([.nil, .agg [.lit (.int .i64 0), .lit (.int .i64 0), .lit (.int .i64 0), .lit (.int .i64 0), .lit (.int .u32 0), .nil], .lit (.int .i64 0)], [], [])) (by kernel_rfl) rfl (by kernel_rfl)) ?_
  intro W base args ds gs before hval hW _ hk hwt _
  exact liftedC (C := Try.checked) (s := Rows.profileFitsSpec) (h := hh) (fn := Try.f5) (f := 5) (ats := ats5) (depth := 20) (bt := 4) (bulk_ok H) (B := 1048576)
    tidyTry prims_hh primsS_hh primsM_hh primsO_hh (by kernel_rfl) rfl
    (fun ds hd => by
      match ds, hd with
      | [a, b, c], _ => rfl)
    (by kernel_rfl) (by kernel_rfl) laidOut0 (by kernel_rfl) (reads_of (by kernel_rfl)) hmain5 W base args ds gs before hval hW (small_le hk) hwt
theorem profileFits_holds : Rows.ProfileFitsUptoSaid :=
  OpenClaim.holds_of_cond 5 Try.f5 rfl rfl rfl rfl rfl rfl rfl ⟨rfl, rfl, rfl, rfl, rfl⟩ rfl rfl rfl rfl rfl (by kernel_rfl) Try.func5 (by kernel_rfl)
    (of_decide_eq_true (by kernel_rfl)) (by unfold Func.isWrapper; first | (rw [if_pos (by decide +kernel)]; kernel_rfl) | (rw [if_neg (by decide +kernel)]; exact ⟨rfl, rfl⟩))
    (fun os started H enc _ F => lifted5 os started H enc F)
end Go.Proofs.Ytcapmpidmmblcaa
