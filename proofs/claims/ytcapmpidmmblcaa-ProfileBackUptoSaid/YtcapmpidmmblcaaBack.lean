/- ProfileBack: of any profile and any span that are together of the bulk that the statement names, giving back what was taken restores everything, and nodes aside are as they were. No conditions but those of the statement itself. -/
import Derived.Test.YtcapmpidmmblcaaFb
set_option linter.unusedVariables false
set_option linter.unusedSimpArgs false

namespace Go.Proofs.Ytcapmpidmmblcaa
open Go Go.Lite Go.Proofs Go.ChangeShapes Go.WideShapes Go.ChangeAt Go.RowKit
set_option maxRecDepth 1000000
def ats4 : List (Nat × List CT) := [(0, [ctP]), (5, ctS)]
theorem hmain4 (args : List PV) (hl : args.length = ats4.length) (h : ∀ (i : Nat) a d, ats4[i]? = some a → args[i]? = some d → TypedA a d) (hs : PV.cntA args ≤ 1048576) : ∃ L n, callP Try.prog hh L n 4 args = some (.sc (.bool true)) := by
  match args, hl with
  | [a, b], _ => exact main4 a b (h 0 _ _ rfl rfl) (h 1 _ _ rfl rfl) hs
theorem lifted4 (os : Os) (started : os.Started) (H : Type) (enc : TypeId × Value → H) (F : Stop.Interp) :
    ReturnsInHanded {} Try.checked os 4 .any ((Rows.OpenSpec.upto Rows.profileBackSpec).pre6 enc Try.prog Try.f4 Rows.profileBackUptoRow.domain false) (((Rows.OpenSpec.upto Rows.profileBackSpec).at F).post enc Try.prog Try.f4 false true false false) := by
  refine returnsInHanded_of_cond_sized (C := Try.checked) (s := Rows.OpenSpec.upto Rows.profileBackSpec) (k := Rows.uptoSmall) rfl own0 started (by kernel_rfl) Try.func4
    (OpenSpec.witness (enc := enc) (C := Try.checked) (s := Rows.OpenSpec.upto Rows.profileBackSpec) (k := Rows.uptoSmall) rfl false ⟨#[], zeroArgs Try.prog Try.f4, []⟩ 12 (by kernel_rfl) (by kernel_rfl) (by kernel_rfl)
      (x := ([.nil, .agg [.lit (.int .u32 0), .lit (.int .i64 0), .lit (.int .i64 0), .lit (.int .i64 0)]], [], [])) (by kernel_rfl) rfl (by kernel_rfl)) ?_
  intro W base args ds gs before hval hW _ hk hwt _
  exact liftedC (C := Try.checked) (s := Rows.profileBackSpec) (h := hh) (fn := Try.f4) (f := 4) (ats := ats4) (depth := 20) (bt := 4) (bulk_ok H) (B := 1048576)
    tidyTry prims_hh primsS_hh primsM_hh primsO_hh (by kernel_rfl) rfl
    (fun ds hd => by
      match ds, hd with
      | [a, b], _ => rfl)
    (by kernel_rfl) (by kernel_rfl) laidOut0 (by kernel_rfl) (reads_of (by kernel_rfl)) hmain4 W base args ds gs before hval hW (small_le hk) hwt
theorem profileBack_holds : Rows.ProfileBackUptoSaid :=
  OpenClaim.holds_of_cond 4 Try.f4 rfl rfl rfl rfl rfl rfl rfl ⟨rfl, rfl, rfl, rfl, rfl⟩ rfl rfl rfl rfl rfl (by kernel_rfl) Try.func4 (by kernel_rfl)
    (of_decide_eq_true (by kernel_rfl)) (by unfold Func.isWrapper; first | (rw [if_pos (by decide +kernel)]; kernel_rfl) | (rw [if_neg (by decide +kernel)]; exact ⟨rfl, rfl⟩))
    (fun os started H enc _ F => lifted4 os started H enc F)
end Go.Proofs.Ytcapmpidmmblcaa
