/- The fixed examples of chapter 30 come out as written. -/
import Derived.Test.YtagplnihflmelaaGreatDoorW
import Derived.Test.YtagplnihflmelaaGreatDoorCards
import Derived.Test.YtagplnihflmelaaGreatDoorTie
import Derived.ProofKit
import Derived.KernelRfl
import Derived.Deep.DeepHandedRow
import Derived.OpenShut
set_option linter.unusedVariables false
set_option linter.unusedSimpArgs false

namespace Go.Proofs.YtagplnihflmelaaGreatDoor
open Go Go.Lite Go.Proofs Go.ChangeShapes Go.WideShapes Go.ChangeAt Go.RowKit
set_option maxRecDepth 1000000
theorem own0 : ownKnob Tryz.prog.godebug = none := by kernel_rfl
theorem laidOut0 : laidOutB Tryz.prog = true := by kernel_rfl
def ats3 : List (Nat × List CT) := []
theorem hmain3 (args : List PV) (hl : args.length = ats3.length) (_h : ∀ (i : Nat) a d, ats3[i]? = some a → args[i]? = some d → TypedA a d) : ∃ L n, callP Tryz.prog hh L n 3 args = some (.sc (.bool true)) := by
  match args, hl with
  | [], _ => exact ⟨_, _, t_numbers⟩
theorem reads3 (os : Os) {H : Type} (enc : TypeId × Value → H) : ∃ places, DataW.whole enc Tryz.prog ((laidWorld os).forCall (fun _ _ => 0) ⟨#[], #[], []⟩).memory Tryz.f3.params.toList Rows.shellNumbersSpec.vars false (#[] : Array Value).toList 8 = some ([], [], places) :=
  ⟨[], by kernel_rfl⟩
theorem lifted3 (os : Os) (started : os.Started) (H : Type) (enc : TypeId × Value → H) (F : Stop.Interp) :
    ReturnsInHanded {} Tryz.checked os 3 .any ((OpenSpec.ofChange Rows.shellNumbersSpec).preRow enc Tryz.prog Tryz.f3 Rows.shellNumbersRow.domain false Rows.shellNumbersRow.laid) (((OpenSpec.ofChange Rows.shellNumbersSpec).at F).post enc Tryz.prog Tryz.f3 false true false false) := by
  obtain ⟨places, hx⟩ := reads3 os enc
  refine returnsInHanded_of_row (C := Tryz.checked) (s := OpenSpec.ofChange Rows.shellNumbersSpec) own0 started (by kernel_rfl) Tryz.func3
    (witness_row_at (enc := enc) (C := Tryz.checked) false (laidWorld os) #[] rfl (by kernel_rfl) (by kernel_rfl) (by kernel_rfl)
      (OpenSpec.preRow_of_cond 8 hx (by kernel_rfl) (fun k hk => by cases hk) (by kernel_rfl) (laid_met os _))) ?_
  intro W base args ds gs before hval hW _ _ hwt hL hsh _
  exact contractP (C := Tryz.checked) (s := Rows.shellNumbersSpec) (h := hh) (fn := Tryz.f3) (f := 3) (ats := ats3) (depth := 20) (bt := 4)
    tidyTry prims_hh primsS_hh primsM_hh primsO_hh (by kernel_rfl) rfl
    (fun ds hd => by
      match ds, hd with
      | [], _ => rfl)
    (by kernel_rfl) (by kernel_rfl) laidOut0 (by kernel_rfl) (reads_of (by kernel_rfl)) hmain3 W base args ds gs before hval hW hwt (gl_laid hL hsh)
theorem said3 : Rows.ShellNumbersSaid :=
  OpenClaim.holds_of_cond 3 Tryz.f3 rfl rfl rfl rfl rfl rfl rfl ⟨rfl, rfl, rfl, rfl, rfl⟩ rfl rfl rfl rfl rfl (by kernel_rfl) Tryz.func3 (by kernel_rfl)
    (of_decide_eq_true (by kernel_rfl)) (by unfold Func.isWrapper; first | (rw [if_pos (by decide +kernel)]; kernel_rfl) | (rw [if_neg (by decide +kernel)]; exact ⟨rfl, rfl⟩))
    (fun os started H enc _ F => by rw [OpenClaim.pre_eq_preRow]; exact lifted3 os started H enc F)
theorem plain3 (f : FuncId) (fn : Func) (hf : Tryz.pinned.checked.prog.funcNamed Rows.shellNumbersRow.func = some f) (hfn : Tryz.pinned.checked.prog.funcs[f]? = some fn) :
    true = Tryz.pinned.checked.prog.looks [] ∧ ∀ (j : Nat) t, fn.params[j]? = some t → Tryz.pinned.checked.prog.wantsStandIn t = false := by
  obtain rfl : f = 3 := Option.some.inj ((show Tryz.prog.funcNamed Rows.shellNumbersRow.func = some 3 by kernel_rfl).symm.trans hf) |>.symm
  obtain rfl : fn = Tryz.f3 := (Option.some.inj (Tryz.func3.symm.trans hfn)).symm
  refine ⟨by kernel_rfl, fun j t ht => ?_⟩
  have hp : Tryz.f3.params = #[] := by kernel_rfl
  rw [hp] at ht
  simp at ht
theorem shellNumbers_holds : Rows.ShellNumbersCardSaid :=
  Claim7.holds_tied_plain_at .later [] _ _ _ _ said3 (fun _ h => by cases h) (by kernel_rfl) (fun _ h => by cases h) shellNumbers_row_tie rfl ⟨rfl, rfl⟩ (by kernel_rfl) rfl plain3 (by kernel_rfl)
end Go.Proofs.YtagplnihflmelaaGreatDoor
