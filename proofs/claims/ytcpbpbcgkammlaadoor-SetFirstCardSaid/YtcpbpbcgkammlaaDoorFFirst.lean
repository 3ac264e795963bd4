/- The card of SetFirst: the lowest nodes of a set are within it, as many as asked, and below all its other nodes; the program answers true at every input, where the listed tables hold what the program lays. -/
import Derived.Test.YtcpbpbcgkammlaaDoorW
import Derived.Test.YtcpbpbcgkammlaaDoorCards
import Derived.Test.YtcpbpbcgkammlaaDoorTie
import Derived.ProofKit
import Derived.KernelRfl
import Derived.Deep.DeepHandedRow
import Derived.OpenShut
set_option linter.unusedVariables false
set_option linter.unusedSimpArgs false

namespace Go.Proofs.YtcpbpbcgkammlaaDoor
open Go Go.Lite Go.Lite.Pp Go.Proofs Go.ChangeShapes Go.WideShapes Go.ChangeAt Go.RowKit
set_option maxRecDepth 1000000
theorem own0 : ownKnob Tryd.prog.godebug = none := by kernel_rfl
theorem laidOut0 : laidOutB Tryd.prog = true := by kernel_rfl
theorem u32_inv {x : PV} (h : Typed (.int .u32) x) : ∃ n : Nat, x = U n ∧ n < 2 ^ 32 := by
  cases h with
  | int hn =>
    rename_i n
    have a1 : IntKind.u32.min = 0 := rfl
    have a2 : IntKind.u32.max = 4294967295 := rfl
    simp only [Lit.wf, Bool.and_eq_true, decide_eq_true_eq, a1, a2] at hn
    exact ⟨n.toNat, by simp [U, Int.toNat_of_nonneg hn.1], by omega⟩
theorem i64_inv {x : PV} (h : Typed (.int .i64) x) : ∃ n : Int, x = I n := by
  cases h with
  | int hn => exact ⟨_, rfl⟩
def ats4 : List (Nat × List CT) := [(0, [.int .u32]), (0, [.int .i64])]
theorem hmain4 (args : List PV) (hl : args.length = ats4.length) (h : ∀ (i : Nat) a d, ats4[i]? = some a → args[i]? = some d → TypedA a d) : ∃ L n, callP Tryd.prog hh L n 4 args = some (.sc (.bool true)) := by
  match args, hl with
  | [a, b], _ =>
    obtain ⟨s, rfl, hs⟩ := u32_inv (h 0 _ _ rfl rfl).cell
    obtain ⟨n, rfl⟩ := i64_inv (h 1 _ _ rfl rfl).cell
    exact ⟨200, 61, k4 (by omega) (by omega) s hs n t_awake⟩
theorem reads4 (os : Os) {H : Type} (enc : TypeId × Value → H) : ∃ places, DataW.whole enc Tryd.prog ((laidWorld os).forCall (fun _ _ => 0) ⟨#[], #[.int .u32 0, .int .i64 0], []⟩).memory Tryd.f4.params.toList Rows.setFirstSpec.vars false #[Value.int .u32 0, .int .i64 0].toList 8 = some ([.lit (.int .u32 0), .lit (.int .i64 0)], [], places) :=
  ⟨[], by kernel_rfl⟩
theorem lifted4 (os : Os) (started : os.Started) (H : Type) (enc : TypeId × Value → H) (F : Stop.Interp) :
    ReturnsInHanded {} Tryd.checked os 4 .any ((OpenSpec.ofChange Rows.setFirstSpec).preRow enc Tryd.prog Tryd.f4 Rows.setFirstRow.domain false Rows.setFirstRow.laid) (((OpenSpec.ofChange Rows.setFirstSpec).at F).post enc Tryd.prog Tryd.f4 false true false false) := by
  obtain ⟨places, hx⟩ := reads4 os enc
  refine returnsInHanded_of_row (C := Tryd.checked) (s := OpenSpec.ofChange Rows.setFirstSpec) own0 started (by kernel_rfl) Tryd.func4
    (witness_row_at (enc := enc) (C := Tryd.checked) false (laidWorld os) #[.int .u32 0, .int .i64 0] rfl (by kernel_rfl) (by kernel_rfl) (by kernel_rfl)
      (OpenSpec.preRow_of_cond 8 hx (by kernel_rfl) (fun k hk => by cases hk) (by kernel_rfl) (laid_met os _))) ?_
  intro W base args ds gs before hval hW _ _ hwt hL hsh _
  exact contractP (C := Tryd.checked) (s := Rows.setFirstSpec) (h := hh) (fn := Tryd.f4) (f := 4) (ats := ats4) (depth := 20) (bt := 4)
    tidyTry prims_hh primsS_hh primsM_hh primsO_hh (by kernel_rfl) rfl
    (fun ds hd => by
      match ds, hd with
      | [a, b], _ => rfl)
    (by kernel_rfl) (by kernel_rfl) laidOut0 (by kernel_rfl) (reads_of (by kernel_rfl)) hmain4 W base args ds gs before hval hW hwt (gl_laid hL hsh)
theorem said4 : Rows.SetFirstSaid :=
  OpenClaim.holds_of_cond 4 Tryd.f4 rfl rfl rfl rfl rfl rfl rfl ⟨rfl, rfl, rfl, rfl, rfl⟩ rfl rfl rfl rfl rfl (by kernel_rfl) Tryd.func4 (by kernel_rfl)
    (of_decide_eq_true (by kernel_rfl)) (by unfold Func.isWrapper; first | (rw [if_pos (by decide +kernel)]; kernel_rfl) | (rw [if_neg (by decide +kernel)]; exact ⟨rfl, rfl⟩))
    (fun os started H enc _ F => by rw [OpenClaim.pre_eq_preRow]; exact lifted4 os started H enc F)
theorem plain4 (f : FuncId) (fn : Func) (hf : Tryd.pinned.checked.prog.funcNamed Rows.setFirstRow.func = some f) (hfn : Tryd.pinned.checked.prog.funcs[f]? = some fn) :
    true = Tryd.pinned.checked.prog.looks [] ∧ ∀ (j : Nat) t, fn.params[j]? = some t → Tryd.pinned.checked.prog.wantsStandIn t = false := by
  obtain rfl : f = 4 := Option.some.inj ((show Tryd.prog.funcNamed Rows.setFirstRow.func = some 4 by kernel_rfl).symm.trans hf) |>.symm
  obtain rfl : fn = Tryd.f4 := (Option.some.inj (Tryd.func4.symm.trans hfn)).symm
  refine ⟨by kernel_rfl, fun j t ht => ?_⟩
  have hp : Tryd.f4.params = #[24, 3] := by kernel_rfl
  rw [hp] at ht
  have := Array.mem_of_getElem? ht
  simp at this
  rcases this with rfl | rfl
  · exact (show Tryd.prog.wantsStandIn 24 = false by kernel_rfl)
  · exact (show Tryd.prog.wantsStandIn 3 = false by kernel_rfl)
theorem setFirst_holds : Rows.SetFirstCardSaid :=
  Claim7.holds_tied_plain_at .later [] _ _ _ _ said4 (fun _ h => by cases h) (by kernel_rfl) (fun _ h => by cases h) setFirst_row_tie rfl ⟨rfl, rfl⟩ (by kernel_rfl) rfl plain4 (by kernel_rfl)
end Go.Proofs.YtcpbpbcgkammlaaDoor
