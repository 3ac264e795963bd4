/- The card of SetTexts: the text of a set, and the set of a text, are those that the document defines; the program answers true at every input, where the listed tables hold what the program lays. -/
import Derived.Test.YtcpbpbcgkammlaaDoorW
import Derived.Test.YtcpbpbcgkammlaaDoorCards
import Derived.Test.YtcpbpbcgkammlaaDoorTie
import Derived.ProofKit
import Derived.KernelRfl
import Derived.Deep.DeepHandedRow
import Derived.OpenShut
set_option linter.unusedVariables false
set_option linter.unusedSimpArgs false

namespace Go.Proofs.YtcpbpbcgkammlaaDoor
open Go Go.Lite Go.Lite.Pp Go.Proofs Go.ChangeShapes Go.WideShapes Go.ChangeAt Go.RowKit
set_option maxRecDepth 1000000
theorem own0 : ownKnob Tryd.prog.godebug = none := by kernel_rfl
theorem laidOut0 : laidOutB Tryd.prog = true := by kernel_rfl
theorem u32_inv {x : PV} (h : Typed (.int .u32) x) : ∃ n : Nat, x = U n ∧ n < 2 ^ 32 := by
  cases h with
  | int hn =>
    rename_i n
    have a1 : IntKind.u32.min = 0 := rfl
    have a2 : IntKind.u32.max = 4294967295 := rfl
    simp only [Lit.wf, Bool.and_eq_true, decide_eq_true_eq, a1, a2] at hn
    exact ⟨n.toNat, by simp [U, Int.toNat_of_nonneg hn.1], by omega⟩
theorem i64_inv {x : PV} (h : Typed (.int .i64) x) : ∃ n : Int, x = I n := by
  cases h with
  | int hn => exact ⟨_, rfl⟩
theorem str_inv {x : PV} (h : Typed .str x) : ∃ l : Go.Lite.Tx.Bs, x = T l := by
  cases h with
  | str hs => rename_i s; exact ⟨s.data.toList, by simp [T]⟩
def ats5 : List (Nat × List CT) := [(0, [.int .u32]), (0, [.str])]
theorem hmain5 (args : List PV) (hl : args.length = ats5.length) (h : ∀ (i : Nat) a d, ats5[i]? = some a → args[i]? = some d → TypedA a d) : ∃ L n, callP Tryd.prog hh L n 5 args = some (.sc (.bool true)) := by
  match args, hl with
  | [a, t], _ =>
    obtain ⟨s, rfl, hs1⟩ := u32_inv (h 0 _ _ rfl rfl).cell
    obtain ⟨l, rfl⟩ := str_inv (h 1 _ _ rfl rfl).cell
    exact ⟨30001, 61, k5 (by omega) s hs1 l (by omega) (callP_mono (by omega) (by omega) t_awake)⟩
theorem reads5 (os : Os) {H : Type} (enc : TypeId × Value → H) : ∃ places, DataW.whole enc Tryd.prog ((laidWorld os).forCall (fun _ _ => 0) ⟨#[], #[.int .u32 0, .string ⟨#[]⟩], []⟩).memory Tryd.f5.params.toList Rows.setTextsSpec.vars false (#[.int .u32 0, .string ⟨#[]⟩] : Array Value).toList 8 = some ([.lit (.int .u32 0), .lit (.string [])], [], places) :=
  ⟨[], by kernel_rfl⟩
theorem lifted5 (os : Os) (started : os.Started) (H : Type) (enc : TypeId × Value → H) (F : Stop.Interp) :
    ReturnsInHanded {} Tryd.checked os 5 .any ((OpenSpec.ofChange Rows.setTextsSpec).preRow enc Tryd.prog Tryd.f5 Rows.setTextsRow.domain false Rows.setTextsRow.laid) (((OpenSpec.ofChange Rows.setTextsSpec).at F).post enc Tryd.prog Tryd.f5 false true false false) := by
  obtain ⟨places, hx⟩ := reads5 os enc
  refine returnsInHanded_of_row (C := Tryd.checked) (s := OpenSpec.ofChange Rows.setTextsSpec) own0 started (by kernel_rfl) Tryd.func5
    (witness_row_at (enc := enc) (C := Tryd.checked) false (laidWorld os) #[.int .u32 0, .string ⟨#[]⟩] rfl (by kernel_rfl) (by kernel_rfl) (by kernel_rfl)
      (OpenSpec.preRow_of_cond 8 hx (by kernel_rfl) (fun k hk => by cases hk) (by kernel_rfl) (laid_met os _))) ?_
  intro W base args ds gs before hval hW _ _ hwt hL hsh _
  exact contractP (C := Tryd.checked) (s := Rows.setTextsSpec) (h := hh) (fn := Tryd.f5) (f := 5) (ats := ats5) (depth := 20) (bt := 4)
    tidyTry prims_hh primsS_hh primsM_hh primsO_hh (by kernel_rfl) rfl
    (fun ds hd => by
      match ds, hd with
      | [a, b], _ => rfl)
    (by kernel_rfl) (by kernel_rfl) laidOut0 (by kernel_rfl) (reads_of (by kernel_rfl)) hmain5 W base args ds gs before hval hW hwt (gl_laid hL hsh)
theorem said5 : Rows.SetTextsSaid :=
  OpenClaim.holds_of_cond 5 Tryd.f5 rfl rfl rfl rfl rfl rfl rfl ⟨rfl, rfl, rfl, rfl, rfl⟩ rfl rfl rfl rfl rfl (by kernel_rfl) Tryd.func5 (by kernel_rfl)
    (of_decide_eq_true (by kernel_rfl)) (by unfold Func.isWrapper; first | (rw [if_pos (by decide +kernel)]; kernel_rfl) | (rw [if_neg (by decide +kernel)]; exact ⟨rfl, rfl⟩))
    (fun os started H enc _ F => by rw [OpenClaim.pre_eq_preRow]; exact lifted5 os started H enc F)
theorem plain5 (f : FuncId) (fn : Func) (hf : Tryd.pinned.checked.prog.funcNamed Rows.setTextsRow.func = some f) (hfn : Tryd.pinned.checked.prog.funcs[f]? = some fn) :
    true = Tryd.pinned.checked.prog.looks [] ∧ ∀ (j : Nat) t, fn.params[j]? = some t → Tryd.pinned.checked.prog.wantsStandIn t = false := by
  obtain rfl : f = 5 := Option.some.inj ((show Tryd.prog.funcNamed Rows.setTextsRow.func = some 5 by kernel_rfl).symm.trans hf) |>.symm
  obtain rfl : fn = Tryd.f5 := (Option.some.inj (Tryd.func5.symm.trans hfn)).symm
  refine ⟨by kernel_rfl, fun j t ht => ?_⟩
  have hp : Tryd.f5.params = #[24, 9] := by kernel_rfl
  rw [hp] at ht
  have := Array.mem_of_getElem? ht
  simp at this
  rcases this with rfl | rfl
  · exact (show Tryd.prog.wantsStandIn 24 = false by kernel_rfl)
  · exact (show Tryd.prog.wantsStandIn 9 = false by kernel_rfl)
theorem setTexts_holds : Rows.SetTextsCardSaid :=
  Claim7.holds_tied_plain_at .later [] _ _ _ _ said5 (fun _ h => by cases h) (by kernel_rfl) (fun _ h => by cases h) setTexts_row_tie rfl ⟨rfl, rfl⟩ (by kernel_rfl) rfl plain5 (by kernel_rfl)
end Go.Proofs.YtcpbpbcgkammlaaDoor
