/- The card of SetTells: sets of nodes are made, listed, counted and cut down as the document defines; the program answers true at every input, where the listed tables hold what the program lays. -/
import Derived.Test.YtcpbpbcgkammlaaDoorW
import Derived.Test.YtcpbpbcgkammlaaDoorCards
import Derived.Test.YtcpbpbcgkammlaaDoorTie
import Derived.ProofKit
import Derived.KernelRfl
import Derived.Deep.DeepHandedRow
import Derived.OpenShut
set_option linter.unusedVariables false
set_option linter.unusedSimpArgs false

namespace Go.Proofs.YtcpbpbcgkammlaaDoor
open Go Go.Lite Go.Lite.Pp Go.Proofs Go.ChangeShapes Go.WideShapes Go.ChangeAt Go.RowKit
set_option maxRecDepth 1000000
theorem own0 : ownKnob Tryd.prog.godebug = none := by kernel_rfl
theorem laidOut0 : laidOutB Tryd.prog = true := by kernel_rfl
theorem u32_inv {x : PV} (h : Typed (.int .u32) x) : ∃ n : Nat, x = U n ∧ n < 2 ^ 32 := by
  cases h with
  | int hn =>
    rename_i n
    have a1 : IntKind.u32.min = 0 := rfl
    have a2 : IntKind.u32.max = 4294967295 := rfl
    simp only [Lit.wf, Bool.and_eq_true, decide_eq_true_eq, a1, a2] at hn
    exact ⟨n.toNat, by simp [U, Int.toNat_of_nonneg hn.1], by omega⟩
theorem i64_inv {x : PV} (h : Typed (.int .i64) x) : ∃ n : Int, x = I n := by
  cases h with
  | int hn => exact ⟨_, rfl⟩
def ats3 : List (Nat × List CT) := [(0, [.list 0 8 [.int .i64]]), (0, [.int .u32]), (0, [.int .u32])]
theorem hmain3 (args : List PV) (hl : args.length = ats3.length) (h : ∀ (i : Nat) a d, ats3[i]? = some a → args[i]? = some d → TypedA a d) : ∃ L n, callP Tryd.prog hh L n 3 args = some (.sc (.bool true)) := by
  match args, hl with
  | [l, a, b], _ =>
    obtain ⟨ns, rfl, hn⟩ := ints_inv (h 0 _ _ rfl rfl).cell
    obtain ⟨s, rfl, hs⟩ := u32_inv (h 1 _ _ rfl rfl).cell
    obtain ⟨t, rfl, ht⟩ := u32_inv (h 2 _ _ rfl rfl).cell
    exact ⟨200 + ns.length, 61, k3 (by omega) (by omega) ns (by omega) (Nat.le_trans hn (by decide)) s t hs ht (callP_mono (by omega) (by omega) t_awake)⟩
theorem reads3 (os : Os) {H : Type} (enc : TypeId × Value → H) : ∃ places, DataW.whole enc Tryd.prog ((laidWorld os).forCall (fun _ _ => 0) ⟨#[], #[.slice none 0 0, .int .u32 0, .int .u32 0], []⟩).memory Tryd.f3.params.toList Rows.setTellsSpec.vars false (#[.slice none 0 0, .int .u32 0, .int .u32 0] : Array Value).toList 8 = some ([.nil, .lit (.int .u32 0), .lit (.int .u32 0)], [], places) :=
  ⟨[], by kernel_rfl⟩
theorem lifted3 (os : Os) (started : os.Started) (H : Type) (enc : TypeId × Value → H) (F : Stop.Interp) :
    ReturnsInHanded {} Tryd.checked os 3 .any ((OpenSpec.ofChange Rows.setTellsSpec).preRow enc Tryd.prog Tryd.f3 Rows.setTellsRow.domain false Rows.setTellsRow.laid) (((OpenSpec.ofChange Rows.setTellsSpec).at F).post enc Tryd.prog Tryd.f3 false true false false) := by
  obtain ⟨places, hx⟩ := reads3 os enc
  refine returnsInHanded_of_row (C := Tryd.checked) (s := OpenSpec.ofChange Rows.setTellsSpec) own0 started (by kernel_rfl) Tryd.func3
    (witness_row_at (enc := enc) (C := Tryd.checked) false (laidWorld os) #[.slice none 0 0, .int .u32 0, .int .u32 0] rfl (by kernel_rfl) (by kernel_rfl) (by kernel_rfl)
      (OpenSpec.preRow_of_cond 8 hx (by kernel_rfl) (fun k hk => by cases hk) (by kernel_rfl) (laid_met os _))) ?_
  intro W base args ds gs before hval hW _ _ hwt hL hsh _
  exact contractP (C := Tryd.checked) (s := Rows.setTellsSpec) (h := hh) (fn := Tryd.f3) (f := 3) (ats := ats3) (depth := 20) (bt := 4)
    tidyTry prims_hh primsS_hh primsM_hh primsO_hh (by kernel_rfl) rfl
    (fun ds hd => by
      match ds, hd with
      | [a, b, c], _ => rfl)
    (by kernel_rfl) (by kernel_rfl) laidOut0 (by kernel_rfl) (reads_of (by kernel_rfl)) hmain3 W base args ds gs before hval hW hwt (gl_laid hL hsh)
theorem said3 : Rows.SetTellsSaid :=
  OpenClaim.holds_of_cond 3 Tryd.f3 rfl rfl rfl rfl rfl rfl rfl ⟨rfl, rfl, rfl, rfl, rfl⟩ rfl rfl rfl rfl rfl (by kernel_rfl) Tryd.func3 (by kernel_rfl)
    (of_decide_eq_true (by kernel_rfl)) (by unfold Func.isWrapper; first | (rw [if_pos (by decide +kernel)]; kernel_rfl) | (rw [if_neg (by decide +kernel)]; exact ⟨rfl, rfl⟩))
    (fun os started H enc _ F => by rw [OpenClaim.pre_eq_preRow]; exact lifted3 os started H enc F)
theorem plain3 (f : FuncId) (fn : Func) (hf : Tryd.pinned.checked.prog.funcNamed Rows.setTellsRow.func = some f) (hfn : Tryd.pinned.checked.prog.funcs[f]? = some fn) :
    true = Tryd.pinned.checked.prog.looks [] ∧ ∀ (j : Nat) t, fn.params[j]? = some t → Tryd.pinned.checked.prog.wantsStandIn t = false := by
  obtain rfl : f = 3 := Option.some.inj ((show Tryd.prog.funcNamed Rows.setTellsRow.func = some 3 by kernel_rfl).symm.trans hf) |>.symm
  obtain rfl : fn = Tryd.f3 := (Option.some.inj (Tryd.func3.symm.trans hfn)).symm
  refine ⟨by kernel_rfl, fun j t ht => ?_⟩
  have hp : Tryd.f3.params = #[22, 24, 24] := by kernel_rfl
  rw [hp] at ht
  have := Array.mem_of_getElem? ht
  simp at this
  rcases this with rfl | rfl
  · exact (show Tryd.prog.wantsStandIn 22 = false by kernel_rfl)
  · exact (show Tryd.prog.wantsStandIn 24 = false by kernel_rfl)
theorem setTells_holds : Rows.SetTellsCardSaid :=
  Claim7.holds_tied_plain_at .later [] _ _ _ _ said3 (fun _ h => by cases h) (by kernel_rfl) (fun _ h => by cases h) setTells_row_tie rfl ⟨rfl, rfl⟩ (by kernel_rfl) rfl plain3 (by kernel_rfl)
end Go.Proofs.YtcpbpbcgkammlaaDoor
