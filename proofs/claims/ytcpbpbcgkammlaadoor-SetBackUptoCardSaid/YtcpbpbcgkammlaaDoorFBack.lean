/- The card of SetBack, where what is read is of bulk at most 1048576: a set that is printed or listed is read back as the same set, and no other text is taken for it; the program answers true at every such input, where the listed tables hold what the program lays. -/
import Derived.Test.YtcpbpbcgkammlaaDoorW
import Derived.Test.YtcpbpbcgkammlaaDoorCards
import Derived.Test.YtcpbpbcgkammlaaDoorTie
import Derived.ProofKit
import Derived.KernelRfl
import Derived.Deep.DeepHandedRow
import Derived.OpenShut
import Derived.Deep.CondSized
set_option linter.unusedVariables false
set_option linter.unusedSimpArgs false

namespace Go.Proofs.YtcpbpbcgkammlaaDoor
open Go Go.Lite Go.Lite.Pp Go.Proofs Go.ChangeShapes Go.WideShapes Go.ChangeAt Go.RowKit
set_option maxRecDepth 1000000
theorem own0 : ownKnob Tryd.prog.godebug = none := by kernel_rfl
theorem laidOut0 : laidOutB Tryd.prog = true := by kernel_rfl
theorem u32_inv {x : PV} (h : Typed (.int .u32) x) : ∃ n : Nat, x = U n ∧ n < 2 ^ 32 := by
  cases h with
  | int hn =>
    rename_i n
    have a1 : IntKind.u32.min = 0 := rfl
    have a2 : IntKind.u32.max = 4294967295 := rfl
    simp only [Lit.wf, Bool.and_eq_true, decide_eq_true_eq, a1, a2] at hn
    exact ⟨n.toNat, by simp [U, Int.toNat_of_nonneg hn.1], by omega⟩
theorem i64_inv {x : PV} (h : Typed (.int .i64) x) : ∃ n : Int, x = I n := by
  cases h with
  | int hn => exact ⟨_, rfl⟩
theorem bulk_ok (H : Type) : BulkOK (H := H) Rows.uptoBulk Rows.uptoBulkAll where
  one d := by
    cases d with
    | lit l => cases l <;> simp [Rows.uptoBulk]
    | _ => simp [Rows.uptoBulk]
  slice e s := by simp [Rows.uptoBulk]
  agg ps := by simp [Rows.uptoBulk]
  nil := by simp [Rows.uptoBulkAll]
  str b := by simp [Rows.uptoBulk]
  cons d r := by simp [Rows.uptoBulkAll]
theorem small_le {H : Type} {l : List (DataW H)} (h : Rows.uptoSmall H l = true) : Rows.uptoBulkAll l ≤ 1048576 := of_decide_eq_true h
theorem str_inv {x : PV} (h : Typed .str x) : ∃ l : Go.Lite.Tx.Bs, x = T l ∧ x.cnt = l.length := by
  cases h with
  | str hs => rename_i s; exact ⟨s.data.toList, by simp [T], rfl⟩
def ats6 : List (Nat × List CT) := [(0, [.int .u32]), (0, [.int .u32]), (0, [.str])]
theorem hmain6 (args : List PV) (hl : args.length = ats6.length) (h : ∀ (i : Nat) a d, ats6[i]? = some a → args[i]? = some d → TypedA a d) (hs : PV.cntA args ≤ 1048576) : ∃ L n, callP Tryd.prog hh L n 6 args = some (.sc (.bool true)) := by
  match args, hl with
  | [a, b, t], _ =>
    obtain ⟨s, rfl, hs1⟩ := u32_inv (h 0 _ _ rfl rfl).cell
    obtain ⟨r, rfl, hr1⟩ := u32_inv (h 1 _ _ rfl rfl).cell
    obtain ⟨l, rfl, hc⟩ := str_inv (h 2 _ _ rfl rfl).cell
    simp only [PV.cntA, hc] at hs
    exact ⟨2001 + l.length, 61, k6 (by omega) s r hs1 hr1 l (by omega) (by omega) (callP_mono (by omega) (by omega) t_awake)⟩
theorem reads6 (os : Os) {H : Type} (enc : TypeId × Value → H) : ∃ places, DataW.whole enc Tryd.prog ((laidWorld os).forCall (fun _ _ => 0) ⟨#[], #[.int .u32 0, .int .u32 0, .string ⟨#[]⟩], []⟩).memory Tryd.f6.params.toList Rows.setBackSpec.vars false (#[.int .u32 0, .int .u32 0, .string ⟨#[]⟩] : Array Value).toList 8 = some ([.lit (.int .u32 0), .lit (.int .u32 0), .lit (.string [])], [], places) :=
  ⟨[], by kernel_rfl⟩
theorem lifted6 (os : Os) (started : os.Started) (H : Type) (enc : TypeId × Value → H) (F : Stop.Interp) :
    ReturnsInHanded {} Tryd.checked os 6 .any ((Rows.OpenSpec.upto Rows.setBackSpec).preRow enc Tryd.prog Tryd.f6 Rows.setBackUptoRow.domain false Rows.setBackUptoRow.laid) (((Rows.OpenSpec.upto Rows.setBackSpec).at F).post enc Tryd.prog Tryd.f6 false true false false) := by
  obtain ⟨places, hx⟩ := reads6 os enc
  refine returnsInHanded_of_row (C := Tryd.checked) (s := Rows.OpenSpec.upto Rows.setBackSpec) own0 started (by kernel_rfl) Tryd.func6
    (witness_row_at (enc := enc) (C := Tryd.checked) false (laidWorld os) #[.int .u32 0, .int .u32 0, .string ⟨#[]⟩] rfl (by kernel_rfl) (by kernel_rfl) (by kernel_rfl)
      (OpenSpec.preRow_of_cond 8 hx (by kernel_rfl) (fun k hk => by cases hk; kernel_rfl) (by kernel_rfl) (laid_met os _))) ?_
  intro W base args ds gs before hval hW _ hk hwt hL hsh _
  exact liftedC (C := Tryd.checked) (s := Rows.setBackSpec) (h := hh) (fn := Tryd.f6) (f := 6) (ats := ats6) (depth := 20) (bt := 4) (bulk_ok H) (B := 1048576)
    tidyTry prims_hh primsS_hh primsM_hh primsO_hh (by kernel_rfl) rfl
    (fun ds hd => by
      match ds, hd with
      | [a, b, c], _ => rfl)
    (by kernel_rfl) (by kernel_rfl) laidOut0 (by kernel_rfl) (reads_of (by kernel_rfl)) hmain6 W base args ds gs before hval hW (small_le (hk _ rfl)) hwt (gl_laid hL hsh)
theorem said6 : Rows.SetBackUptoSaid :=
  OpenClaim.holds_of_cond 6 Tryd.f6 rfl rfl rfl rfl rfl rfl rfl ⟨rfl, rfl, rfl, rfl, rfl⟩ rfl rfl rfl rfl rfl (by kernel_rfl) Tryd.func6 (by kernel_rfl)
    (of_decide_eq_true (by kernel_rfl)) (by unfold Func.isWrapper; first | (rw [if_pos (by decide +kernel)]; kernel_rfl) | (rw [if_neg (by decide +kernel)]; exact ⟨rfl, rfl⟩))
    (fun os started H enc _ F => by rw [OpenClaim.pre_eq_preRow]; exact lifted6 os started H enc F)
theorem plain6 (f : FuncId) (fn : Func) (hf : Tryd.pinned.checked.prog.funcNamed Rows.setBackUptoRow.func = some f) (hfn : Tryd.pinned.checked.prog.funcs[f]? = some fn) :
    true = Tryd.pinned.checked.prog.looks [] ∧ ∀ (j : Nat) t, fn.params[j]? = some t → Tryd.pinned.checked.prog.wantsStandIn t = false := by
  obtain rfl : f = 6 := Option.some.inj ((show Tryd.prog.funcNamed Rows.setBackUptoRow.func = some 6 by kernel_rfl).symm.trans hf) |>.symm
  obtain rfl : fn = Tryd.f6 := (Option.some.inj (Tryd.func6.symm.trans hfn)).symm
  refine ⟨by kernel_rfl, fun j t ht => ?_⟩
  have hp : Tryd.f6.params = #[24, 24, 9] := by kernel_rfl
  rw [hp] at ht
  have := Array.mem_of_getElem? ht
  simp at this
  rcases this with rfl | rfl
  · exact (show Tryd.prog.wantsStandIn 24 = false by kernel_rfl)
  · exact (show Tryd.prog.wantsStandIn 9 = false by kernel_rfl)
theorem setBack_holds : Rows.SetBackUptoCardSaid :=
  Claim7.holds_tied_plain_at .later [] _ _ _ _ said6 (fun _ h => by cases h) (by kernel_rfl) (fun _ h => by cases h) setBackUpto_row_tie rfl ⟨rfl, rfl⟩ (by kernel_rfl) rfl plain6 (by kernel_rfl)
end Go.Proofs.YtcpbpbcgkammlaaDoor
