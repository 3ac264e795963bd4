/- The jobs of an array: Expand's own jobs have ids one behind the other and differ in their index alone. -/
import Derived.Test.YtifdhiioaomdnaaDoorW
import Derived.Test.YtifdhiioaomdnaaDoorCards
import Derived.Test.YtifdhiioaomdnaaDoorTie
import Derived.ProofKit
import Derived.KernelRfl
import Derived.Deep.DeepHandedRow
import Derived.OpenShut
import Derived.Deep.CondSized
set_option linter.unusedVariables false
set_option linter.unusedSimpArgs false

namespace Go.Proofs.YtifdhiioaomdnaaDoor
open Go Go.Lite Go.Lite.Pa Go.Proofs Go.ChangeShapes Go.WideShapes Go.ChangeAt Go.RowKit
set_option maxRecDepth 1000000
theorem own0 : ownKnob Tryd.prog.godebug = none := by kernel_rfl
theorem laidOut0 : laidOutB Tryd.prog = true := by kernel_rfl
theorem u32_inv {x : PV} (h : Typed (.int .u32) x) : ∃ n : Nat, x = Go.Lite.Pa.U n ∧ n < 2 ^ 32 := by
  cases h with
  | int hn =>
    rename_i n
    have a1 : IntKind.u32.min = 0 := rfl
    have a2 : IntKind.u32.max = 4294967295 := rfl
    simp only [Lit.wf, Bool.and_eq_true, decide_eq_true_eq, a1, a2] at hn
    exact ⟨n.toNat, by simp [U, Int.toNat_of_nonneg hn.1], by omega⟩
theorem i64_inv {x : PV} (h : Typed (.int .i64) x) : ∃ n : Int, x = I n := by
  cases h with
  | int hn => exact ⟨_, rfl⟩
theorem bulk_ok (H : Type) : BulkOK (H := H) Rows.uptoBulk Rows.uptoBulkAll where
  one d := by
    cases d with
    | lit l => cases l <;> simp [Rows.uptoBulk]
    | _ => simp [Rows.uptoBulk]
  slice e s := by simp [Rows.uptoBulk]
  agg ps := by simp [Rows.uptoBulk]
  nil := by simp [Rows.uptoBulkAll]
  str b := by simp [Rows.uptoBulk]
  cons d r := by simp [Rows.uptoBulkAll]
theorem small_le {H : Type} {l : List (DataW H)} (h : Rows.uptoSmall H l = true) : Rows.uptoBulkAll l ≤ 1048576 := of_decide_eq_true h
theorem str_inv {x : PV} (h : Typed .str x) : ∃ s : ByteArray, x = Sr s := by
  cases h with
  | str hs => exact ⟨_, rfl⟩
theorem u8_inv {x : PV} (h : Typed (.int .u8) x) : ∃ n : Int, x = W8 n := by
  cases h with
  | int hn => exact ⟨_, rfl⟩
theorem rows_two : ∀ (rows : List (List PV)), (∀ xs ∈ rows, xs.length = 2) → (∀ xs ∈ rows, ∀ (i : Nat) (c : CT) (x : PV), [CT.int .u8, CT.int .i64][i]? = some c → xs[i]? = some x → Typed c x) → ∃ ds : List (Int × Int), rows.map (rowPV 3) = ds.map Dv
  | [], _, _ => ⟨[], rfl⟩
  | r :: rows, hl, hx => by
    obtain ⟨ds, h1⟩ := rows_two rows (fun xs h => hl xs (by simp [h])) (fun xs h => hx xs (by simp [h]))
    have hr := hl r (by simp)
    match r, hr with
    | [a, b], _ =>
      have t0 := hx [a, b] (by simp) 0 _ a rfl rfl
      have t1 := hx [a, b] (by simp) 1 _ b rfl rfl
      obtain ⟨k, rfl⟩ := u8_inv t0
      obtain ⟨n, rfl⟩ := i64_inv t1
      exact ⟨(k, n) :: ds, by simp [h1, rowPV]⟩
theorem deps_inv {x : PV} (h : Typed (.list 3 16 [.int .u8, .int .i64]) x) : ∃ ds : List (Int × Int), x = dps (ds.map Dv) := by
  cases h with
  | list rows hm hb hl hx =>
    obtain ⟨ds, h1⟩ := rows_two rows hl hx
    exact ⟨ds, by rw [h1]⟩
def ctC : List CT := [.int .i64, .str, .str, .str, .str, .int .i64, .int .i64, .int .i64, .list 3 16 [.int .u8, .int .i64], .int .i64]
theorem call_inv {x : PV} (h : TypedA (11, ctC) x) : ∃ (id : Int) (s : Sx) (now : Int) (ds : List (Int × Int)), x = cpv id s now ∧ s.deps = ds.map Dv := by
  obtain ⟨xs, rfl, hl, hx⟩ := h
  match xs, hl with
  | [a0, a1, a2, a3, a4, a5, a6, a7, a8, a9], _ =>
    obtain ⟨b0, rfl⟩ := i64_inv (hx 0 _ a0 rfl rfl)
    obtain ⟨b1, rfl⟩ := str_inv (hx 1 _ a1 rfl rfl)
    obtain ⟨b2, rfl⟩ := str_inv (hx 2 _ a2 rfl rfl)
    obtain ⟨b3, rfl⟩ := str_inv (hx 3 _ a3 rfl rfl)
    obtain ⟨b4, rfl⟩ := str_inv (hx 4 _ a4 rfl rfl)
    obtain ⟨b5, rfl⟩ := i64_inv (hx 5 _ a5 rfl rfl)
    obtain ⟨b6, rfl⟩ := i64_inv (hx 6 _ a6 rfl rfl)
    obtain ⟨b7, rfl⟩ := i64_inv (hx 7 _ a7 rfl rfl)
    obtain ⟨b8, rfl⟩ := deps_inv (hx 8 _ a8 rfl rfl)
    obtain ⟨b9, rfl⟩ := i64_inv (hx 9 _ a9 rfl rfl)
    exact ⟨b0, ⟨b1, b2, b3, b4, b5, b6, b7, b8.map Dv⟩, b9, b8, rfl, rfl⟩
def ats5 : List (Nat × List CT) := [(11, ctC), (0, [.list 0 8 [.int .i64]])]
theorem hmain5 (args : List PV) (hl : args.length = ats5.length) (h : ∀ (i : Nat) a d, ats5[i]? = some a → args[i]? = some d → TypedA a d) (hs : PV.cntA args ≤ 1048576) : ∃ L n, callP Tryd.prog hh L n 5 args = some (.sc (.bool true)) := by
  match args, hl with
  | [c, l], _ =>
    obtain ⟨id, s, now, ds, rfl, hd⟩ := call_inv (h 0 _ _ rfl rfl)
    obtain ⟨ns, rfl, hn⟩ := ints_inv (h 1 _ _ rfl rfl).cell
    have h1 := PV.cntS_len (ns.map fun n => PV.sc (Value.int IntKind.i64 n))
    have h2 := PV.cntS_len (ds.map Dv)
    rw [List.length_map] at h1 h2
    simp only [PV.cntA, PV.cnt, hd] at hs
    exact ⟨400 + ns.length + ds.length, 61, k5 (by omega) id s now ns ds hd (by omega) (by omega) (by omega) (callP_mono (by omega) (by omega) t_awake)⟩
theorem reads5 (os : Os) {H : Type} (enc : TypeId × Value → H) : ∃ places, DataW.whole enc Tryd.prog ((laidWorld os).forCall (fun _ _ => 0) ⟨#[], #[.agg #[.int .i64 0, .string ⟨#[]⟩, .string ⟨#[]⟩, .string ⟨#[]⟩, .string ⟨#[]⟩, .int .i64 0, .int .i64 0, .int .i64 0, .slice none 0 0, .int .i64 0], .slice none 0 0], []⟩).memory Tryd.f5.params.toList Rows.arrayIdsSpec.vars false (#[.agg #[.int .i64 0, .string ⟨#[]⟩, .string ⟨#[]⟩, .string ⟨#[]⟩, .string ⟨#[]⟩, .int .i64 0, .int .i64 0, .int .i64 0, .slice none 0 0, .int .i64 0], .slice none 0 0] : Array Value).toList 8 = some ([.agg [.lit (.int .i64 0), .agg [.lit (.string []), .lit (.string []), .lit (.string []), .lit (.string []), .lit (.int .i64 0), .lit (.int .i64 0), .lit (.int .i64 0), .nil], .lit (.int .i64 0)], .nil], [], places) :=
  ⟨[], by kernel_rfl⟩
theorem lifted5 (os : Os) (started : os.Started) (H : Type) (enc : TypeId × Value → H) (F : Stop.Interp) :
    ReturnsInHanded {} Tryd.checked os 5 .any ((Rows.OpenSpec.upto Rows.arrayIdsSpec).preRow enc Tryd.prog Tryd.f5 Rows.arrayIdsUptoRow.domain false Rows.arrayIdsUptoRow.laid) (((Rows.OpenSpec.upto Rows.arrayIdsSpec).at F).post enc Tryd.prog Tryd.f5 false true false false) := by
  obtain ⟨places, hx⟩ := reads5 os enc
  refine returnsInHanded_of_row (C := Tryd.checked) (s := Rows.OpenSpec.upto Rows.arrayIdsSpec) own0 started (by kernel_rfl) Tryd.func5
    (witness_row_at (enc := enc) (C := Tryd.checked) false (laidWorld os) #[.agg #[.int .i64 0, .string ⟨#[]⟩, .string ⟨#[]⟩, .string ⟨#[]⟩, .string ⟨#[]⟩, .int .i64 0, .int .i64 0, .int .i64 0, .slice none 0 0, .int .i64 0], .slice none 0 0] rfl (by kernel_rfl) (by kernel_rfl) (by kernel_rfl)
      (OpenSpec.preRow_of_cond 8 hx (by kernel_rfl) (fun k hk => by cases hk; kernel_rfl) (by kernel_rfl) (laid_met os _))) ?_
  intro W base args ds gs before hval hW _ hk hwt hL hsh _
  exact liftedC (C := Tryd.checked) (s := Rows.arrayIdsSpec) (h := hh) (fn := Tryd.f5) (f := 5) (ats := ats5) (depth := 20) (bt := 4) (bulk_ok H) (B := 1048576)
    tidyTry prims_hh primsS_hh primsM_hh primsO_hh (by kernel_rfl) rfl
    (fun ds hd => by
      match ds, hd with
      | [a, b], _ => rfl)
    (by kernel_rfl) (by kernel_rfl) laidOut0 (by kernel_rfl) (reads_of (by kernel_rfl)) hmain5 W base args ds gs before hval hW (small_le (hk _ rfl)) hwt (gl_laid hL hsh)
theorem said5 : Rows.ArrayIdsUptoSaid :=
  OpenClaim.holds_of_cond 5 Tryd.f5 rfl rfl rfl rfl rfl rfl rfl ⟨rfl, rfl, rfl, rfl, rfl⟩ rfl rfl rfl rfl rfl (by kernel_rfl) Tryd.func5 (by kernel_rfl)
    (of_decide_eq_true (by kernel_rfl)) (by unfold Func.isWrapper; first | (rw [if_pos (by decide +kernel)]; kernel_rfl) | (rw [if_neg (by decide +kernel)]; exact ⟨rfl, rfl⟩))
    (fun os started H enc _ F => by rw [OpenClaim.pre_eq_preRow]; exact lifted5 os started H enc F)
theorem plain5 (f : FuncId) (fn : Func) (hf : Tryd.pinned.checked.prog.funcNamed Rows.arrayIdsUptoRow.func = some f) (hfn : Tryd.pinned.checked.prog.funcs[f]? = some fn) :
    true = Tryd.pinned.checked.prog.looks [] ∧ ∀ (j : Nat) t, fn.params[j]? = some t → Tryd.pinned.checked.prog.wantsStandIn t = false := by
  obtain rfl : f = 5 := Option.some.inj ((show Tryd.prog.funcNamed Rows.arrayIdsUptoRow.func = some 5 by kernel_rfl).symm.trans hf) |>.symm
  obtain rfl : fn = Tryd.f5 := (Option.some.inj (Tryd.func5.symm.trans hfn)).symm
  refine ⟨by kernel_rfl, fun j t ht => ?_⟩
  have hp : Tryd.f5.params = #[37, 22] := by kernel_rfl
  rw [hp] at ht
  have := Array.mem_of_getElem? ht
  simp at this
  rcases this with rfl | rfl
  · exact (show Tryd.prog.wantsStandIn 37 = false by kernel_rfl)
  · exact (show Tryd.prog.wantsStandIn 22 = false by kernel_rfl)
theorem arrayIds_holds : Rows.ArrayIdsUptoCardSaid :=
  Claim7.holds_tied_plain_at .later [] _ _ _ _ said5 (fun _ h => by cases h) (by kernel_rfl) (fun _ h => by cases h) arrayIdsUpto_row_tie rfl ⟨rfl, rfl⟩ (by kernel_rfl) rfl plain5 (by kernel_rfl)
end Go.Proofs.YtifdhiioaomdnaaDoor
