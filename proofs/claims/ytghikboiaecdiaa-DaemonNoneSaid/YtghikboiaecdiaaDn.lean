/- DaemonNone: of any message and number, a node that New did not make answers noughts and ErrNil. No conditions but those of the statement itself. -/
import Derived.Test.YtghikboiaecdiaaKn
import Derived.Test.YtghikboiaecdiaaRows
import Derived.Test.YtghikboiaecdiaaChecked
import Derived.ProofKit
import Derived.KernelRfl
set_option linter.unusedVariables false
set_option linter.unusedSimpArgs false

namespace Go.Proofs.Ytghikboiaecdiaa
open Go Go.Lite Go.Proofs Go.ChangeShapes Go.WideShapes Go.ChangeAt Go.RowKit
set_option maxRecDepth 1000000
theorem own0 : ownKnob Try.prog.godebug = none := by kernel_rfl
theorem laidOut0 : laidOutB Try.prog = true := by kernel_rfl
def ats7 : List (Nat × List CT) := [(44, [.int .u8, .int .i64, .int .i64, .int .i64, .int .u8, .int .i64, .int .i64, .str, .str, .str, .str, .str, .str, .int .i64, .int .i64, .int .i64, .list 3 16 [.int .u8, .int .i64], .str, .int .u32, .int .i64, .int .i64, .list 0 16 [.str], .int .i64, .list 0 8 [.int .i64], .list 3 16 [.int .i64, .int .u8], .list 3 16 [.int .i64, .int .u32], .int .i64, .int .i64, .int .i64, .int .i64, .int .i64, .int .i64, .str, .list 18 184 [.int .i64, .int .i64, .int .i64, .str, .str, .str, .str, .int .i64, .int .i64, .int .i64, .list 3 16 [.int .u8, .int .i64], .int .u8, .int .i64, .int .i64, .int .i64, .int .u32, .int .i64], .int .i64, .int .u8, .int .i64, .str, .str, .int .i64, .int .i64, .int .u8, .list 10 88 [.int .i64, .str, .str, .int .i64, .int .i64, .int .u8, .int .i64, .int .i64, .int .i64]]), (0, [.int .i64])]
theorem hmain7 (args : List PV) (hl : args.length = ats7.length) (h : ∀ (i : Nat) a d, ats7[i]? = some a → args[i]? = some d → TypedA a d) : ∃ L n, callP Try.prog hh L n 7 args = some (.sc (.bool true)) := by
  match args, hl with
  | [a, b], _ =>
    obtain ⟨xs, rfl, hl, hx⟩ := h 0 _ _ rfl rfl
    have g0 : xs.length = 43 := hl
    obtain ⟨x0, r0, rfl, g1⟩ := consL g0
    obtain ⟨x1, r1, rfl, g2⟩ := consL g1
    obtain ⟨x2, r2, rfl, g3⟩ := consL g2
    obtain ⟨x3, r3, rfl, g4⟩ := consL g3
    obtain ⟨x4, r4, rfl, g5⟩ := consL g4
    obtain ⟨x5, r5, rfl, g6⟩ := consL g5
    obtain ⟨x6, r6, rfl, g7⟩ := consL g6
    obtain ⟨x7, r7, rfl, g8⟩ := consL g7
    obtain ⟨x8, r8, rfl, g9⟩ := consL g8
    obtain ⟨x9, r9, rfl, g10⟩ := consL g9
    obtain ⟨x10, r10, rfl, g11⟩ := consL g10
    obtain ⟨x11, r11, rfl, g12⟩ := consL g11
    obtain ⟨x12, r12, rfl, g13⟩ := consL g12
    obtain ⟨x13, r13, rfl, g14⟩ := consL g13
    obtain ⟨x14, r14, rfl, g15⟩ := consL g14
    obtain ⟨x15, r15, rfl, g16⟩ := consL g15
    obtain ⟨x16, r16, rfl, g17⟩ := consL g16
    obtain ⟨x17, r17, rfl, g18⟩ := consL g17
    obtain ⟨x18, r18, rfl, g19⟩ := consL g18
    obtain ⟨x19, r19, rfl, g20⟩ := consL g19
    obtain ⟨x20, r20, rfl, g21⟩ := consL g20
    obtain ⟨x21, r21, rfl, g22⟩ := consL g21
    obtain ⟨x22, r22, rfl, g23⟩ := consL g22
    obtain ⟨x23, r23, rfl, g24⟩ := consL g23
    obtain ⟨x24, r24, rfl, g25⟩ := consL g24
    obtain ⟨x25, r25, rfl, g26⟩ := consL g25
    obtain ⟨x26, r26, rfl, g27⟩ := consL g26
    obtain ⟨x27, r27, rfl, g28⟩ := consL g27
    obtain ⟨x28, r28, rfl, g29⟩ := consL g28
    obtain ⟨x29, r29, rfl, g30⟩ := consL g29
    obtain ⟨x30, r30, rfl, g31⟩ := consL g30
    obtain ⟨x31, r31, rfl, g32⟩ := consL g31
    obtain ⟨x32, r32, rfl, g33⟩ := consL g32
    obtain ⟨x33, r33, rfl, g34⟩ := consL g33
    obtain ⟨x34, r34, rfl, g35⟩ := consL g34
    obtain ⟨x35, r35, rfl, g36⟩ := consL g35
    obtain ⟨x36, r36, rfl, g37⟩ := consL g36
    obtain ⟨x37, r37, rfl, g38⟩ := consL g37
    obtain ⟨x38, r38, rfl, g39⟩ := consL g38
    obtain ⟨x39, r39, rfl, g40⟩ := consL g39
    obtain ⟨x40, r40, rfl, g41⟩ := consL g40
    obtain ⟨x41, r41, rfl, g42⟩ := consL g41
    obtain ⟨x42, r42, rfl, g43⟩ := consL g42
    obtain rfl := nilL g43
    have t0 := hx 0 _ x0 rfl rfl
    have t1 := hx 1 _ x1 rfl rfl
    have t2 := hx 2 _ x2 rfl rfl
    have t3 := hx 3 _ x3 rfl rfl
    have t4 := hx 4 _ x4 rfl rfl
    have t5 := hx 5 _ x5 rfl rfl
    have t6 := hx 6 _ x6 rfl rfl
    have t7 := hx 7 _ x7 rfl rfl
    have t8 := hx 8 _ x8 rfl rfl
    have t9 := hx 9 _ x9 rfl rfl
    have t10 := hx 10 _ x10 rfl rfl
    have t11 := hx 11 _ x11 rfl rfl
    have t12 := hx 12 _ x12 rfl rfl
    have t13 := hx 13 _ x13 rfl rfl
    have t14 := hx 14 _ x14 rfl rfl
    have t15 := hx 15 _ x15 rfl rfl
    have t16 := hx 16 _ x16 rfl rfl
    have t17 := hx 17 _ x17 rfl rfl
    have t18 := hx 18 _ x18 rfl rfl
    have t19 := hx 19 _ x19 rfl rfl
    have t20 := hx 20 _ x20 rfl rfl
    have t21 := hx 21 _ x21 rfl rfl
    have t22 := hx 22 _ x22 rfl rfl
    have t23 := hx 23 _ x23 rfl rfl
    have t24 := hx 24 _ x24 rfl rfl
    have t25 := hx 25 _ x25 rfl rfl
    have t26 := hx 26 _ x26 rfl rfl
    have t27 := hx 27 _ x27 rfl rfl
    have t28 := hx 28 _ x28 rfl rfl
    have t29 := hx 29 _ x29 rfl rfl
    have t30 := hx 30 _ x30 rfl rfl
    have t31 := hx 31 _ x31 rfl rfl
    have t32 := hx 32 _ x32 rfl rfl
    have t33 := hx 33 _ x33 rfl rfl
    have t34 := hx 34 _ x34 rfl rfl
    have t35 := hx 35 _ x35 rfl rfl
    have t36 := hx 36 _ x36 rfl rfl
    have t37 := hx 37 _ x37 rfl rfl
    have t38 := hx 38 _ x38 rfl rfl
    have t39 := hx 39 _ x39 rfl rfl
    have t40 := hx 40 _ x40 rfl rfl
    have t41 := hx 41 _ x41 rfl rfl
    have t42 := hx 42 _ x42 rfl rfl
    clear hx
    have tb := (h 1 _ _ rfl rfl).cell
    cases tb
    cases t0
    cases t1
    cases t2
    cases t3
    cases t4
    cases t5
    cases t6
    cases t7
    cases t8
    cases t9
    cases t10
    cases t11
    cases t12
    cases t13
    cases t14
    cases t15
    cases t16
    cases t17
    cases t18
    cases t19
    cases t20
    cases t21
    cases t22
    cases t23
    cases t24
    cases t25
    cases t26
    cases t27
    cases t28
    cases t29
    cases t30
    cases t31
    cases t32
    cases t33
    cases t34
    cases t35
    cases t36
    cases t37
    cases t38
    cases t39
    cases t40
    cases t41
    cases t42
    exact ⟨_, _, none7 _ _ _ _ _ _ _ _ _ _ _ _ _ _ _ _ _ _ _ _ _ _ _ _ _ _ _ _ _ _ _ _ _ _ _ _ _ _ _ _ _ _ _ _⟩
theorem lifted7 (os : Os) (started : os.Started) (H : Type) (enc : TypeId × Value → H) :
    ReturnsInHanded {} Try.checked os 7 .any (Rows.daemonNoneSpec.pre6 enc Try.prog Try.f7 Rows.daemonNoneRow.domain false) (Rows.daemonNoneSpec.post enc Try.prog Try.f7 false true false false) :=
  lifted (C := Try.checked) (h := hh) (fn := Try.f7) (ats := ats7) (depth := 20) (bt := 4) own0 started (by kernel_rfl) Try.func7
    (ChangeSpec.witness6 (enc := enc) (C := Try.checked) false ⟨#[], zeroArgs Try.prog Try.f7, []⟩ 12 (by kernel_rfl) (by kernel_rfl) (by kernel_rfl) (by kernel_rfl))
    tidyTry (primsOK_none _) primsS0 (primsMOK_none _) rfl rfl
    (fun ds hd => by
      match ds, hd with
      | [a, b], _ => rfl)
    (by kernel_rfl) (by kernel_rfl) laidOut0 (by kernel_rfl) (reads_of (by kernel_rfl)) hmain7
theorem daemonNone_holds : Rows.DaemonNoneSaid :=
  OpenClaim.holds_of_wide 7 Try.f7 rfl rfl rfl rfl rfl rfl rfl ⟨rfl, rfl, rfl, rfl, rfl⟩ rfl rfl rfl rfl rfl (by kernel_rfl) Try.func7 (by kernel_rfl)
    (of_decide_eq_true (by kernel_rfl)) (by unfold Func.isWrapper; first | (rw [if_pos (by decide +kernel)]; kernel_rfl) | (rw [if_neg (by decide +kernel)]; exact ⟨rfl, rfl⟩))
    (fun os started H enc _ => lifted7 os started H enc)
end Go.Proofs.Ytghikboiaecdiaa
