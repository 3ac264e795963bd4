import Derived.Test.YtghikboiaecdiaaRn
import Derived.StillTactics
import Derived.Laws.AppendOwn
import Derived.Laws.Runes
import Derived.Laws.CopyRow
import Derived.Laws.Shifts
import Derived.Laws.Rows
import Derived.Laws.BitsLemmas
import Derived.Laws.Tables
import Derived.Laws.NewBlocks
import Derived.Laws.Unary
import Derived.Laws.Strings
import Derived.Laws.NewFold
import Derived.Laws.ShiftsVarLaws
import Derived.Laws.Bits
import Derived.Laws.Alloc2
import Derived.Laws.Bits128
import Derived.Laws.Strings2
import Derived.Laws.Wrap64
import Derived.Laws.ShiftsVar
import Derived.Laws.Closers25
import Derived.Laws.RangeString
import Derived.Laws.Concat
import Derived.Laws.Cells
import Derived.Laws.NewDeep
import Derived.Laws.Pointers
import Derived.Laws.StructEq
import Derived.Laws.Closers25b
import Derived.Laws.StandIn
import Derived.Laws.Bits64b
import Derived.Laws.LoneSync
import Derived.Laws.ByValue
import Derived.Laws.MathBits
import Derived.Laws.Externs
import Derived.Laws.BitsAll
import Derived.Laws.BitsAllLaws
import Derived.Laws.Bits64
import Derived.Laws.OwnMore
import Derived.Laws.Build
import Derived.Laws.ResultCell
import Derived.Laws.Entries
import Derived.Laws.Append
import Derived.Laws.RangeAny
import Derived.Laws.World
import Derived.Laws.Strings3
import Derived.Laws.Sem
import Derived.Laws.Slices
import Derived.Laws.MakeOwn
import Derived.Laws.Small
import Derived.Laws.BytesString
import Derived.Scope
import Derived.FnLit
import Derived.LoopTactic
import Derived.LoopN
import Derived.Laws.IdiomRangeMap
import Derived.Maps.RangeRun
import Derived.Laws.Cover3
import Derived.Test.YtghikboiaecdiaaProg
import Derived.Shelf.SlGeneric
import Derived.Shelf.SlIterI.Nil
import Derived.Shelf.SortM.Plain
import Derived.Shelf.SortM.SortNone
import Derived.Ground.GgzProg
import Derived.Ground.SlgmProg
set_option linter.unusedVariables false
set_option linter.unusedSimpArgs false

namespace Go.Proofs
open Go Go.RowKit Go.Lite
set_option linter.unusedVariables false
/-- cores of a run -/
def coreOf : Value → Int
  | .agg cs => (match cs[0]? with | some (Value.int _ n) => n | _ => 0)
  | _ => 0
def asNum (e : MapEntry) : MapEntry := { e with val := .int .i64 (coreOf e.val) }
/-- as 64 bits wrap -/
theorem wrap_form (a : Int) : IntKind.i64.wrap a = (a + 9223372036854775808) % 18446744073709551616 - 9223372036854775808 := by
  have e1 : (2 ^ IntKind.i64.bits : Int) = 18446744073709551616 := by rfl
  have e2 : (2 ^ (IntKind.i64.bits - 1) : Int) = 9223372036854775808 := by rfl
  have e3 : IntKind.i64.signed = true := rfl
  simp only [IntKind.wrap, e1, e2, e3, Bool.true_and, decide_eq_true_eq]
  split <;> omega
theorem left_none {es : Array MapEntry} {seen : Array Nat} (h : (leftOf es seen).size = 0) : seenSum (es.toList.map asNum) seen = (es.toList.map fun e => coreOf e.val).sum := by
  have h1 := all_seen es seen h
  have := seenSum_full seen (es.toList.map asNum) (fun x hx => by
    obtain ⟨e, he, rfl⟩ := List.mem_map.1 hx
    exact h1 e he)
  rw [this]
  simp [asNum, valOf, Function.comp_def]
set_option maxRecDepth 1000000 in
theorem freeWalk (b b1 : Nat) (cores : Int) (node epoch o h : Value) (ty : TypeId) (fr : Nat × Nat) (ents : Array MapEntry) (clock : Nat) (w : World)
    (hb : w.heap[b]? = some (.cells #[node, .int .i64 cores, epoch, .map (some b1), o, h] ty fr)) (hm : w.heap[b1]? = some (.map ents clock)) (hst : MapKept.Stamped ents clock)
    (hc64 : -9223372036854775808 ≤ cores ∧ cores < 9223372036854775808) (hv : ∀ x ∈ ents.toList, ∃ c l, x.val = .agg #[.int .i64 c, .int .i64 l]) :
    Calls Try.prog 21 #[.pointer (some ⟨b, 0, none⟩)] w fun e w' => e = .returned (.int .i64 (((cores - (ents.toList.map fun e => coreOf e.val).sum + 9223372036854775808) % 18446744073709551616 - 9223372036854775808))) ∧ Below w.heap.size w w' := by
  have hc1 : w.cell? ⟨b, 1, none⟩ = some (.int .i64 cores) := by simp [World.cell?, hb]
  have hc3 : w.cell? ⟨b, 3, none⟩ = some (.map (some b1)) := by simp [World.cell?, hb]
  have hrg := run_range_map (P := Try.prog) w 90 3 98 b1 ents clock Try.underlying90 hm
  have heq : (binOp .eql 90 (.map (some b1)) (.map none)).run Try.prog w = .ok (.bool false) w := by
    simp only [binOp]
    simp [run_equal_map_nil w 90 3 98 (some b1) Try.underlying90]
  go_enter Try.func21, Try.ntmps21
  go_wp2
  go_loopw [3] (fun s w' => ∃ (seen : Array Nat), w'.heap[w.heap.size]? = some (.mapIter (some b1) clock seen clock) ∧ Below w.heap.size w w' ∧ s = .int .i64 ((cores - seenSum (ents.toList.map asNum) seen + 9223372036854775808) % 18446744073709551616 - 9223372036854775808)) (fun _ w' => (leftOf ents (w'.iterSeen w.heap.size)).size)
  case atStart => exact ⟨#[], heap_alloc_new _ _, (Below.refl _ _).alloc (Nat.le_refl _) _, by rw [seenSum_none, Int.sub_zero]; congr 1; omega⟩
  case round =>
    obtain ⟨seen, hr, hbl, rfl⟩ := hrel
    rename_i wr
    have hm1 : wr.heap[b1]? = some (.map ents clock) := by rw [hbl.block b1 (lt_of_block hm)]; exact hm
    rcases run_next_at (P := Try.prog) wr 0 w.heap.size b1 clock clock seen ents clock hr hm1 hst.1 (Nat.le_refl _) with ⟨h0, hrun⟩ | ⟨e, he, w2, hal, hrun⟩
    · have hnx : ∀ ty, (Instr.next (.pointer (some ⟨w.heap.size, 0, none⟩)) false ty).run Try.prog wr = _ := fun _ => hrun
      go_wp2
      go_ret
      rw [left_none h0]
      refine ⟨?_, hbl⟩
      rfl
    · obtain ⟨c, l, hval⟩ := hv e (mem_left he).1
      rw [hval] at hrun
      have hnx : ∀ ty, (Instr.next (.pointer (some ⟨w.heap.size, 0, none⟩)) false ty).run Try.prog wr = _ := fun _ => hrun
      have hrlt := lt_of_block hr
      obtain ⟨w3, hw3⟩ : ∃ w3, w3 = Go.ChangeMaps.setBlock w2 w.heap.size (.mapIter (some b1) clock (seen.push e.born) clock) := ⟨_, rfl⟩
      have hr3 : w3.heap[w.heap.size]? = some (.mapIter (some b1) clock (seen.push e.born) clock) := by
        rw [hw3]; rcases hal with rfl | rfl <;> simp [Go.ChangeMaps.setBlock, hrlt]
      have hbl3 : Below w.heap.size wr w3 := by
        rw [hw3]
        rcases hal with rfl | rfl <;> exact ⟨rfl, rfl, rfl, by simp [Go.ChangeMaps.setBlock], fun k hk => by
            have : w.heap.size ≠ k := by omega
            simp [Go.ChangeMaps.setBlock, this] <;> rfl⟩
      have hm3 : w3.heap[b1]? = some (.map ents clock) := by rw [hbl3.block b1 (lt_of_block hm)]; exact hm1
      have hen := run_entry_at (P := Try.prog) w3 w.heap.size b1 clock seen ents clock e hr3 hm3 (mem_left he).1 hst.2.1
      rw [hval] at hen
      rw [← hw3] at hrun hnx
      clear hw3
      go_wp2
      go_roundw
      case rel =>
        refine ⟨seen.push e.born, ?_, (hbl.trans hbl3).alloc (by have := hbl.size; have := hbl3.size; omega) _, ?_⟩
        · rw [heap_alloc_old _ _ (lt_of_block hr3)]; exact hr3
        · have hp := seenSum_push seen (asNum e) (mem_left he).2 (ents.toList.map asNum) (by rw [List.map_map]; exact hst.2.1) (List.mem_map.2 ⟨e, (mem_left he).1, rfl⟩)
          have : valOf (asNum e).val = c := by simp [asNum, valOf, hval, coreOf]
          rw [this] at hp
          rw [show (asNum e).born = e.born from rfl] at hp
          rw [hp]
          congr 1
          first | omega | (unfold Go.RowKit.wrap64; omega)
      case measure =>
        have e1 : (w3.alloc (Obj.cells #[Value.int IntKind.i64 c, Value.int IntKind.i64 l] 98)).iterSeen w.heap.size = seen.push e.born := by
          unfold World.iterSeen; rw [heap_alloc_old _ _ (lt_of_block hr3), hr3]
        have e2 : wr.iterSeen w.heap.size = seen := by unfold World.iterSeen; rw [hr]
        rw [e1, e2]
        exact left_shrinks ents seen e he

theorem two_array {vs : Array Value} (h : vs.size = 2) : ∃ a b, vs = #[a, b] := by
  obtain ⟨l⟩ := vs
  match l, h with
  | [a, b], _ => exact ⟨a, b, rfl⟩
theorem six_array {vs : Array Value} (h : vs.size = 6) : ∃ a b c d e f, vs = #[a, b, c, d, e, f] := by
  obtain ⟨l⟩ := vs
  match l, h with
  | [a, b, c, d, e, f], _ => exact ⟨a, b, c, d, e, f, rfl⟩
theorem sumP_rel {X : Nat} {w : World} {K : Keep} : ∀ {es : List (Int × PV)} {ents : List MapEntry} {s : Int}, sumP es = some s → ents.length = es.length →
    (∀ (i : Nat) (p : Int × PV) (en : MapEntry), es[i]? = some p → ents[i]? = some en → en.key = .int .i64 p.1 ∧ PVR X w K p.2 en.val) →
    (ents.map fun e => coreOf e.val).sum = s ∧ ∀ x ∈ ents, ∃ c l, x.val = .agg #[.int .i64 c, .int .i64 l] := by
  intro es
  induction es with
  | nil =>
    intro ents s h hl _
    simp [sumP] at h; subst h
    have : ents = [] := List.eq_nil_of_length_eq_zero (by simpa using hl)
    subst this
    simp
  | cons p es ih =>
    intro ents s h hl hx
    obtain ⟨k, d⟩ := p
    cases ents with
    | nil => simp at hl
    | cons en ents =>
      simp only [sumP] at h
      split at h
      · rename_i c s' hc hs'
        simp only [Option.some.injEq] at h; subst h
        obtain ⟨i1, i2⟩ := ih hs' (by simpa using hl) fun i p en h1 h2 => hx (i + 1) p en (by simpa using h1) (by simpa using h2)
        have hv := (hx 0 _ en rfl rfl).2
        unfold coreP at hc
        split at hc
        · rename_i c0 l0
          simp only [Option.some.injEq] at hc; subst hc
          obtain ⟨v, hval⟩ : ∃ v, en.val = v := ⟨_, rfl⟩
          simp only at hv
          rw [hval] at hv
          cases hv with
          | agg hs hxx =>
            rename_i vs
            obtain ⟨a, b, rfl⟩ := two_array (vs := vs) (by simpa using hs)
            have g0 := hxx 0 _ a rfl rfl
            have g1 := hxx 1 _ b rfl rfl
            cases g0; cases g1
            have hco : coreOf en.val = c0 := by rw [hval]; rfl
            refine ⟨by simp only [List.map_cons, List.sum_cons, hco, i1], fun x hx => ?_⟩
            rcases List.mem_cons.1 hx with rfl | hx
            · exact ⟨c0, l0, hval⟩
            · exact i2 x hx
        · cases hc
      · cases h

theorem entered21 : Entered Try.prog 21 := ⟨_, Try.func21, by kernel_rfl, by kernel_rfl⟩
theorem free_ok : ReadOK Try.prog fun g => bif Nat.beq g 21 then some freeS else none := by
  intro g q hq args S d hr X B w K m vs hS hs hx
  simp only at hq
  cases hg : Nat.beq g 21 with
  | false => rw [hg] at hq; cases hq
  | true =>
    rw [hg] at hq
    simp only [cond_true, Option.some.injEq] at hq
    subst hq
    have : g = 21 := Nat.eq_of_beq_eq_true hg
    subst this
    unfold freeS at hr
    split at hr
    case h_2 => cases hr
    rename_i id
    split at hr
    case h_2 => cases hr
    rename_i n c0 e j o h hv
    split at hr
    case h_2 => cases hr
    rename_i es hes
    unfold freeV at hr
    split at hr
    case h_2 => cases hr
    rename_i c s hsum
    cases hc : decide (-9223372036854775808 ≤ c ∧ c < 9223372036854775808) with
    | false => rw [hc] at hr; cases hr
    | true =>
      rw [hc] at hr
      simp only [cond_true, Option.some.injEq] at hr
      subst hr
      have hc64 := of_decide_eq_true hc
      simp only [List.length_cons, List.length_nil] at hs
      obtain ⟨v0, rfl⟩ : ∃ v0, vs = #[v0] := ⟨vs[0], one_array hs⟩
      have h0 := hx 0 _ v0 rfl rfl
      cases h0 with
      | ptr hm0 hla =>
        rename_i b off loc
        have hob := hS.ob id _ loc hv hm0
        cases hob with
        | var hv hl ha hz ho hb hf hk =>
          rename_i cv b' ty fr
          rw [hla] at ha; simp only [Option.some.injEq, Addr.mk.injEq] at ha; obtain ⟨rfl, rfl, -⟩ := ha
          cases hv with
          | agg hsz hxx =>
            rename_i us
            simp only [List.length_cons, List.length_nil] at hsz
            obtain ⟨a0, a1, a2, a3, a4, a5, rfl⟩ := six_array (vs := us) (by omega)
            have g1 := (hxx 1 _ a1 rfl rfl).pv_inv
            have g3 := hxx 3 _ a3 rfl rfl
            cases g1
            cases g3 with
            | mp hm1 hla1 =>
              rename_i b1 loc1
              cases hS.ob j _ loc1 hes hm1 with
              | map ha1 ho1 hb1 hs1 hx1 hst1 hk1 =>
                rename_i b1' clock ents
                rw [hla1] at ha1; simp only [Option.some.injEq, Addr.mk.injEq] at ha1; obtain ⟨rfl, -⟩ := ha1
                obtain ⟨q1, q2⟩ := sumP_rel (ents := ents.toList) hsum (by simpa using hs1) fun i p en h1 h2 => hx1 i p en h1 (by simpa using h2)
                have hw := freeWalk b b1 c a0 a2 a4 a5 ty fr ents clock w hb hb1 hst1 hc64 q2
                rw [q1] at hw
                simp only [Nat.zero_mul, Nat.add_zero]
                exact .inl ⟨entered21, hw.mono fun e' w' ⟨he, hbl⟩ => ⟨_, he, K, ⟨hbl, Sub.refl _, fun _ _ h => .inl h⟩, .sc _⟩⟩
end Go.Proofs

namespace Go.Proofs
open Go.RowKit Go.Maps Go.Sort Go.Shelf Go.Lite
def Try.keysL_ren : Go.Shelf.Ren := ⟨fun | 7 => 39 | 10 => 55 | n => n, fun | 23 => 91 | 26 => 3 | 3 => 3 | 28 => 103 | 0 => 0 | 27 => 102 | 33 => 108 | 4 => 4 | n => n, fun | n => n⟩
theorem Try.keysL : Go.Proofs.SlLaysZI.n7 Try.prog Try.keysL_ren := {
  mixed := by kernel_rfl
  f7 := ⟨Try.f39.name, by decide, Try.func39.trans (congrArg some (by kernel_rfl))⟩
  f10 := ⟨Try.f55.name, by decide, Try.func55.trans (congrArg some (by kernel_rfl))⟩
  t0 := Try.underlying0
  a0 := Try.isAgg0
  z0 := Try.sizeOf0
  v0 := Try.zeroValue0
  t4 := Try.underlying4
  a4 := Try.isAgg4
  z4 := Try.sizeOf4
  v4 := Try.zeroValue4
  t23 := Try.underlying91
  a23 := Try.isAgg91
  z23 := Try.sizeOf91
  v23 := Try.zeroValue91
  t26 := Try.underlying3
  a26 := Try.isAgg3
  z26 := Try.sizeOf3
  v26 := Try.zeroValue3
  t27 := Try.underlying102
  a27 := Try.isAgg102
  z27 := Try.sizeOf102
  v27 := Try.zeroValue102
  t28 := Try.underlying103
  a28 := Try.isAgg103
  z28 := Try.sizeOf103
  v28 := Try.zeroValue103
  t33 := Try.underlying108
  a33 := Try.isAgg108
  z33 := Try.sizeOf108
  v33 := Try.zeroValue108 }
def Try.keysM_ren : Go.Shelf.Ren := ⟨fun | 7 => 40 | 10 => 56 | n => n, fun | 23 => 90 | 26 => 3 | 3 => 98 | 28 => 103 | 0 => 0 | 27 => 102 | 33 => 108 | 4 => 4 | n => n, fun | n => n⟩
theorem Try.keysM : Go.Proofs.SlLaysZI.n7 Try.prog Try.keysM_ren := {
  mixed := by kernel_rfl
  f7 := ⟨Try.f40.name, by decide, Try.func40.trans (congrArg some (by kernel_rfl))⟩
  f10 := ⟨Try.f56.name, by decide, Try.func56.trans (congrArg some (by kernel_rfl))⟩
  t0 := Try.underlying0
  a0 := Try.isAgg0
  z0 := Try.sizeOf0
  v0 := Try.zeroValue0
  t4 := Try.underlying4
  a4 := Try.isAgg4
  z4 := Try.sizeOf4
  v4 := Try.zeroValue4
  t23 := Try.underlying90
  a23 := Try.isAgg90
  z23 := Try.sizeOf90
  v23 := Try.zeroValue90
  t26 := Try.underlying3
  a26 := Try.isAgg3
  z26 := Try.sizeOf3
  v26 := Try.zeroValue3
  t27 := Try.underlying102
  a27 := Try.isAgg102
  z27 := Try.sizeOf102
  v27 := Try.zeroValue102
  t28 := Try.underlying103
  a28 := Try.isAgg103
  z28 := Try.sizeOf103
  v28 := Try.zeroValue103
  t33 := Try.underlying108
  a33 := Try.isAgg108
  z33 := Try.sizeOf108
  v33 := Try.zeroValue108 }
def Try.sortedL_ren : Go.Shelf.Ren := ⟨fun | 6 => 38 | 8 => 53 | 9 => 54 | 11 => 62 | 13 => 64 | 12 => 63 | 23 => 76 | 24 => 77 | 14 => 67 | 15 => 68 | 16 => 69 | 17 => 70 | 18 => 71 | 19 => 72 | 20 => 73 | 21 => 74 | 22 => 75 | 25 => 79 | 26 => 80 | 27 => 81 | 28 => 82 | 29 => 83 | 30 => 84 | 31 => 85 | n => n, fun | 26 => 3 | 28 => 103 | 24 => 22 | 0 => 0 | 3 => 3 | 37 => 131 | 48 => 35 | 50 => 148 | 4 => 4 | 40 => 140 | 39 => 139 | 45 => 118 | 5 => 5 | 9 => 9 | 51 => 153 | 55 => 157 | 57 => 159 | 58 => 160 | 33 => 108 | n => n, fun | n => n⟩
theorem Try.sortedL : Go.Proofs.SlLaysZI.n6 Try.prog Try.sortedL_ren := {
  mixed := by kernel_rfl
  f6 := ⟨Try.f38.name, by decide, Try.func38.trans (congrArg some (by kernel_rfl))⟩
  f8 := ⟨Try.f53.name, by decide, Try.func53.trans (congrArg some (by kernel_rfl))⟩
  f11 := ⟨Try.f62.name, by decide, Try.func62.trans (congrArg some (by kernel_rfl))⟩
  t0 := Try.underlying0
  a0 := Try.isAgg0
  z0 := Try.sizeOf0
  v0 := Try.zeroValue0
  t24 := Try.underlying22
  a24 := Try.isAgg22
  z24 := Try.sizeOf22
  v24 := Try.zeroValue22
  t26 := Try.underlying3
  a26 := Try.isAgg3
  z26 := Try.sizeOf3
  v26 := Try.zeroValue3
  t28 := Try.underlying103
  a28 := Try.isAgg103
  z28 := Try.sizeOf103
  v28 := Try.zeroValue103
  i26 := by kernel_rfl }
def Try.sortL_ren : Go.Shelf.Ren := ⟨fun | 5 => 54 | 8 => 64 | 7 => 63 | 19 => 76 | 20 => 77 | 10 => 67 | 11 => 68 | 12 => 69 | 13 => 70 | 14 => 71 | 15 => 72 | 16 => 73 | 17 => 74 | 18 => 75 | 30 => 79 | 31 => 80 | 32 => 81 | 33 => 82 | 34 => 83 | 35 => 84 | 40 => 85 | n => n, fun | 23 => 22 | 25 => 3 | 3 => 3 | 32 => 131 | 22 => 22 | 0 => 0 | 44 => 35 | 46 => 148 | 4 => 4 | 36 => 140 | 35 => 139 | 41 => 118 | 5 => 5 | 9 => 9 | 53 => 153 | 57 => 157 | 63 => 159 | 64 => 160 | n => n, fun | n => n⟩
theorem Try.sortL : Go.Proofs.SlLaysM.n5 Try.prog Try.sortL_ren := {
  mixed := by kernel_rfl
  f5 := ⟨Try.f54.name, by decide, Try.func54.trans (congrArg some (by kernel_rfl))⟩
  f7 := ⟨Try.f63.name, by decide, Try.func63.trans (congrArg some (by kernel_rfl))⟩
  f8 := Try.func64.trans (congrArg some (by kernel_rfl))
  f10 := ⟨Try.f67.name, by decide, Try.func67.trans (congrArg some (by kernel_rfl))⟩
  f11 := ⟨Try.f68.name, by decide, Try.func68.trans (congrArg some (by kernel_rfl))⟩
  f12 := ⟨Try.f69.name, by decide, Try.func69.trans (congrArg some (by kernel_rfl))⟩
  f13 := ⟨Try.f70.name, by decide, Try.func70.trans (congrArg some (by kernel_rfl))⟩
  f14 := ⟨Try.f71.name, by decide, Try.func71.trans (congrArg some (by kernel_rfl))⟩
  f15 := ⟨Try.f72.name, by decide, Try.func72.trans (congrArg some (by kernel_rfl))⟩
  f16 := ⟨Try.f73.name, by decide, Try.func73.trans (congrArg some (by kernel_rfl))⟩
  f17 := ⟨Try.f74.name, by decide, Try.func74.trans (congrArg some (by kernel_rfl))⟩
  f18 := ⟨Try.f75.name, by decide, Try.func75.trans (congrArg some (by kernel_rfl))⟩
  f19 := Try.func76.trans (congrArg some (by kernel_rfl))
  f20 := Try.func77.trans (congrArg some (by kernel_rfl))
  f30 := ⟨Try.f79.name, by decide, Try.func79.trans (congrArg some (by kernel_rfl))⟩
  f31 := Try.func80.trans (congrArg some (by kernel_rfl))
  f32 := Try.func81.trans (congrArg some (by kernel_rfl))
  f33 := ⟨Try.f82.name, by decide, Try.func82.trans (congrArg some (by kernel_rfl))⟩
  f34 := ⟨Try.f83.name, by decide, Try.func83.trans (congrArg some (by kernel_rfl))⟩
  f35 := ⟨Try.f84.name, by decide, Try.func84.trans (congrArg some (by kernel_rfl))⟩
  f40 := ⟨Try.f85.name, by decide, Try.func85.trans (congrArg some (by kernel_rfl))⟩
  t0 := Try.underlying0
  a0 := Try.isAgg0
  z0 := Try.sizeOf0
  v0 := Try.zeroValue0
  t3 := Try.underlying3
  a3 := Try.isAgg3
  z3 := Try.sizeOf3
  v3 := Try.zeroValue3
  t4 := Try.underlying4
  a4 := Try.isAgg4
  z4 := Try.sizeOf4
  v4 := Try.zeroValue4
  t5 := Try.underlying5
  a5 := Try.isAgg5
  z5 := Try.sizeOf5
  v5 := Try.zeroValue5
  t9 := Try.underlying9
  a9 := Try.isAgg9
  z9 := Try.sizeOf9
  v9 := Try.zeroValue9
  t22 := Try.underlying22
  a22 := Try.isAgg22
  z22 := Try.sizeOf22
  v22 := Try.zeroValue22
  t23 := Try.underlying22
  a23 := Try.isAgg22
  z23 := Try.sizeOf22
  v23 := Try.zeroValue22
  t25 := Try.underlying3
  a25 := Try.isAgg3
  z25 := Try.sizeOf3
  v25 := Try.zeroValue3
  t32 := Try.underlying131
  a32 := Try.isAgg131
  z32 := Try.sizeOf131
  v32 := Try.zeroValue131
  t35 := Try.underlying139
  a35 := Try.isAgg139
  z35 := Try.sizeOf139
  v35 := Try.zeroValue139
  t36 := Try.underlying140
  a36 := Try.isAgg140
  z36 := Try.sizeOf140
  v36 := Try.zeroValue140
  t41 := Try.underlying118
  a41 := Try.isAgg118
  z41 := Try.sizeOf118
  v41 := Try.zeroValue118
  t44 := Try.underlying35
  a44 := Try.isAgg35
  z44 := Try.sizeOf35
  v44 := Try.zeroValue35
  t46 := Try.underlying148
  a46 := Try.isAgg148
  z46 := Try.sizeOf148
  v46 := Try.zeroValue148
  t53 := Try.underlying153
  a53 := Try.isAgg153
  z53 := Try.sizeOf153
  v53 := Try.zeroValue153
  t57 := Try.underlying157
  a57 := Try.isAgg157
  z57 := Try.sizeOf157
  v57 := Try.zeroValue157
  t63 := Try.underlying159
  a63 := Try.isAgg159
  z63 := Try.sizeOf159
  v63 := Try.zeroValue159
  t64 := Try.underlying160
  a64 := Try.isAgg160
  z64 := Try.sizeOf160
  v64 := Try.zeroValue160 }

theorem Try.sortsIn (m : Nat) : AnyZI.SortsIn Try.prog Try.sortedL_ren Fence.wide m :=
  ⟨fun blk off cap ss W hH hblk hsz => callsIn_wide.2 (AnyM.slices_Sort_int Try.sortL blk off cap ss W hH hblk hsz),
   fun p cap W => callsIn_wide.2 (AnyM.slices_Sort_int_none Try.sortL p cap W)⟩

theorem sortsKeys55 : SortsKeys Try.prog 38 55 := by
  refine ⟨⟨_, Try.func38, by kernel_rfl, by kernel_rfl⟩, 3, by kernel_rfl, fun Bm b nn D0 W hcell hown hmax hbytes => ?_⟩
  have hlt : Bm < W.heap.size := World.block_lt_of_cell? (w := W) (a := ⟨Bm, 0, none⟩) hcell
  have hseq : SeqGives Fence.wide 2 Try.prog 55 #[.pointer (some ⟨Bm, 0, none⟩)] encZ (fun ss => ss.Perm (intKeys D0)) (Maps.size D0) W :=
    AnyZI.keys_gives (ρ := Try.keysL_ren) { Try.keysL with } Fence.wide _ trivial rfl (by omega) Bm b nn D0 W hlt hcell hown
  have cS := AnyZI.sorted_in Try.sortedL Fence.wide 5 trivial trivial trivial trivial rfl (by omega) (Try.sortsIn _) (enters_of Try.func54 (by kernel_rfl) rfl) 55 #[.pointer (some ⟨Bm, 0, none⟩)] trivial (enters_of Try.func55 (by kernel_rfl) rfl) _ _ hmax hbytes W hseq
  exact callsIn_wide.1 cS

theorem sortsKeys56 : SortsKeys Try.prog 38 56 := by
  refine ⟨⟨_, Try.func38, by kernel_rfl, by kernel_rfl⟩, 3, by kernel_rfl, fun Bm b nn D0 W hcell hown hmax hbytes => ?_⟩
  have hlt : Bm < W.heap.size := World.block_lt_of_cell? (w := W) (a := ⟨Bm, 0, none⟩) hcell
  have hseq : SeqGives Fence.wide 2 Try.prog 56 #[.pointer (some ⟨Bm, 0, none⟩)] encZ (fun ss => ss.Perm (intKeys D0)) (Maps.size D0) W :=
    AnyZI.keys_gives (ρ := Try.keysM_ren) { Try.keysM with } Fence.wide _ trivial rfl (by omega) Bm b nn D0 W hlt hcell hown
  have cS := AnyZI.sorted_in Try.sortedL Fence.wide 5 trivial trivial trivial trivial rfl (by omega) (Try.sortsIn _) (enters_of Try.func54 (by kernel_rfl) rfl) 56 #[.pointer (some ⟨Bm, 0, none⟩)] trivial (enters_of Try.func56 (by kernel_rfl) rfl) _ _ hmax hbytes W hseq
  exact callsIn_wide.1 cS
end Go.Proofs

namespace Go.Lite
open Go Go.Proofs
set_option linter.unusedVariables false
set_option linter.unusedSimpArgs false
set_option maxRecDepth 100000
theorem tidyTry : TidyF Try.prog := tidyF_of (by kernel_rfl)
theorem primsS0 : PrimsSOK Try.prog h0.primS := by
  intro g q h
  simp only [h0] at h
  cases hg : Nat.beq g 38 with
  | true =>
    rw [hg] at h
    simp only [cond_true, Option.some.injEq] at h
    subst h
    have : g = 38 := Nat.eq_of_beq_eq_true hg
    subst this
    exact sorteds_ok (kfs := [55, 56]) (fun kf hk => by
      simp only [List.mem_cons, List.not_mem_nil, or_false] at hk
      rcases hk with rfl | rfl
      · exact sortsKeys55
      · exact sortsKeys56) 38 _ (by simp)
  | false =>
    rw [hg] at h
    simp only [cond_false] at h
    exact free_ok g q h
noncomputable abbrev kk (L n : Nat) : Kallee := ⟨callP Try.prog hh L n, callS Try.prog hh L n, callM Try.prog hh L n, hh.calmB, hh.primS⟩
abbrev U (n : Int) : PV := .sc (.int .u8 n)

theorem sl22 : SlTy Try.prog 22 3 0 8 := .of (by kernel_rfl) (by kernel_rfl) (by kernel_rfl) (by kernel_rfl) (by kernel_rfl) (by kernel_rfl)
theorem sl27 : SlTy Try.prog 27 53 44 536 := .of (by kernel_rfl) (by kernel_rfl) (by kernel_rfl) (by kernel_rfl) (by kernel_rfl) (by kernel_rfl)
end Go.Lite

namespace Go.Lite
open Go Go.Proofs
set_option linter.unusedVariables false
set_option linter.unusedSimpArgs false
set_option maxRecDepth 100000

/-! # a node -/
structure ND where
  node : Int
  cores : Int
  epoch : Int
  runs : List (Int × (Int × Int))
  over : List (Int × Int)
  heard : List (Int × Int)
abbrev encR (p : Int × Int) : PV := .agg [I p.1, I p.2]
abbrev st (n : ND) : List FV := [.p (I n.node), .p (I n.cores), .p (I n.epoch), .m (mapE encR n.runs), .m (mapE I n.over), .m (mapE I n.heard)]

/-! # messages -/
abbrev es0 : PV := .sc (.string ⟨#[]⟩)
abbrev ns0 : PV := .sc (.slice none 0 0)
def msg (k node epoch job n cores left : Int) : PV := .agg [U k, I 0, I 0, I 0, U 0, I 0, I 0, es0, es0, es0, es0, es0, es0, I 0, I 0, I 0, ns0, es0, .sc (.int .u32 0), I 0, I 0, ns0, I 0, ns0, ns0, ns0, I node, I epoch, I job, I n, I cores, I left, es0, ns0, I 0, U 0, I 0, es0, es0, I 0, I 0, U 0, ns0]
structure MsgIs (v : PV) (k nd ep job co lf : Int) : Prop where
  lay : PV.hasLay 44 v = true
  a0 : PV.at_ 44 0 0 v = some (U k)
  a26 : PV.at_ 44 26 0 v = some (I nd)
  a27 : PV.at_ 44 27 0 v = some (I ep)
  a28 : PV.at_ 44 28 0 v = some (I job)
  a30 : PV.at_ 44 30 0 v = some (I co)
  a31 : PV.at_ 44 31 0 v = some (I lf)
theorem msg_is (k nd ep job n co lf : Int) : MsgIs (msg k nd ep job n co lf) k nd ep job co lf := ⟨rfl, rfl, rfl, rfl, rfl, rfl, rfl⟩
theorem msg_lay (k nd ep job n co lf : Int) : PV.hasLay 44 (msg k nd ep job n co lf) = true := rfl
theorem msg_put (k nd ep job n co lf x : Int) : putPV 44 29 0 (.pv (msg k nd ep job n co lf)) (I x) = some (msg k nd ep job x co lf) := rfl
theorem bp53 (k nd ep job : Int) : buildPV Try.prog 53 [(0, U k), (6, I nd), (7, I ep), (8, I job)] = some (msg k nd ep job 0 0 0) := by kernel_rfl
theorem bp53a (k nd ep job co lf : Int) : buildPV Try.prog 53 [(0, U k), (6, I nd), (7, I ep), (8, I job), (10, I co), (11, I lf)] = some (msg k nd ep job 0 co lf) := by kernel_rfl
theorem bp53b (k nd : Int) : buildPV Try.prog 53 [(0, U k), (6, I nd)] = some (msg k nd 0 0 0 0 0) := by kernel_rfl
theorem bp53c (k nd ep : Int) : buildPV Try.prog 53 [(0, U k), (6, I nd), (7, I ep)] = some (msg k nd ep 0 0 0 0) := by kernel_rfl
theorem bs27 (k nd ep job n co lf : Int) : buildSliceAV Try.prog 27 1 [(0, msg k nd ep job n co lf)] = some (.list 44 true [msg k nd ep job n co lf]) := by kernel_rfl
theorem bp98 (c l : Int) : buildPV Try.prog 98 [(0, I c), (1, I l)] = some (encR (c, l)) := by kernel_rfl
@[simp] theorem ckR (a b c : PV) (h1 : a.isCell = true) (h2 : b.isCell = true) (h3 : c.isCell = true) (i j k : Nat) : ckRoot 7 (.agg [.pv a, .pv b, .pv c, .mp i, .mp j, .mp k]) = true := by simp [ckRoot, AV.hasLay, AV.isCell, h1, h2, h3]
@[simp] theorem ckRI (a b c : Int) (i j k : Nat) : ckRoot 7 (.agg [.pv (I a), .pv (I b), .pv (I c), .mp i, .mp j, .mp k]) = true := rfl
@[simp] theorem ckHI (a b c : Int) (i j k : Nat) : AV.hasLay 7 (.agg [.pv (I a), .pv (I b), .pv (I c), .mp i, .mp j, .mp k]) = true := rfl
@[simp] theorem hlI (a : Int) : PV.hasLay 0 (I a) = true := rfl
@[simp] theorem hlR (p : Int × Int) : PV.hasLay 3 (encR p) = true := rfl
theorem im90 : intM Try.prog 90 = some 98 := by kernel_rfl
theorem im91 : intM Try.prog 91 = some 3 := by kernel_rfl
theorem z98 : zeroPV Try.prog 98 = some (encR (0, 0)) := by kernel_rfl
theorem z3 : zeroPV Try.prog 3 = some (I 0) := by kernel_rfl
@[simp] theorem look90 (ok : Bool) (es : List (Int × PV)) (k : Int) : lookPV Try.prog 90 ok es (I k) = some (lookT (encR (0, 0)) ok k es) := by simp [lookPV, im90, z98, key?]
@[simp] theorem look91 (ok : Bool) (es : List (Int × PV)) (k : Int) : lookPV Try.prog 91 ok es (I k) = some (lookT (I 0) ok k es) := by simp [lookPV, im91, z3, key?]
@[simp] theorem upd90 (es : List (Int × PV)) (k : Int) (d : PV) : updPV Try.prog 90 es (I k) d = some (updM k d es) := by simp [updPV, im90, key?]
@[simp] theorem upd91 (es : List (Int × PV)) (k : Int) (d : PV) : updPV Try.prog 91 es (I k) d = some (updM k d es) := by simp [updPV, im91, key?]
@[simp] theorem del90 (es : List (Int × PV)) (k : Int) : delPV Try.prog 90 es (I k) = some (delM k es) := by simp [delPV, im90, key?]
@[simp] theorem del91 (es : List (Int × PV)) (k : Int) : delPV Try.prog 91 es (I k) = some (delM k es) := by simp [delPV, im91, key?]
/-- what a look into a map tells -/
theorem lookT_ok {α : Type} (f : α → PV) (z : PV) (k : Int) (l : List (Int × α)) : lookT z true k (mapE f l) = .tup [((lookE k l).map f).getD z, Bo (lookE k l).isSome] := by
  unfold lookT
  rw [findM_mapE]
  cases lookE k l <;> rfl
theorem lookT_no {α : Type} (f : α → PV) (z : PV) (k : Int) (l : List (Int × α)) : lookT z false k (mapE f l) = ((lookE k l).map f).getD z := by
  unfold lookT
  rw [findM_mapE]
  cases lookE k l <;> rfl
theorem getD_R (o : Option (Int × Int)) : PV.hasLay 3 ((o.map encR).getD (encR (0, 0))) = true := by cases o <;> rfl
theorem getD_I (o : Option Int) : ((o.map I).getD (I 0)) = I (o.getD 0) := by cases o <;> rfl

/-! # what the methods do -/
def ND.sum (l : List (Int × (Int × Int))) : Int := (l.map fun p => p.2.1).sum
def ND.free (n : ND) : Int := (n.cores - ND.sum n.runs + 9223372036854775808) % 18446744073709551616 - 9223372036854775808
def ND.tell (n : ND) (k job : Int) : PV := msg k n.node n.epoch job (if k = 11 then (lookE job n.over).getD 0 else 0) 0 0
def ND.deaf (n : ND) (job : Int) : Bool := decide (job < 1) || decide (1073741824 < job) || (!(lookE job n.heard).isSome && decide (4096 ≤ (n.heard.length : Int)))
def ND.hear (n : ND) (job : Int) : ND := { n with heard := updE job job n.heard }
abbrev one (m : PV) : PV := .list 44 true [m]
def ND.refuses (n : ND) (job co lf : Int) : Bool := (lookE job n.heard).isSome || decide (co < 1) || decide (n.free < co) || decide (lf < 1) || decide (1048576 < lf)
def ND.launch (n : ND) (job co lf : Int) : ND × PV :=
  if (lookE job n.runs).isSome then (n, one (n.tell 8 job))
  else if (lookE job n.over).isSome then (n, one (n.tell 11 job))
  else if n.refuses job co lf || n.deaf job then (n, nilSlice)
  else ({ n.hear job with runs := updE job (co, lf) n.runs }, one (n.tell 8 job))
def ND.kill (n : ND) (job : Int) : ND × PV :=
  if ND.deaf { n with runs := delE job n.runs, over := delE job n.over } job then ({ n with runs := delE job n.runs, over := delE job n.over }, nilSlice)
  else (ND.hear { n with runs := delE job n.runs, over := delE job n.over } job, one (n.tell 10 job))
def ND.seen (n : ND) (job : Int) : ND := { n with over := delE job n.over }
def ND.welcome (n : ND) (nd ep : Int) : ND := if nd = n.node ∧ n.epoch < ep then { n with epoch := ep, runs := [], over := [], heard := [] } else n
def ND.off (n : ND) (nd ep : Int) : Bool := decide (nd ≠ n.node) || decide (ep ≠ n.epoch) || decide (n.epoch = 0)
def ND.take (n : ND) (k nd ep job co lf : Int) : ND × PV × Int :=
  if k = 6 then (n.welcome nd ep, nilSlice, 0)
  else if k = 7 then (if n.off nd ep then (n, nilSlice, 0) else ((n.launch job co lf).1, (n.launch job co lf).2, 0))
  else if k = 9 then (if n.off nd ep then (n, nilSlice, 0) else ((n.kill job).1, (n.kill job).2, 0))
  else if k = 12 then (if n.off nd ep then (n, nilSlice, 0) else (n.seen job, nilSlice, 0))
  else (n, nilSlice, 2)
def ND.finish (n : ND) (job x : Int) : ND × PV × Int :=
  if (lookE job n.runs).isSome then
    ({ n with runs := delE job n.runs, over := updE job x n.over }, one (ND.tell { n with over := updE job x n.over } 11 job), 0)
  else (n, nilSlice, 180)
theorem sumP_mapE (l : List (Int × (Int × Int))) : sumP (mapE encR l) = some (ND.sum l) := by
  induction l with
  | nil => rfl
  | cons p r ih =>
    simp only [mapE, List.map_cons, sumP] at ih ⊢
    rw [ih]; simp [coreP, ND.sum]
theorem freeV_st (n : ND) (h : -9223372036854775808 ≤ n.cores ∧ n.cores < 9223372036854775808) : freeV (I n.cores) (mapE encR n.runs) = some (I n.free) := by
  simp only [freeV, sumP_mapE]
  rw [decide_eq_true h]; rfl
def ND.ok (n : ND) : Prop := -9223372036854775808 ≤ n.cores ∧ n.cores < 9223372036854775808

section
variable {L m : Nat}
theorem c33 (hm : 2 ≤ m) (n : ND) : callM Try.prog hh L m 33 (some (st n)) [] = some (.pure (Bo false), st n) := by
  obtain ⟨k, rfl⟩ : ∃ k, m = k + 1 + 1 := ⟨m - 2, by omega⟩
  refine callM_of rfl ?_
  rw [r33]; simp [d33_0]
theorem c37 (hm : 2 ≤ m) (n : ND) (k job : Int) : callM Try.prog hh L m 37 (some (st n)) [U k, I job] = some (.pure (one (n.tell k job)), st n) := by
  obtain ⟨j, rfl⟩ : ∃ j, m = j + 1 + 1 := ⟨m - 2, by omega⟩
  refine callM_of rfl ?_
  rw [r37]
  by_cases hk : k = 11
  · simp [d37_0, bp53, putPV_all (msg_lay ..), hk, lookT_no, getD_I, msg_put, bs27, ND.tell]
  · simp [d37_0, bp53, putPV_all (msg_lay ..), hk, bs27, ND.tell]
theorem c52 (hm : 2 ≤ m) (n : ND) (job : Int) : callM Try.prog hh L m 52 (some (st n)) [I job] = some (.pure (Bo (!n.deaf job)), st (if n.deaf job then n else n.hear job)) := by
  obtain ⟨j, rfl⟩ : ∃ j, m = j + 1 + 1 := ⟨m - 2, by omega⟩
  refine callM_of rfl ?_
  rw [r52]
  by_cases h1 : job < 1
  · simp [d52_0, lookT_ok, getD_I, h1, ND.deaf]
  · by_cases h2 : 1073741824 < job
    · simp [d52_0, lookT_ok, getD_I, h1, h2, ND.deaf]
    · cases h3 : (lookE job n.heard).isSome
      · by_cases h4 : 4096 ≤ (n.heard.length : Int)
        · simp [d52_0, lookT_ok, getD_I, h1, h2, h3, h4, ND.deaf]
        · simp [d52_0, lookT_ok, getD_I, h1, h2, h3, h4, ND.deaf, ND.hear]
      · simp [d52_0, lookT_ok, getD_I, h1, h2, h3, ND.deaf, ND.hear]
end
end Go.Lite

namespace Go.Lite
open Go Go.Proofs
set_option linter.unusedVariables false
set_option linter.unusedSimpArgs false
set_option maxRecDepth 100000
@[simp] theorem put3R (v : AV) (p : Int × Int) : putPV 3 0 3 v (encR p) = some (encR p) := putPV_all (hlR p)
section
variable {L m : Nat}
theorem c34 (hm : 3 ≤ m) (n : ND) (hn : n.ok) {v : PV} {k nd ep job co lf : Int} (hv : MsgIs v k nd ep job co lf) : callM Try.prog hh L m 34 (some (st n)) [v] = some (.pure (n.launch job co lf).2, st (n.launch job co lf).1) := by
  obtain ⟨j, rfl⟩ : ∃ j, m = j + 1 + 1 := ⟨m - 2, by omega⟩
  refine callM_of rfl ?_
  have hf := freeV_st n hn
  have h52 := c52 (L := L) (m := j + 1) (by omega) n job
  rw [r34]
  cases h1 : (lookE job n.runs).isSome
  · cases h2 : (lookE job n.over).isSome
    · by_cases h3 : n.refuses job co lf
      · have : n.launch job co lf = (n, nilSlice) := by simp [ND.launch, h1, h2, h3]
        rw [this]
        simp only [ND.refuses, Bool.or_eq_true, decide_eq_true_eq] at h3
        cases h4 : (lookE job n.heard).isSome
        · simp only [h4, Bool.false_eq_true, false_or] at h3
          by_cases h5 : co < 1
          · simp [d34_0, hv.lay, hv.a28, hv.a30, hv.a31, lookT_ok, getD_I, h1, h2, h4, h5, nilSlice]
          · by_cases h6 : n.free < co
            · simp [d34_0, hv.lay, hv.a28, hv.a30, hv.a31, lookT_ok, getD_I, h1, h2, h4, h5, hf, h6, nilSlice]
            · by_cases h7 : lf < 1
              · simp [d34_0, hv.lay, hv.a28, hv.a30, hv.a31, lookT_ok, getD_I, h1, h2, h4, h5, hf, h6, h7, nilSlice]
              · have h8 : 1048576 < lf := by rcases h3 with ((h | h) | h) | h <;> first | exact h | contradiction
                simp [d34_0, hv.lay, hv.a28, hv.a30, hv.a31, lookT_ok, getD_I, h1, h2, h4, h5, hf, h6, h7, h8, nilSlice]
        · simp [d34_0, hv.lay, hv.a28, hv.a30, hv.a31, lookT_ok, getD_I, h1, h2, h4, nilSlice]
      · have h3' := h3
        simp only [ND.refuses, Bool.or_eq_true, decide_eq_true_eq, not_or] at h3'
        obtain ⟨⟨⟨⟨h4, h5⟩, h6⟩, h7⟩, h8⟩ := h3'
        have h4 : (lookE job n.heard).isSome = false := by simpa using h4
        cases h9 : n.deaf job
        · have e : n.launch job co lf = ({ n.hear job with runs := updE job (co, lf) n.runs }, one (n.tell 8 job)) := by simp [ND.launch, h1, h2, h3, h9]
          rw [e]
          rw [h9] at h52
          have h37 := c37 (L := L) (m := j + 1) (by omega) { n.hear job with runs := updE job (co, lf) n.runs } 8 job
          have e2 : ND.tell { n.hear job with runs := updE job (co, lf) n.runs } 8 job = n.tell 8 job := by simp [ND.tell, ND.hear]
          rw [e2] at h37
          simp only [st, ND.hear] at h37
          simp [d34_0, hv.lay, hv.a28, hv.a30, hv.a31, lookT_ok, getD_I, h1, h2, h4, h5, hf, h6, h7, h8, h52, bp98, updM_mapE encR, h37, ND.hear]
        · have e : n.launch job co lf = (n, nilSlice) := by simp [ND.launch, h1, h2, h3, h9]
          rw [e]
          rw [h9] at h52
          simp [d34_0, hv.lay, hv.a28, hv.a30, hv.a31, lookT_ok, getD_I, h1, h2, h4, h5, hf, h6, h7, h8, h52, nilSlice]
    · have e : n.launch job co lf = (n, one (n.tell 11 job)) := by simp [ND.launch, h1, h2]
      rw [e]
      simp [d34_0, hv.lay, hv.a28, hv.a30, hv.a31, lookT_ok, getD_I, h1, h2, c37 (L := L) (m := j + 1) (by omega) n 11 job]
  · have e : n.launch job co lf = (n, one (n.tell 8 job)) := by simp [ND.launch, h1]
    rw [e]
    simp [d34_0, hv.lay, hv.a28, hv.a30, hv.a31, lookT_ok, getD_I, h1, c37 (L := L) (m := j + 1) (by omega) n 8 job]

theorem c35 (hm : 3 ≤ m) (n : ND) {v : PV} {k nd ep job co lf : Int} (hv : MsgIs v k nd ep job co lf) : callM Try.prog hh L m 35 (some (st n)) [v] = some (.pure (n.kill job).2, st (n.kill job).1) := by
  obtain ⟨j, rfl⟩ : ∃ j, m = j + 1 + 1 := ⟨m - 2, by omega⟩
  refine callM_of rfl ?_
  rw [r35]
  have h52 := c52 (L := L) (m := j + 1) (by omega) { n with runs := delE job n.runs, over := delE job n.over } job
  simp only [st] at h52
  cases h9 : ND.deaf { n with runs := delE job n.runs, over := delE job n.over } job
  · have e : n.kill job = (ND.hear { n with runs := delE job n.runs, over := delE job n.over } job, one (n.tell 10 job)) := by simp [ND.kill, h9]
    rw [e]
    rw [h9] at h52
    simp only [ND.hear] at h52
    have h37 := c37 (L := L) (m := j + 1) (by omega) (ND.hear { n with runs := delE job n.runs, over := delE job n.over } job) 10 job
    have e2 : ND.tell (ND.hear { n with runs := delE job n.runs, over := delE job n.over } job) 10 job = n.tell 10 job := by simp [ND.tell, ND.hear]
    rw [e2] at h37
    simp only [st, ND.hear] at h37
    simp [d35_0, hv.lay, hv.a28, h52, h37, ND.hear]
  · have e : n.kill job = ({ n with runs := delE job n.runs, over := delE job n.over }, nilSlice) := by simp [ND.kill, h9]
    rw [e]
    rw [h9] at h52
    simp [d35_0, hv.lay, hv.a28, h52, nilSlice]

theorem c36 (hm : 2 ≤ m) (n : ND) {v : PV} {k nd ep job co lf : Int} (hv : MsgIs v k nd ep job co lf) : callM Try.prog hh L m 36 (some (st n)) [v] = some (.pure nilSlice, st (n.seen job)) := by
  obtain ⟨j, rfl⟩ : ∃ j, m = j + 1 + 1 := ⟨m - 2, by omega⟩
  refine callM_of rfl ?_
  rw [r36]
  simp [d36_0, hv.lay, hv.a28, ND.seen, nilSlice]

end
end Go.Lite

namespace Go.Lite
open Go Go.Proofs
set_option linter.unusedVariables false
set_option linter.unusedSimpArgs false
set_option maxRecDepth 100000
section
variable {L m : Nat}
theorem c9 (hm : 4 ≤ m) (n : ND) (hn : n.ok) {v : PV} {k nd ep job co lf : Int} (hv : MsgIs v k nd ep job co lf) :
    callM Try.prog hh L m 9 (some (st n)) [v] = some (.pure (.tup [(n.take k nd ep job co lf).2.1, I (n.take k nd ep job co lf).2.2]), st (n.take k nd ep job co lf).1) := by
  obtain ⟨j, rfl⟩ : ∃ j, m = j + 1 + 1 := ⟨m - 2, by omega⟩
  refine callM_of rfl ?_
  rw [r9]
  have h33 := c33 (L := L) (m := j + 1) (by omega) n
  have h34 := c34 (L := L) (m := j + 1) (by omega) n hn hv
  have h35 := c35 (L := L) (m := j + 1) (by omega) n hv
  have h36 := c36 (L := L) (m := j + 1) (by omega) n hv
  by_cases k6 : k = 6
  · by_cases h1 : nd = n.node
    · by_cases h2 : n.epoch < ep
      · simp (maxSteps := 50000) [d9_0, hv.lay, hv.a0, hv.a26, hv.a27, h33, ND.take, k6, ND.welcome, h1, h2, nilSlice]
      · simp (maxSteps := 50000) [d9_0, hv.lay, hv.a0, hv.a26, hv.a27, h33, ND.take, k6, ND.welcome, h1, h2, nilSlice]
    · simp (maxSteps := 50000) [d9_0, hv.lay, hv.a0, hv.a26, hv.a27, h33, ND.take, k6, ND.welcome, h1, nilSlice]
  · by_cases h0 : k = 7 ∨ k = 9 ∨ k = 12
    · by_cases h1 : nd = n.node
      · by_cases h2 : ep = n.epoch
        · by_cases h3 : n.epoch = 0
          · have h3 := eq_true h3
            rcases h0 with h0 | h0 | h0 <;> simp (maxSteps := 50000) [d9_0, h0, hv.lay, hv.a0, hv.a26, hv.a27, h33, ND.take, ND.off, h1, h2, h3, nilSlice]
          · rcases h0 with h0 | h0 | h0 <;> simp (maxSteps := 50000) [d9_0, h0, hv.lay, hv.a0, hv.a26, hv.a27, h33, ND.take, ND.off, h1, h2, h3, h34, h35, h36, nilSlice]
        · rcases h0 with h0 | h0 | h0 <;> simp (maxSteps := 50000) [d9_0, h0, hv.lay, hv.a0, hv.a26, hv.a27, h33, ND.take, ND.off, h1, h2, nilSlice]
      · rcases h0 with h0 | h0 | h0 <;> simp (maxSteps := 50000) [d9_0, h0, hv.lay, hv.a0, hv.a26, hv.a27, h33, ND.take, ND.off, h1, nilSlice]
    · simp only [not_or] at h0
      simp (maxSteps := 50000) [d9_0, hv.lay, hv.a0, h33, ND.take, k6, h0.1, h0.2.1, h0.2.2, nilSlice]

end
end Go.Lite

namespace Go.Lite
open Go Go.Proofs
set_option linter.unusedVariables false
set_option linter.unusedSimpArgs false
set_option maxRecDepth 100000
section
variable {L m : Nat}
theorem c12 (hm : 3 ≤ m) (n : ND) (job x : Int) : callM Try.prog hh L m 12 (some (st n)) [I job, I x] = some (.pure (.tup [(n.finish job x).2.1, I (n.finish job x).2.2]), st (n.finish job x).1) := by
  obtain ⟨j, rfl⟩ : ∃ j, m = j + 1 + 1 := ⟨m - 2, by omega⟩
  refine callM_of rfl ?_
  rw [r12]
  have h33 := c33 (L := L) (m := j + 1) (by omega) n
  cases h1 : (lookE job n.runs).isSome
  · simp [d12_0, h33, lookT_ok, h1, ND.finish, nilSlice]
  · have h37 := c37 (L := L) (m := j + 1) (by omega) { n with runs := delE job n.runs, over := updE job x n.over } 11 job
    have e2 : ND.tell { n with runs := delE job n.runs, over := updE job x n.over } 11 job = ND.tell { n with over := updE job x n.over } 11 job := by simp [ND.tell]
    rw [e2] at h37
    simp only [st] at h37
    simp [d12_0, h33, lookT_ok, h1, ND.finish, updM_mapE I, h37]

theorem c18 (hm : 3 ≤ m) (n : ND) : callM Try.prog hh L m 18 (some (st n)) [] = some (.pure (I n.epoch), st n) := by
  obtain ⟨j, rfl⟩ : ∃ j, m = j + 1 + 1 := ⟨m - 2, by omega⟩
  refine callM_of rfl ?_
  rw [r18]
  simp [d18_0, c33 (L := L) (m := j + 1) (by omega) n]
/-- the keys may be told -/
def ND.small (n : ND) : Prop := (∀ j ∈ keysE n.runs, keyOK j = true) ∧ (∀ j ∈ keysE n.over, keyOK j = true) ∧ n.runs.length ≤ 100000 ∧ n.over.length ≤ 100000
theorem c19 (hm : 3 ≤ m) (n : ND) (hs : n.small) : callM Try.prog hh L m 19 (some (st n)) [] = some (.pure (intsPV (isort (keysE n.runs))), st n) := by
  obtain ⟨j, rfl⟩ : ∃ j, m = j + 1 + 1 := ⟨m - 2, by omega⟩
  refine callM_of rfl ?_
  rw [r19]
  have h := sorted_mapE (f := encR) hs.1 (by have := hs.2.2.1; omega)
  simp [d19_0, c33 (L := L) (m := j + 1) (by omega) n, h]

/-- all that is over, told -/
theorem l13 {R : Type} (hm : 2 ≤ m) (ke : PV → PV → PV → List (Int × PV) → List (Int × PV) → List (Int × PV) → List PV → Option R) (n : ND) (d : PV) (l : List Int) (hd : IsL 0 d (l.map I)) (hl : l.length ≤ 100000) :
    ∀ (r : List Int) (N i : Nat) (acc : List PV), l.drop i = r → r.length < N → acc.length + r.length ≤ 100000 → d13_3i (kk L m) L ke N d (I l.length) (I i) (I n.node) (I n.cores) (I n.epoch) (mapE encR n.runs) (mapE I n.over) (mapE I n.heard) acc =
      ke (I n.node) (I n.cores) (I n.epoch) (mapE encR n.runs) (mapE I n.over) (mapE I n.heard) (acc ++ r.map (n.tell 11)) := by
  intro r
  induction r with
  | nil =>
    intro N i acc h hN ha
    obtain ⟨N, rfl⟩ : ∃ k, N = k + 1 := ⟨N - 1, by omega⟩
    have := drop_nil' h
    have h2 : ¬ (i : Int) < l.length := by omega
    simp [d13_3i, d13_4, h2]
  | cons p r ih =>
    intro N i acc h hN ha
    obtain ⟨N, rfl⟩ : ∃ k, N = k + 1 := ⟨N - 1, by omega⟩
    obtain ⟨h1, h2, h3, h4⟩ := drop_cons' h
    have h5 : (i : Int) < l.length := by omega
    have h6 := wrap_succ (i := i) (by omega)
    have h7 := ih N (i + 1) (acc ++ [n.tell 11 p]) h3 (by simp at hN; omega) (by simp at ha ⊢; omega)
    have h8 := sl27.appTo sl27 (xs := acc) (d := one (n.tell 11 p)) .list (by simp at ha ⊢; omega)
    have h9 : indexAddrPV Try.prog 22 d (I i) = some (.ro 0 (I p)) := sl22.at hd (by simp [h2])
    have h10 := c37 (L := L) hm n 11 p
    simp only [List.append_assoc, List.cons_append, List.nil_append] at h7
    simp only [st] at h10
    rw [show ((i + 1 : Nat) : Int) = (i : Int) + 1 by omega] at h7 h6
    simp [d13_3i, d13_4, h5, h9, load_ro sl22.y, h10, h8, h6, h7]
def ND.again (n : ND) : List PV := if n.epoch = 0 then [msg 5 n.node 0 0 0 0 0] else (isort (keysE n.over)).map (n.tell 11)
theorem c13 (hm : 3 ≤ m) (hL : 100001 ≤ L) (n : ND) (hs : n.small) : ∃ d, IsL 44 d n.again ∧ callM Try.prog hh L m 13 (some (st n)) [] = some (.pure d, st n) := by
  obtain ⟨j, rfl⟩ : ∃ j, m = j + 1 + 1 := ⟨m - 2, by omega⟩
  by_cases he : n.epoch = 0
  · refine ⟨.list 44 true [msg 5 n.node 0 0 0 0 0], by rw [ND.again, if_pos he]; exact .list, callM_of rfl ?_⟩
    rw [r13]
    have he := eq_true he
    simp [d13_0, g13_0, c33 (L := L) (m := j + 1) (by omega) n, he, bp53b, bs27]
  · refine ⟨.list 44 false ((isort (keysE n.over)).map (n.tell 11)), by rw [ND.again, if_neg he]; exact .list, callM_of rfl ?_⟩
    rw [r13]
    have h := sorted_mapE (f := I) hs.2.1 (by have := hs.2.2.2; omega)
    have hlen : (isort (keysE n.over)).length ≤ 100000 := by
      rw [(isort_perm _).length_eq]; simp [keysE]; exact hs.2.2.2
    have hl := sl22.len (intsPV_is (isort (keysE n.over)))
    simp only [List.length_map] at hl
    have h7 := l13 (L := L) (m := j + 1) (by omega) (fun v0 v1 v2 m3 m4 m5 x6 => d13_5 (kk L (j + 1)) L v0 v1 v2 m3 m4 m5 x6) n _ (isort (keysE n.over)) (intsPV_is _) hlen (isort (keysE n.over)) L 0 [] rfl (by omega) (by simpa using hlen)
    simp [d13_0, g13_0, c33 (L := L) (m := j + 1) (by omega) n, he, d13_1, h, hl, d13_2, g13_2, d13_3] at h7 ⊢
    rw [h7]; simp [d13_5]
end
end Go.Lite

namespace Go.Lite
open Go Go.Proofs
set_option linter.unusedVariables false
set_option linter.unusedSimpArgs false
set_option maxRecDepth 100000
@[simp] theorem at_0' (d : PV) : PV.at_ 0 0 0 d = some d := by simp [PV.at_]
theorem pick_int (a k : Int) (hk : 0 < k) (hk' : k < 4611686018427387904) : (if a.tmod k < 0 then IntKind.i64.wrap (a.tmod k + k) else a.tmod k) = a % k := by
  have h1 := Int.emod_nonneg a (show k ≠ 0 by omega)
  have h2 := Int.emod_lt_of_pos a hk
  have h3 := Int.tmod_eq_emod (a := a) (b := k)
  by_cases hc : 0 ≤ a ∨ k ∣ a
  · rw [if_pos hc] at h3
    rw [if_neg (by omega)]; omega
  · rw [if_neg hc] at h3
    rw [if_pos (by omega), wrap64 (by omega) (by omega)]; omega
section
variable {L m : Nat}
theorem c10 (hm : 2 ≤ m) (a k : Int) (hk : 0 < k) (hk' : k < 4611686018427387904) : callP Try.prog hh L m 10 [I a, I k] = some (I (a % k)) := by
  obtain ⟨n, rfl⟩ : ∃ n, m = n + 1 + 1 := ⟨m - 2, by omega⟩
  refine callP_of rfl ?_
  rw [r10, ← pick_int a k hk hk']
  have h1 : ¬ k ≤ 0 := by omega
  by_cases h2 : a.tmod k < 0
  · simp [d10_0, h1, rem_int _ _ _ _ a k (by omega), h2]
  · simp [d10_0, h1, rem_int _ _ _ _ a k (by omega), h2]
theorem c11 (hm : 2 ≤ m) (k job co lf : Int) : callP Try.prog hh L m 11 [U k, I job, I co, I lf] = some (msg k 3 1 job 0 co lf) := by
  obtain ⟨n, rfl⟩ : ∃ n, m = n + 1 + 1 := ⟨m - 2, by omega⟩
  refine callP_of rfl ?_
  rw [r11]
  have := bp53a k 3 1 job co lf
  simp [d11_0, this, putPV_all (msg_lay ..)]
end
theorem awake14 : callP Try.prog hh 1000 40 14 [] = some (.sc (.bool true)) := by kernel_rfl
theorem new8 : callM Try.prog hh 1000 40 8 none [I 3, I 64] = some (.two (st ⟨3, 64, 0, [], [], []⟩) (I 0), []) := by kernel_rfl
theorem fa53_0 (k nd ep job n co lf : Int) : fieldAddrPV Try.prog 53 (.ro 44 (msg k nd ep job n co lf)) 0 = some (.ro 0 (U k)) := by kernel_rfl
theorem fa53_6 (k nd ep job n co lf : Int) : fieldAddrPV Try.prog 53 (.ro 44 (msg k nd ep job n co lf)) 6 = some (.ro 0 (I nd)) := by kernel_rfl
theorem fa53_7 (k nd ep job n co lf : Int) : fieldAddrPV Try.prog 53 (.ro 44 (msg k nd ep job n co lf)) 7 = some (.ro 0 (I ep)) := by kernel_rfl
theorem fa53_8 (k nd ep job n co lf : Int) : fieldAddrPV Try.prog 53 (.ro 44 (msg k nd ep job n co lf)) 8 = some (.ro 0 (I job)) := by kernel_rfl
theorem fa53_9 (k nd ep job n co lf : Int) : fieldAddrPV Try.prog 53 (.ro 44 (msg k nd ep job n co lf)) 9 = some (.ro 0 (I n)) := by kernel_rfl
theorem y30 : layOf Try.prog 30 = some 0 := by kernel_rfl
theorem y2 : layOf Try.prog 2 = some 0 := by kernel_rfl
theorem y3 : layOf Try.prog 3 = some 0 := by kernel_rfl
theorem ld30 (d : PV) : loadPV Try.prog 30 (.ro 0 d) = some d := load_ro y30 d
theorem ld2 (d : PV) : loadPV Try.prog 2 (.ro 0 d) = some d := load_ro y2 d
theorem ld3 (d : PV) : loadPV Try.prog 3 (.ro 0 d) = some d := load_ro y3 d

/-! # what is over is told -/
structure Inw (i : Nat) (n : ND) (ex : List Int) (is : List Bool) : Prop where
  node : n.node = 3
  cores : n.cores = 64
  epoch : n.epoch = 1
  lx : ex.length = 70
  li : is.length = 70
  nd : (keysE n.over).Nodup
  rnd : (keysE n.runs).Nodup
  nr : n.runs.length ≤ i
  no : n.over.length ≤ i
  kr : ∀ j ∈ keysE n.runs, 1 ≤ j ∧ j ≤ 30
  ko : ∀ j ∈ keysE n.over, 1 ≤ j ∧ j ≤ 30
  rel : ∀ j : Nat, j < 70 → (is[j]? = some true ↔ (j : Int) ∈ keysE n.over)
  val : ∀ (j : Nat) (x : Int), lookE (j : Int) n.over = some x → ex[j]? = some x
theorem Inw.ok {i : Nat} {n : ND} {ex : List Int} {is : List Bool} (h : Inw i n ex is) : n.ok := by
  unfold ND.ok; rw [h.cores]; omega
theorem Inw.small {i : Nat} {n : ND} {ex : List Int} {is : List Bool} (h : Inw i n ex is) (hi : i ≤ 60) : n.small := by
  refine ⟨fun j hj => ?_, fun j hj => ?_, by have := h.nr; omega, by have := h.no; omega⟩
  · have := h.kr j hj; simp [keyOK]; omega
  · have := h.ko j hj; simp [keyOK]; omega
def fromJ (is : List Bool) (j : Nat) : List Int := ((List.range' j (70 - j)).filter fun k => is[k]? == some true).map Int.ofNat
theorem fromJ_step {is : List Bool} {j : Nat} (hj : j < 70) : fromJ is j = if is[j]? = some true then (j : Int) :: fromJ is (j + 1) else fromJ is (j + 1) := by
  unfold fromJ
  rw [show 70 - j = (70 - (j + 1)) + 1 by omega, List.range'_succ, List.filter_cons]
  by_cases h : is[j]? = some true
  · simp [h]
  · have : (is[j]? == some true) = false := by simpa using h
    rw [this, if_neg h]; simp
theorem Inw.keys {i : Nat} {n : ND} {ex : List Int} {is : List Bool} (h : Inw i n ex is) : isort (keysE n.over) = fromJ is 0 := by
  refine sorted_unique (isort_strict h.nd) ?_ fun x => ?_
  · unfold fromJ
    refine List.Pairwise.map _ (R := (· < ·)) (fun a b hab => ?_) (List.Pairwise.filter _ (by simpa using List.pairwise_lt_range'))
    simpa using hab
  · rw [(isort_perm _).mem_iff]
    constructor
    · intro hx
      have := h.ko x hx
      obtain ⟨j, rfl⟩ : ∃ j : Nat, x = j := ⟨x.toNat, by omega⟩
      refine List.mem_map.2 ⟨j, List.mem_filter.2 ⟨List.mem_range'_1.2 (by omega), ?_⟩, rfl⟩
      simpa using (h.rel j (by omega)).2 hx
    · intro hx
      obtain ⟨j, hj, rfl⟩ := List.mem_map.1 hx
      obtain ⟨h1, h2⟩ := List.mem_filter.1 hj
      have := List.mem_range'_1.1 h1
      exact (h.rel j (by omega)).1 (by simpa using h2)
section
variable {L m : Nat}
theorem l3_5 {R : Type} {T : Option R} (kr : PV → PV → PV → PV → List (Int × PV) → List (Int × PV) → List (Int × PV) → List PV → List PV → Option R) (ke3 : PV → PV → PV → PV → PV → PV → PV → List (Int × PV) → List (Int × PV) → List (Int × PV) → List PV → List PV → Option R)
    (C : Kallee) {i : Nat} {n : ND} {ex : List Int} {is : List Bool} (h : Inw i n ex is) (hi : i ≤ 60) (w v1 d : PV) (hd : IsL 44 d ((fromJ is 0).map (n.tell 11))) (hke : ke3 w v1 d (I (fromJ is 0).length) (I n.node) (I n.cores) (I n.epoch) (mapE encR n.runs) (mapE I n.over) (mapE I n.heard) (ex.map I) (is.map Bo) = T) :
    ∀ (r j k N : Nat), j + r = 70 → r < N → (fromJ is 0).drop k = fromJ is j → k ≤ j → k ≤ (fromJ is 0).length → d3_5i C L kr ke3 N w v1 d (I k) (I j) (I n.node) (I n.cores) (I n.epoch) (mapE encR n.runs) (mapE I n.over) (mapE I n.heard) (ex.map I) (is.map Bo) = T := by
  intro r
  induction r with
  | zero =>
    intro j k N hj hN hk hk70 hkl
    obtain ⟨N, rfl⟩ : ∃ q, N = q + 1 := ⟨N - 1, by omega⟩
    have : j = 70 := by omega
    subst this
    have h2 : fromJ is 70 = [] := rfl
    rw [h2] at hk
    have h3 := List.drop_eq_nil_iff.1 hk
    have h5 : k = (fromJ is 0).length := by omega
    subst h5
    simp [d3_5i, d3_6, hke]
  | succ r ih =>
    intro j k N hj hN hk hk70 hkl
    obtain ⟨N, rfl⟩ : ∃ q, N = q + 1 := ⟨N - 1, by omega⟩
    have hj70 : j < 70 := by omega
    have hjl : (j : Int) < 70 := by omega
    have hli : j < is.length := by rw [h.li]; omega
    have hlx : j < ex.length := by rw [h.lx]; omega
    have hb : is[j]? = some is[j] := List.getElem?_eq_getElem hli
    have hg1 : (((is.map Bo)[j]?).bind fun x => x.at_ 0 0 0) = some (Bo is[j]) := get_cell (by simp [hb])
    have hi1 : idxArr 0 0 is.length (I j) = some j := idxArr_nat hli
    have hi2 : idxArr 0 0 ex.length (I j) = some j := idxArr_nat hlx
    have hadd : ∀ (q : Nat), q ≤ 70 → IntKind.i64.wrap ((q : Int) + 1) = (q : Int) + 1 := fun q hq => wrap64 (by omega) (by omega)
    have hst := fromJ_step (is := is) hj70
    cases hbj : is[j] with
    | false =>
      rw [hbj] at hb hg1
      rw [hb] at hst
      simp only [Option.some.injEq, Bool.false_eq_true, if_false] at hst
      have := ih (j + 1) k N (by omega) (by omega) (hk.trans hst) (by omega) hkl
      push_cast at this
      simp [d3_5i, d3_6, hjl, hi1, hb, hadd j (by omega), this]
    | true =>
      rw [hbj] at hb hg1
      rw [hb] at hst
      simp only [if_true] at hst
      rw [hst] at hk
      obtain ⟨q1, q2, q3, q4⟩ := drop_cons' hk
      have hmem : (j : Int) ∈ keysE n.over := (h.rel j hj70).1 hb
      obtain ⟨x, hx⟩ : ∃ x, lookE (j : Int) n.over = some x := by
        cases hl : lookE (j : Int) n.over with
        | none => exact absurd hmem (lookE_none.1 hl)
        | some x => exact ⟨x, rfl⟩
      have hex := h.val j x hx
      have hg2 : (((ex.map I)[j]?).bind fun x => x.at_ 0 0 0) = some (I x) := get_cell (by simp [hex])
      have hat := sl27.at hd (i := k) (x := n.tell 11 j) (by simp [q2])
      have htell : n.tell 11 j = msg 11 n.node n.epoch j x 0 0 := by simp [ND.tell, hx]
      rw [htell] at hat
      have hlen := sl27.len hd
      have hkk : ¬ ((fromJ is 0).length : Int) ≤ k := by omega
      have := ih (j + 1) (k + 1) N (by omega) (by omega) q3 (by omega) (by omega)
      push_cast at this
      simp only [List.length_map] at hlen
      simp [d3_5i, d3_6, hjl, hi1, hb, hi2, hex, hlen, hkk, hat, fa53_0, fa53_7, fa53_8, fa53_9, ld30, ld2, ld3, eq_true h.epoch, hadd j (by omega), hadd k (by omega), this]
end
end Go.Lite

namespace Go.Lite
open Go Go.Proofs
set_option linter.unusedVariables false
set_option linter.unusedSimpArgs false
set_option maxRecDepth 100000
@[simp] theorem put_I' (y : AV) (k : IntKind) (n : Int) : putPV 0 0 0 y (.sc (.int k n)) = some (.sc (.int k n)) := by simp [putPV, PV.hasLay, PV.isCell]
@[simp] theorem put_Bo' (y : AV) (b : Bool) : putPV 0 0 0 y (.sc (.bool b)) = some (.sc (.bool b)) := by simp [putPV, PV.hasLay, PV.isCell]
theorem repl_false (n j : Nat) : (List.replicate n false)[j]? ≠ some true := by rw [List.getElem?_replicate]; split <;> simp
theorem updE_len {α : Type} {k : Int} {x : α} {l : List (Int × α)} : (updE k x l).length ≤ l.length + 1 := by
  induction l with
  | nil => simp [updE]
  | cons p r ih => simp only [updE]; split <;> simp; exact ih
theorem delE_len {α : Type} {k : Int} {l : List (Int × α)} : (delE k l).length ≤ l.length := by
  induction l with
  | nil => simp [delE]
  | cons p r ih => simp only [delE]; split <;> simp; exact ih
theorem launch_cases (n : ND) (job co lf : Int) : (n.launch job co lf).1 = n ∨ (n.launch job co lf).1 = { n.hear job with runs := updE job (co, lf) n.runs } := by
  unfold ND.launch
  split
  · exact .inl rfl
  · split
    · exact .inl rfl
    · split
      · exact .inl rfl
      · exact .inr rfl
theorem kill_over (n : ND) (job : Int) : ∃ h, (n.kill job).1 = { n with runs := delE job n.runs, over := delE job n.over, heard := h } := by
  unfold ND.kill
  split
  · exact ⟨_, rfl⟩
  · exact ⟨_, rfl⟩
section
variable {i : Nat} {n : ND} {ex : List Int} {is : List Bool}
theorem Inw.up (h : Inw i n ex is) : Inw (i + 1) n ex is := { h with nr := by have := h.nr; omega, no := by have := h.no; omega }
theorem Inw.launch (h : Inw i n ex is) {job co lf : Int} (hj : 1 ≤ job ∧ job ≤ 30) : Inw (i + 1) (n.launch job co lf).1 ex is := by
  rcases launch_cases n job co lf with e | e
  · rw [e]; exact h.up
  · rw [e]
    exact { node := h.node, cores := h.cores, epoch := h.epoch, lx := h.lx, li := h.li, nd := h.nd, rnd := nodup_updE h.rnd
            nr := Nat.le_trans updE_len (by have := h.nr; omega), no := by have := h.no; exact Nat.le_trans this (by omega)
            kr := fun j hj' => by rcases mem_updE.1 hj' with rfl | h'; exact hj; exact h.kr j h'
            ko := h.ko, rel := h.rel, val := h.val }
theorem Inw.del (h : Inw i n ex is) {job : Nat} (hj : 1 ≤ job ∧ job ≤ 30) {rs : List (Int × (Int × Int))} {hs : List (Int × Int)} (hr : rs = n.runs ∨ rs = delE (job : Int) n.runs) :
    Inw (i + 1) { n with runs := rs, over := delE (job : Int) n.over, heard := hs } ex (is.set job false) := by
  have hd : ∀ j ∈ keysE rs, j ∈ keysE n.runs := fun j hj' => by
    rcases hr with rfl | rfl
    · exact hj'
    · exact ((mem_delE h.rnd).1 hj').2
  refine { node := h.node, cores := h.cores, epoch := h.epoch, lx := h.lx, li := by simp [h.li], nd := nodup_delE h.nd, rnd := ?_, nr := ?_, no := Nat.le_trans delE_len (by have := h.no; omega), kr := fun j hj' => h.kr j (hd j hj'), ko := fun j hj' => h.ko j ((mem_delE h.nd).1 hj').2, rel := fun j hj' => ?_, val := fun j x hx => ?_ }
  · rcases hr with rfl | rfl
    · exact h.rnd
    · exact nodup_delE h.rnd
  · rcases hr with rfl | rfl
    · have := h.nr; simp only; omega
    · exact Nat.le_trans delE_len (by have := h.nr; omega)
  · have hl := h.li
    rw [mem_delE h.nd]
    by_cases e : j = job
    · subst e
      rw [List.getElem?_set_self (by omega)]; simp
    · rw [List.getElem?_set_ne (fun e' => e e'.symm), h.rel j hj']
      exact ⟨fun x => ⟨by omega, x⟩, fun x => x.2⟩
  · rw [lookE_delE h.nd] at hx
    split at hx
    · cases hx
    · exact h.val j x hx
theorem Inw.finish (h : Inw i n ex is) {job : Nat} (hj : 1 ≤ job ∧ job ≤ 30) (x : Int) :
    Inw (i + 1) { n with runs := delE (job : Int) n.runs, over := updE (job : Int) x n.over } (ex.set job x) (is.set job true) := by
  refine { node := h.node, cores := h.cores, epoch := h.epoch, lx := by simp [h.lx], li := by simp [h.li], nd := nodup_updE h.nd, rnd := nodup_delE h.rnd, nr := Nat.le_trans delE_len (by have := h.nr; omega), no := Nat.le_trans updE_len (by have := h.no; omega), kr := fun j hj' => h.kr j ((mem_delE h.rnd).1 hj').2, ko := fun j hj' => ?_, rel := fun j hj' => ?_, val := fun j y hy => ?_ }
  · rcases mem_updE.1 hj' with rfl | h'
    · omega
    · exact h.ko j h'
  · have hl := h.li
    rw [mem_updE]
    by_cases e : j = job
    · subst e
      rw [List.getElem?_set_self (by omega)]; simp
    · rw [List.getElem?_set_ne (fun e' => e e'.symm), h.rel j hj']
      exact ⟨.inr, fun x => x.resolve_left (by omega)⟩
  · have hl := h.lx
    rw [lookE_updE] at hy
    split at hy
    · rename_i e
      have : j = job := by omega
      subst this
      simp only [Option.some.injEq] at hy; subst hy
      rw [List.getElem?_set_self (by omega)]
    · rename_i e
      rw [List.getElem?_set_ne (fun e' => e (by rw [e'])), h.val j y hy]
end

section
variable {L m : Nat} {T : PV}
/-- what is told of the rounds: any state that the invariant holds of -/
def Goes (i : Nat) (f : PV → PV → PV → List (Int × PV) → List (Int × PV) → List (Int × PV) → List PV → List PV → Option PV) : Prop :=
  ∀ n ex is, Inw i n ex is → f (I n.node) (I n.cores) (I n.epoch) (mapE encR n.runs) (mapE I n.over) (mapE I n.heard) (ex.map I) (is.map Bo) = some T
theorem l3_3 (hm : 5 ≤ m) {i : Nat} {n : ND} {ex : List Int} {is : List Bool} (h : Inw i n ex is) (v0 v1 : PV) (w : Int) (hw : 0 ≤ w ∧ w < 1000003) (job : Nat) (hj : 1 ≤ job ∧ job ≤ 30)
    (kn : PV → PV → PV → PV → PV → List (Int × PV) → List (Int × PV) → List (Int × PV) → List PV → List PV → Option PV) (hkn : Goes (T := T) (i + 1) (kn v0 v1)) :
    d3_3 (kk L m) L kn v0 v1 (I w) (I (job : Int)) (I (w % 5)) (I n.node) (I n.cores) (I n.epoch) (mapE encR n.runs) (mapE I n.over) (mapE I n.heard) (ex.map I) (is.map Bo) = some T := by
  have hoff : n.off 3 1 = false := by simp [ND.off, h.node, h.epoch]
  have t7 : n.take 7 3 1 job 1 1000 = ((n.launch job 1 1000).1, (n.launch job 1 1000).2, 0) := by simp [ND.take, hoff]
  have t9 : n.take 9 3 1 job 0 0 = ((n.kill job).1, (n.kill job).2, 0) := by simp [ND.take, hoff]
  have t12 : n.take 12 3 1 job 0 0 = (n.seen job, nilSlice, 0) := by simp [ND.take, hoff]
  have g7 := c9 (L := L) (m := m) (by omega) n h.ok (msg_is 7 3 1 job 0 1 1000)
  have g9 := c9 (L := L) (m := m) (by omega) n h.ok (msg_is 9 3 1 job 0 0 0)
  have g12 := c9 (L := L) (m := m) (by omega) n h.ok (msg_is 12 3 1 job 0 0 0)
  rw [t7] at g7
  rw [t9] at g9
  rw [t12] at g12
  have gf := c12 (L := L) (m := m) (by omega) n job w
  have k7 := hkn _ _ _ (h.launch (co := 1) (lf := 1000) (job := job) (by omega))
  have k0 := hkn _ _ _ h.up
  have hjx : job < ex.length := by rw [h.lx]; omega
  have hji : job < is.length := by rw [h.li]; omega
  have i1 : idxArr 0 0 is.length (I (job : Int)) = some job := idxArr_nat hji
  have i2 : idxArr 0 0 ex.length (I (job : Int)) = some job := idxArr_nat hjx
  have x1 : ex[job]? = some ex[job] := List.getElem?_eq_getElem hjx
  have x2 : is[job]? = some is[job] := List.getElem?_eq_getElem hji
  have a7 := c11 (L := L) (m := m) (by omega) 7 job 1 1000
  have a9 := c11 (L := L) (m := m) (by omega) 9 job 0 0
  have a12 := c11 (L := L) (m := m) (by omega) 12 job 0 0
  have hkk : (kk L m).pure = callP Try.prog hh L m := rfl
  have hkm : (kk L m).meth = callM Try.prog hh L m := rfl
  have hmod : w % 5 = 0 ∨ w % 5 = 1 ∨ w % 5 = 2 ∨ w % 5 = 3 ∨ w % 5 = 4 := by omega
  generalize hq : w % 5 = q at hmod ⊢
  generalize n.launch job 1 1000 = x7 at g7 k7
  obtain ⟨x7, y7⟩ := x7
  simp only at g7 k7
  unfold d3_3
  rcases hmod with e | e | e | e | e
  · simp only [eql_int, e, decide_true, ob_some, cb_bool, if_true, callD_clo, List.nil_append, List.append_nil, a7, ckRI, ckB_true, g7, om_pair, fp_p, fm_m, fnil_nil, r1_pure, k7]
  · simp [e, a7, g7, k7]
  · cases hr : (lookE (job : Int) n.runs).isSome with
    | false =>
      have ef : n.finish job w = (n, nilSlice, 180) := by simp [ND.finish, hr]
      rw [ef] at gf
      simp [e, gf, k0]
    | true =>
      have kf := hkn _ _ _ (h.finish hj w)
      simp only [List.map_set] at kf
      obtain ⟨ans, ha⟩ : ∃ ans, n.finish job w = ({ n with runs := delE (job : Int) n.runs, over := updE (job : Int) w n.over }, ans, 0) := ⟨_, by simp only [ND.finish, hr, if_true]; rfl⟩
      rw [ha] at gf
      simp only [st] at gf
      simp only [eql_int, e, ob_some, cb_bool, ckRI, ckB_true, gf, om_pair, fp_p, fm_m, fnil_nil, r1_pure, extract_tup]
      simp [i1, i2, x1, x2, kf]
  · have ks := hkn _ _ _ (h.del (rs := n.runs) (hs := n.heard) hj (.inl rfl))
    simp only [st, ND.seen] at g12
    simp only [List.map_set] at ks
    simp [e, a12, g12, i1, x2, ks]
  · by_cases h3 : w % 3 = 0
    · obtain ⟨hs', ek⟩ := kill_over n job
      rw [ek] at g9
      have kd := hkn _ _ _ (h.del (rs := delE (job : Int) n.runs) (hs := hs') hj (.inr rfl))
      simp only [st] at g9
      simp only [List.map_set] at kd
      simp [e, rem_pos _ _ _ _ w 3 hw.1 (by omega), h3, a9, g9, i1, x2, kd]
    · simp [e, rem_pos _ _ _ _ w 3 hw.1 (by omega), h3, k0]
theorem l3_1 (hm : 5 ≤ m) (hL : 100001 ≤ L) (ws : List Int) (hws : ws.length < 4000000000000000000) (ke0 : PV → PV → PV → List (Int × PV) → List (Int × PV) → List (Int × PV) → List PV → List PV → Option PV)
    (kr : PV → PV → PV → PV → List (Int × PV) → List (Int × PV) → List (Int × PV) → List PV → List PV → Option PV) (hke : ∀ i, Goes (T := T) i ke0) :
    ∀ (r : List Int) (i N : Nat) (n : ND) (ex : List Int) (is : List Bool), ws.drop i = r → i ≤ 60 → 60 < N + i → Inw i n ex is →
      d3_1i (kk L m) L ke0 kr N (.list 0 false (ws.map I)) (I (i : Int)) (I n.node) (I n.cores) (I n.epoch) (mapE encR n.runs) (mapE I n.over) (mapE I n.heard) (ex.map I) (is.map Bo) = some T := by
  intro r
  induction r with
  | nil =>
    intro i N n ex is h hi hN hv
    obtain ⟨N, rfl⟩ : ∃ k, N = k + 1 := ⟨N - 1, by omega⟩
    have := drop_nil' h
    have h2 : ¬ (i : Int) < ws.length := by omega
    simp [d3_1i, d3_2, g3_2, sl22.lenL, h2, hke i _ _ _ hv]
  | cons p r ih =>
    intro i N n ex is h hi hN hv
    obtain ⟨N, rfl⟩ : ∃ k, N = k + 1 := ⟨N - 1, by omega⟩
    obtain ⟨h1, h2, h3, h4⟩ := drop_cons' h
    have h5 : (i : Int) < ws.length := by omega
    by_cases h60 : i < 60
    · have h6 : (i : Int) < 60 := by omega
      have hp := c10 (L := L) (m := m) (by omega) p 1000003 (by omega) (by omega)
      have hb1 := Int.emod_nonneg p (show (1000003 : Int) ≠ 0 by omega)
      have hb2 := Int.emod_lt_of_pos p (show (0 : Int) < 1000003 by omega)
      generalize p % 1000003 = w at hp hb1 hb2
      have q1 := quo_pos Try.prog 3 (.tmp 47) (.const (.int .i64 5)) w 5 hb1 (by omega) (by omega)
      have hq0 : 0 ≤ w / 5 := by omega
      have q2 := fun x y => rem_pos Try.prog 3 x y (w / 5) 30 hq0 (by omega)
      obtain ⟨job, hjob⟩ : ∃ job : Nat, (job : Int) = 1 + w / 5 % 30 := ⟨(1 + w / 5 % 30).toNat, by omega⟩
      have hj : 1 ≤ job ∧ job ≤ 30 := by omega
      have q3 := fun x y => add_int' Try.prog 3 x y 1 (w / 5 % 30) (by omega)
      have q4 := fun x y => rem_pos Try.prog 3 x y w 5 hb1 (by omega)
      have q5 := fun x y => quo_pos Try.prog 3 x y w 5 hb1 (by omega) (by omega)
      have hat := sl22.atL (c := false) (xs := ws.map I) (i := i)
      rw [List.getElem?_map, h2] at hat
      have key := l3_3 (L := L) (m := m) (T := T) hm hv (.list 0 false (ws.map I)) (I (i : Int)) w ⟨hb1, by omega⟩ job hj (fun v0 v1 v2 v3 v4 m5 m6 m7 x8 x9 => d3_4 (kk L m) L kr (fun v0 v1 v2 v3 v4 m5 m6 m7 x8 x9 => d3_1i (kk L m) L ke0 kr N v0 v1 v2 v3 v4 m5 m6 m7 x8 x9) v0 v1 v2 v3 v4 m5 m6 m7 x8 x9) ?_
      · rw [hjob] at key
        simp only [d3_1i, d3_2, g3_2, goI, sl22.lenL, List.length_map, ob_some, lss_int, decide_eq_true h5, gcase_t, if_true, decide_eq_true h6, cb_bool, hat, Option.map_some, ld3, callD_clo, List.nil_append, List.append_nil, List.cons_append, hp, q5, q2, q3, q4]
        exact key
      · intro n' ex' is' hv'
        obtain ⟨d, hd, ha⟩ := c13 (L := L) (m := m) (by omega) hL n' (hv'.small (by omega))
        have hag : n'.again = (fromJ is' 0).map (n'.tell 11) := by
          rw [ND.again, if_neg (by rw [hv'.epoch]; omega), hv'.keys]
        rw [hag] at hd
        have nx := ih (i + 1) N n' ex' is' h3 (by omega) (by omega) hv'
        push_cast at nx
        have hadd := wrap64 (n := (i : Int) + 1) (by omega) (by omega)
        have hlen := sl27.len hd
        simp only [List.length_map] at hlen
        have l5 := l3_5 (L := L) (T := some T) kr (fun v0 v1 v2 v3 v4 v5 v6 m7 m8 m9 x10 x11 => d3_7 (kk L m) L kr (fun v0 v1 v2 v3 v4 m5 m6 m7 x8 x9 => d3_1i (kk L m) L ke0 kr N v0 v1 v2 v3 v4 m5 m6 m7 x8 x9) v0 v1 v2 v3 v4 v5 v6 m7 m8 m9 x10 x11)
          (kk L m) hv' (by omega) (.list 0 false (ws.map I)) (I (i : Int)) d hd (by simp [d3_7, hlen, hadd, nx]) 70 0 0 L rfl (by omega) rfl (by omega) (by omega)
        simp only [st] at ha
        simp only [d3_4, g3_4, ckRI, ckB_true, ha, om_pair, fp_p, fm_m, fnil_nil, r1_pure, d3_5]
        exact l5
    · have h6 : ¬ (i : Int) < 60 := by omega
      simp [d3_1i, d3_2, g3_2, sl22.lenL, h5, h6, hke i _ _ _ hv]
end
theorem main3 (ws : List Int) (hws : ws.length < 4000000000000000000) : callP Try.prog hh 100001 60 3 [.list 0 false (ws.map I)] = some (Bo true) := by
  have haw : callP Try.prog hh 100001 59 14 [] = some (Bo true) := callP_mono (by omega) (by omega) awake14
  have hnew : callM Try.prog hh 100001 59 8 none [I 3, I 64] = some (.two (st ⟨3, 64, 0, [], [], []⟩) (I 0), []) := callM_mono (by omega) (by omega) new8
  refine callP_of (n := 58) rfl ?_
  rw [rq3]
  have hwel := c9 (L := 100001) (m := 59) (by omega) ⟨3, 64, 0, [], [], []⟩ (by simp [ND.ok]) (msg_is 6 3 1 0 0 0 0)
  have ew : ND.take ⟨3, 64, 0, [], [], []⟩ 6 3 1 0 0 0 = (⟨3, 64, 1, [], [], []⟩, nilSlice, 0) := by simp [ND.take, ND.welcome]
  rw [ew] at hwel
  have l1 := l3_1 (L := 100001) (m := 59) (T := Bo true) (by omega) (by omega) ws hws (fun v0 v1 v2 m3 m4 m5 x6 x7 => d3_8 (kk 100001 59) 100001 v0 v1 v2 m3 m4 m5 x6 x7) (fun v0 v1 v2 v3 m4 m5 m6 x7 x8 => some v0)
    (fun i n ex is _ => by simp [d3_8, haw]) ws 0 100001 ⟨3, 64, 1, [], [], []⟩ (List.replicate 70 0) (List.replicate 70 false) rfl (by omega) (by omega)
    { node := rfl, cores := rfl, epoch := rfl, lx := by simp, li := by simp, nd := by simp [keysE], rnd := by simp [keysE], nr := by simp, no := by simp, kr := by simp [keysE], ko := by simp [keysE],
      rel := fun j hj => ⟨fun hh => absurd hh (repl_false 70 j), fun hh => absurd hh (by simp [keysE])⟩, val := fun j x hx => by simp [lookE] at hx }
  have hb := bp53c 6 3 1
  have z1 : zeros 70 (I 0) = (List.replicate 70 0).map I := by simp [zeros]
  have z2 : zeros 70 (Bo false) = (List.replicate 70 false).map Bo := by simp [zeros]
  simp only [st] at hnew hwel
  rw [← z1, ← z2] at l1
  simp only [d3_0, g3_0, hnew, om_pair, fnil_nil, r3_two, fp_p, fm_m, ob_some, neq_int, cb_bool, ckRI, ckB_true, hb, hwel, r1_pure, d3_1]
  simpa using l1
end Go.Lite
