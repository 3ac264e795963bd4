import Derived.Test.YtghikboiaecdiaaLd
import Derived.StillTactics
import Derived.Laws.AppendOwn
import Derived.Laws.Runes
import Derived.Laws.CopyRow
import Derived.Laws.Shifts
import Derived.Laws.Rows
import Derived.Laws.BitsLemmas
import Derived.Laws.Tables
import Derived.Laws.NewBlocks
import Derived.Laws.Unary
import Derived.Laws.Strings
import Derived.Laws.NewFold
import Derived.Laws.ShiftsVarLaws
import Derived.Laws.Bits
import Derived.Laws.Alloc2
import Derived.Laws.Bits128
import Derived.Laws.Strings2
import Derived.Laws.Wrap64
import Derived.Laws.ShiftsVar
import Derived.Laws.Closers25
import Derived.Laws.RangeString
import Derived.Laws.Concat
import Derived.Laws.Cells
import Derived.Laws.NewDeep
import Derived.Laws.Pointers
import Derived.Laws.StructEq
import Derived.Laws.Closers25b
import Derived.Laws.StandIn
import Derived.Laws.Bits64b
import Derived.Laws.LoneSync
import Derived.Laws.ByValue
import Derived.Laws.MathBits
import Derived.Laws.Externs
import Derived.Laws.BitsAll
import Derived.Laws.BitsAllLaws
import Derived.Laws.Bits64
import Derived.Laws.OwnMore
import Derived.Laws.Build
import Derived.Laws.ResultCell
import Derived.Laws.Entries
import Derived.Laws.Append
import Derived.Laws.RangeAny
import Derived.Laws.World
import Derived.Laws.Strings3
import Derived.Laws.Sem
import Derived.Laws.Slices
import Derived.Laws.MakeOwn
import Derived.Laws.Small
import Derived.Laws.BytesString
import Derived.Scope
import Derived.FnLit
import Derived.LoopTactic
import Derived.LoopN
import Derived.Laws.IdiomRangeMap
import Derived.Maps.RangeRun
import Derived.Laws.Cover3
import Derived.Test.YtghikboiaecdiaaProg
import Derived.Shelf.SlGeneric
import Derived.Shelf.SlIterI.Nil
import Derived.Shelf.SortM.Plain
import Derived.Shelf.SortM.SortNone
import Derived.Ground.GgzProg
import Derived.Ground.SlgmProg
set_option linter.unusedVariables false
set_option linter.unusedSimpArgs false

namespace Go.Proofs
open Go Go.Lite
/-! # (*Node).Free as a call that only looks -/
def coreP : PV → Option Int
  | .agg [.sc (.int .i64 c), .sc (.int .i64 _)] => some c
  | _ => none
def sumP : List (Int × PV) → Option Int
  | [] => some 0
  | (_, d) :: r => match coreP d, sumP r with
    | some c, some s => some (c + s)
    | _, _ => none
/-- what it answers: of the cores, the runs -/
def freeV (c : PV) (es : List (Int × PV)) : Option PV :=
  match c, sumP es with
  | .sc (.int .i64 c), some s => bif decide (-9223372036854775808 ≤ c ∧ c < 9223372036854775808) then some (.sc (.int .i64 ((c - s + 9223372036854775808) % 18446744073709551616 - 9223372036854775808))) else none
  | _, _ => none
def freeS (args : List AV) (S : Store) : Option PV :=
  match args with
  | [.ptr id 0 0] => (match S[id]? with
    | some (.var 7 (.agg [.pv _, .pv c, .pv _, .mp j, _, _])) => (match S[j]? with
      | some (.map es) => freeV c es
      | _ => none)
    | _ => none)
  | _ => none
end Go.Proofs

namespace Go.Proofs
open Go Go.RowKit Go.Lite
set_option linter.unusedVariables false
/-- cores of a run -/
def coreOf : Value → Int
  | .agg cs => (match cs[0]? with | some (Value.int _ n) => n | _ => 0)
  | _ => 0
def asNum (e : MapEntry) : MapEntry := { e with val := .int .i64 (coreOf e.val) }
/-- as 64 bits wrap -/
theorem wrap_form (a : Int) : IntKind.i64.wrap a = (a + 9223372036854775808) % 18446744073709551616 - 9223372036854775808 := by
  have e1 : (2 ^ IntKind.i64.bits : Int) = 18446744073709551616 := by rfl
  have e2 : (2 ^ (IntKind.i64.bits - 1) : Int) = 9223372036854775808 := by rfl
  have e3 : IntKind.i64.signed = true := rfl
  simp only [IntKind.wrap, e1, e2, e3, Bool.true_and, decide_eq_true_eq]
  split <;> omega
theorem left_none {es : Array MapEntry} {seen : Array Nat} (h : (leftOf es seen).size = 0) : seenSum (es.toList.map asNum) seen = (es.toList.map fun e => coreOf e.val).sum := by
  have h1 := all_seen es seen h
  have := seenSum_full seen (es.toList.map asNum) (fun x hx => by
    obtain ⟨e, he, rfl⟩ := List.mem_map.1 hx
    exact h1 e he)
  rw [this]
  simp [asNum, valOf, Function.comp_def]
set_option maxRecDepth 1000000 in
theorem freeWalk (b b1 : Nat) (cores : Int) (node epoch o h : Value) (ty : TypeId) (fr : Nat × Nat) (ents : Array MapEntry) (clock : Nat) (w : World)
    (hb : w.heap[b]? = some (.cells #[node, .int .i64 cores, epoch, .map (some b1), o, h] ty fr)) (hm : w.heap[b1]? = some (.map ents clock)) (hst : MapKept.Stamped ents clock)
    (hc64 : -9223372036854775808 ≤ cores ∧ cores < 9223372036854775808) (hv : ∀ x ∈ ents.toList, ∃ c l, x.val = .agg #[.int .i64 c, .int .i64 l]) :
    Calls Try.prog 21 #[.pointer (some ⟨b, 0, none⟩)] w fun e w' => e = .returned (.int .i64 (((cores - (ents.toList.map fun e => coreOf e.val).sum + 9223372036854775808) % 18446744073709551616 - 9223372036854775808))) ∧ Below w.heap.size w w' := by
  have hc1 : w.cell? ⟨b, 1, none⟩ = some (.int .i64 cores) := by simp [World.cell?, hb]
  have hc3 : w.cell? ⟨b, 3, none⟩ = some (.map (some b1)) := by simp [World.cell?, hb]
  have hrg := run_range_map (P := Try.prog) w 90 3 98 b1 ents clock Try.underlying90 hm
  have heq : (binOp .eql 90 (.map (some b1)) (.map none)).run Try.prog w = .ok (.bool false) w := by
    simp only [binOp]
    simp [run_equal_map_nil w 90 3 98 (some b1) Try.underlying90]
  go_enter Try.func21, Try.ntmps21
  go_wp2
  go_loopw [3] (fun s w' => ∃ (seen : Array Nat), w'.heap[w.heap.size]? = some (.mapIter (some b1) clock seen clock) ∧ Below w.heap.size w w' ∧ s = .int .i64 ((cores - seenSum (ents.toList.map asNum) seen + 9223372036854775808) % 18446744073709551616 - 9223372036854775808)) (fun _ w' => (leftOf ents (w'.iterSeen w.heap.size)).size)
  case atStart => exact ⟨#[], heap_alloc_new _ _, (Below.refl _ _).alloc (Nat.le_refl _) _, by rw [seenSum_none, Int.sub_zero]; congr 1; omega⟩
  case round =>
    obtain ⟨seen, hr, hbl, rfl⟩ := hrel
    rename_i wr
    have hm1 : wr.heap[b1]? = some (.map ents clock) := by rw [hbl.block b1 (lt_of_block hm)]; exact hm
    rcases run_next_at (P := Try.prog) wr 0 w.heap.size b1 clock clock seen ents clock hr hm1 hst.1 (Nat.le_refl _) with ⟨h0, hrun⟩ | ⟨e, he, w2, hal, hrun⟩
    · have hnx : ∀ ty, (Instr.next (.pointer (some ⟨w.heap.size, 0, none⟩)) false ty).run Try.prog wr = _ := fun _ => hrun
      go_wp2
      go_ret
      rw [left_none h0]
      refine ⟨?_, hbl⟩
      rfl
    · obtain ⟨c, l, hval⟩ := hv e (mem_left he).1
      rw [hval] at hrun
      have hnx : ∀ ty, (Instr.next (.pointer (some ⟨w.heap.size, 0, none⟩)) false ty).run Try.prog wr = _ := fun _ => hrun
      have hrlt := lt_of_block hr
      obtain ⟨w3, hw3⟩ : ∃ w3, w3 = Go.ChangeMaps.setBlock w2 w.heap.size (.mapIter (some b1) clock (seen.push e.born) clock) := ⟨_, rfl⟩
      have hr3 : w3.heap[w.heap.size]? = some (.mapIter (some b1) clock (seen.push e.born) clock) := by
        rw [hw3]; rcases hal with rfl | rfl <;> simp [Go.ChangeMaps.setBlock, hrlt]
      have hbl3 : Below w.heap.size wr w3 := by
        rw [hw3]
        rcases hal with rfl | rfl <;> exact ⟨rfl, rfl, rfl, by simp [Go.ChangeMaps.setBlock], fun k hk => by
            have : w.heap.size ≠ k := by omega
            simp [Go.ChangeMaps.setBlock, this] <;> rfl⟩
      have hm3 : w3.heap[b1]? = some (.map ents clock) := by rw [hbl3.block b1 (lt_of_block hm)]; exact hm1
      have hen := run_entry_at (P := Try.prog) w3 w.heap.size b1 clock seen ents clock e hr3 hm3 (mem_left he).1 hst.2.1
      rw [hval] at hen
      rw [← hw3] at hrun hnx
      clear hw3
      go_wp2
      go_roundw
      case rel =>
        refine ⟨seen.push e.born, ?_, (hbl.trans hbl3).alloc (by have := hbl.size; have := hbl3.size; omega) _, ?_⟩
        · rw [heap_alloc_old _ _ (lt_of_block hr3)]; exact hr3
        · have hp := seenSum_push seen (asNum e) (mem_left he).2 (ents.toList.map asNum) (by rw [List.map_map]; exact hst.2.1) (List.mem_map.2 ⟨e, (mem_left he).1, rfl⟩)
          have : valOf (asNum e).val = c := by simp [asNum, valOf, hval, coreOf]
          rw [this] at hp
          rw [show (asNum e).born = e.born from rfl] at hp
          rw [hp]
          congr 1
          first | omega | (unfold Go.RowKit.wrap64; omega)
      case measure =>
        have e1 : (w3.alloc (Obj.cells #[Value.int IntKind.i64 c, Value.int IntKind.i64 l] 98)).iterSeen w.heap.size = seen.push e.born := by
          unfold World.iterSeen; rw [heap_alloc_old _ _ (lt_of_block hr3), hr3]
        have e2 : wr.iterSeen w.heap.size = seen := by unfold World.iterSeen; rw [hr]
        rw [e1, e2]
        exact left_shrinks ents seen e he

theorem two_array {vs : Array Value} (h : vs.size = 2) : ∃ a b, vs = #[a, b] := by
  obtain ⟨l⟩ := vs
  match l, h with
  | [a, b], _ => exact ⟨a, b, rfl⟩
theorem six_array {vs : Array Value} (h : vs.size = 6) : ∃ a b c d e f, vs = #[a, b, c, d, e, f] := by
  obtain ⟨l⟩ := vs
  match l, h with
  | [a, b, c, d, e, f], _ => exact ⟨a, b, c, d, e, f, rfl⟩
theorem sumP_rel {X : Nat} {w : World} {K : Keep} : ∀ {es : List (Int × PV)} {ents : List MapEntry} {s : Int}, sumP es = some s → ents.length = es.length →
    (∀ (i : Nat) (p : Int × PV) (en : MapEntry), es[i]? = some p → ents[i]? = some en → en.key = .int .i64 p.1 ∧ PVR X w K p.2 en.val) →
    (ents.map fun e => coreOf e.val).sum = s ∧ ∀ x ∈ ents, ∃ c l, x.val = .agg #[.int .i64 c, .int .i64 l] := by
  intro es
  induction es with
  | nil =>
    intro ents s h hl _
    simp [sumP] at h; subst h
    have : ents = [] := List.eq_nil_of_length_eq_zero (by simpa using hl)
    subst this
    simp
  | cons p es ih =>
    intro ents s h hl hx
    obtain ⟨k, d⟩ := p
    cases ents with
    | nil => simp at hl
    | cons en ents =>
      simp only [sumP] at h
      split at h
      · rename_i c s' hc hs'
        simp only [Option.some.injEq] at h; subst h
        obtain ⟨i1, i2⟩ := ih hs' (by simpa using hl) fun i p en h1 h2 => hx (i + 1) p en (by simpa using h1) (by simpa using h2)
        have hv := (hx 0 _ en rfl rfl).2
        unfold coreP at hc
        split at hc
        · rename_i c0 l0
          simp only [Option.some.injEq] at hc; subst hc
          obtain ⟨v, hval⟩ : ∃ v, en.val = v := ⟨_, rfl⟩
          simp only at hv
          rw [hval] at hv
          cases hv with
          | agg hs hxx =>
            rename_i vs
            obtain ⟨a, b, rfl⟩ := two_array (vs := vs) (by simpa using hs)
            have g0 := hxx 0 _ a rfl rfl
            have g1 := hxx 1 _ b rfl rfl
            cases g0; cases g1
            have hco : coreOf en.val = c0 := by rw [hval]; rfl
            refine ⟨by simp only [List.map_cons, List.sum_cons, hco, i1], fun x hx => ?_⟩
            rcases List.mem_cons.1 hx with rfl | hx
            · exact ⟨c0, l0, hval⟩
            · exact i2 x hx
        · cases hc
      · cases h

theorem entered21 : Entered Try.prog 21 := ⟨_, Try.func21, by kernel_rfl, by kernel_rfl⟩
theorem free_ok : ReadOK Try.prog fun g => bif Nat.beq g 21 then some freeS else none := by
  intro g q hq args S d hr X B w K m vs hS hs hx
  simp only at hq
  cases hg : Nat.beq g 21 with
  | false => rw [hg] at hq; cases hq
  | true =>
    rw [hg] at hq
    simp only [cond_true, Option.some.injEq] at hq
    subst hq
    have : g = 21 := Nat.eq_of_beq_eq_true hg
    subst this
    unfold freeS at hr
    split at hr
    case h_2 => cases hr
    rename_i id
    split at hr
    case h_2 => cases hr
    rename_i n c0 e j o h hv
    split at hr
    case h_2 => cases hr
    rename_i es hes
    unfold freeV at hr
    split at hr
    case h_2 => cases hr
    rename_i c s hsum
    cases hc : decide (-9223372036854775808 ≤ c ∧ c < 9223372036854775808) with
    | false => rw [hc] at hr; cases hr
    | true =>
      rw [hc] at hr
      simp only [cond_true, Option.some.injEq] at hr
      subst hr
      have hc64 := of_decide_eq_true hc
      simp only [List.length_cons, List.length_nil] at hs
      obtain ⟨v0, rfl⟩ : ∃ v0, vs = #[v0] := ⟨vs[0], one_array hs⟩
      have h0 := hx 0 _ v0 rfl rfl
      cases h0 with
      | ptr hm0 hla =>
        rename_i b off loc
        have hob := hS.ob id _ loc hv hm0
        cases hob with
        | var hv hl ha hz ho hb hf hk =>
          rename_i cv b' ty fr
          rw [hla] at ha; simp only [Option.some.injEq, Addr.mk.injEq] at ha; obtain ⟨rfl, rfl, -⟩ := ha
          cases hv with
          | agg hsz hxx =>
            rename_i us
            simp only [List.length_cons, List.length_nil] at hsz
            obtain ⟨a0, a1, a2, a3, a4, a5, rfl⟩ := six_array (vs := us) (by omega)
            have g1 := (hxx 1 _ a1 rfl rfl).pv_inv
            have g3 := hxx 3 _ a3 rfl rfl
            cases g1
            cases g3 with
            | mp hm1 hla1 =>
              rename_i b1 loc1
              cases hS.ob j _ loc1 hes hm1 with
              | map ha1 ho1 hb1 hs1 hx1 hst1 hk1 =>
                rename_i b1' clock ents
                rw [hla1] at ha1; simp only [Option.some.injEq, Addr.mk.injEq] at ha1; obtain ⟨rfl, -⟩ := ha1
                obtain ⟨q1, q2⟩ := sumP_rel (ents := ents.toList) hsum (by simpa using hs1) fun i p en h1 h2 => hx1 i p en h1 (by simpa using h2)
                have hw := freeWalk b b1 c a0 a2 a4 a5 ty fr ents clock w hb hb1 hst1 hc64 q2
                rw [q1] at hw
                simp only [Nat.zero_mul, Nat.add_zero]
                exact .inl ⟨entered21, hw.mono fun e' w' ⟨he, hbl⟩ => ⟨_, he, K, ⟨hbl, Sub.refl _, fun _ _ h => .inl h⟩, .sc _⟩⟩
end Go.Proofs

namespace Go.Proofs
open Go.RowKit Go.Maps Go.Sort Go.Shelf Go.Lite
def Try.keysL_ren : Go.Shelf.Ren := ⟨fun | 7 => 39 | 10 => 55 | n => n, fun | 23 => 91 | 26 => 3 | 3 => 3 | 28 => 103 | 0 => 0 | 27 => 102 | 33 => 108 | 4 => 4 | n => n, fun | n => n⟩
theorem Try.keysL : Go.Proofs.SlLaysZI.n7 Try.prog Try.keysL_ren := {
  mixed := by kernel_rfl
  f7 := ⟨Try.f39.name, by decide, Try.func39.trans (congrArg some (by kernel_rfl))⟩
  f10 := ⟨Try.f55.name, by decide, Try.func55.trans (congrArg some (by kernel_rfl))⟩
  t0 := Try.underlying0
  a0 := Try.isAgg0
  z0 := Try.sizeOf0
  v0 := Try.zeroValue0
  t4 := Try.underlying4
  a4 := Try.isAgg4
  z4 := Try.sizeOf4
  v4 := Try.zeroValue4
  t23 := Try.underlying91
  a23 := Try.isAgg91
  z23 := Try.sizeOf91
  v23 := Try.zeroValue91
  t26 := Try.underlying3
  a26 := Try.isAgg3
  z26 := Try.sizeOf3
  v26 := Try.zeroValue3
  t27 := Try.underlying102
  a27 := Try.isAgg102
  z27 := Try.sizeOf102
  v27 := Try.zeroValue102
  t28 := Try.underlying103
  a28 := Try.isAgg103
  z28 := Try.sizeOf103
  v28 := Try.zeroValue103
  t33 := Try.underlying108
  a33 := Try.isAgg108
  z33 := Try.sizeOf108
  v33 := Try.zeroValue108 }
def Try.keysM_ren : Go.Shelf.Ren := ⟨fun | 7 => 40 | 10 => 56 | n => n, fun | 23 => 90 | 26 => 3 | 3 => 98 | 28 => 103 | 0 => 0 | 27 => 102 | 33 => 108 | 4 => 4 | n => n, fun | n => n⟩
theorem Try.keysM : Go.Proofs.SlLaysZI.n7 Try.prog Try.keysM_ren := {
  mixed := by kernel_rfl
  f7 := ⟨Try.f40.name, by decide, Try.func40.trans (congrArg some (by kernel_rfl))⟩
  f10 := ⟨Try.f56.name, by decide, Try.func56.trans (congrArg some (by kernel_rfl))⟩
  t0 := Try.underlying0
  a0 := Try.isAgg0
  z0 := Try.sizeOf0
  v0 := Try.zeroValue0
  t4 := Try.underlying4
  a4 := Try.isAgg4
  z4 := Try.sizeOf4
  v4 := Try.zeroValue4
  t23 := Try.underlying90
  a23 := Try.isAgg90
  z23 := Try.sizeOf90
  v23 := Try.zeroValue90
  t26 := Try.underlying3
  a26 := Try.isAgg3
  z26 := Try.sizeOf3
  v26 := Try.zeroValue3
  t27 := Try.underlying102
  a27 := Try.isAgg102
  z27 := Try.sizeOf102
  v27 := Try.zeroValue102
  t28 := Try.underlying103
  a28 := Try.isAgg103
  z28 := Try.sizeOf103
  v28 := Try.zeroValue103
  t33 := Try.underlying108
  a33 := Try.isAgg108
  z33 := Try.sizeOf108
  v33 := Try.zeroValue108 }
def Try.sortedL_ren : Go.Shelf.Ren := ⟨fun | 6 => 38 | 8 => 53 | 9 => 54 | 11 => 62 | 13 => 64 | 12 => 63 | 23 => 76 | 24 => 77 | 14 => 67 | 15 => 68 | 16 => 69 | 17 => 70 | 18 => 71 | 19 => 72 | 20 => 73 | 21 => 74 | 22 => 75 | 25 => 79 | 26 => 80 | 27 => 81 | 28 => 82 | 29 => 83 | 30 => 84 | 31 => 85 | n => n, fun | 26 => 3 | 28 => 103 | 24 => 22 | 0 => 0 | 3 => 3 | 37 => 131 | 48 => 35 | 50 => 148 | 4 => 4 | 40 => 140 | 39 => 139 | 45 => 118 | 5 => 5 | 9 => 9 | 51 => 153 | 55 => 157 | 57 => 159 | 58 => 160 | 33 => 108 | n => n, fun | n => n⟩
theorem Try.sortedL : Go.Proofs.SlLaysZI.n6 Try.prog Try.sortedL_ren := {
  mixed := by kernel_rfl
  f6 := ⟨Try.f38.name, by decide, Try.func38.trans (congrArg some (by kernel_rfl))⟩
  f8 := ⟨Try.f53.name, by decide, Try.func53.trans (congrArg some (by kernel_rfl))⟩
  f11 := ⟨Try.f62.name, by decide, Try.func62.trans (congrArg some (by kernel_rfl))⟩
  t0 := Try.underlying0
  a0 := Try.isAgg0
  z0 := Try.sizeOf0
  v0 := Try.zeroValue0
  t24 := Try.underlying22
  a24 := Try.isAgg22
  z24 := Try.sizeOf22
  v24 := Try.zeroValue22
  t26 := Try.underlying3
  a26 := Try.isAgg3
  z26 := Try.sizeOf3
  v26 := Try.zeroValue3
  t28 := Try.underlying103
  a28 := Try.isAgg103
  z28 := Try.sizeOf103
  v28 := Try.zeroValue103
  i26 := by kernel_rfl }
def Try.sortL_ren : Go.Shelf.Ren := ⟨fun | 5 => 54 | 8 => 64 | 7 => 63 | 19 => 76 | 20 => 77 | 10 => 67 | 11 => 68 | 12 => 69 | 13 => 70 | 14 => 71 | 15 => 72 | 16 => 73 | 17 => 74 | 18 => 75 | 30 => 79 | 31 => 80 | 32 => 81 | 33 => 82 | 34 => 83 | 35 => 84 | 40 => 85 | n => n, fun | 23 => 22 | 25 => 3 | 3 => 3 | 32 => 131 | 22 => 22 | 0 => 0 | 44 => 35 | 46 => 148 | 4 => 4 | 36 => 140 | 35 => 139 | 41 => 118 | 5 => 5 | 9 => 9 | 53 => 153 | 57 => 157 | 63 => 159 | 64 => 160 | n => n, fun | n => n⟩
theorem Try.sortL : Go.Proofs.SlLaysM.n5 Try.prog Try.sortL_ren := {
  mixed := by kernel_rfl
  f5 := ⟨Try.f54.name, by decide, Try.func54.trans (congrArg some (by kernel_rfl))⟩
  f7 := ⟨Try.f63.name, by decide, Try.func63.trans (congrArg some (by kernel_rfl))⟩
  f8 := Try.func64.trans (congrArg some (by kernel_rfl))
  f10 := ⟨Try.f67.name, by decide, Try.func67.trans (congrArg some (by kernel_rfl))⟩
  f11 := ⟨Try.f68.name, by decide, Try.func68.trans (congrArg some (by kernel_rfl))⟩
  f12 := ⟨Try.f69.name, by decide, Try.func69.trans (congrArg some (by kernel_rfl))⟩
  f13 := ⟨Try.f70.name, by decide, Try.func70.trans (congrArg some (by kernel_rfl))⟩
  f14 := ⟨Try.f71.name, by decide, Try.func71.trans (congrArg some (by kernel_rfl))⟩
  f15 := ⟨Try.f72.name, by decide, Try.func72.trans (congrArg some (by kernel_rfl))⟩
  f16 := ⟨Try.f73.name, by decide, Try.func73.trans (congrArg some (by kernel_rfl))⟩
  f17 := ⟨Try.f74.name, by decide, Try.func74.trans (congrArg some (by kernel_rfl))⟩
  f18 := ⟨Try.f75.name, by decide, Try.func75.trans (congrArg some (by kernel_rfl))⟩
  f19 := Try.func76.trans (congrArg some (by kernel_rfl))
  f20 := Try.func77.trans (congrArg some (by kernel_rfl))
  f30 := ⟨Try.f79.name, by decide, Try.func79.trans (congrArg some (by kernel_rfl))⟩
  f31 := Try.func80.trans (congrArg some (by kernel_rfl))
  f32 := Try.func81.trans (congrArg some (by kernel_rfl))
  f33 := ⟨Try.f82.name, by decide, Try.func82.trans (congrArg some (by kernel_rfl))⟩
  f34 := ⟨Try.f83.name, by decide, Try.func83.trans (congrArg some (by kernel_rfl))⟩
  f35 := ⟨Try.f84.name, by decide, Try.func84.trans (congrArg some (by kernel_rfl))⟩
  f40 := ⟨Try.f85.name, by decide, Try.func85.trans (congrArg some (by kernel_rfl))⟩
  t0 := Try.underlying0
  a0 := Try.isAgg0
  z0 := Try.sizeOf0
  v0 := Try.zeroValue0
  t3 := Try.underlying3
  a3 := Try.isAgg3
  z3 := Try.sizeOf3
  v3 := Try.zeroValue3
  t4 := Try.underlying4
  a4 := Try.isAgg4
  z4 := Try.sizeOf4
  v4 := Try.zeroValue4
  t5 := Try.underlying5
  a5 := Try.isAgg5
  z5 := Try.sizeOf5
  v5 := Try.zeroValue5
  t9 := Try.underlying9
  a9 := Try.isAgg9
  z9 := Try.sizeOf9
  v9 := Try.zeroValue9
  t22 := Try.underlying22
  a22 := Try.isAgg22
  z22 := Try.sizeOf22
  v22 := Try.zeroValue22
  t23 := Try.underlying22
  a23 := Try.isAgg22
  z23 := Try.sizeOf22
  v23 := Try.zeroValue22
  t25 := Try.underlying3
  a25 := Try.isAgg3
  z25 := Try.sizeOf3
  v25 := Try.zeroValue3
  t32 := Try.underlying131
  a32 := Try.isAgg131
  z32 := Try.sizeOf131
  v32 := Try.zeroValue131
  t35 := Try.underlying139
  a35 := Try.isAgg139
  z35 := Try.sizeOf139
  v35 := Try.zeroValue139
  t36 := Try.underlying140
  a36 := Try.isAgg140
  z36 := Try.sizeOf140
  v36 := Try.zeroValue140
  t41 := Try.underlying118
  a41 := Try.isAgg118
  z41 := Try.sizeOf118
  v41 := Try.zeroValue118
  t44 := Try.underlying35
  a44 := Try.isAgg35
  z44 := Try.sizeOf35
  v44 := Try.zeroValue35
  t46 := Try.underlying148
  a46 := Try.isAgg148
  z46 := Try.sizeOf148
  v46 := Try.zeroValue148
  t53 := Try.underlying153
  a53 := Try.isAgg153
  z53 := Try.sizeOf153
  v53 := Try.zeroValue153
  t57 := Try.underlying157
  a57 := Try.isAgg157
  z57 := Try.sizeOf157
  v57 := Try.zeroValue157
  t63 := Try.underlying159
  a63 := Try.isAgg159
  z63 := Try.sizeOf159
  v63 := Try.zeroValue159
  t64 := Try.underlying160
  a64 := Try.isAgg160
  z64 := Try.sizeOf160
  v64 := Try.zeroValue160 }

theorem Try.sortsIn (m : Nat) : AnyZI.SortsIn Try.prog Try.sortedL_ren Fence.wide m :=
  ⟨fun blk off cap ss W hH hblk hsz => callsIn_wide.2 (AnyM.slices_Sort_int Try.sortL blk off cap ss W hH hblk hsz),
   fun p cap W => callsIn_wide.2 (AnyM.slices_Sort_int_none Try.sortL p cap W)⟩

theorem sortsKeys55 : SortsKeys Try.prog 38 55 := by
  refine ⟨⟨_, Try.func38, by kernel_rfl, by kernel_rfl⟩, 3, by kernel_rfl, fun Bm b nn D0 W hcell hown hmax hbytes => ?_⟩
  have hlt : Bm < W.heap.size := World.block_lt_of_cell? (w := W) (a := ⟨Bm, 0, none⟩) hcell
  have hseq : SeqGives Fence.wide 2 Try.prog 55 #[.pointer (some ⟨Bm, 0, none⟩)] encZ (fun ss => ss.Perm (intKeys D0)) (Maps.size D0) W :=
    AnyZI.keys_gives (ρ := Try.keysL_ren) { Try.keysL with } Fence.wide _ trivial rfl (by omega) Bm b nn D0 W hlt hcell hown
  have cS := AnyZI.sorted_in Try.sortedL Fence.wide 5 trivial trivial trivial trivial rfl (by omega) (Try.sortsIn _) (enters_of Try.func54 (by kernel_rfl) rfl) 55 #[.pointer (some ⟨Bm, 0, none⟩)] trivial (enters_of Try.func55 (by kernel_rfl) rfl) _ _ hmax hbytes W hseq
  exact callsIn_wide.1 cS

theorem sortsKeys56 : SortsKeys Try.prog 38 56 := by
  refine ⟨⟨_, Try.func38, by kernel_rfl, by kernel_rfl⟩, 3, by kernel_rfl, fun Bm b nn D0 W hcell hown hmax hbytes => ?_⟩
  have hlt : Bm < W.heap.size := World.block_lt_of_cell? (w := W) (a := ⟨Bm, 0, none⟩) hcell
  have hseq : SeqGives Fence.wide 2 Try.prog 56 #[.pointer (some ⟨Bm, 0, none⟩)] encZ (fun ss => ss.Perm (intKeys D0)) (Maps.size D0) W :=
    AnyZI.keys_gives (ρ := Try.keysM_ren) { Try.keysM with } Fence.wide _ trivial rfl (by omega) Bm b nn D0 W hlt hcell hown
  have cS := AnyZI.sorted_in Try.sortedL Fence.wide 5 trivial trivial trivial trivial rfl (by omega) (Try.sortsIn _) (enters_of Try.func54 (by kernel_rfl) rfl) 56 #[.pointer (some ⟨Bm, 0, none⟩)] trivial (enters_of Try.func56 (by kernel_rfl) rfl) _ _ hmax hbytes W hseq
  exact callsIn_wide.1 cS
end Go.Proofs

namespace Go.Proofs
open Go Go.Lite
/-- Free, of what was made, or of none -/
def freeN (args : List AV) (S : Store) : Option PV :=
  match args with
  | [.pv (.sc (.pointer none))] => some (.sc (.int .i64 0))
  | [.pv (.ro 7 (.agg [.sc (.int .i64 0), .sc (.int .i64 0), .sc (.int .i64 0), .sc (.map none), .sc (.map none), .sc (.map none)]))] => some (.sc (.int .i64 0))
  | a => freeS a S
end Go.Proofs
namespace Go.Lite
open Go Go.Proofs
set_option maxRecDepth 1000000
set_option linter.unusedVariables false
noncomputable section
def ownT : Tr (List (Nat × Nat)) := (.node 30 [(3, 0)] (.node 17 [(3, 44)] (.node 7 [(14, 778)] (.node 5 [(8, 0), (7, 0)] .nil .nil) (.node 13 [(3, 44)] .nil .nil)) (.node 28 [(3, 44)] (.node 26 [(4, 44), (6, 4)] .nil .nil) .nil)) (.node 43 [(5, 4)] (.node 42 [(5, 3)] (.node 41 [(7, 4)] .nil .nil) .nil) (.node 49 [(8, 3)] (.node 45 [(5, 0)] .nil .nil) .nil)))
def liveT : Tr (List (Nat × List Nat)) := (.node 44 [(2, [1, 2, 5])] (.node 21 [(5, [3, 16])] (.node 7 [(3, [1, 2, 15, 16, 17])] (.node 5 [(51, [0, 1, 5, 7, 8, 9, 10, 11, 18, 19, 20]), (9, [0, 1, 5, 7, 8, 9, 10, 11])] (.node 4 [(25, [9, 14, 15, 17, 19, 20, 21, 23]), (2, [36, 37, 38])] (.node 3 [(30, [0, 3, 5, 6, 7, 12, 13, 14]), (8, [0, 3, 5, 6, 7])] .nil .nil) .nil) (.node 6 [(33, [2, 13, 14, 15, 18, 32]), (9, [2, 13, 14, 15])] .nil .nil)) (.node 17 [(3, [0, 3, 10, 11, 12])] (.node 16 [(4, [0, 2, 7])] (.node 13 [(7, [0, 3, 26, 27, 28])] .nil .nil) .nil) (.node 20 [(2, [0, 1, 5])] .nil .nil))) (.node 30 [(3, [1, 3, 4])] (.node 28 [(5, [1, 3, 4])] (.node 26 [(10, [1, 2, 4, 6, 8]), (5, [1, 2, 4, 5, 6, 7])] (.node 24 [(4, [0, 1, 5])] .nil .nil) .nil) (.node 29 [(4, [0, 1, 5])] .nil .nil)) (.node 42 [(3, [1, 2, 4, 5, 6])] (.node 41 [(9, [2, 3, 4, 6])] (.node 31 [(3, [1, 3, 4])] .nil .nil) .nil) (.node 43 [(3, [1, 2, 4, 5, 6])] .nil .nil)))) (.node 67 [(4, [0, 1, 2, 6, 7]), (1, [0, 1, 2, 6])] (.node 56 [(1, [0, 5])] (.node 49 [(3, [1, 2, 3, 6, 7])] (.node 48 [(2, [1, 2, 5])] (.node 47 [(9, [2, 3, 6]), (4, [2, 3, 5])] .nil .nil) .nil) (.node 55 [(1, [0, 5])] .nil .nil)) (.node 63 [(2, [0, 1, 2, 3, 8, 9])] (.node 60 [(9, [2, 3, 6]), (4, [2, 3, 5])] (.node 57 [(2, [1, 2, 5])] .nil .nil) .nil) (.node 65 [(4, [2, 3, 5])] .nil .nil))) (.node 74 [(5, [0, 1, 9, 10]), (3, [0, 1, 9, 10])] (.node 71 [(2, [0, 6, 7])] (.node 69 [(5, [0, 1, 6, 7, 8, 9])] (.node 68 [(8, [0, 6, 7, 10]), (4, [0, 6, 7, 8, 9])] .nil .nil) .nil) (.node 72 [(20, [0, 1, 2, 7, 8, 10]), (14, [0, 1, 2, 7, 8, 9]), (5, [0, 1, 2, 7, 8]), (3, [0, 1, 2, 7, 8])] .nil .nil)) (.node 78 [(4, [0, 1, 5])] (.node 75 [(15, [0, 1, 10, 11]), (13, [0, 1, 10, 11]), (5, [0, 1, 10, 11]), (3, [0, 1, 10, 11])] .nil .nil) (.node 79 [(1, [0, 2, 3, 8])] .nil .nil)))))
def shutT : Tr (List (Nat × List Nat)) := .nil
def sharedT : Tr Bool := (.node 32 true (.node 17 true (.node 12 true (.node 9 true (.node 8 true .nil .nil) .nil) (.node 13 true .nil .nil)) (.node 21 true (.node 19 true (.node 18 true .nil .nil) .nil) (.node 27 true .nil .nil))) (.node 37 true (.node 35 true (.node 34 true (.node 33 true .nil .nil) .nil) (.node 36 true .nil .nil)) (.node 40 true (.node 39 true (.node 38 true .nil .nil) .nil) (.node 52 true .nil .nil))))
def hh : Hints := { own := fun f t => (ownT.get? f).bind fun l => pairFind l t, live := fun f i => ((liveT.get? f).bind fun l => pairFind l i).getD [], shared := fun f => (sharedT.get? f).getD false, stil := fun f i => ((shutT.get? f).bind fun l => pairFind l i).getD [], primS := fun f => bif Nat.beq f 38 then some (sortedQs [55, 56]) else bif Nat.beq f 21 then some freeN else none }
def h1 : Hints := { hh with primS := fun f => bif Nat.beq f 38 then some (sortedQs [55, 56]) else none }
end
theorem tidyTry : TidyF Try.prog := tidyF_of (by kernel_rfl)
theorem sorts_ok : PrimsSOK Try.prog h1.primS := by
  intro g q h
  simp only [h1] at h
  cases hg : Nat.beq g 38 with
  | true =>
    rw [hg] at h
    simp only [cond_true, Option.some.injEq] at h
    subst h
    have : g = 38 := Nat.eq_of_beq_eq_true hg
    subst this
    exact sorteds_ok (kfs := [55, 56]) (fun kf hk => by
      simp only [List.mem_cons, List.not_mem_nil, or_false] at hk
      rcases hk with rfl | rfl
      · exact sortsKeys55
      · exact sortsKeys56) 38 _ (by simp)
  | false => rw [hg] at h; cases h
theorem kz_ok : KOK Try.prog ⟨callP Try.prog h1 1 5, callS Try.prog h1 1 5, callM Try.prog h1 1 5, h1.calmB, h1.primS⟩ := call_sound tidyTry (primsOK_none _) sorts_ok (primsMOK_none _) 5
theorem free_nil : bodyP Try.prog ⟨callP Try.prog h1 1 5, callS Try.prog h1 1 5, callM Try.prog h1 1 5, h1.calmB, h1.primS⟩ h1 1 21 [.sc (.pointer none)] = some (.sc (.int .i64 0)) := by kernel_rfl
theorem free_zero : bodyP Try.prog ⟨callP Try.prog h1 1 5, callS Try.prog h1 1 5, callM Try.prog h1 1 5, h1.calmB, h1.primS⟩ h1 1 21 [.ro 7 (.agg [.sc (.int .i64 0), .sc (.int .i64 0), .sc (.int .i64 0), .sc (.map none), .sc (.map none), .sc (.map none)])] = some (.sc (.int .i64 0)) := by kernel_rfl
theorem primsS0 : PrimsSOK Try.prog hh.primS := by
  intro g q h
  simp only [hh] at h
  cases hg : Nat.beq g 38 with
  | true =>
    rw [hg] at h
    refine sorts_ok g q ?_
    simp only [h1, hg]; exact h
  | false =>
    rw [hg] at h
    simp only [cond_false] at h
    cases h21 : Nat.beq g 21 with
    | false => rw [h21] at h; cases h
    | true =>
      rw [h21] at h
      simp only [cond_true, Option.some.injEq] at h
      subst h
      have : g = 21 := Nat.eq_of_beq_eq_true h21
      subst this
      intro args S d hr X B w K m vs hS hs hx
      have pure1 : ∀ a : PV, args = [.pv a] → d = .sc (.int .i64 0) → bodyP Try.prog ⟨callP Try.prog h1 1 5, callS Try.prog h1 1 5, callM Try.prog h1 1 5, h1.calmB, h1.primS⟩ h1 1 21 [a] = some (.sc (.int .i64 0)) →
          CallsF Try.prog 21 vs w fun v w' => ∃ K', Ext w K w' K' ∧ PVR X w' K' d v := by
        rintro a rfl rfl hb
        obtain ⟨g1, g2⟩ := bodyP_sound tidyTry kz_ok hb (X := X) (w := w) (K := K) (vs := vs) (Nat.le_trans hS.low hS.size) hS.keep (by simpa using hs) fun i c v h1 h2 => by
          cases i with
          | zero => simp at h1; subst h1; exact (hx 0 _ v rfl h2).pv_inv
          | succ i => simp at h1
        exact .inl ⟨g1, g2.mono fun e w' ⟨v, he, hx, hv⟩ => ⟨v, he, _, hx, hv⟩⟩
      unfold freeN at hr
      split at hr
      · simp only [Option.some.injEq] at hr; exact pure1 _ rfl hr.symm free_nil
      · simp only [Option.some.injEq] at hr; exact pure1 _ rfl hr.symm free_zero
      · exact free_ok 21 freeS (by simp) args S d hr X B w K m vs hS hs hx
theorem awake14 : callP Try.prog hh 1000 40 14 [] = some (.sc (.bool true)) := by kernel_rfl
theorem none7 (c0 : Int) (c1 : Int) (c2 : Int) (c3 : Int) (c4 : Int) (c5 : Int) (c6 : Int) (c7 : ByteArray) (c8 : ByteArray) (c9 : ByteArray) (c10 : ByteArray) (c11 : ByteArray) (c12 : ByteArray) (c13 : Int) (c14 : Int) (c15 : Int) (c16 : List PV) (c17 : ByteArray) (c18 : Int) (c19 : Int) (c20 : Int) (c21 : List PV) (c22 : Int) (c23 : List PV) (c24 : List PV) (c25 : List PV) (c26 : Int) (c27 : Int) (c28 : Int) (c29 : Int) (c30 : Int) (c31 : Int) (c32 : ByteArray) (c33 : List PV) (c34 : Int) (c35 : Int) (c36 : Int) (c37 : ByteArray) (c38 : ByteArray) (c39 : Int) (c40 : Int) (c41 : Int) (c42 : List PV) (job : Int) : callP Try.prog hh 1000 40 7 [.agg [.sc (.int .u8 c0), .sc (.int .i64 c1), .sc (.int .i64 c2), .sc (.int .i64 c3), .sc (.int .u8 c4), .sc (.int .i64 c5), .sc (.int .i64 c6), .sc (.string c7), .sc (.string c8), .sc (.string c9), .sc (.string c10), .sc (.string c11), .sc (.string c12), .sc (.int .i64 c13), .sc (.int .i64 c14), .sc (.int .i64 c15), .list 3 false c16, .sc (.string c17), .sc (.int .u32 c18), .sc (.int .i64 c19), .sc (.int .i64 c20), .list 0 false c21, .sc (.int .i64 c22), .list 0 false c23, .list 3 false c24, .list 3 false c25, .sc (.int .i64 c26), .sc (.int .i64 c27), .sc (.int .i64 c28), .sc (.int .i64 c29), .sc (.int .i64 c30), .sc (.int .i64 c31), .sc (.string c32), .list 18 false c33, .sc (.int .i64 c34), .sc (.int .u8 c35), .sc (.int .i64 c36), .sc (.string c37), .sc (.string c38), .sc (.int .i64 c39), .sc (.int .i64 c40), .sc (.int .u8 c41), .list 10 false c42], .sc (.int .i64 job)] = some (.sc (.bool true)) := by kernel_rfl
end Go.Lite
