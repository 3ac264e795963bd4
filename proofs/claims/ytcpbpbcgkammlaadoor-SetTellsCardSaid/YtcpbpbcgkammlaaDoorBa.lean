import Derived.Test.YtcpbpbcgkammlaaDoorLe
import Derived.Lib.Split
import Derived.Lib.SplitLaws
import Derived.Lib.CutLaws
import Derived.Lib.AtoiErrMem
import Derived.WalkSmall
import Derived.Shelf.Strings.Split
import Derived.Lib.Join
import Derived.Shelf.Strconv.Atoi
import Derived.Shelf.Strconv.Itoa3
import Derived.Test.YtcpbpbcgkammlaaDoorProg
import Derived.KernelRfl
import Derived.Shelf.Strings.Builder1
import Derived.Shelf.Strings.Builder2
import Derived.Shelf.Strings.OnBuilder
import Derived.Shelf.Small.Utf8
import Derived.Shelf.Strconv.Itoa0
import Derived.Shelf.Strconv.Itoa1
import Derived.Shelf.LaysM
import Derived.Shelf.Strconv.Itoa2
import Derived.Shelf.Strings.Search1
import Derived.Shelf.Strings.Search2
import Derived.Shelf.Strings.Search3
import Derived.Shelf.Strings.Cut
import Derived.Shelf.Strings.Count
import Derived.Shelf.Strings.Shaped
import Derived.Shelf.Unicode.DecodeSlow
set_option linter.unusedVariables false
set_option linter.unusedSimpArgs false

namespace Go.Lite
open Go Go.Proofs
open Go.RowKit (Below)

/-! # strings.Cut, strings.Split, strings.Join, strconv.Itoa, strconv.Atoi -/
theorem two_array {vs : Array Value} (h : vs.size = 2) : ∃ a b, vs = #[a, b] := by
  obtain ⟨l⟩ := vs
  match l, h with
  | [a, b], _ => exact ⟨a, b, rfl⟩
theorem ext_same {w w' : World} {K : Keep} (h : Below w.heap.size w w') : Ext w K w' (fun b i => K b i ∨ (w.heap.size ≤ b ∧ b < w'.heap.size)) :=
  ⟨h, fun _ _ h => .inl h, fun _ _ h => h⟩
theorem tup_scs {X : Nat} {w : World} {K : Keep} (l : List Value) : PVR X w K (.tup (l.map .sc)) (.tuple l.toArray) := by
  refine .tup (by simp) fun i c v h1 h2 => ?_
  simp only [List.getElem?_map, Option.map_eq_some_iff] at h1
  obtain ⟨u, h1, rfl⟩ := h1
  simp at h2
  rw [h2] at h1; simp only [Option.some.injEq] at h1; subst h1
  exact .sc _
def strOf (l : List UInt8) : Value := .string ⟨l.toArray⟩

def CutsP (P : Program) (f b : Nat) : Prop := Entered P f ∧ ∀ (s sep : ByteArray) (m : Int) (w : World), s.size < 4294967281 → w.cell? ⟨b, 0, none⟩ = some (.int .i64 m) →
  Calls P f #[.string s, .string sep] w fun e w' => e = .returned (.tuple #[.string ⟨(Lib.cut s.data.toList sep.data.toList).1.toArray⟩, .string ⟨(Lib.cut s.data.toList sep.data.toList).2.1.toArray⟩, .bool (Lib.cut s.data.toList sep.data.toList).2.2]) ∧ ∃ n, w' = w.drewN n
def cutQ (args : List PV) : Option PV :=
  match args with
  | [.sc (.string s), .sc (.string sep)] => bif Nat.blt s.size 4294967281 then
      some (.tup [.sc (strOf (Lib.cut s.data.toList sep.data.toList).1), .sc (strOf (Lib.cut s.data.toList sep.data.toList).2.1), .sc (.bool (Lib.cut s.data.toList sep.data.toList).2.2)]) else none
  | _ => none
theorem cut_ok {P : Program} {f b : Nat} (hf : CutsP P f b) (hb : b ∈ globInts) : PureOK P fun g args => if g = f then cutQ args else none := by
  intro g args r hr X w K vs hX hk hs hx
  simp only at hr
  split at hr
  case isFalse => cases hr
  rename_i hg; subst hg
  unfold cutQ at hr
  split at hr
  case h_2 => cases hr
  rename_i s sep
  cases hlt : Nat.blt s.size 4294967281 <;> rw [hlt] at hr <;> simp only [cond_true, cond_false, Option.some.injEq, reduceCtorEq] at hr
  subst hr
  obtain ⟨v0, v1, rfl⟩ := two_array hs
  cases hx 0 _ v0 rfl rfl
  cases hx 1 _ v1 rfl rfl
  obtain ⟨_, n, hn⟩ := hX.2.2 b hb
  refine .inl ⟨hf.1, (hf.2 s sep n w (Nat.le_of_ble_eq_true hlt) hn).mono fun e w' ⟨he, k, hw⟩ => ⟨_, he, ?_, ?_⟩⟩
  · subst hw; exact ext_same (below_drewN (Below.refl _ _) k)
  · exact tup_scs [_, _, _]

def SplitsP (P : Program) (f b : Nat) : Prop := Entered P f ∧ ∃ ty : TypeId, ∀ (s sep : ByteArray) (m : Int) (w : World), s.size < 4294967281 → w.cell? ⟨b, 0, none⟩ = some (.int .i64 m) → 1 ≤ sep.size →
  Calls P f #[.string s, .string sep] w fun e w' => e = .returned (.slice (some ⟨w.heap.size, 0, none⟩) (Lib.countB s sep + 1) (Lib.countB s sep + 1)) ∧
    w' = w.alloc (.cells ((Lib.splitB sep 0 (Lib.countB s sep) s).map Value.string).toArray ty)
def splitQ (args : List PV) : Option PV :=
  match args with
  | [.sc (.string s), .sc (.string sep)] => bif Nat.blt s.size 4294967281 && Nat.blt 0 sep.size then some (.list 0 true ((Lib.splitB sep 0 (Lib.countB s sep) s).map fun x => .sc (.string x))) else none
  | _ => none
theorem split_ok {P : Program} {f b : Nat} (hf : SplitsP P f b) (hb : b ∈ globInts) : PureOK P fun g args => if g = f then splitQ args else none := by
  intro g args r hr X w K vs hX hk hs hx
  simp only at hr
  split at hr
  case isFalse => cases hr
  rename_i hg; subst hg
  unfold splitQ at hr
  split at hr
  case h_2 => cases hr
  rename_i s sep
  cases hlt : (Nat.blt s.size 4294967281 && Nat.blt 0 sep.size) <;> rw [hlt] at hr <;> simp only [cond_true, cond_false, Option.some.injEq, reduceCtorEq] at hr
  subst hr
  simp only [Bool.and_eq_true] at hlt
  obtain ⟨v0, v1, rfl⟩ := two_array hs
  cases hx 0 _ v0 rfl rfl
  cases hx 1 _ v1 rfl rfl
  obtain ⟨_, n, hn⟩ := hX.2.2 b hb
  obtain ⟨hent, ty, hcall⟩ := hf
  have h1 : 1 ≤ sep.size := Nat.le_of_ble_eq_true hlt.2
  have hlen := Lib.splitB_all sep h1 0 (Lib.countB s sep) s rfl
  refine .inl ⟨hent, (hcall s sep n w (Nat.le_of_ble_eq_true hlt.1) hn h1).mono fun e w' ⟨he, hw⟩ => ⟨_, he, ?_, ?_⟩⟩
  · subst hw; exact ext_same ((Below.refl _ _).alloc (Nat.le_refl _) _)
  · subst hw
    refine .list ((Lib.splitB sep 0 (Lib.countB s sep) s).map Value.string) (by simp [hlen]) (Nat.le_refl _) (fun _ => rfl) (by simp) (fun i x cv h2 h3 => ?_) fun i cv h2 => ?_
    · simp only [List.getElem?_map, Option.map_eq_some_iff] at h2 h3
      obtain ⟨u, h2, rfl⟩ := h2
      obtain ⟨u', h3, rfl⟩ := h3
      rw [h2] at h3; cases h3; exact .sc _
    · have h2' := h2
      simp only [List.getElem?_map, Option.map_eq_some_iff] at h2'
      obtain ⟨u, h3, rfl⟩ := h2'
      refine ⟨⟨.inl rfl, fun j v hj => ?_⟩, fun j v hj => ?_⟩
      · cases j with
        | zero => simp [cellsL] at hj; subst hj; rfl
        | succ j => simp [cellsL] at hj
      · cases j with
        | zero =>
          simp [cellsL] at hj; subst hj
          refine ⟨.inr ⟨Nat.le_refl _, by simp⟩, ?_⟩
          rw [World.cell?_alloc_new]
          simpa [width] using h2
        | succ j => simp [cellsL] at hj

def ItoasP (P : Program) (f : Nat) : Prop := Entered P f ∧ ∀ (i : Nat) (w : World), i < 100 → Calls P f #[.int .i64 i] w fun e w' => e = .returned (.string ⟨(Lib.decDigits i).toArray⟩) ∧ w' = w
def itoaQ (args : List PV) : Option PV :=
  match args with
  | [.sc (.int .i64 (.ofNat n))] => bif Nat.blt n 100 then some (.sc (strOf (Lib.decDigits n))) else none
  | _ => none
theorem itoa_ok {P : Program} {f : Nat} (hf : ItoasP P f) : PureOK P fun g args => if g = f then itoaQ args else none := by
  intro g args r hr X w K vs hX hk hs hx
  simp only at hr
  split at hr
  case isFalse => cases hr
  rename_i hg; subst hg
  unfold itoaQ at hr
  split at hr
  case h_2 => cases hr
  rename_i n
  cases hlt : Nat.blt n 100 <;> rw [hlt] at hr <;> simp only [cond_true, cond_false, Option.some.injEq, reduceCtorEq] at hr
  subst hr
  simp only [List.length_cons, List.length_nil] at hs
  obtain ⟨v0, rfl⟩ : ∃ v0, vs = #[v0] := ⟨vs[0], one_array hs⟩
  cases hx 0 _ v0 rfl rfl
  refine .inl ⟨hf.1, (hf.2 n w (Nat.le_of_ble_eq_true hlt)).mono fun e w' ⟨he, hw⟩ => ⟨_, he, ?_, .sc _⟩⟩
  subst hw; exact ext_same (Below.refl _ _)

def AtoisP (P : Program) (f : Nat) : Prop := Entered P f ∧ ∃ ty : TypeId, ∀ (s : ByteArray) (n : Int) (w : World), s.size ≤ 18 → Lib.atoi s.data.toList = some n →
  Calls P f #[.string s] w fun e w' => e = .returned (.tuple #[.int .i64 n, .nilIface]) ∧ ∃ t, w' = Lib.bytesWorld w ty t
def atoiQ (args : List PV) : Option PV :=
  match args with
  | [.sc (.string s)] => bif Nat.ble s.size 18 then (match Lib.atoi s.data.toList with | some n => some (.tup [.sc (.int .i64 n), .sc .nilIface]) | none => none) else none
  | _ => none
theorem atoi_ok {P : Program} {f : Nat} (hf : AtoisP P f) : PureOK P fun g args => if g = f then atoiQ args else none := by
  intro g args r hr X w K vs hX hk hs hx
  simp only at hr
  split at hr
  case isFalse => cases hr
  rename_i hg; subst hg
  unfold atoiQ at hr
  split at hr
  case h_2 => cases hr
  rename_i s
  cases hlt : Nat.ble s.size 18 <;> rw [hlt] at hr <;> simp only [cond_true, cond_false, reduceCtorEq] at hr
  split at hr
  case h_2 => cases hr
  rename_i n hn
  simp only [Option.some.injEq] at hr; subst hr
  simp only [List.length_cons, List.length_nil] at hs
  obtain ⟨v0, rfl⟩ : ∃ v0, vs = #[v0] := ⟨vs[0], one_array hs⟩
  cases hx 0 _ v0 rfl rfl
  obtain ⟨hent, ty, hcall⟩ := hf
  refine .inl ⟨hent, (hcall s n w (Nat.le_of_ble_eq_true hlt) hn).mono fun e w' ⟨he, t, hw⟩ => ⟨_, he, ?_, tup_scs [_, _]⟩⟩
  subst hw; exact ext_same (Lib.bytesWorld_below w ty t)

/-- strings, as data -/
def strs? : List PV → Option (List ByteArray)
  | [] => some []
  | .sc (.string s) :: r => (strs? r).map (s :: ·)
  | _ => none
theorem strs_some {xs : List PV} {ss : List ByteArray} (h : strs? xs = some ss) : xs = ss.map fun s => .sc (.string s) := by
  induction xs generalizing ss with
  | nil => simp [strs?] at h; subst h; rfl
  | cons x r ih =>
    unfold strs? at h
    split at h
    · rename_i h'; cases h'
    · rename_i s r' h'
      cases h'
      simp only [Option.map_eq_some_iff] at h
      obtain ⟨t, h, rfl⟩ := h
      rw [ih h]; rfl
    · cases h
def JoinsP (P : Program) (f : Nat) : Prop := Entered P f ∧ (∀ (a : Option Addr) (c : Nat) (sep : ByteArray) (w : World), Calls P f #[.slice a 0 c, .string sep] w fun e w' => e = .returned (.string ⟨#[]⟩) ∧ w' = w) ∧
  ∀ (bk o c : Nat) (xs : List ByteArray) (sep : ByteArray) (w : World), (∀ (j : Nat) x, xs[j]? = some x → w.cell? ⟨bk, o + j, none⟩ = some (.string x)) → bk < w.heap.size → xs.length ≤ 140737488355328 → xs.length ≤ c →
    (Lib.join (xs.map (·.data.toList)) sep.data.toList).length ≤ 140737488355328 →
    Calls P f #[.slice (some ⟨bk, o, none⟩) xs.length c, .string sep] w fun e w' => e = .returned (.string ⟨(Lib.join (xs.map (·.data.toList)) sep.data.toList).toArray⟩) ∧ Below w.heap.size w w'
def joinQ (args : List PV) : Option PV :=
  match args with
  | [.list 0 _ (x :: xs), .sc (.string sep)] => match strs? (x :: xs) with
    | some ss => bif Nat.ble ss.length 140737488355328 && Nat.ble (Lib.join (ss.map (·.data.toList)) sep.data.toList).length 140737488355328 then some (.sc (strOf (Lib.join (ss.map (·.data.toList)) sep.data.toList))) else none
    | none => none
  | [.sc (.slice none 0 0), .sc (.string _)] => some (.sc (strOf []))
  | _ => none
theorem join_ok {P : Program} {f : Nat} (hf : JoinsP P f) : PureOK P fun g args => if g = f then joinQ args else none := by
  intro g args r hr X w K vs hX hk hs hx
  simp only at hr
  split at hr
  case isFalse => cases hr
  rename_i hg; subst hg
  obtain ⟨hent, hnone, hcall⟩ := hf
  unfold joinQ at hr
  split at hr
  · rename_i cl x xs sep
    split at hr
    case h_2 => cases hr
    rename_i ss hss
    cases hlt : (Nat.ble ss.length 140737488355328 && Nat.ble (Lib.join (ss.map (·.data.toList)) sep.data.toList).length 140737488355328) <;> rw [hlt] at hr <;> simp only [cond_true, cond_false, Option.some.injEq, reduceCtorEq] at hr
    subst hr
    simp only [Bool.and_eq_true] at hlt
    obtain ⟨v0, v1, rfl⟩ := two_array hs
    have hl := hx 0 _ v0 rfl rfl
    cases hx 1 _ v1 rfl rfl
    have e := strs_some hss
    have elen : (x :: xs).length = ss.length := by rw [e]; simp
    cases hl with
    | list cvs hl hc hcl hs' hx' hr' =>
      rename_i b off len cap
      have hcell : ∀ (j : Nat) s, ss[j]? = some s → w.cell? ⟨b, off + j, none⟩ = some (.string s) ∧ K b (off + j) := fun j s hj => by
        have h1 : (x :: xs)[j]? = some (.sc (.string s)) := by rw [e]; simp [hj]
        have hjl : j < cvs.length := by
          rw [hs', elen]
          rcases Nat.lt_or_ge j ss.length with h' | h'
          · exact h'
          · simp [List.getElem?_eq_none h'] at hj
        have h2 := List.getElem?_eq_getElem hjl
        have h3 := hx' j _ _ h1 h2
        have h4 := (hr' j _ h2).2 0 (cvs[j]) (by simp [cellsL])
        generalize cvs[j] = cv at h3 h4
        cases h3
        simp [width] at h4
        exact ⟨h4.2, h4.1⟩
      have hpos : 0 < ss.length := by rw [← elen]; simp
      have hb : b < w.heap.size := hk b _ (hcell 0 ss[0] (List.getElem?_eq_getElem hpos)).2
      subst hl
      rw [elen] at hc ⊢
      refine .inl ⟨hent, (hcall b off cap ss sep w (fun j s hj => (hcell j s hj).1) hb (Nat.le_of_ble_eq_true hlt.1) hc (Nat.le_of_ble_eq_true hlt.2)).mono fun e w' ⟨he, hw⟩ => ⟨_, he, ext_same hw, .sc _⟩⟩
  · simp only [Option.some.injEq] at hr; subst hr
    obtain ⟨v0, v1, rfl⟩ := two_array hs
    cases hx 0 _ v0 rfl rfl
    cases hx 1 _ v1 rfl rfl
    refine .inl ⟨hent, (hnone none 0 _ w).mono fun e w' ⟨he, hw⟩ => ⟨_, he, ?_, .sc _⟩⟩
    subst hw; exact ext_same (Below.refl _ _)
  · cases hr
end Go.Lite

namespace Go.Lite
open Go Go.Proofs
set_option maxRecDepth 1000000
set_option linter.unusedVariables false
noncomputable section
def ownT : Tr (List (Nat × Nat)) := (.node 20 [(4, 0)] (.node 11 [(3, 0)] (.node 7 [(3, 0)] .nil .nil) (.node 12 [(3, 0)] .nil .nil)) (.node 34 [(65, 781)] (.node 21 [(3, 1000)] .nil .nil) .nil))
def liveT : Tr (List (Nat × List Nat)) := (.node 32 [(22, [1, 8, 63, 64, 65]), (12, [0, 1, 5, 39, 40, 41])] (.node 15 [(2, [0, 1, 5])] (.node 9 [(3, [0, 4, 5])] (.node 7 [(3, [0, 3, 4])] (.node 3 [(7, [1, 12])] .nil .nil) (.node 8 [(3, [4, 7, 8, 9])] .nil .nil)) (.node 11 [(3, [0, 3, 5])] (.node 10 [(4, [0, 1, 5])] .nil .nil) (.node 12 [(3, [0, 3, 4])] .nil .nil))) (.node 21 [(6, [0, 3, 4, 5])] (.node 19 [(15, [4, 12, 13, 17, 18, 19]), (6, [4, 5, 17, 18, 19])] (.node 16 [(5, [0, 6, 16, 17])] .nil .nil) (.node 20 [(17, [0, 4, 6, 7, 9]), (4, [0, 4, 5, 6, 7])] .nil .nil)) (.node 23 [(2, [0, 1, 5])] (.node 22 [(7, [0, 3, 4, 5]), (3, [0, 3, 4])] .nil .nil) (.node 24 [(3, [0, 3, 4])] .nil .nil)))) (.node 61 [(2, [0, 1, 2, 7])] (.node 46 [(15, [0, 1, 5, 6, 7, 8, 9, 10])] (.node 43 [(6, [0, 1, 6, 7])] (.node 34 [(11, [0, 1, 2, 3, 9, 10])] .nil .nil) (.node 44 [(6, [0, 1, 5])] .nil .nil)) (.node 54 [(2, [2, 4])] (.node 49 [(10, [5, 6, 47, 48, 49])] .nil .nil) (.node 60 [(11, [0, 1, 5, 6, 7, 8, 10]), (5, [0, 1, 5, 6, 7, 8, 9])] .nil .nil))) (.node 76 [(8, [4, 6, 7, 8]), (3, [0, 4, 5])] (.node 70 [(1, [0, 1, 4])] (.node 62 [(2, [1, 2, 10])] .nil .nil) (.node 71 [(11, [0, 1, 3, 4, 10, 11, 12, 13, 14, 15, 16]), (18, [0, 1, 3, 4, 10, 11, 12, 13, 17])] .nil .nil)) (.node 78 [(36, [1, 8, 9, 10, 11, 12, 13, 99, 100, 101])] (.node 77 [(10, [0, 4, 5, 6])] .nil .nil) (.node 88 [(10, [0, 3, 4, 5])] .nil .nil)))))
def shutT : Tr (List (Nat × List Nat)) := (.node 34 [(18, [9])] .nil .nil)
def sharedT : Tr Bool := (.node 29 true .nil .nil)
def methT : Tr (Nat × List Bool) := .nil
def ownFT : Tr OwnSp := .nil
def inlT : Tr Bool := .nil
def joinTab : Tr (List (Nat × Join)) := (.node 11 [(16, ⟨[0, 3, 5], [], [(0, [3])], []⟩)] (.node 8 [(16, ⟨[4, 7, 8, 9], [], [(0, [4])], [2, 3]⟩)] (.node 7 [(16, ⟨[0, 3, 4], [], [(0, [3])], []⟩)] (.node 3 [(32, ⟨[1, 12], [], [(0, [])], [6]⟩)] .nil .nil) .nil) (.node 10 [(20, ⟨[0, 1, 5], [], [(0, [])], [4]⟩)] (.node 9 [(16, ⟨[0, 4, 5], [], [(0, [4])], [2, 3]⟩)] .nil .nil) .nil)) (.node 16 [(24, ⟨[0, 6, 16, 17], [], [(0, [6])], []⟩)] (.node 15 [(12, ⟨[0, 1, 5], [], [(0, [])], [4]⟩)] (.node 12 [(16, ⟨[0, 3, 4], [], [(0, [3])], []⟩)] .nil .nil) .nil) (.node 24 [(16, ⟨[0, 3, 4], [], [(0, [3])], []⟩)] (.node 23 [(12, ⟨[0, 1, 5], [], [(0, [0, 1])], []⟩)] .nil .nil) .nil)))
def h0 : Hints := { own := fun f t => (ownT.get? f).bind fun l => pairFind l t, live := fun f i => ((liveT.get? f).bind fun l => pairFind l i).getD [], join := fun f i => (joinTab.get? f).bind fun l => pairFind l i, shared := fun f => (sharedT.get? f).getD false, stil := fun f i => ((shutT.get? f).bind fun l => pairFind l i).getD [], meth := fun f => methT.get? f, inl := fun f => (inlT.get? f).getD false, primS := fun f => none, primM := fun g => none, ownF := fun f => ownFT.get? f, primO := fun g => none }
def hh : Hints := { h0 with prim := fun f => bif Nat.beq f 26 then some (splitQ) else bif Nat.beq f 27 then some (cutQ) else bif Nat.beq f 30 then some (itoaQ) else bif Nat.beq f 32 then some (joinQ) else bif Nat.beq f 38 then some (atoiQ) else none }

end
end Go.Lite

namespace Go.Proofs
open Go.Shelf
def Tryd.lays156_ren : Go.Shelf.Ren := ⟨fun | 156 => 32 | 165 => 40 | 166 => 41 | 169 => 42 | 240 => 52 | 241 => 53 | 276 => 72 | 277 => 73 | n => n, fun | 31 => 44 | 9 => 9 | 3 => 3 | 4 => 4 | 0 => 0 | 20 => 20 | 72 => 64 | 76 => 58 | 70 => 61 | 37 => 62 | 75 => 57 | 127 => 71 | 164 => 89 | 5 => 5 | 80 => 66 | n => n, fun | n => n⟩
theorem Tryd.lays156 : Go.Proofs.Lays.n156 Tryd.prog Tryd.lays156_ren := {
  mixed := by kernel_rfl
  f156 := Tryd.func32.trans (congrArg some (by kernel_rfl))
  f165 := Tryd.func40.trans (congrArg some (by kernel_rfl))
  f166 := Tryd.func41.trans (congrArg some (by kernel_rfl))
  f169 := Tryd.func42.trans (congrArg some (by kernel_rfl))
  f240 := Tryd.func52.trans (congrArg some (by kernel_rfl))
  f241 := Tryd.func53.trans (congrArg some (by kernel_rfl))
  f276 := Tryd.func72.trans (congrArg some (by kernel_rfl))
  f277 := Tryd.func73.trans (congrArg some (by kernel_rfl))
  t0 := Tryd.underlying0
  a0 := Tryd.isAgg0
  z0 := Tryd.sizeOf0
  v0 := Tryd.zeroValue0
  t3 := Tryd.underlying3
  a3 := Tryd.isAgg3
  z3 := Tryd.sizeOf3
  v3 := Tryd.zeroValue3
  t4 := Tryd.underlying4
  a4 := Tryd.isAgg4
  z4 := Tryd.sizeOf4
  v4 := Tryd.zeroValue4
  t9 := Tryd.underlying9
  a9 := Tryd.isAgg9
  z9 := Tryd.sizeOf9
  v9 := Tryd.zeroValue9
  t20 := Tryd.underlying20
  a20 := Tryd.isAgg20
  z20 := Tryd.sizeOf20
  v20 := Tryd.zeroValue20
  t31 := Tryd.underlying44
  a31 := Tryd.isAgg44
  z31 := Tryd.sizeOf44
  v31 := Tryd.zeroValue44
  t37 := Tryd.underlying62
  a37 := Tryd.isAgg62
  z37 := Tryd.sizeOf62
  v37 := Tryd.zeroValue62
  t70 := Tryd.underlying61
  a70 := Tryd.isAgg61
  z70 := Tryd.sizeOf61
  v70 := Tryd.zeroValue61
  t72 := Tryd.underlying64
  a72 := Tryd.isAgg64
  z72 := Tryd.sizeOf64
  v72 := Tryd.zeroValue64
  t75 := Tryd.underlying57
  a75 := Tryd.isAgg57
  z75 := Tryd.sizeOf57
  v75 := Tryd.zeroValue57
  t76 := Tryd.underlying58
  a76 := Tryd.isAgg58
  z76 := Tryd.sizeOf58
  v76 := Tryd.zeroValue58
  t127 := Tryd.underlying71
  a127 := Tryd.isAgg71
  z127 := Tryd.sizeOf71
  v127 := Tryd.zeroValue71
  t164 := Tryd.underlying89
  a164 := Tryd.isAgg89
  z164 := Tryd.sizeOf89
  v164 := Tryd.zeroValue89 }
theorem Tryd.Builder_Extra_156 : Builder.Extra Tryd.prog Tryd.lays156_ren := {
  sizeBuilder := by kernel_rfl
  liesBuilder := by kernel_rfl
  t5 := Tryd.underlying5
  a5 := Tryd.isAgg5
  z5 := Tryd.sizeOf5
  v5 := Tryd.zeroValue5
  infoByte := by kernel_rfl
  cellsByte := by kernel_rfl
  sizeByte := by kernel_rfl
  neB5 := by decide }
open Go.RowKit in
theorem Tryd.strings_Join_none (a : Option Addr) (c : Nat) (sep : ByteArray) (w : World) :
    Calls Tryd.prog 32 #[.slice a 0 c, .string sep] w fun e w' => e = .returned (.string ⟨#[]⟩) ∧ w' = w := Any.strings_Join_none Tryd.lays156 Tryd.Builder_Extra_156 a c sep w
open Go.RowKit in
theorem Tryd.strings_Join (bk o c : Nat) (xs : List ByteArray) (sep : ByteArray) (w : World) (hcells : ∀ (j : Nat) x, xs[j]? = some x → w.cell? ⟨bk, o + j, none⟩ = some (.string x)) (hbk : bk < w.heap.size) (hN : xs.length ≤ 140737488355328) (hcap : xs.length ≤ c) (hlen : (Lib.join (xs.map (·.data.toList)) sep.data.toList).length ≤ 140737488355328) :
    Calls Tryd.prog 32 #[.slice (some ⟨bk, o, none⟩) xs.length c, .string sep] w fun e w' => e = .returned (.string ⟨(Lib.join (xs.map (·.data.toList)) sep.data.toList).toArray⟩) ∧ Below w.heap.size w w' := Any.strings_Join Tryd.lays156 Tryd.Builder_Extra_156 bk o c xs sep w hcells hbk hN hcap hlen
def Tryd.lays172_ren : Go.Shelf.Ren := ⟨fun | 172 => 38 | 244 => 49 | 245 => 50 | 247 => 63 | 279 => 64 | 280 => 65 | 281 => 66 | 282 => 67 | 287 => 78 | 316 => 79 | 171 => 30 | 205 => 80 | 321 => 87 | 322 => 88 | 243 => 39 | 246 => 51 | 283 => 68 | 284 => 69 | 285 => 70 | 286 => 71 | 129 => 82 | 317 => 81 | 318 => 83 | 319 => 84 | 320 => 85 | 337 => 31 | 338 => 89 | n => n, fun | 9 => 9 | 3 => 3 | 75 => 57 | 76 => 58 | 4 => 4 | 5 => 5 | 167 => 77 | 37 => 62 | 0 => 0 | 85 => 78 | 2 => 2 | 168 => 80 | 53 => 84 | 175 => 94 | 46 => 52 | 210 => 98 | 127 => 71 | 145 => 114 | 143 => 112 | 21 => 21 | 171 => 83 | 173 => 87 | 212 => 101 | 51 => 23 | 20 => 20 | 213 => 102 | 232 => 60 | 233 => 115 | 80 => 66 | n => n, fun | 15 => 2 | 16 => 3 | 17 => 4 | 18 => 0 | 19 => 7 | n => n⟩
theorem Tryd.lays172 : Go.Proofs.Lays.n172 Tryd.prog Tryd.lays172_ren := {
  mixed := by kernel_rfl
  f129 := Tryd.func82.trans (congrArg some (by kernel_rfl))
  f171 := Tryd.func30.trans (congrArg some (by kernel_rfl))
  f172 := Tryd.func38.trans (congrArg some (by kernel_rfl))
  f205 := Tryd.func80.trans (congrArg some (by kernel_rfl))
  f243 := Tryd.func39.trans (congrArg some (by kernel_rfl))
  f244 := Tryd.func49.trans (congrArg some (by kernel_rfl))
  f245 := Tryd.func50.trans (congrArg some (by kernel_rfl))
  f246 := Tryd.func51.trans (congrArg some (by kernel_rfl))
  f247 := Tryd.func63.trans (congrArg some (by kernel_rfl))
  f279 := Tryd.func64.trans (congrArg some (by kernel_rfl))
  f280 := Tryd.func65.trans (congrArg some (by kernel_rfl))
  f281 := Tryd.func66.trans (congrArg some (by kernel_rfl))
  f282 := Tryd.func67.trans (congrArg some (by kernel_rfl))
  f283 := Tryd.func68.trans (congrArg some (by kernel_rfl))
  f284 := Tryd.func69.trans (congrArg some (by kernel_rfl))
  f285 := Tryd.func70.trans (congrArg some (by kernel_rfl))
  f286 := Tryd.func71.trans (congrArg some (by kernel_rfl))
  f287 := Tryd.func78.trans (congrArg some (by kernel_rfl))
  f316 := Tryd.func79.trans (congrArg some (by kernel_rfl))
  f317 := Tryd.func81.trans (congrArg some (by kernel_rfl))
  f318 := Tryd.func83.trans (congrArg some (by kernel_rfl))
  f319 := Tryd.func84.trans (congrArg some (by kernel_rfl))
  f320 := Tryd.func85.trans (congrArg some (by kernel_rfl))
  f321 := Tryd.func87.trans (congrArg some (by kernel_rfl))
  f322 := Tryd.func88.trans (congrArg some (by kernel_rfl))
  f337 := Tryd.func31.trans (congrArg some (by kernel_rfl))
  f338 := Tryd.func89.trans (congrArg some (by kernel_rfl))
  t0 := Tryd.underlying0
  a0 := Tryd.isAgg0
  z0 := Tryd.sizeOf0
  v0 := Tryd.zeroValue0
  t2 := Tryd.underlying2
  a2 := Tryd.isAgg2
  z2 := Tryd.sizeOf2
  v2 := Tryd.zeroValue2
  t3 := Tryd.underlying3
  a3 := Tryd.isAgg3
  z3 := Tryd.sizeOf3
  v3 := Tryd.zeroValue3
  t4 := Tryd.underlying4
  a4 := Tryd.isAgg4
  z4 := Tryd.sizeOf4
  v4 := Tryd.zeroValue4
  t5 := Tryd.underlying5
  a5 := Tryd.isAgg5
  z5 := Tryd.sizeOf5
  v5 := Tryd.zeroValue5
  t9 := Tryd.underlying9
  a9 := Tryd.isAgg9
  z9 := Tryd.sizeOf9
  v9 := Tryd.zeroValue9
  t20 := Tryd.underlying20
  a20 := Tryd.isAgg20
  z20 := Tryd.sizeOf20
  v20 := Tryd.zeroValue20
  t21 := Tryd.underlying21
  a21 := Tryd.isAgg21
  z21 := Tryd.sizeOf21
  v21 := Tryd.zeroValue21
  t37 := Tryd.underlying62
  a37 := Tryd.isAgg62
  z37 := Tryd.sizeOf62
  v37 := Tryd.zeroValue62
  t46 := Tryd.underlying52
  a46 := Tryd.isAgg52
  z46 := Tryd.sizeOf52
  v46 := Tryd.zeroValue52
  t51 := Tryd.underlying23
  a51 := Tryd.isAgg23
  z51 := Tryd.sizeOf23
  v51 := Tryd.zeroValue23
  t53 := Tryd.underlying84
  a53 := Tryd.isAgg84
  z53 := Tryd.sizeOf84
  v53 := Tryd.zeroValue84
  t75 := Tryd.underlying57
  a75 := Tryd.isAgg57
  z75 := Tryd.sizeOf57
  v75 := Tryd.zeroValue57
  t76 := Tryd.underlying58
  a76 := Tryd.isAgg58
  z76 := Tryd.sizeOf58
  v76 := Tryd.zeroValue58
  t85 := Tryd.underlying78
  a85 := Tryd.isAgg78
  z85 := Tryd.sizeOf78
  v85 := Tryd.zeroValue78
  t127 := Tryd.underlying71
  a127 := Tryd.isAgg71
  z127 := Tryd.sizeOf71
  v127 := Tryd.zeroValue71
  t143 := Tryd.underlying112
  a143 := Tryd.isAgg112
  z143 := Tryd.sizeOf112
  v143 := Tryd.zeroValue112
  t145 := Tryd.underlying114
  a145 := Tryd.isAgg114
  z145 := Tryd.sizeOf114
  v145 := Tryd.zeroValue114
  t167 := Tryd.underlying77
  a167 := Tryd.isAgg77
  z167 := Tryd.sizeOf77
  v167 := Tryd.zeroValue77
  t168 := Tryd.underlying80
  a168 := Tryd.isAgg80
  z168 := Tryd.sizeOf80
  v168 := Tryd.zeroValue80
  t171 := Tryd.underlying83
  a171 := Tryd.isAgg83
  z171 := Tryd.sizeOf83
  v171 := Tryd.zeroValue83
  t173 := Tryd.underlying87
  a173 := Tryd.isAgg87
  z173 := Tryd.sizeOf87
  v173 := Tryd.zeroValue87
  t175 := Tryd.underlying94
  a175 := Tryd.isAgg94
  z175 := Tryd.sizeOf94
  v175 := Tryd.zeroValue94
  t210 := Tryd.underlying98
  a210 := Tryd.isAgg98
  z210 := Tryd.sizeOf98
  v210 := Tryd.zeroValue98
  t212 := Tryd.underlying101
  a212 := Tryd.isAgg101
  z212 := Tryd.sizeOf101
  v212 := Tryd.zeroValue101
  t213 := Tryd.underlying102
  a213 := Tryd.isAgg102
  z213 := Tryd.sizeOf102
  t232 := Tryd.underlying60
  a232 := Tryd.isAgg60
  z232 := Tryd.sizeOf60
  v232 := Tryd.zeroValue60
  t233 := Tryd.underlying115
  a233 := Tryd.isAgg115
  z233 := Tryd.sizeOf115
  v233 := Tryd.zeroValue115
  g15 := by kernel_rfl
  g16 := by kernel_rfl
  g17 := by kernel_rfl
  g18 := by kernel_rfl
  g19 := by kernel_rfl }
open Go.RowKit in
theorem Tryd.strconv_Atoi (s : ByteArray) (n : Int) (hl : s.size ≤ 18) (h : Lib.atoi s.data.toList = some n) (w : World) :
    Calls Tryd.prog 38 #[.string s] w fun e w' => e = .returned (.tuple #[.int .i64 n, .nilIface]) ∧ ∃ t, w' = Lib.bytesWorld w 5 t := Any.strconv_Atoi Tryd.lays172 s n hl h w
def Tryd.lays171_ren : Go.Shelf.Ren := ⟨fun | 171 => 30 | 243 => 39 | 246 => 51 | 283 => 68 | 284 => 69 | 285 => 70 | 286 => 71 | 129 => 82 | 317 => 81 | 318 => 83 | 319 => 84 | 320 => 85 | 337 => 31 | 338 => 89 | n => n, fun | 3 => 3 | 9 => 9 | 2 => 2 | 4 => 4 | 171 => 83 | 0 => 0 | 53 => 84 | 37 => 62 | 5 => 5 | 173 => 87 | 212 => 101 | 51 => 23 | 20 => 20 | 213 => 102 | 46 => 52 | 232 => 60 | 233 => 115 | n => n, fun | 17 => 4 | 18 => 0 | 19 => 7 | n => n⟩
theorem Tryd.lays171 : Go.Proofs.Lays.n171 Tryd.prog Tryd.lays171_ren := {
  mixed := by kernel_rfl
  f129 := Tryd.func82.trans (congrArg some (by kernel_rfl))
  f171 := Tryd.func30.trans (congrArg some (by kernel_rfl))
  f243 := Tryd.func39.trans (congrArg some (by kernel_rfl))
  f246 := Tryd.func51.trans (congrArg some (by kernel_rfl))
  f283 := Tryd.func68.trans (congrArg some (by kernel_rfl))
  f284 := Tryd.func69.trans (congrArg some (by kernel_rfl))
  f285 := Tryd.func70.trans (congrArg some (by kernel_rfl))
  f286 := Tryd.func71.trans (congrArg some (by kernel_rfl))
  f317 := Tryd.func81.trans (congrArg some (by kernel_rfl))
  f318 := Tryd.func83.trans (congrArg some (by kernel_rfl))
  f319 := Tryd.func84.trans (congrArg some (by kernel_rfl))
  f320 := Tryd.func85.trans (congrArg some (by kernel_rfl))
  f337 := Tryd.func31.trans (congrArg some (by kernel_rfl))
  f338 := Tryd.func89.trans (congrArg some (by kernel_rfl))
  t0 := Tryd.underlying0
  a0 := Tryd.isAgg0
  z0 := Tryd.sizeOf0
  v0 := Tryd.zeroValue0
  t2 := Tryd.underlying2
  a2 := Tryd.isAgg2
  z2 := Tryd.sizeOf2
  v2 := Tryd.zeroValue2
  t3 := Tryd.underlying3
  a3 := Tryd.isAgg3
  z3 := Tryd.sizeOf3
  v3 := Tryd.zeroValue3
  t4 := Tryd.underlying4
  a4 := Tryd.isAgg4
  z4 := Tryd.sizeOf4
  v4 := Tryd.zeroValue4
  t5 := Tryd.underlying5
  a5 := Tryd.isAgg5
  z5 := Tryd.sizeOf5
  v5 := Tryd.zeroValue5
  t9 := Tryd.underlying9
  a9 := Tryd.isAgg9
  z9 := Tryd.sizeOf9
  v9 := Tryd.zeroValue9
  t20 := Tryd.underlying20
  a20 := Tryd.isAgg20
  z20 := Tryd.sizeOf20
  v20 := Tryd.zeroValue20
  t37 := Tryd.underlying62
  a37 := Tryd.isAgg62
  z37 := Tryd.sizeOf62
  v37 := Tryd.zeroValue62
  t46 := Tryd.underlying52
  a46 := Tryd.isAgg52
  z46 := Tryd.sizeOf52
  v46 := Tryd.zeroValue52
  t51 := Tryd.underlying23
  a51 := Tryd.isAgg23
  z51 := Tryd.sizeOf23
  v51 := Tryd.zeroValue23
  t53 := Tryd.underlying84
  a53 := Tryd.isAgg84
  z53 := Tryd.sizeOf84
  v53 := Tryd.zeroValue84
  t171 := Tryd.underlying83
  a171 := Tryd.isAgg83
  z171 := Tryd.sizeOf83
  v171 := Tryd.zeroValue83
  t173 := Tryd.underlying87
  a173 := Tryd.isAgg87
  z173 := Tryd.sizeOf87
  v173 := Tryd.zeroValue87
  t212 := Tryd.underlying101
  a212 := Tryd.isAgg101
  z212 := Tryd.sizeOf101
  v212 := Tryd.zeroValue101
  t213 := Tryd.underlying102
  a213 := Tryd.isAgg102
  z213 := Tryd.sizeOf102
  t232 := Tryd.underlying60
  a232 := Tryd.isAgg60
  z232 := Tryd.sizeOf60
  v232 := Tryd.zeroValue60
  t233 := Tryd.underlying115
  a233 := Tryd.isAgg115
  z233 := Tryd.sizeOf115
  v233 := Tryd.zeroValue115
  g17 := by kernel_rfl
  g18 := by kernel_rfl
  g19 := by kernel_rfl }
open Go.RowKit Go.Sort Go.Lib in
theorem Tryd.strconv_Itoa_small (i : Nat) (hi : i < 100) (w : World) :
    Calls Tryd.prog 30 #[.int .i64 i] w fun e w' => e = .returned (.string ⟨(Lib.decDigits i).toArray⟩) ∧ w' = w := Any.strconv_Itoa_small Tryd.lays171 i hi w
def Tryd.lays145_ren : Go.Shelf.Ren := ⟨fun | 145 => 27 | 220 => 35 | 219 => 46 | 217 => 57 | 225 => 58 | 224 => 59 | 267 => 60 | 266 => 75 | 314 => 76 | n => n, fun | 9 => 9 | 4 => 4 | 59 => 46 | 3 => 3 | 5 => 5 | 46 => 52 | 146 => 92 | 51 => 23 | n => n, fun | 1 => 1 | n => n⟩
theorem Tryd.lays145 : Go.Proofs.Lays.n145 Tryd.prog Tryd.lays145_ren := {
  mixed := by kernel_rfl
  f145 := Tryd.func27.trans (congrArg some (by kernel_rfl))
  f217 := Tryd.func57.trans (congrArg some (by kernel_rfl))
  f219 := Tryd.func46.trans (congrArg some (by kernel_rfl))
  f220 := Tryd.func35.trans (congrArg some (by kernel_rfl))
  f224 := Tryd.func59.trans (congrArg some (by kernel_rfl))
  f225 := Tryd.func58.trans (congrArg some (by kernel_rfl))
  f266 := Tryd.func75.trans (congrArg some (by kernel_rfl))
  f267 := Tryd.func60.trans (congrArg some (by kernel_rfl))
  f314 := Tryd.func76.trans (congrArg some (by kernel_rfl))
  t3 := Tryd.underlying3
  a3 := Tryd.isAgg3
  z3 := Tryd.sizeOf3
  v3 := Tryd.zeroValue3
  t4 := Tryd.underlying4
  a4 := Tryd.isAgg4
  z4 := Tryd.sizeOf4
  v4 := Tryd.zeroValue4
  t5 := Tryd.underlying5
  a5 := Tryd.isAgg5
  z5 := Tryd.sizeOf5
  v5 := Tryd.zeroValue5
  t9 := Tryd.underlying9
  a9 := Tryd.isAgg9
  z9 := Tryd.sizeOf9
  v9 := Tryd.zeroValue9
  t46 := Tryd.underlying52
  a46 := Tryd.isAgg52
  z46 := Tryd.sizeOf52
  v46 := Tryd.zeroValue52
  t51 := Tryd.underlying23
  a51 := Tryd.isAgg23
  z51 := Tryd.sizeOf23
  v51 := Tryd.zeroValue23
  t59 := Tryd.underlying46
  a59 := Tryd.isAgg46
  z59 := Tryd.sizeOf46
  v59 := Tryd.zeroValue46
  t146 := Tryd.underlying92
  a146 := Tryd.isAgg92
  z146 := Tryd.sizeOf92
  v146 := Tryd.zeroValue92
  g1 := by kernel_rfl }
open Go.RowKit Go.Lib in
theorem Tryd.strings_Cut (s sep : ByteArray) (m : Int) (w : World) (hs : s.size < 4294967281) (hm : w.cell? ⟨1, 0, none⟩ = some (.int .i64 m)) :
    Calls Tryd.prog 27 #[.string s, .string sep] w fun e w' => e = .returned (.tuple #[.string ⟨(Lib.cut s.data.toList sep.data.toList).1.toArray⟩, .string ⟨(Lib.cut s.data.toList sep.data.toList).2.1.toArray⟩, .bool (Lib.cut s.data.toList sep.data.toList).2.2]) ∧ ∃ n, w' = w.drewN n := Any.strings_Cut Tryd.lays145 s sep m w hs hm
def Tryd.lays146_ren : Go.Shelf.Ren := ⟨fun | 146 => 26 | 221 => 34 | 268 => 43 | 138 => 44 | 143 => 45 | 195 => 54 | 197 => 55 | 218 => 56 | 219 => 46 | 260 => 74 | 217 => 57 | 225 => 58 | 224 => 59 | 267 => 60 | 266 => 75 | 314 => 76 | n => n, fun | 9 => 9 | 31 => 44 | 3 => 3 | 4 => 4 | 0 => 0 | 105 => 72 | 21 => 21 | 5 => 5 | 46 => 52 | 119 => 105 | 139 => 108 | 138 => 107 | 146 => 92 | 51 => 23 | n => n, fun | 1 => 1 | 3 => 5 | 4 => 6 | n => n⟩
theorem Tryd.lays146 : Go.Proofs.Lays.n146 Tryd.prog Tryd.lays146_ren := {
  mixed := by kernel_rfl
  f138 := Tryd.func44.trans (congrArg some (by kernel_rfl))
  f143 := Tryd.func45.trans (congrArg some (by kernel_rfl))
  f146 := Tryd.func26.trans (congrArg some (by kernel_rfl))
  f195 := Tryd.func54.trans (congrArg some (by kernel_rfl))
  f197 := Tryd.func55.trans (congrArg some (by kernel_rfl))
  f217 := Tryd.func57.trans (congrArg some (by kernel_rfl))
  f218 := Tryd.func56.trans (congrArg some (by kernel_rfl))
  f219 := Tryd.func46.trans (congrArg some (by kernel_rfl))
  f221 := Tryd.func34.trans (congrArg some (by kernel_rfl))
  f224 := Tryd.func59.trans (congrArg some (by kernel_rfl))
  f225 := Tryd.func58.trans (congrArg some (by kernel_rfl))
  f260 := Tryd.func74.trans (congrArg some (by kernel_rfl))
  f266 := Tryd.func75.trans (congrArg some (by kernel_rfl))
  f267 := Tryd.func60.trans (congrArg some (by kernel_rfl))
  f268 := Tryd.func43.trans (congrArg some (by kernel_rfl))
  f314 := Tryd.func76.trans (congrArg some (by kernel_rfl))
  t0 := Tryd.underlying0
  a0 := Tryd.isAgg0
  z0 := Tryd.sizeOf0
  v0 := Tryd.zeroValue0
  t3 := Tryd.underlying3
  a3 := Tryd.isAgg3
  z3 := Tryd.sizeOf3
  v3 := Tryd.zeroValue3
  t4 := Tryd.underlying4
  a4 := Tryd.isAgg4
  z4 := Tryd.sizeOf4
  v4 := Tryd.zeroValue4
  t5 := Tryd.underlying5
  a5 := Tryd.isAgg5
  z5 := Tryd.sizeOf5
  v5 := Tryd.zeroValue5
  t9 := Tryd.underlying9
  a9 := Tryd.isAgg9
  z9 := Tryd.sizeOf9
  v9 := Tryd.zeroValue9
  t21 := Tryd.underlying21
  a21 := Tryd.isAgg21
  z21 := Tryd.sizeOf21
  v21 := Tryd.zeroValue21
  t31 := Tryd.underlying44
  a31 := Tryd.isAgg44
  z31 := Tryd.sizeOf44
  v31 := Tryd.zeroValue44
  t46 := Tryd.underlying52
  a46 := Tryd.isAgg52
  z46 := Tryd.sizeOf52
  v46 := Tryd.zeroValue52
  t51 := Tryd.underlying23
  a51 := Tryd.isAgg23
  z51 := Tryd.sizeOf23
  v51 := Tryd.zeroValue23
  t105 := Tryd.underlying72
  a105 := Tryd.isAgg72
  z105 := Tryd.sizeOf72
  v105 := Tryd.zeroValue72
  t119 := Tryd.underlying105
  a119 := Tryd.isAgg105
  z119 := Tryd.sizeOf105
  t138 := Tryd.underlying107
  a138 := Tryd.isAgg107
  z138 := Tryd.sizeOf107
  v138 := Tryd.zeroValue107
  t139 := Tryd.underlying108
  a139 := Tryd.isAgg108
  z139 := Tryd.sizeOf108
  v139 := Tryd.zeroValue108
  t146 := Tryd.underlying92
  a146 := Tryd.isAgg92
  z146 := Tryd.sizeOf92
  v146 := Tryd.zeroValue92
  g1 := by kernel_rfl
  g3 := by kernel_rfl
  g4 := by kernel_rfl }
open Go.RowKit Go.Lib in
theorem Tryd.strings_Split (s sep : ByteArray) (m : Int) (w : World) (hs : s.size < 4294967281) (hm : w.cell? ⟨1, 0, none⟩ = some (.int .i64 m)) (h1 : 1 ≤ sep.size) :
    Calls Tryd.prog 26 #[.string s, .string sep] w fun e w' =>
      e = .returned (.slice (some ⟨w.heap.size, 0, none⟩) (Lib.countB s sep + 1) (Lib.countB s sep + 1)) ∧ w' = w.alloc (.cells ((Lib.splitB sep 0 (Lib.countB s sep) s).map Value.string).toArray 9) := Any.strings_Split Tryd.lays146 (by kernel_rfl) s sep m w hs hm h1
end Go.Proofs

namespace Go.Lite
open Go Go.Proofs
set_option linter.unusedVariables false
set_option linter.unusedSimpArgs false
set_option maxRecDepth 100000
noncomputable abbrev kk (L n : Nat) : Kallee := ⟨callP Tryd.prog hh L n, callS Tryd.prog hh L n, callM Tryd.prog hh L n, callO Tryd.prog hh L n, hh.calmB, hh.primS⟩
theorem callP_of' {L n : Nat} {f : FuncId} {args : List PV} {x : PV} (hn : 1 ≤ n) (hp : hh.prim f = none) (he : bodyPR Tryd.prog (kk L n) hh L f args = some x) : callP Tryd.prog hh L (n + 1) f args = some x := by
  obtain ⟨k, rfl⟩ : ∃ k, n = k + 1 := ⟨n - 1, by omega⟩
  exact callP_of hp he
theorem callD_t {cp : FuncId → List PV → Option PV} {g : FuncId} {a b xs : List PV} {r : PV} (h : cp g (a ++ xs ++ b) = some r) (ht : r.roFree = true) : callD cp (.clo g a b) xs 1 = some r := by
  simp only [callD, h, okK, okAns, ht]; rfl
end Go.Lite

namespace Go.Lite
open Go Go.Proofs
set_option linter.unusedVariables false
set_option linter.unusedSimpArgs false
set_option maxRecDepth 100000
theorem tidyTry : TidyF Tryd.prog := tidyF_of (by kernel_rfl)
end Go.Lite

namespace Go.Lite
open Go Go.Proofs
set_option linter.unusedVariables false
set_option linter.unusedSimpArgs false
set_option maxRecDepth 100000
theorem ent26 : Entered Tryd.prog 26 := ⟨_, Tryd.func26, by kernel_rfl, by kernel_rfl⟩
theorem ent27 : Entered Tryd.prog 27 := ⟨_, Tryd.func27, by kernel_rfl, by kernel_rfl⟩
theorem ent30 : Entered Tryd.prog 30 := ⟨_, Tryd.func30, by kernel_rfl, by kernel_rfl⟩
theorem ent32 : Entered Tryd.prog 32 := ⟨_, Tryd.func32, by kernel_rfl, by kernel_rfl⟩
theorem ent38 : Entered Tryd.prog 38 := ⟨_, Tryd.func38, by kernel_rfl, by kernel_rfl⟩
theorem cuts27 : CutsP Tryd.prog 27 1 := ⟨ent27, fun s sep m w hs hm => Tryd.strings_Cut s sep m w hs hm⟩
theorem splits26 : SplitsP Tryd.prog 26 1 := ⟨ent26, 9, fun s sep m w hs hm h1 => Tryd.strings_Split s sep m w hs hm h1⟩
theorem itoas30 : ItoasP Tryd.prog 30 := ⟨ent30, fun i w hi => Tryd.strconv_Itoa_small i hi w⟩
theorem joins32 : JoinsP Tryd.prog 32 := ⟨ent32, fun a c sep w => Tryd.strings_Join_none a c sep w, fun bk o c xs sep w hcells hbk hN hcap hlen => Tryd.strings_Join bk o c xs sep w hcells hbk hN hcap hlen⟩
theorem atois38 : AtoisP Tryd.prog 38 := ⟨ent38, 5, fun s n w hl h => Tryd.strconv_Atoi s n hl h w⟩
theorem prims_step {P : Program} {q : FuncId → Option (List PV → Option PV)} {k : FuncId} {Q : List PV → Option PV} (hk : PureOK P fun g args => if g = k then Q args else none) (hr : PrimsOK P q) : PrimsOK P fun f => bif Nat.beq f k then some Q else q f := by
  intro g Q' h
  simp only at h
  cases hg : Nat.beq g k with
  | false => rw [hg] at h; exact hr g Q' h
  | true =>
    rw [hg] at h
    simp only [cond_true, Option.some.injEq] at h
    subst h
    have : g = k := Nat.eq_of_beq_eq_true hg
    subst this
    exact hk
theorem prims_hh : PrimsOK Tryd.prog hh.prim :=
  prims_step (split_ok splits26 (by decide)) (prims_step (cut_ok cuts27 (by decide)) (prims_step (itoa_ok itoas30) (prims_step (join_ok joins32) (prims_step (atoi_ok atois38) fun g q h => by cases h))))
theorem primsS_hh : PrimsSOK Tryd.prog hh.primS := fun g q h => by simp [hh, h0] at h
theorem primsM_hh : PrimsMOK Tryd.prog hh.primM := fun g q h => by simp [hh, h0] at h
theorem primsO_hh : PrimsOOK Tryd.prog hh.ownF hh.primO := fun g q sp h => by simp [hh, h0] at h
theorem gl_of {W : World} (h0 : ∀ (i : Nat) v, ((globs.lookup 0).getD [])[i]? = some v → W.cell? ⟨0, i, none⟩ = some v) (h5 : ∀ (i : Nat) v, ((globs.lookup 5).getD [])[i]? = some v → W.cell? ⟨5, i, none⟩ = some v)
    (h6 : ∀ (i : Nat) v, ((globs.lookup 6).getD [])[i]? = some v → W.cell? ⟨6, i, none⟩ = some v) (h1 : ∃ n, W.cell? ⟨1, 0, none⟩ = some (.int .i64 n)) : Gl W.heap.size W := by
  have hs : ∀ g i v, W.cell? ⟨g, i, none⟩ = some v → g < W.heap.size := fun g i v h => by
    unfold World.cell? at h
    rcases Nat.lt_or_ge g W.heap.size with h' | h'
    · exact h'
    · rw [Array.getElem?_eq_none h'] at h; simp at h
  refine ⟨fun g vs hg => ?_, fun g hg => ?_⟩
  · have hk : g = 0 ∨ g = 5 ∨ g = 6 := by
      by_cases a0 : g = 0
      · exact .inl a0
      by_cases a5 : g = 5
      · exact .inr (.inl a5)
      by_cases a6 : g = 6
      · exact .inr (.inr a6)
      · simp [globs, List.lookup, a0, a5, a6, beq_eq_false_iff_ne.2 a0, beq_eq_false_iff_ne.2 a5, beq_eq_false_iff_ne.2 a6] at hg
    rcases hk with rfl | rfl | rfl
    · rw [hg] at h0
      have hne : 0 < vs.length := by simp [globs, List.lookup] at hg; subst hg; decide +kernel
      exact ⟨hs _ _ _ (h0 0 vs[0] (by simp)), h0⟩
    · rw [hg] at h5
      have hne : 0 < vs.length := by simp [globs, List.lookup] at hg; subst hg; decide +kernel
      exact ⟨hs _ _ _ (h5 0 vs[0] (by simp)), h5⟩
    · rw [hg] at h6
      have hne : 0 < vs.length := by simp [globs, List.lookup] at hg; subst hg; decide +kernel
      exact ⟨hs _ _ _ (h6 0 vs[0] (by simp)), h6⟩
  · simp only [globInts, List.mem_singleton] at hg; subst hg
    obtain ⟨n, hn⟩ := h1
    exact ⟨hs _ _ _ hn, n, hn⟩
end Go.Lite
