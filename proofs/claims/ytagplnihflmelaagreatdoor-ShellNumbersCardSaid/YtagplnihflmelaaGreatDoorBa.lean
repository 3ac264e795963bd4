import Derived.Test.YtagplnihflmelaaGreatDoorLe
import Derived.Lib.Split
import Derived.Lib.SplitLaws
import Derived.Lib.CutLaws
import Derived.Lib.AtoiErrMem
import Derived.WalkSmall
import Derived.Shelf.Strings.Split
import Derived.Lib.Join
import Derived.Shelf.Strconv.Atoi
import Derived.Shelf.Strconv.Itoa3
import Derived.Shelf.Strings.FuncGrows
import Derived.Lib.IndexMore
import Derived.Lib.SlTrimSet
import Derived.Lib.ItoaNum
import Derived.Test.YtagplnihflmelaaGreatDoorProg
import Derived.KernelRfl
import Derived.Shelf.Strings.Builder1
import Derived.Shelf.Strings.Builder2
import Derived.Shelf.Strings.OnBuilder
import Derived.Shelf.Strings.Trim
import Derived.Shelf.Small.Utf8
import Derived.Shelf.Small.Strs
import Derived.Shelf.Strings.BuilderF
import Derived.Shelf.Strings.BuilderK
import Derived.Shelf.Utf8.RuneCount
import Derived.Shelf.Strings.Builder2Cap
import Derived.Shelf.Strconv.Itoa0
import Derived.Shelf.Strconv.Itoa1
import Derived.Shelf.LaysM
import Derived.Shelf.Strconv.Itoa2
import Derived.Shelf.Strconv.Itoa4
import Derived.Shelf.Strconv.AtoiErrFast
import Derived.Shelf.Strconv.ParseIntEmpty
import Derived.Shelf.Strconv.AtoiFail
import Derived.Shelf.Strconv.Clone
import Derived.Shelf.Strconv.SyntaxError
import Derived.Shelf.Strconv.Lower
import Derived.Shelf.Strconv.ParseUint10
import Derived.Shelf.Strconv.ParseUint10Empty
import Derived.Shelf.Strconv.RangeError
import Derived.Shelf.Strconv.ParseUintEmpty
import Derived.Shelf.Strconv.ParseUint10b64
import Derived.Shelf.Strconv.ParseUint10b32
import Derived.Shelf.Strconv.ParseUint10b16
import Derived.Shelf.Strconv.ParseUint10b8
import Derived.Shelf.Strings.Search1
import Derived.Shelf.Strings.Search2
import Derived.Shelf.Strings.Search3
import Derived.Shelf.Strings.Cut
import Derived.Shelf.Strings.Count
import Derived.Shelf.Strings.Shaped
import Derived.Shelf.GgClosure.StringsIndexFunc
import Derived.Shelf.GgClosure.StringsTrimFunc
import Derived.Shelf.Strings.SplitShaped
import Derived.Shelf.Unicode.Decode
import Derived.Shelf.Strings.Runes
import Derived.Shelf.Strings.RuneCount
import Derived.Shelf.Strings.AsciiSet
import Derived.Shelf.Strings.Explode
import Derived.Shelf.Unicode.DecodeSlow
import Derived.Shelf.Unicode.DecodeAny
import Derived.Shelf.Unicode.DecodeLast
import Derived.Shelf.Slices.Turned
import Derived.Shelf.Slices.Equal
import Derived.Ground.Names2Prog
import Derived.Shelf.Slices.Clone
import Derived.Shelf.Slices.Empties2
import Derived.Ground.SlgnProg
import Derived.Shelf.SlicesE.Clone
import Derived.Shelf.Strings.SlTrimAscii
import Derived.WalkKit
import Derived.Below
set_option linter.unusedVariables false
set_option linter.unusedSimpArgs false

namespace Go.Lite
open Go Go.Proofs
open Go.RowKit (Below)

/-! # strings.Cut, strings.Split, strings.Join, strconv.Itoa, strconv.Atoi -/
theorem two_array {vs : Array Value} (h : vs.size = 2) : ∃ a b, vs = #[a, b] := by
  obtain ⟨l⟩ := vs
  match l, h with
  | [a, b], _ => exact ⟨a, b, rfl⟩
theorem ext_same {w w' : World} {K : Keep} (h : Below w.heap.size w w') : Ext w K w' (fun b i => K b i ∨ (w.heap.size ≤ b ∧ b < w'.heap.size)) :=
  ⟨h, fun _ _ h => .inl h, fun _ _ h => h⟩
theorem tup_scs {X : Nat} {w : World} {K : Keep} (l : List Value) : PVR X w K (.tup (l.map .sc)) (.tuple l.toArray) := by
  refine .tup (by simp) fun i c v h1 h2 => ?_
  simp only [List.getElem?_map, Option.map_eq_some_iff] at h1
  obtain ⟨u, h1, rfl⟩ := h1
  simp at h2
  rw [h2] at h1; simp only [Option.some.injEq] at h1; subst h1
  exact .sc _
def strOf (l : List UInt8) : Value := .string ⟨l.toArray⟩

def CutsP (P : Program) (f b : Nat) : Prop := Entered P f ∧ ∀ (s sep : ByteArray) (m : Int) (w : World), s.size < 4294967281 → w.cell? ⟨b, 0, none⟩ = some (.int .i64 m) →
  Calls P f #[.string s, .string sep] w fun e w' => e = .returned (.tuple #[.string ⟨(Lib.cut s.data.toList sep.data.toList).1.toArray⟩, .string ⟨(Lib.cut s.data.toList sep.data.toList).2.1.toArray⟩, .bool (Lib.cut s.data.toList sep.data.toList).2.2]) ∧ ∃ n, w' = w.drewN n
def cutQ (args : List PV) : Option PV :=
  match args with
  | [.sc (.string s), .sc (.string sep)] => bif Nat.blt s.size 4294967281 then
      some (.tup [.sc (strOf (Lib.cut s.data.toList sep.data.toList).1), .sc (strOf (Lib.cut s.data.toList sep.data.toList).2.1), .sc (.bool (Lib.cut s.data.toList sep.data.toList).2.2)]) else none
  | _ => none
theorem cut_ok {P : Program} {f b : Nat} (hf : CutsP P f b) (hb : b ∈ globInts) : PureOK P fun g args => if g = f then cutQ args else none := by
  intro g args r hr X w K vs hX hk hs hx
  simp only at hr
  split at hr
  case isFalse => cases hr
  rename_i hg; subst hg
  unfold cutQ at hr
  split at hr
  case h_2 => cases hr
  rename_i s sep
  cases hlt : Nat.blt s.size 4294967281 <;> rw [hlt] at hr <;> simp only [cond_true, cond_false, Option.some.injEq, reduceCtorEq] at hr
  subst hr
  obtain ⟨v0, v1, rfl⟩ := two_array hs
  cases hx 0 _ v0 rfl rfl
  cases hx 1 _ v1 rfl rfl
  obtain ⟨_, n, hn⟩ := hX.2.2 b hb
  refine .inl ⟨hf.1, (hf.2 s sep n w (Nat.le_of_ble_eq_true hlt) hn).mono fun e w' ⟨he, k, hw⟩ => ⟨_, he, ?_, ?_⟩⟩
  · subst hw; exact ext_same (below_drewN (Below.refl _ _) k)
  · exact tup_scs [_, _, _]

def SplitsP (P : Program) (f b : Nat) : Prop := Entered P f ∧ ∃ ty : TypeId, ∀ (s sep : ByteArray) (m : Int) (w : World), s.size < 4294967281 → w.cell? ⟨b, 0, none⟩ = some (.int .i64 m) → 1 ≤ sep.size →
  Calls P f #[.string s, .string sep] w fun e w' => e = .returned (.slice (some ⟨w.heap.size, 0, none⟩) (Lib.countB s sep + 1) (Lib.countB s sep + 1)) ∧
    w' = w.alloc (.cells ((Lib.splitB sep 0 (Lib.countB s sep) s).map Value.string).toArray ty)
def splitQ (args : List PV) : Option PV :=
  match args with
  | [.sc (.string s), .sc (.string sep)] => bif Nat.blt s.size 4294967281 && Nat.blt 0 sep.size then some (.list 0 true ((Lib.splitB sep 0 (Lib.countB s sep) s).map fun x => .sc (.string x))) else none
  | _ => none
theorem split_ok {P : Program} {f b : Nat} (hf : SplitsP P f b) (hb : b ∈ globInts) : PureOK P fun g args => if g = f then splitQ args else none := by
  intro g args r hr X w K vs hX hk hs hx
  simp only at hr
  split at hr
  case isFalse => cases hr
  rename_i hg; subst hg
  unfold splitQ at hr
  split at hr
  case h_2 => cases hr
  rename_i s sep
  cases hlt : (Nat.blt s.size 4294967281 && Nat.blt 0 sep.size) <;> rw [hlt] at hr <;> simp only [cond_true, cond_false, Option.some.injEq, reduceCtorEq] at hr
  subst hr
  simp only [Bool.and_eq_true] at hlt
  obtain ⟨v0, v1, rfl⟩ := two_array hs
  cases hx 0 _ v0 rfl rfl
  cases hx 1 _ v1 rfl rfl
  obtain ⟨_, n, hn⟩ := hX.2.2 b hb
  obtain ⟨hent, ty, hcall⟩ := hf
  have h1 : 1 ≤ sep.size := Nat.le_of_ble_eq_true hlt.2
  have hlen := Lib.splitB_all sep h1 0 (Lib.countB s sep) s rfl
  refine .inl ⟨hent, (hcall s sep n w (Nat.le_of_ble_eq_true hlt.1) hn h1).mono fun e w' ⟨he, hw⟩ => ⟨_, he, ?_, ?_⟩⟩
  · subst hw; exact ext_same ((Below.refl _ _).alloc (Nat.le_refl _) _)
  · subst hw
    refine .list ((Lib.splitB sep 0 (Lib.countB s sep) s).map Value.string) (by simp [hlen]) (Nat.le_refl _) (fun _ => rfl) (by simp) (fun i x cv h2 h3 => ?_) fun i cv h2 => ?_
    · simp only [List.getElem?_map, Option.map_eq_some_iff] at h2 h3
      obtain ⟨u, h2, rfl⟩ := h2
      obtain ⟨u', h3, rfl⟩ := h3
      rw [h2] at h3; cases h3; exact .sc _
    · have h2' := h2
      simp only [List.getElem?_map, Option.map_eq_some_iff] at h2'
      obtain ⟨u, h3, rfl⟩ := h2'
      refine ⟨⟨.inl rfl, fun j v hj => ?_⟩, fun j v hj => ?_⟩
      · cases j with
        | zero => simp [cellsL] at hj; subst hj; rfl
        | succ j => simp [cellsL] at hj
      · cases j with
        | zero =>
          simp [cellsL] at hj; subst hj
          refine ⟨.inr ⟨Nat.le_refl _, by simp⟩, ?_⟩
          rw [World.cell?_alloc_new]
          simpa [width] using h2
        | succ j => simp [cellsL] at hj

def ItoasP (P : Program) (f : Nat) : Prop := Entered P f ∧ ∀ (i : Nat) (w : World), i < 100 → Calls P f #[.int .i64 i] w fun e w' => e = .returned (.string ⟨(Lib.decDigits i).toArray⟩) ∧ w' = w
def itoaQ (args : List PV) : Option PV :=
  match args with
  | [.sc (.int .i64 (.ofNat n))] => bif Nat.blt n 100 then some (.sc (strOf (Lib.decDigits n))) else none
  | _ => none
theorem itoa_ok {P : Program} {f : Nat} (hf : ItoasP P f) : PureOK P fun g args => if g = f then itoaQ args else none := by
  intro g args r hr X w K vs hX hk hs hx
  simp only at hr
  split at hr
  case isFalse => cases hr
  rename_i hg; subst hg
  unfold itoaQ at hr
  split at hr
  case h_2 => cases hr
  rename_i n
  cases hlt : Nat.blt n 100 <;> rw [hlt] at hr <;> simp only [cond_true, cond_false, Option.some.injEq, reduceCtorEq] at hr
  subst hr
  simp only [List.length_cons, List.length_nil] at hs
  obtain ⟨v0, rfl⟩ : ∃ v0, vs = #[v0] := ⟨vs[0], one_array hs⟩
  cases hx 0 _ v0 rfl rfl
  refine .inl ⟨hf.1, (hf.2 n w (Nat.le_of_ble_eq_true hlt)).mono fun e w' ⟨he, hw⟩ => ⟨_, he, ?_, .sc _⟩⟩
  subst hw; exact ext_same (Below.refl _ _)

def AtoisP (P : Program) (f : Nat) : Prop := Entered P f ∧ ∃ ty : TypeId, ∀ (s : ByteArray) (n : Int) (w : World), s.size ≤ 18 → Lib.atoi s.data.toList = some n →
  Calls P f #[.string s] w fun e w' => e = .returned (.tuple #[.int .i64 n, .nilIface]) ∧ ∃ t, w' = Lib.bytesWorld w ty t
def atoiQ (args : List PV) : Option PV :=
  match args with
  | [.sc (.string s)] => bif Nat.ble s.size 18 then (match Lib.atoi s.data.toList with | some n => some (.tup [.sc (.int .i64 n), .sc .nilIface]) | none => none) else none
  | _ => none
theorem atoi_ok {P : Program} {f : Nat} (hf : AtoisP P f) : PureOK P fun g args => if g = f then atoiQ args else none := by
  intro g args r hr X w K vs hX hk hs hx
  simp only at hr
  split at hr
  case isFalse => cases hr
  rename_i hg; subst hg
  unfold atoiQ at hr
  split at hr
  case h_2 => cases hr
  rename_i s
  cases hlt : Nat.ble s.size 18 <;> rw [hlt] at hr <;> simp only [cond_true, cond_false, reduceCtorEq] at hr
  split at hr
  case h_2 => cases hr
  rename_i n hn
  simp only [Option.some.injEq] at hr; subst hr
  simp only [List.length_cons, List.length_nil] at hs
  obtain ⟨v0, rfl⟩ : ∃ v0, vs = #[v0] := ⟨vs[0], one_array hs⟩
  cases hx 0 _ v0 rfl rfl
  obtain ⟨hent, ty, hcall⟩ := hf
  refine .inl ⟨hent, (hcall s n w (Nat.le_of_ble_eq_true hlt) hn).mono fun e w' ⟨he, t, hw⟩ => ⟨_, he, ?_, tup_scs [_, _]⟩⟩
  subst hw; exact ext_same (Lib.bytesWorld_below w ty t)

/-- strings, as data -/
def strs? : List PV → Option (List ByteArray)
  | [] => some []
  | .sc (.string s) :: r => (strs? r).map (s :: ·)
  | _ => none
theorem strs_some {xs : List PV} {ss : List ByteArray} (h : strs? xs = some ss) : xs = ss.map fun s => .sc (.string s) := by
  induction xs generalizing ss with
  | nil => simp [strs?] at h; subst h; rfl
  | cons x r ih =>
    unfold strs? at h
    split at h
    · rename_i h'; cases h'
    · rename_i s r' h'
      cases h'
      simp only [Option.map_eq_some_iff] at h
      obtain ⟨t, h, rfl⟩ := h
      rw [ih h]; rfl
    · cases h
def JoinsP (P : Program) (f : Nat) : Prop := Entered P f ∧ (∀ (a : Option Addr) (c : Nat) (sep : ByteArray) (w : World), Calls P f #[.slice a 0 c, .string sep] w fun e w' => e = .returned (.string ⟨#[]⟩) ∧ w' = w) ∧
  ∀ (bk o c : Nat) (xs : List ByteArray) (sep : ByteArray) (w : World), (∀ (j : Nat) x, xs[j]? = some x → w.cell? ⟨bk, o + j, none⟩ = some (.string x)) → bk < w.heap.size → xs.length ≤ 140737488355328 → xs.length ≤ c →
    (Lib.join (xs.map (·.data.toList)) sep.data.toList).length ≤ 140737488355328 →
    Calls P f #[.slice (some ⟨bk, o, none⟩) xs.length c, .string sep] w fun e w' => e = .returned (.string ⟨(Lib.join (xs.map (·.data.toList)) sep.data.toList).toArray⟩) ∧ Below w.heap.size w w'
def joinQ (args : List PV) : Option PV :=
  match args with
  | [.list 0 _ (x :: xs), .sc (.string sep)] => match strs? (x :: xs) with
    | some ss => bif Nat.ble ss.length 140737488355328 && Nat.ble (Lib.join (ss.map (·.data.toList)) sep.data.toList).length 140737488355328 then some (.sc (strOf (Lib.join (ss.map (·.data.toList)) sep.data.toList))) else none
    | none => none
  | [.sc (.slice none 0 0), .sc (.string _)] => some (.sc (strOf []))
  | _ => none
theorem join_ok {P : Program} {f : Nat} (hf : JoinsP P f) : PureOK P fun g args => if g = f then joinQ args else none := by
  intro g args r hr X w K vs hX hk hs hx
  simp only at hr
  split at hr
  case isFalse => cases hr
  rename_i hg; subst hg
  obtain ⟨hent, hnone, hcall⟩ := hf
  unfold joinQ at hr
  split at hr
  · rename_i cl x xs sep
    split at hr
    case h_2 => cases hr
    rename_i ss hss
    cases hlt : (Nat.ble ss.length 140737488355328 && Nat.ble (Lib.join (ss.map (·.data.toList)) sep.data.toList).length 140737488355328) <;> rw [hlt] at hr <;> simp only [cond_true, cond_false, Option.some.injEq, reduceCtorEq] at hr
    subst hr
    simp only [Bool.and_eq_true] at hlt
    obtain ⟨v0, v1, rfl⟩ := two_array hs
    have hl := hx 0 _ v0 rfl rfl
    cases hx 1 _ v1 rfl rfl
    have e := strs_some hss
    have elen : (x :: xs).length = ss.length := by rw [e]; simp
    cases hl with
    | list cvs hl hc hcl hs' hx' hr' =>
      rename_i b off len cap
      have hcell : ∀ (j : Nat) s, ss[j]? = some s → w.cell? ⟨b, off + j, none⟩ = some (.string s) ∧ K b (off + j) := fun j s hj => by
        have h1 : (x :: xs)[j]? = some (.sc (.string s)) := by rw [e]; simp [hj]
        have hjl : j < cvs.length := by
          rw [hs', elen]
          rcases Nat.lt_or_ge j ss.length with h' | h'
          · exact h'
          · simp [List.getElem?_eq_none h'] at hj
        have h2 := List.getElem?_eq_getElem hjl
        have h3 := hx' j _ _ h1 h2
        have h4 := (hr' j _ h2).2 0 (cvs[j]) (by simp [cellsL])
        generalize cvs[j] = cv at h3 h4
        cases h3
        simp [width] at h4
        exact ⟨h4.2, h4.1⟩
      have hpos : 0 < ss.length := by rw [← elen]; simp
      have hb : b < w.heap.size := hk b _ (hcell 0 ss[0] (List.getElem?_eq_getElem hpos)).2
      subst hl
      rw [elen] at hc ⊢
      refine .inl ⟨hent, (hcall b off cap ss sep w (fun j s hj => (hcell j s hj).1) hb (Nat.le_of_ble_eq_true hlt.1) hc (Nat.le_of_ble_eq_true hlt.2)).mono fun e w' ⟨he, hw⟩ => ⟨_, he, ext_same hw, .sc _⟩⟩
  · simp only [Option.some.injEq] at hr; subst hr
    obtain ⟨v0, v1, rfl⟩ := two_array hs
    cases hx 0 _ v0 rfl rfl
    cases hx 1 _ v1 rfl rfl
    refine .inl ⟨hent, (hnone none 0 _ w).mono fun e w' ⟨he, hw⟩ => ⟨_, he, ?_, .sc _⟩⟩
    subst hw; exact ext_same (Below.refl _ _)
  · cases hr
end Go.Lite

namespace Go.Lite
open Go Go.Proofs
open Go.RowKit (Below)
/-! # strings.TrimFunc, told of one function -/
def digN (x : Nat) : Bool := decide (48 ≤ x) && decide (x ≤ 57)
def trimQ (g : FuncId) (p : Nat → Bool) (args : List PV) : Option PV :=
  match args with
  | [.sc (.string s), .clo f [] []] => bif Nat.beq f g && Nat.ble s.size 9223372036854775807 then some (.sc (.string (Lib.trimF p s))) else none
  | _ => none
def trimQ83 : List PV → Option PV := trimQ 83 digN
def TrimsP (P : Program) (f g : FuncId) (p : Nat → Bool) : Prop := Entered P f ∧ ∀ (s : ByteArray) (X : Nat) (w : World), s.size ≤ 9223372036854775807 → Gl X w →
  Calls P f #[.string s, .func (.func g) #[] #[]] w fun e w' => e = .returned (.string (Lib.trimF p s)) ∧ Below w.heap.size w w'
theorem trim_ok {P : Program} {f g : FuncId} {p : Nat → Bool} (hf : TrimsP P f g p) : PureOK P fun k args => if k = f then trimQ g p args else none := by
  intro k args r hr X w K vs hX hk hs hx
  simp only at hr
  split at hr
  case isFalse => cases hr
  rename_i hg; subst hg
  unfold trimQ at hr
  split at hr
  case h_2 => cases hr
  rename_i s g'
  cases hlt : (Nat.beq g' g && Nat.ble s.size 9223372036854775807) <;> rw [hlt] at hr <;> simp only [cond_true, cond_false, Option.some.injEq, reduceCtorEq] at hr
  subst hr
  simp only [Bool.and_eq_true] at hlt
  have hgg : g' = g := Nat.eq_of_beq_eq_true hlt.1
  subst hgg
  obtain ⟨v0, v1, rfl⟩ := two_array hs
  cases hx 0 _ v0 rfl rfl
  have h1 := hx 1 _ v1 rfl rfl
  cases h1 with
  | clo ha hb hx1 hy1 =>
    rename_i va vb
    have ea : va = #[] := Array.eq_empty_of_size_eq_zero ha
    have eb : vb = #[] := Array.eq_empty_of_size_eq_zero hb
    subst ea; subst eb
    refine .inl ⟨hf.1, (hf.2 s X w (Nat.le_of_ble_eq_true hlt.2) hX.2).mono fun e w' ⟨he, hw⟩ => ⟨_, he, ext_same hw, .sc _⟩⟩
end Go.Lite

namespace Go.Lite
open Go Go.Proofs
open Go.RowKit (Below)
/-! # strings.Trim, strings.Contains, strconv.FormatInt (below 100, to ten) -/
def ContainsP (P : Program) (f b : Nat) : Prop := Entered P f ∧ ∀ (s sep : ByteArray) (m : Int) (w : World), s.size < 4294967281 → w.cell? ⟨b, 0, none⟩ = some (.int .i64 m) →
  Calls P f #[.string s, .string sep] w fun e w' => e = .returned (.bool (Lib.contains s.data.toList sep.data.toList)) ∧ w' = w
def containsQ (args : List PV) : Option PV :=
  match args with
  | [.sc (.string s), .sc (.string c)] => bif Nat.blt s.size 4294967281 then some (.sc (.bool (Lib.contains s.data.toList c.data.toList))) else none
  | _ => none
theorem contains_ok {P : Program} {f b : Nat} (hf : ContainsP P f b) (hb : b ∈ globInts) : PureOK P fun g args => if g = f then containsQ args else none := by
  intro g args r hr X w K vs hX hk hs hx
  simp only at hr
  split at hr
  case isFalse => cases hr
  rename_i hg; subst hg
  unfold containsQ at hr
  split at hr
  case h_2 => cases hr
  rename_i s sep
  cases hlt : Nat.blt s.size 4294967281 <;> rw [hlt] at hr <;> simp only [cond_true, cond_false, Option.some.injEq, reduceCtorEq] at hr
  subst hr
  obtain ⟨v0, v1, rfl⟩ := two_array hs
  cases hx 0 _ v0 rfl rfl
  cases hx 1 _ v1 rfl rfl
  obtain ⟨_, n, hn⟩ := hX.2.2 b hb
  refine .inl ⟨hf.1, (hf.2 s sep n w (Nat.le_of_ble_eq_true hlt) hn).mono fun e w' ⟨he, hw⟩ => ⟨_, he, ?_, .sc _⟩⟩
  subst hw; exact ext_same (Below.refl _ _)

def TrimSP (P : Program) (f : Nat) : Prop := Entered P f ∧ ∀ (s c : ByteArray) (w : World), s.size ≤ 9223372036854775807 → c.size < 4294967281 → c.data.toList.all (fun b => Nat.blt b.toNat 128) = true →
  Calls P f #[.string s, .string c] w fun e w' => e = .returned (.string ⟨(Lib.trimS s.data.toList c.data.toList).toArray⟩) ∧ Below w.heap.size w w'
def trimSQ (args : List PV) : Option PV :=
  match args with
  | [.sc (.string s), .sc (.string c)] => bif Nat.blt s.size 4294967281 && (Nat.blt c.size 4294967281 && c.data.toList.all (fun b => Nat.blt b.toNat 128)) then some (.sc (strOf (Lib.trimS s.data.toList c.data.toList))) else none
  | _ => none
theorem trimS_ok {P : Program} {f : Nat} (hf : TrimSP P f) : PureOK P fun g args => if g = f then trimSQ args else none := by
  intro g args r hr X w K vs hX hk hs hx
  simp only at hr
  split at hr
  case isFalse => cases hr
  rename_i hg; subst hg
  unfold trimSQ at hr
  split at hr
  case h_2 => cases hr
  rename_i s c
  cases hlt : (Nat.blt s.size 4294967281 && (Nat.blt c.size 4294967281 && c.data.toList.all (fun b => Nat.blt b.toNat 128))) <;> rw [hlt] at hr <;> simp only [cond_true, cond_false, Option.some.injEq, reduceCtorEq] at hr
  subst hr
  simp only [Bool.and_eq_true] at hlt
  obtain ⟨v0, v1, rfl⟩ := two_array hs
  cases hx 0 _ v0 rfl rfl
  cases hx 1 _ v1 rfl rfl
  have h1 : s.size < 4294967281 := Nat.le_of_ble_eq_true hlt.1
  refine .inl ⟨hf.1, (hf.2 s c w (by omega) (Nat.le_of_ble_eq_true hlt.2.1) hlt.2.2).mono fun e w' ⟨he, hw⟩ => ⟨_, he, ext_same hw, .sc _⟩⟩

def FmtsP (P : Program) (f : Nat) : Prop := Entered P f ∧ ∀ (i : Nat) (w : World), i < 100 → Calls P f #[.int .i64 i, .int .i64 10] w fun e w' => e = .returned (.string ⟨(Lib.decDigits i).toArray⟩) ∧ w' = w
def fmtQ (args : List PV) : Option PV :=
  match args with
  | [.sc (.int .i64 (.ofNat n)), .sc (.int .i64 b)] => bif Nat.blt n 100 && decide (b = 10) then some (.sc (strOf (Lib.decDigits n))) else none
  | _ => none
theorem fmt_ok {P : Program} {f : Nat} (hf : FmtsP P f) : PureOK P fun g args => if g = f then fmtQ args else none := by
  intro g args r hr X w K vs hX hk hs hx
  simp only at hr
  split at hr
  case isFalse => cases hr
  rename_i hg; subst hg
  unfold fmtQ at hr
  split at hr
  case h_2 => cases hr
  rename_i n b
  cases hlt : (Nat.blt n 100 && decide (b = 10)) <;> rw [hlt] at hr <;> simp only [cond_true, cond_false, Option.some.injEq, reduceCtorEq] at hr
  subst hr
  simp only [Bool.and_eq_true, decide_eq_true_eq] at hlt
  obtain ⟨h1, rfl⟩ := hlt
  obtain ⟨v0, v1, rfl⟩ := two_array hs
  cases hx 0 _ v0 rfl rfl
  cases hx 1 _ v1 rfl rfl
  refine .inl ⟨hf.1, (hf.2 n w (Nat.le_of_ble_eq_true h1)).mono fun e w' ⟨he, hw⟩ => ⟨_, he, ?_, .sc _⟩⟩
  subst hw; exact ext_same (Below.refl _ _)
end Go.Lite

namespace Go.Lite
open Go Go.Proofs
set_option maxRecDepth 1000000
set_option linter.unusedVariables false
noncomputable section
def ownT : Tr (List (Nat × Nat)) := (.node 37 [(65, 781)] (.node 23 [(108, 0)] (.node 5 [(7, 3)] .nil .nil) (.node 31 [(5, 0)] .nil .nil)) (.node 80 [(4, 3)] (.node 45 [(3, 0)] .nil .nil) .nil))
def liveT : Tr (List (Nat × List Nat)) := (.node 54 [(2, [0, 2, 4])] (.node 30 [(15, [4, 12, 13, 17, 18, 19]), (6, [4, 5, 17, 18, 19])] (.node 15 [(2, [0, 7])] (.node 5 [(15, [7, 10, 11, 12, 13]), (5, [0, 1, 6, 7, 8])] (.node 4 [(12, [0, 1, 2, 7, 8, 9, 10, 11]), (3, [0, 1, 2, 7, 8, 9])] (.node 3 [(9, [119, 120, 121]), (2, [89, 90, 91])] .nil .nil) .nil) (.node 11 [(4, [0, 1, 5])] (.node 8 [(13, [8, 11, 12, 49, 50, 51])] .nil .nil) .nil)) (.node 25 [(16, [0, 9, 47, 48, 49]), (4, [0, 1, 5, 6, 14])] (.node 17 [(9, [0, 4, 5, 9]), (3, [0, 4, 5, 9])] (.node 16 [(5, [6, 7, 8, 9, 32, 33, 34])] .nil .nil) .nil) (.node 27 [(2, [0, 1, 2, 6, 7])] .nil .nil))) (.node 46 [(4, [0, 1, 12, 13])] (.node 41 [(22, [1, 8, 63, 64, 65]), (12, [0, 1, 5, 39, 40, 41])] (.node 37 [(11, [0, 1, 2, 3, 9, 10])] (.node 32 [(4, [2, 3, 5])] .nil .nil) .nil) (.node 45 [(3, [3, 6, 7, 8])] (.node 42 [(6, [0, 3, 4, 5])] .nil .nil) .nil)) (.node 52 [(1, [0, 1])] (.node 51 [(15, [0, 1, 5, 6, 7, 8, 9, 10])] (.node 47 [(4, [0, 1, 12, 13])] .nil .nil) .nil) (.node 53 [(1, [0, 1])] .nil .nil)))) (.node 91 [(10, [0, 4, 5, 6])] (.node 61 [(6, [0, 1, 6, 7])] (.node 57 [(1, [0, 1])] (.node 56 [(1, [0, 1])] (.node 55 [(1, [0, 1])] .nil .nil) .nil) (.node 59 [(10, [5, 6, 47, 48, 49])] (.node 58 [(1, [0, 1])] .nil .nil) .nil)) (.node 80 [(3, [4, 14, 15, 16])] (.node 71 [(2, [0, 1, 7, 8])] (.node 62 [(6, [0, 1, 5])] .nil .nil) .nil) (.node 87 [(11, [0, 1, 5, 6, 7, 8, 10]), (5, [0, 1, 5, 6, 7, 8, 9])] .nil .nil))) (.node 112 [(38, [175]), (29, [0, 7, 8, 9, 14, 15, 16]), (25, [0, 7, 8, 9, 14, 15]), (12, [0, 7, 8, 9, 12]), (5, [0, 7, 8, 9])] (.node 102 [(11, [0, 1, 3, 4, 10, 11, 12, 13, 14, 15, 16]), (18, [0, 1, 3, 4, 10, 11, 12, 13, 17])] (.node 101 [(1, [0, 1, 4])] (.node 97 [(2, [2, 4])] .nil .nil) .nil) (.node 110 [(8, [4, 6, 7, 8]), (3, [0, 4, 5])] (.node 106 [(2, [0, 1, 7, 8])] .nil .nil) .nil)) (.node 125 [(2, [1, 2, 10])] (.node 124 [(2, [0, 1, 2, 7])] (.node 114 [(36, [1, 8, 9, 10, 11, 12, 13, 99, 100, 101])] .nil .nil) .nil) (.node 129 [(10, [0, 3, 4, 5])] .nil .nil)))))
def shutT : Tr (List (Nat × List Nat)) := (.node 37 [(18, [9])] .nil .nil)
def sharedT : Tr Bool := (.node 75 true (.node 68 true (.node 49 true (.node 27 true .nil .nil) .nil) (.node 74 true (.node 73 true .nil .nil) .nil)) (.node 78 true (.node 77 true (.node 76 true .nil .nil) .nil) (.node 81 true (.node 79 true .nil .nil) .nil)))
def methT : Tr (Nat × List Bool) := .nil
def ownFT : Tr OwnSp := .nil
def inlT : Tr Bool := .nil
def joinTab : Tr (List (Nat × Join)) := .nil
def h0 : Hints := { own := fun f t => (ownT.get? f).bind fun l => pairFind l t, live := fun f i => ((liveT.get? f).bind fun l => pairFind l i).getD [], join := fun f i => (joinTab.get? f).bind fun l => pairFind l i, shared := fun f => (sharedT.get? f).getD false, stil := fun f i => ((shutT.get? f).bind fun l => pairFind l i).getD [], meth := fun f => methT.get? f, inl := fun f => (inlT.get? f).getD false, primS := fun f => none, primM := fun g => none, ownF := fun f => ownFT.get? f, primO := fun g => none }
def hh : Hints := { h0 with prim := fun f => bif Nat.beq f 20 then some (cutQ) else bif Nat.beq f 22 then some (splitQ) else bif Nat.beq f 36 then some (atoiQ) else bif Nat.beq f 69 then some (itoaQ) else bif Nat.beq f 41 then some (joinQ) else bif Nat.beq f 35 then some (trimSQ) else bif Nat.beq f 48 then some (containsQ) else bif Nat.beq f 39 then some (fmtQ) else bif Nat.beq f 82 then some (trimQ83) else none }

end
end Go.Lite

namespace Go.Proofs
open Go.Shelf
def Tryz.lays156_ren : Go.Shelf.Ren := ⟨fun | 156 => 41 | 165 => 65 | 166 => 66 | 169 => 67 | 240 => 103 | 241 => 104 | 276 => 122 | 277 => 123 | n => n, fun | 31 => 35 | 9 => 9 | 3 => 3 | 4 => 4 | 0 => 0 | 20 => 20 | 72 => 120 | 76 => 90 | 70 => 117 | 37 => 118 | 75 => 89 | 127 => 150 | 164 => 167 | 5 => 5 | 80 => 122 | n => n, fun | n => n⟩
theorem Tryz.lays156 : Go.Proofs.Lays.n156 Tryz.prog Tryz.lays156_ren := {
  mixed := by kernel_rfl
  f156 := Tryz.func41.trans (congrArg some (by kernel_rfl))
  f165 := Tryz.func65.trans (congrArg some (by kernel_rfl))
  f166 := Tryz.func66.trans (congrArg some (by kernel_rfl))
  f169 := Tryz.func67.trans (congrArg some (by kernel_rfl))
  f240 := Tryz.func103.trans (congrArg some (by kernel_rfl))
  f241 := Tryz.func104.trans (congrArg some (by kernel_rfl))
  f276 := Tryz.func122.trans (congrArg some (by kernel_rfl))
  f277 := Tryz.func123.trans (congrArg some (by kernel_rfl))
  t0 := Tryz.underlying0
  a0 := Tryz.isAgg0
  z0 := Tryz.sizeOf0
  v0 := Tryz.zeroValue0
  t3 := Tryz.underlying3
  a3 := Tryz.isAgg3
  z3 := Tryz.sizeOf3
  v3 := Tryz.zeroValue3
  t4 := Tryz.underlying4
  a4 := Tryz.isAgg4
  z4 := Tryz.sizeOf4
  v4 := Tryz.zeroValue4
  t9 := Tryz.underlying9
  a9 := Tryz.isAgg9
  z9 := Tryz.sizeOf9
  v9 := Tryz.zeroValue9
  t20 := Tryz.underlying20
  a20 := Tryz.isAgg20
  z20 := Tryz.sizeOf20
  v20 := Tryz.zeroValue20
  t31 := Tryz.underlying35
  a31 := Tryz.isAgg35
  z31 := Tryz.sizeOf35
  v31 := Tryz.zeroValue35
  t37 := Tryz.underlying118
  a37 := Tryz.isAgg118
  z37 := Tryz.sizeOf118
  v37 := Tryz.zeroValue118
  t70 := Tryz.underlying117
  a70 := Tryz.isAgg117
  z70 := Tryz.sizeOf117
  v70 := Tryz.zeroValue117
  t72 := Tryz.underlying120
  a72 := Tryz.isAgg120
  z72 := Tryz.sizeOf120
  v72 := Tryz.zeroValue120
  t75 := Tryz.underlying89
  a75 := Tryz.isAgg89
  z75 := Tryz.sizeOf89
  v75 := Tryz.zeroValue89
  t76 := Tryz.underlying90
  a76 := Tryz.isAgg90
  z76 := Tryz.sizeOf90
  v76 := Tryz.zeroValue90
  t127 := Tryz.underlying150
  a127 := Tryz.isAgg150
  z127 := Tryz.sizeOf150
  v127 := Tryz.zeroValue150
  t164 := Tryz.underlying167
  a164 := Tryz.isAgg167
  z164 := Tryz.sizeOf167
  v164 := Tryz.zeroValue167 }
theorem Tryz.Builder_Extra_156 : Builder.Extra Tryz.prog Tryz.lays156_ren := {
  sizeBuilder := by kernel_rfl
  liesBuilder := by kernel_rfl
  t5 := Tryz.underlying5
  a5 := Tryz.isAgg5
  z5 := Tryz.sizeOf5
  v5 := Tryz.zeroValue5
  infoByte := by kernel_rfl
  cellsByte := by kernel_rfl
  sizeByte := by kernel_rfl
  neB5 := by decide }
open Go.RowKit in
/-- No element: the empty string; the world is as it was. (Whatever the slice's address and capacity: a nil slice too.) (LAID: no walk: one application.) -/
theorem Tryz.strings_Join_none (a : Option Addr) (c : Nat) (sep : ByteArray) (w : World) :
    Calls Tryz.prog 41 #[.slice a 0 c, .string sep] w fun e w' => e = .returned (.string ⟨#[]⟩) ∧ w' = w := Any.strings_Join_none Tryz.lays156 Tryz.Builder_Extra_156 a c sep w
open Go.RowKit in
/-- strings.Join: "Join concatenates the elements of its first argument to create a single string. The separator string sep is placed between elements in the resulting string.": HOWEVER MANY ELEMENTS. Below the heap's end the world is as it was. (LAID: no walk: one application.) -/
theorem Tryz.strings_Join (bk o c : Nat) (xs : List ByteArray) (sep : ByteArray) (w : World) (hcells : ∀ (j : Nat) x, xs[j]? = some x → w.cell? ⟨bk, o + j, none⟩ = some (.string x)) (hbk : bk < w.heap.size) (hN : xs.length ≤ 140737488355328) (hcap : xs.length ≤ c) (hlen : (Lib.join (xs.map (·.data.toList)) sep.data.toList).length ≤ 140737488355328) :
    Calls Tryz.prog 41 #[.slice (some ⟨bk, o, none⟩) xs.length c, .string sep] w fun e w' => e = .returned (.string ⟨(Lib.join (xs.map (·.data.toList)) sep.data.toList).toArray⟩) ∧ Below w.heap.size w w' := Any.strings_Join Tryz.lays156 Tryz.Builder_Extra_156 bk o c xs sep w hcells hbk hN hcap hlen
def Tryz.lays160_ren : Go.Shelf.Ren := ⟨fun | 160 => 35 | 232 => 53 | 231 => 52 | 227 => 54 | 234 => 56 | 233 => 55 | 236 => 58 | 235 => 57 | 228 => 88 | 271 => 91 | 151 => 90 | 197 => 89 | 120 => 113 | 152 => 112 | 260 => 111 | 137 => 126 | 119 => 127 | 224 => 86 | 225 => 85 | 217 => 84 | 266 => 109 | n => n, fun | 9 => 9 | 4 => 4 | 3 => 3 | 5 => 5 | 117 => 111 | 116 => 110 | 0 => 0 | 124 => 114 | 21 => 21 | 105 => 135 | 46 => 133 | 119 => 171 | 139 => 174 | 138 => 173 | n => n, fun | 3 => 5 | 4 => 6 | n => n⟩
theorem Tryz.lays160 : Go.Proofs.Lays.n160 Tryz.prog Tryz.lays160_ren := {
  mixed := by kernel_rfl
  f119 := Tryz.func127.trans (congrArg some (by kernel_rfl))
  f120 := Tryz.func113.trans (congrArg some (by kernel_rfl))
  f137 := Tryz.func126.trans (congrArg some (by kernel_rfl))
  f151 := Tryz.func90.trans (congrArg some (by kernel_rfl))
  f152 := Tryz.func112.trans (congrArg some (by kernel_rfl))
  f160 := Tryz.func35.trans (congrArg some (by kernel_rfl))
  f197 := Tryz.func89.trans (congrArg some (by kernel_rfl))
  f217 := Tryz.func84.trans (congrArg some (by kernel_rfl))
  f224 := Tryz.func86.trans (congrArg some (by kernel_rfl))
  f225 := Tryz.func85.trans (congrArg some (by kernel_rfl))
  f227 := Tryz.func54.trans (congrArg some (by kernel_rfl))
  f228 := Tryz.func88.trans (congrArg some (by kernel_rfl))
  f231 := Tryz.func52.trans (congrArg some (by kernel_rfl))
  f232 := Tryz.func53.trans (congrArg some (by kernel_rfl))
  f233 := Tryz.func55.trans (congrArg some (by kernel_rfl))
  f234 := Tryz.func56.trans (congrArg some (by kernel_rfl))
  f235 := Tryz.func57.trans (congrArg some (by kernel_rfl))
  f236 := Tryz.func58.trans (congrArg some (by kernel_rfl))
  f260 := Tryz.func111.trans (congrArg some (by kernel_rfl))
  f266 := Tryz.func109.trans (congrArg some (by kernel_rfl))
  f271 := Tryz.func91.trans (congrArg some (by kernel_rfl))
  t0 := Tryz.underlying0
  a0 := Tryz.isAgg0
  z0 := Tryz.sizeOf0
  v0 := Tryz.zeroValue0
  t3 := Tryz.underlying3
  a3 := Tryz.isAgg3
  z3 := Tryz.sizeOf3
  v3 := Tryz.zeroValue3
  t4 := Tryz.underlying4
  a4 := Tryz.isAgg4
  z4 := Tryz.sizeOf4
  v4 := Tryz.zeroValue4
  t5 := Tryz.underlying5
  a5 := Tryz.isAgg5
  z5 := Tryz.sizeOf5
  v5 := Tryz.zeroValue5
  t9 := Tryz.underlying9
  a9 := Tryz.isAgg9
  z9 := Tryz.sizeOf9
  v9 := Tryz.zeroValue9
  t21 := Tryz.underlying21
  a21 := Tryz.isAgg21
  z21 := Tryz.sizeOf21
  v21 := Tryz.zeroValue21
  t46 := Tryz.underlying133
  a46 := Tryz.isAgg133
  z46 := Tryz.sizeOf133
  v46 := Tryz.zeroValue133
  t105 := Tryz.underlying135
  a105 := Tryz.isAgg135
  z105 := Tryz.sizeOf135
  v105 := Tryz.zeroValue135
  t116 := Tryz.underlying110
  a116 := Tryz.isAgg110
  z116 := Tryz.sizeOf110
  t117 := Tryz.underlying111
  a117 := Tryz.isAgg111
  z117 := Tryz.sizeOf111
  v117 := Tryz.zeroValue111
  t119 := Tryz.underlying171
  a119 := Tryz.isAgg171
  z119 := Tryz.sizeOf171
  t124 := Tryz.underlying114
  a124 := Tryz.isAgg114
  z124 := Tryz.sizeOf114
  v124 := Tryz.zeroValue114
  t138 := Tryz.underlying173
  a138 := Tryz.isAgg173
  z138 := Tryz.sizeOf173
  v138 := Tryz.zeroValue173
  t139 := Tryz.underlying174
  a139 := Tryz.isAgg174
  z139 := Tryz.sizeOf174
  v139 := Tryz.zeroValue174
  g3 := by kernel_rfl
  g4 := by kernel_rfl }
def Tryz.lays172_ren : Go.Shelf.Ren := ⟨fun | 172 => 36 | 244 => 59 | 245 => 60 | 247 => 92 | 279 => 93 | 280 => 94 | 281 => 95 | 282 => 96 | 287 => 114 | 316 => 115 | 171 => 69 | 205 => 116 | 321 => 128 | 322 => 129 | 243 => 105 | 246 => 64 | 283 => 99 | 284 => 100 | 285 => 101 | 286 => 102 | 129 => 118 | 317 => 117 | 318 => 119 | 319 => 120 | 320 => 121 | 337 => 70 | 338 => 130 | n => n, fun | 9 => 9 | 3 => 3 | 75 => 89 | 76 => 90 | 4 => 4 | 5 => 5 | 167 => 138 | 37 => 118 | 0 => 0 | 85 => 139 | 2 => 2 | 168 => 141 | 53 => 145 | 175 => 156 | 46 => 133 | 210 => 160 | 127 => 150 | 145 => 178 | 143 => 176 | 21 => 21 | 171 => 144 | 173 => 148 | 212 => 163 | 51 => 33 | 20 => 20 | 213 => 164 | 232 => 151 | 233 => 179 | 80 => 122 | n => n, fun | 15 => 2 | 16 => 3 | 17 => 4 | 18 => 1 | 19 => 7 | n => n⟩
theorem Tryz.lays172 : Go.Proofs.Lays.n172 Tryz.prog Tryz.lays172_ren := {
  mixed := by kernel_rfl
  f129 := Tryz.func118.trans (congrArg some (by kernel_rfl))
  f171 := Tryz.func69.trans (congrArg some (by kernel_rfl))
  f172 := Tryz.func36.trans (congrArg some (by kernel_rfl))
  f205 := Tryz.func116.trans (congrArg some (by kernel_rfl))
  f243 := Tryz.func105.trans (congrArg some (by kernel_rfl))
  f244 := Tryz.func59.trans (congrArg some (by kernel_rfl))
  f245 := Tryz.func60.trans (congrArg some (by kernel_rfl))
  f246 := Tryz.func64.trans (congrArg some (by kernel_rfl))
  f247 := Tryz.func92.trans (congrArg some (by kernel_rfl))
  f279 := Tryz.func93.trans (congrArg some (by kernel_rfl))
  f280 := Tryz.func94.trans (congrArg some (by kernel_rfl))
  f281 := Tryz.func95.trans (congrArg some (by kernel_rfl))
  f282 := Tryz.func96.trans (congrArg some (by kernel_rfl))
  f283 := Tryz.func99.trans (congrArg some (by kernel_rfl))
  f284 := Tryz.func100.trans (congrArg some (by kernel_rfl))
  f285 := Tryz.func101.trans (congrArg some (by kernel_rfl))
  f286 := Tryz.func102.trans (congrArg some (by kernel_rfl))
  f287 := Tryz.func114.trans (congrArg some (by kernel_rfl))
  f316 := Tryz.func115.trans (congrArg some (by kernel_rfl))
  f317 := Tryz.func117.trans (congrArg some (by kernel_rfl))
  f318 := Tryz.func119.trans (congrArg some (by kernel_rfl))
  f319 := Tryz.func120.trans (congrArg some (by kernel_rfl))
  f320 := Tryz.func121.trans (congrArg some (by kernel_rfl))
  f321 := Tryz.func128.trans (congrArg some (by kernel_rfl))
  f322 := Tryz.func129.trans (congrArg some (by kernel_rfl))
  f337 := Tryz.func70.trans (congrArg some (by kernel_rfl))
  f338 := Tryz.func130.trans (congrArg some (by kernel_rfl))
  t0 := Tryz.underlying0
  a0 := Tryz.isAgg0
  z0 := Tryz.sizeOf0
  v0 := Tryz.zeroValue0
  t2 := Tryz.underlying2
  a2 := Tryz.isAgg2
  z2 := Tryz.sizeOf2
  v2 := Tryz.zeroValue2
  t3 := Tryz.underlying3
  a3 := Tryz.isAgg3
  z3 := Tryz.sizeOf3
  v3 := Tryz.zeroValue3
  t4 := Tryz.underlying4
  a4 := Tryz.isAgg4
  z4 := Tryz.sizeOf4
  v4 := Tryz.zeroValue4
  t5 := Tryz.underlying5
  a5 := Tryz.isAgg5
  z5 := Tryz.sizeOf5
  v5 := Tryz.zeroValue5
  t9 := Tryz.underlying9
  a9 := Tryz.isAgg9
  z9 := Tryz.sizeOf9
  v9 := Tryz.zeroValue9
  t20 := Tryz.underlying20
  a20 := Tryz.isAgg20
  z20 := Tryz.sizeOf20
  v20 := Tryz.zeroValue20
  t21 := Tryz.underlying21
  a21 := Tryz.isAgg21
  z21 := Tryz.sizeOf21
  v21 := Tryz.zeroValue21
  t37 := Tryz.underlying118
  a37 := Tryz.isAgg118
  z37 := Tryz.sizeOf118
  v37 := Tryz.zeroValue118
  t46 := Tryz.underlying133
  a46 := Tryz.isAgg133
  z46 := Tryz.sizeOf133
  v46 := Tryz.zeroValue133
  t51 := Tryz.underlying33
  a51 := Tryz.isAgg33
  z51 := Tryz.sizeOf33
  v51 := Tryz.zeroValue33
  t53 := Tryz.underlying145
  a53 := Tryz.isAgg145
  z53 := Tryz.sizeOf145
  v53 := Tryz.zeroValue145
  t75 := Tryz.underlying89
  a75 := Tryz.isAgg89
  z75 := Tryz.sizeOf89
  v75 := Tryz.zeroValue89
  t76 := Tryz.underlying90
  a76 := Tryz.isAgg90
  z76 := Tryz.sizeOf90
  v76 := Tryz.zeroValue90
  t85 := Tryz.underlying139
  a85 := Tryz.isAgg139
  z85 := Tryz.sizeOf139
  v85 := Tryz.zeroValue139
  t127 := Tryz.underlying150
  a127 := Tryz.isAgg150
  z127 := Tryz.sizeOf150
  v127 := Tryz.zeroValue150
  t143 := Tryz.underlying176
  a143 := Tryz.isAgg176
  z143 := Tryz.sizeOf176
  v143 := Tryz.zeroValue176
  t145 := Tryz.underlying178
  a145 := Tryz.isAgg178
  z145 := Tryz.sizeOf178
  v145 := Tryz.zeroValue178
  t167 := Tryz.underlying138
  a167 := Tryz.isAgg138
  z167 := Tryz.sizeOf138
  v167 := Tryz.zeroValue138
  t168 := Tryz.underlying141
  a168 := Tryz.isAgg141
  z168 := Tryz.sizeOf141
  v168 := Tryz.zeroValue141
  t171 := Tryz.underlying144
  a171 := Tryz.isAgg144
  z171 := Tryz.sizeOf144
  v171 := Tryz.zeroValue144
  t173 := Tryz.underlying148
  a173 := Tryz.isAgg148
  z173 := Tryz.sizeOf148
  v173 := Tryz.zeroValue148
  t175 := Tryz.underlying156
  a175 := Tryz.isAgg156
  z175 := Tryz.sizeOf156
  v175 := Tryz.zeroValue156
  t210 := Tryz.underlying160
  a210 := Tryz.isAgg160
  z210 := Tryz.sizeOf160
  v210 := Tryz.zeroValue160
  t212 := Tryz.underlying163
  a212 := Tryz.isAgg163
  z212 := Tryz.sizeOf163
  v212 := Tryz.zeroValue163
  t213 := Tryz.underlying164
  a213 := Tryz.isAgg164
  z213 := Tryz.sizeOf164
  t232 := Tryz.underlying151
  a232 := Tryz.isAgg151
  z232 := Tryz.sizeOf151
  v232 := Tryz.zeroValue151
  t233 := Tryz.underlying179
  a233 := Tryz.isAgg179
  z233 := Tryz.sizeOf179
  v233 := Tryz.zeroValue179
  g15 := by kernel_rfl
  g16 := by kernel_rfl
  g17 := by kernel_rfl
  g18 := by kernel_rfl
  g19 := by kernel_rfl }
open Go.RowKit in
/-- strconv.Atoi: "Atoi is equivalent to ParseInt(s, 10, 0), converted to type int.": AT A DECIMAL NUMERAL OF AT MOST 18 BYTES: its value, and a nil error. The world behind the call: the one new row that the library's '[]byte(s)' lays. (LAID: no walk: one application.) -/
theorem Tryz.strconv_Atoi (s : ByteArray) (n : Int) (hl : s.size ≤ 18) (h : Lib.atoi s.data.toList = some n) (w : World) :
    Calls Tryz.prog 36 #[.string s] w fun e w' => e = .returned (.tuple #[.int .i64 n, .nilIface]) ∧ ∃ t, w' = Lib.bytesWorld w 5 t := Any.strconv_Atoi Tryz.lays172 s n hl h w
def Tryz.lays171_ren : Go.Shelf.Ren := ⟨fun | 171 => 69 | 243 => 105 | 246 => 64 | 283 => 99 | 284 => 100 | 285 => 101 | 286 => 102 | 129 => 118 | 317 => 117 | 318 => 119 | 319 => 120 | 320 => 121 | 337 => 70 | 338 => 130 | n => n, fun | 3 => 3 | 9 => 9 | 2 => 2 | 4 => 4 | 171 => 144 | 0 => 0 | 53 => 145 | 37 => 118 | 5 => 5 | 173 => 148 | 212 => 163 | 51 => 33 | 20 => 20 | 213 => 164 | 46 => 133 | 232 => 151 | 233 => 179 | n => n, fun | 17 => 4 | 18 => 1 | 19 => 7 | n => n⟩
theorem Tryz.lays171 : Go.Proofs.Lays.n171 Tryz.prog Tryz.lays171_ren := {
  mixed := by kernel_rfl
  f129 := Tryz.func118.trans (congrArg some (by kernel_rfl))
  f171 := Tryz.func69.trans (congrArg some (by kernel_rfl))
  f243 := Tryz.func105.trans (congrArg some (by kernel_rfl))
  f246 := Tryz.func64.trans (congrArg some (by kernel_rfl))
  f283 := Tryz.func99.trans (congrArg some (by kernel_rfl))
  f284 := Tryz.func100.trans (congrArg some (by kernel_rfl))
  f285 := Tryz.func101.trans (congrArg some (by kernel_rfl))
  f286 := Tryz.func102.trans (congrArg some (by kernel_rfl))
  f317 := Tryz.func117.trans (congrArg some (by kernel_rfl))
  f318 := Tryz.func119.trans (congrArg some (by kernel_rfl))
  f319 := Tryz.func120.trans (congrArg some (by kernel_rfl))
  f320 := Tryz.func121.trans (congrArg some (by kernel_rfl))
  f337 := Tryz.func70.trans (congrArg some (by kernel_rfl))
  f338 := Tryz.func130.trans (congrArg some (by kernel_rfl))
  t0 := Tryz.underlying0
  a0 := Tryz.isAgg0
  z0 := Tryz.sizeOf0
  v0 := Tryz.zeroValue0
  t2 := Tryz.underlying2
  a2 := Tryz.isAgg2
  z2 := Tryz.sizeOf2
  v2 := Tryz.zeroValue2
  t3 := Tryz.underlying3
  a3 := Tryz.isAgg3
  z3 := Tryz.sizeOf3
  v3 := Tryz.zeroValue3
  t4 := Tryz.underlying4
  a4 := Tryz.isAgg4
  z4 := Tryz.sizeOf4
  v4 := Tryz.zeroValue4
  t5 := Tryz.underlying5
  a5 := Tryz.isAgg5
  z5 := Tryz.sizeOf5
  v5 := Tryz.zeroValue5
  t9 := Tryz.underlying9
  a9 := Tryz.isAgg9
  z9 := Tryz.sizeOf9
  v9 := Tryz.zeroValue9
  t20 := Tryz.underlying20
  a20 := Tryz.isAgg20
  z20 := Tryz.sizeOf20
  v20 := Tryz.zeroValue20
  t37 := Tryz.underlying118
  a37 := Tryz.isAgg118
  z37 := Tryz.sizeOf118
  v37 := Tryz.zeroValue118
  t46 := Tryz.underlying133
  a46 := Tryz.isAgg133
  z46 := Tryz.sizeOf133
  v46 := Tryz.zeroValue133
  t51 := Tryz.underlying33
  a51 := Tryz.isAgg33
  z51 := Tryz.sizeOf33
  v51 := Tryz.zeroValue33
  t53 := Tryz.underlying145
  a53 := Tryz.isAgg145
  z53 := Tryz.sizeOf145
  v53 := Tryz.zeroValue145
  t171 := Tryz.underlying144
  a171 := Tryz.isAgg144
  z171 := Tryz.sizeOf144
  v171 := Tryz.zeroValue144
  t173 := Tryz.underlying148
  a173 := Tryz.isAgg148
  z173 := Tryz.sizeOf148
  v173 := Tryz.zeroValue148
  t212 := Tryz.underlying163
  a212 := Tryz.isAgg163
  z212 := Tryz.sizeOf163
  v212 := Tryz.zeroValue163
  t213 := Tryz.underlying164
  a213 := Tryz.isAgg164
  z213 := Tryz.sizeOf164
  t232 := Tryz.underlying151
  a232 := Tryz.isAgg151
  z232 := Tryz.sizeOf151
  v232 := Tryz.zeroValue151
  t233 := Tryz.underlying179
  a233 := Tryz.isAgg179
  z233 := Tryz.sizeOf179
  v233 := Tryz.zeroValue179
  g17 := by kernel_rfl
  g18 := by kernel_rfl
  g19 := by kernel_rfl }
open Go.RowKit Go.Sort Go.Lib in
/-- THE ROAD WITHOUT THE TABLE: 0 <= i < 100: NO PREMISE ON THE WORLD, AND THE WORLD IS AS IT WAS: a row that keeps its argument in that range need list no table ('laid = []'). (LAID: no walk: one application.) -/
theorem Tryz.strconv_Itoa_small (i : Nat) (hi : i < 100) (w : World) :
    Calls Tryz.prog 69 #[.int .i64 i] w fun e w' => e = .returned (.string ⟨(Lib.decDigits i).toArray⟩) ∧ w' = w := Any.strconv_Itoa_small Tryz.lays171 i hi w
def Tryz.lays173_ren : Go.Shelf.Ren := ⟨fun | 173 => 39 | 246 => 64 | 283 => 99 | 284 => 100 | 285 => 101 | 286 => 102 | 129 => 118 | 317 => 117 | 318 => 119 | 319 => 120 | 320 => 121 | 337 => 70 | 338 => 130 | n => n, fun | 2 => 2 | 3 => 3 | 9 => 9 | 4 => 4 | 171 => 144 | 0 => 0 | 53 => 145 | 37 => 118 | 5 => 5 | 173 => 148 | 212 => 163 | 51 => 33 | 20 => 20 | 213 => 164 | 46 => 133 | 232 => 151 | 233 => 179 | n => n, fun | 17 => 4 | 18 => 1 | 19 => 7 | n => n⟩
theorem Tryz.lays173 : Go.Proofs.Lays.n173 Tryz.prog Tryz.lays173_ren := {
  mixed := by kernel_rfl
  f129 := Tryz.func118.trans (congrArg some (by kernel_rfl))
  f173 := Tryz.func39.trans (congrArg some (by kernel_rfl))
  f246 := Tryz.func64.trans (congrArg some (by kernel_rfl))
  f283 := Tryz.func99.trans (congrArg some (by kernel_rfl))
  f284 := Tryz.func100.trans (congrArg some (by kernel_rfl))
  f285 := Tryz.func101.trans (congrArg some (by kernel_rfl))
  f286 := Tryz.func102.trans (congrArg some (by kernel_rfl))
  f317 := Tryz.func117.trans (congrArg some (by kernel_rfl))
  f318 := Tryz.func119.trans (congrArg some (by kernel_rfl))
  f319 := Tryz.func120.trans (congrArg some (by kernel_rfl))
  f320 := Tryz.func121.trans (congrArg some (by kernel_rfl))
  f337 := Tryz.func70.trans (congrArg some (by kernel_rfl))
  f338 := Tryz.func130.trans (congrArg some (by kernel_rfl))
  t0 := Tryz.underlying0
  a0 := Tryz.isAgg0
  z0 := Tryz.sizeOf0
  v0 := Tryz.zeroValue0
  t2 := Tryz.underlying2
  a2 := Tryz.isAgg2
  z2 := Tryz.sizeOf2
  v2 := Tryz.zeroValue2
  t3 := Tryz.underlying3
  a3 := Tryz.isAgg3
  z3 := Tryz.sizeOf3
  v3 := Tryz.zeroValue3
  t4 := Tryz.underlying4
  a4 := Tryz.isAgg4
  z4 := Tryz.sizeOf4
  v4 := Tryz.zeroValue4
  t5 := Tryz.underlying5
  a5 := Tryz.isAgg5
  z5 := Tryz.sizeOf5
  v5 := Tryz.zeroValue5
  t9 := Tryz.underlying9
  a9 := Tryz.isAgg9
  z9 := Tryz.sizeOf9
  v9 := Tryz.zeroValue9
  t20 := Tryz.underlying20
  a20 := Tryz.isAgg20
  z20 := Tryz.sizeOf20
  v20 := Tryz.zeroValue20
  t37 := Tryz.underlying118
  a37 := Tryz.isAgg118
  z37 := Tryz.sizeOf118
  v37 := Tryz.zeroValue118
  t46 := Tryz.underlying133
  a46 := Tryz.isAgg133
  z46 := Tryz.sizeOf133
  v46 := Tryz.zeroValue133
  t51 := Tryz.underlying33
  a51 := Tryz.isAgg33
  z51 := Tryz.sizeOf33
  v51 := Tryz.zeroValue33
  t53 := Tryz.underlying145
  a53 := Tryz.isAgg145
  z53 := Tryz.sizeOf145
  v53 := Tryz.zeroValue145
  t171 := Tryz.underlying144
  a171 := Tryz.isAgg144
  z171 := Tryz.sizeOf144
  v171 := Tryz.zeroValue144
  t173 := Tryz.underlying148
  a173 := Tryz.isAgg148
  z173 := Tryz.sizeOf148
  v173 := Tryz.zeroValue148
  t212 := Tryz.underlying163
  a212 := Tryz.isAgg163
  z212 := Tryz.sizeOf163
  v212 := Tryz.zeroValue163
  t213 := Tryz.underlying164
  a213 := Tryz.isAgg164
  z213 := Tryz.sizeOf164
  t232 := Tryz.underlying151
  a232 := Tryz.isAgg151
  z232 := Tryz.sizeOf151
  v232 := Tryz.zeroValue151
  t233 := Tryz.underlying179
  a233 := Tryz.isAgg179
  z233 := Tryz.sizeOf179
  v233 := Tryz.zeroValue179
  g17 := by kernel_rfl
  g18 := by kernel_rfl
  g19 := by kernel_rfl }
open Go.RowKit Go.Sort Go.Lib in
/-- THE ROAD WITHOUT THE TABLE: 0 <= i < 100. (LAID: no walk: one application.) -/
theorem Tryz.strconv_FormatInt_10_small (i : Nat) (hi : i < 100) (w : World) :
    Calls Tryz.prog 39 #[.int .i64 i, .int .i64 10] w fun e w' => e = .returned (.string ⟨(Lib.decDigits i).toArray⟩) ∧ w' = w := Any.strconv_FormatInt_10_small Tryz.lays173 i hi w
def Tryz.lays144_ren : Go.Shelf.Ren := ⟨fun | 144 => 48 | 143 => 63 | 219 => 51 | 217 => 84 | 225 => 85 | 224 => 86 | 267 => 87 | 266 => 109 | 314 => 110 | n => n, fun | 9 => 9 | 4 => 4 | 3 => 3 | 5 => 5 | 46 => 133 | 146 => 153 | 51 => 33 | n => n, fun | 1 => 0 | n => n⟩
theorem Tryz.lays144 : Go.Proofs.Lays.n144 Tryz.prog Tryz.lays144_ren := {
  mixed := by kernel_rfl
  f143 := Tryz.func63.trans (congrArg some (by kernel_rfl))
  f144 := Tryz.func48.trans (congrArg some (by kernel_rfl))
  f217 := Tryz.func84.trans (congrArg some (by kernel_rfl))
  f219 := Tryz.func51.trans (congrArg some (by kernel_rfl))
  f224 := Tryz.func86.trans (congrArg some (by kernel_rfl))
  f225 := Tryz.func85.trans (congrArg some (by kernel_rfl))
  f266 := Tryz.func109.trans (congrArg some (by kernel_rfl))
  f267 := Tryz.func87.trans (congrArg some (by kernel_rfl))
  f314 := Tryz.func110.trans (congrArg some (by kernel_rfl))
  t3 := Tryz.underlying3
  a3 := Tryz.isAgg3
  z3 := Tryz.sizeOf3
  v3 := Tryz.zeroValue3
  t4 := Tryz.underlying4
  a4 := Tryz.isAgg4
  z4 := Tryz.sizeOf4
  v4 := Tryz.zeroValue4
  t5 := Tryz.underlying5
  a5 := Tryz.isAgg5
  z5 := Tryz.sizeOf5
  v5 := Tryz.zeroValue5
  t9 := Tryz.underlying9
  a9 := Tryz.isAgg9
  z9 := Tryz.sizeOf9
  v9 := Tryz.zeroValue9
  t46 := Tryz.underlying133
  a46 := Tryz.isAgg133
  z46 := Tryz.sizeOf133
  v46 := Tryz.zeroValue133
  t51 := Tryz.underlying33
  a51 := Tryz.isAgg33
  z51 := Tryz.sizeOf33
  v51 := Tryz.zeroValue33
  t146 := Tryz.underlying153
  a146 := Tryz.isAgg153
  z146 := Tryz.sizeOf153
  v146 := Tryz.zeroValue153
  g1 := by kernel_rfl }
open Go.RowKit Go.Lib in
/-- strings.Contains: "Contains reports whether substr is within s.": IT RETURNS 'Lib.contains s substr'; the world is as it was. (LAID: no walk: one application.) -/
theorem Tryz.strings_Contains (s sub : ByteArray) (m : Int) (w : World) (hs : s.size < 4294967281) (hm : w.cell? ⟨0, 0, none⟩ = some (.int .i64 m)) :
    Calls Tryz.prog 48 #[.string s, .string sub] w fun e w' => e = .returned (.bool (Lib.contains s.data.toList sub.data.toList)) ∧ w' = w := Any.strings_Contains Tryz.lays144 s sub m w hs hm
def Tryz.lays145_ren : Go.Shelf.Ren := ⟨fun | 145 => 20 | 220 => 34 | 219 => 51 | 217 => 84 | 225 => 85 | 224 => 86 | 267 => 87 | 266 => 109 | 314 => 110 | n => n, fun | 9 => 9 | 4 => 4 | 59 => 68 | 3 => 3 | 5 => 5 | 46 => 133 | 146 => 153 | 51 => 33 | n => n, fun | 1 => 0 | n => n⟩
theorem Tryz.lays145 : Go.Proofs.Lays.n145 Tryz.prog Tryz.lays145_ren := {
  mixed := by kernel_rfl
  f145 := Tryz.func20.trans (congrArg some (by kernel_rfl))
  f217 := Tryz.func84.trans (congrArg some (by kernel_rfl))
  f219 := Tryz.func51.trans (congrArg some (by kernel_rfl))
  f220 := Tryz.func34.trans (congrArg some (by kernel_rfl))
  f224 := Tryz.func86.trans (congrArg some (by kernel_rfl))
  f225 := Tryz.func85.trans (congrArg some (by kernel_rfl))
  f266 := Tryz.func109.trans (congrArg some (by kernel_rfl))
  f267 := Tryz.func87.trans (congrArg some (by kernel_rfl))
  f314 := Tryz.func110.trans (congrArg some (by kernel_rfl))
  t3 := Tryz.underlying3
  a3 := Tryz.isAgg3
  z3 := Tryz.sizeOf3
  v3 := Tryz.zeroValue3
  t4 := Tryz.underlying4
  a4 := Tryz.isAgg4
  z4 := Tryz.sizeOf4
  v4 := Tryz.zeroValue4
  t5 := Tryz.underlying5
  a5 := Tryz.isAgg5
  z5 := Tryz.sizeOf5
  v5 := Tryz.zeroValue5
  t9 := Tryz.underlying9
  a9 := Tryz.isAgg9
  z9 := Tryz.sizeOf9
  v9 := Tryz.zeroValue9
  t46 := Tryz.underlying133
  a46 := Tryz.isAgg133
  z46 := Tryz.sizeOf133
  v46 := Tryz.zeroValue133
  t51 := Tryz.underlying33
  a51 := Tryz.isAgg33
  z51 := Tryz.sizeOf33
  v51 := Tryz.zeroValue33
  t59 := Tryz.underlying68
  a59 := Tryz.isAgg68
  z59 := Tryz.sizeOf68
  v59 := Tryz.zeroValue68
  t146 := Tryz.underlying153
  a146 := Tryz.isAgg153
  z146 := Tryz.sizeOf153
  v146 := Tryz.zeroValue153
  g1 := by kernel_rfl }
open Go.RowKit Go.Lib in
/-- strings.Cut: "Cut slices s around the first instance of sep, returning the text before and after sep. The found result reports whether sep appears in s. If sep does not appear in s, cut returns s, "", false.": IT RETURNS 'Lib.cut s sep'; the world is as it was but for the count of draws. (LAID: no walk: one application.) -/
theorem Tryz.strings_Cut (s sep : ByteArray) (m : Int) (w : World) (hs : s.size < 4294967281) (hm : w.cell? ⟨0, 0, none⟩ = some (.int .i64 m)) :
    Calls Tryz.prog 20 #[.string s, .string sep] w fun e w' => e = .returned (.tuple #[.string ⟨(Lib.cut s.data.toList sep.data.toList).1.toArray⟩, .string ⟨(Lib.cut s.data.toList sep.data.toList).2.1.toArray⟩, .bool (Lib.cut s.data.toList sep.data.toList).2.2]) ∧ ∃ n, w' = w.drewN n := Any.strings_Cut Tryz.lays145 s sep m w hs hm
def Tryz.lays237_ren : Go.Shelf.Ren := ⟨fun | 237 => 82 | 272 => 108 | 238 => 107 | 315 => 125 | 273 => 124 | 197 => 89 | 271 => 91 | 260 => 111 | 120 => 113 | n => n, fun | 9 => 9 | 40 => 76 | 4 => 4 | 3 => 3 | 105 => 135 | 21 => 21 | 0 => 0 | 5 => 5 | 119 => 171 | 46 => 133 | 139 => 174 | 138 => 173 | n => n, fun | 3 => 5 | 4 => 6 | n => n⟩
theorem Tryz.lays237 : Go.Proofs.Lays.n237 Tryz.prog Tryz.lays237_ren := {
  mixed := by kernel_rfl
  f120 := Tryz.func113.trans (congrArg some (by kernel_rfl))
  f197 := Tryz.func89.trans (congrArg some (by kernel_rfl))
  f237 := Tryz.func82.trans (congrArg some (by kernel_rfl))
  f238 := Tryz.func107.trans (congrArg some (by kernel_rfl))
  f260 := Tryz.func111.trans (congrArg some (by kernel_rfl))
  f271 := Tryz.func91.trans (congrArg some (by kernel_rfl))
  f272 := Tryz.func108.trans (congrArg some (by kernel_rfl))
  f273 := Tryz.func124.trans (congrArg some (by kernel_rfl))
  f315 := Tryz.func125.trans (congrArg some (by kernel_rfl))
  t0 := Tryz.underlying0
  a0 := Tryz.isAgg0
  z0 := Tryz.sizeOf0
  v0 := Tryz.zeroValue0
  t3 := Tryz.underlying3
  a3 := Tryz.isAgg3
  z3 := Tryz.sizeOf3
  v3 := Tryz.zeroValue3
  t4 := Tryz.underlying4
  a4 := Tryz.isAgg4
  z4 := Tryz.sizeOf4
  v4 := Tryz.zeroValue4
  t5 := Tryz.underlying5
  a5 := Tryz.isAgg5
  z5 := Tryz.sizeOf5
  v5 := Tryz.zeroValue5
  t9 := Tryz.underlying9
  a9 := Tryz.isAgg9
  z9 := Tryz.sizeOf9
  v9 := Tryz.zeroValue9
  t21 := Tryz.underlying21
  a21 := Tryz.isAgg21
  z21 := Tryz.sizeOf21
  v21 := Tryz.zeroValue21
  t40 := Tryz.underlying76
  a40 := Tryz.isAgg76
  z40 := Tryz.sizeOf76
  v40 := Tryz.zeroValue76
  t46 := Tryz.underlying133
  a46 := Tryz.isAgg133
  z46 := Tryz.sizeOf133
  v46 := Tryz.zeroValue133
  t105 := Tryz.underlying135
  a105 := Tryz.isAgg135
  z105 := Tryz.sizeOf135
  v105 := Tryz.zeroValue135
  t119 := Tryz.underlying171
  a119 := Tryz.isAgg171
  z119 := Tryz.sizeOf171
  t138 := Tryz.underlying173
  a138 := Tryz.isAgg173
  z138 := Tryz.sizeOf173
  v138 := Tryz.zeroValue173
  t139 := Tryz.underlying174
  a139 := Tryz.isAgg174
  z139 := Tryz.sizeOf174
  v139 := Tryz.zeroValue174
  g3 := by kernel_rfl
  g4 := by kernel_rfl }
def Tryz.lays146_ren : Go.Shelf.Ren := ⟨fun | 146 => 22 | 221 => 37 | 268 => 61 | 138 => 62 | 143 => 63 | 195 => 97 | 197 => 89 | 218 => 98 | 219 => 51 | 260 => 111 | 217 => 84 | 225 => 85 | 224 => 86 | 267 => 87 | 266 => 109 | 314 => 110 | n => n, fun | 9 => 9 | 31 => 35 | 3 => 3 | 4 => 4 | 0 => 0 | 105 => 135 | 21 => 21 | 5 => 5 | 46 => 133 | 119 => 171 | 139 => 174 | 138 => 173 | 146 => 153 | 51 => 33 | n => n, fun | 1 => 0 | 3 => 5 | 4 => 6 | n => n⟩
theorem Tryz.lays146 : Go.Proofs.Lays.n146 Tryz.prog Tryz.lays146_ren := {
  mixed := by kernel_rfl
  f138 := Tryz.func62.trans (congrArg some (by kernel_rfl))
  f143 := Tryz.func63.trans (congrArg some (by kernel_rfl))
  f146 := Tryz.func22.trans (congrArg some (by kernel_rfl))
  f195 := Tryz.func97.trans (congrArg some (by kernel_rfl))
  f197 := Tryz.func89.trans (congrArg some (by kernel_rfl))
  f217 := Tryz.func84.trans (congrArg some (by kernel_rfl))
  f218 := Tryz.func98.trans (congrArg some (by kernel_rfl))
  f219 := Tryz.func51.trans (congrArg some (by kernel_rfl))
  f221 := Tryz.func37.trans (congrArg some (by kernel_rfl))
  f224 := Tryz.func86.trans (congrArg some (by kernel_rfl))
  f225 := Tryz.func85.trans (congrArg some (by kernel_rfl))
  f260 := Tryz.func111.trans (congrArg some (by kernel_rfl))
  f266 := Tryz.func109.trans (congrArg some (by kernel_rfl))
  f267 := Tryz.func87.trans (congrArg some (by kernel_rfl))
  f268 := Tryz.func61.trans (congrArg some (by kernel_rfl))
  f314 := Tryz.func110.trans (congrArg some (by kernel_rfl))
  t0 := Tryz.underlying0
  a0 := Tryz.isAgg0
  z0 := Tryz.sizeOf0
  v0 := Tryz.zeroValue0
  t3 := Tryz.underlying3
  a3 := Tryz.isAgg3
  z3 := Tryz.sizeOf3
  v3 := Tryz.zeroValue3
  t4 := Tryz.underlying4
  a4 := Tryz.isAgg4
  z4 := Tryz.sizeOf4
  v4 := Tryz.zeroValue4
  t5 := Tryz.underlying5
  a5 := Tryz.isAgg5
  z5 := Tryz.sizeOf5
  v5 := Tryz.zeroValue5
  t9 := Tryz.underlying9
  a9 := Tryz.isAgg9
  z9 := Tryz.sizeOf9
  v9 := Tryz.zeroValue9
  t21 := Tryz.underlying21
  a21 := Tryz.isAgg21
  z21 := Tryz.sizeOf21
  v21 := Tryz.zeroValue21
  t31 := Tryz.underlying35
  a31 := Tryz.isAgg35
  z31 := Tryz.sizeOf35
  v31 := Tryz.zeroValue35
  t46 := Tryz.underlying133
  a46 := Tryz.isAgg133
  z46 := Tryz.sizeOf133
  v46 := Tryz.zeroValue133
  t51 := Tryz.underlying33
  a51 := Tryz.isAgg33
  z51 := Tryz.sizeOf33
  v51 := Tryz.zeroValue33
  t105 := Tryz.underlying135
  a105 := Tryz.isAgg135
  z105 := Tryz.sizeOf135
  v105 := Tryz.zeroValue135
  t119 := Tryz.underlying171
  a119 := Tryz.isAgg171
  z119 := Tryz.sizeOf171
  t138 := Tryz.underlying173
  a138 := Tryz.isAgg173
  z138 := Tryz.sizeOf173
  v138 := Tryz.zeroValue173
  t139 := Tryz.underlying174
  a139 := Tryz.isAgg174
  z139 := Tryz.sizeOf174
  v139 := Tryz.zeroValue174
  t146 := Tryz.underlying153
  a146 := Tryz.isAgg153
  z146 := Tryz.sizeOf153
  v146 := Tryz.zeroValue153
  g1 := by kernel_rfl
  g3 := by kernel_rfl
  g4 := by kernel_rfl }
open Go.RowKit Go.Lib in
/-- strings.Split. (LAID: no walk: one application.) -/
theorem Tryz.strings_Split (s sep : ByteArray) (m : Int) (w : World) (hs : s.size < 4294967281) (hm : w.cell? ⟨0, 0, none⟩ = some (.int .i64 m)) (h1 : 1 ≤ sep.size) :
    Calls Tryz.prog 22 #[.string s, .string sep] w fun e w' =>
      e = .returned (.slice (some ⟨w.heap.size, 0, none⟩) (Lib.countB s sep + 1) (Lib.countB s sep + 1)) ∧ w' = w.alloc (.cells ((Lib.splitB sep 0 (Lib.countB s sep) s).map Value.string).toArray 9) := Any.strings_Split Tryz.lays146 (by kernel_rfl) s sep m w hs hm h1
open Go.RowKit Go.Lib in
/-- **strings.TrimFunc(s, f) AT EVERY STRING, AT WHATEVER FUNCTION VALUE.** (LAID: no walk: one application.) -/
theorem Tryz.strings_TrimFunc_grows (g : Nat) (lb : Array Value) (eg : ∀ args w, (callFunc g args).run Tryz.prog w = .ok (.enter g args) w) (p : Nat → Bool) (s : ByteArray) (w : World) (hs : s.size ≤ 9223372036854775807) (hT : Lib.Utf8Tabs 5 6 w) (hp : PredGrows Tryz.prog g lb p w) :
    Calls Tryz.prog 82 #[.string s, .func (.func g) #[] lb] w fun e w' => e = .returned (.string (Lib.trimF p s)) ∧ Below w.heap.size w w' := Any.strings_TrimFunc_grows Tryz.lays237 g lb eg p s w hs hT hp
theorem Tryz.strings_TrimS (s cutset : ByteArray) (w : World) (hs : s.size ≤ 9223372036854775807) (hcs : cutset.size < 4294967281) (ha : cutset.data.toList.all (fun b => Nat.blt b.toNat 128) = true) :
    Calls Tryz.prog 35 #[.string s, .string cutset] w fun e w' => e = .returned (.string ⟨(Lib.trimS s.data.toList cutset.data.toList).toArray⟩) ∧ Go.RowKit.Below w.heap.size w w' :=
  Any.strings_Trim_laid Tryz.lays160 (by kernel_rfl) s cutset w hs hcs fun _ b hb => Nat.le_of_ble_eq_true (List.all_eq_true.1 ha b (List.mem_of_getElem? hb))
end Go.Proofs

namespace Go.Lite
open Go Go.Proofs
set_option linter.unusedVariables false
set_option linter.unusedSimpArgs false
set_option maxRecDepth 100000
noncomputable abbrev kk (L n : Nat) : Kallee := ⟨callP Tryz.prog hh L n, callS Tryz.prog hh L n, callM Tryz.prog hh L n, callO Tryz.prog hh L n, hh.calmB, hh.primS⟩
theorem callP_of' {L n : Nat} {f : FuncId} {args : List PV} {x : PV} (hn : 1 ≤ n) (hp : hh.prim f = none) (he : bodyPR Tryz.prog (kk L n) hh L f args = some x) : callP Tryz.prog hh L (n + 1) f args = some x := by
  obtain ⟨k, rfl⟩ : ∃ k, n = k + 1 := ⟨n - 1, by omega⟩
  exact callP_of hp he
theorem callD_t {cp : FuncId → List PV → Option PV} {g : FuncId} {a b xs : List PV} {r : PV} (h : cp g (a ++ xs ++ b) = some r) (ht : r.roFree = true) : callD cp (.clo g a b) xs 1 = some r := by
  simp only [callD, h, okK, okAns, ht]; rfl
end Go.Lite

namespace Go.Lite
open Go Go.Proofs
set_option linter.unusedVariables false
set_option linter.unusedSimpArgs false
set_option maxRecDepth 100000
theorem tidyTry : TidyF Tryz.prog := tidyF_of (by kernel_rfl)
end Go.Lite

namespace Go.Lite
open Go Go.Proofs
set_option linter.unusedVariables false
set_option linter.unusedSimpArgs false
set_option maxRecDepth 100000
theorem ent20 : Entered Tryz.prog 20 := ⟨_, Tryz.func20, by kernel_rfl, by kernel_rfl⟩
theorem ent22 : Entered Tryz.prog 22 := ⟨_, Tryz.func22, by kernel_rfl, by kernel_rfl⟩
theorem ent36 : Entered Tryz.prog 36 := ⟨_, Tryz.func36, by kernel_rfl, by kernel_rfl⟩
theorem ent69 : Entered Tryz.prog 69 := ⟨_, Tryz.func69, by kernel_rfl, by kernel_rfl⟩
theorem ent41 : Entered Tryz.prog 41 := ⟨_, Tryz.func41, by kernel_rfl, by kernel_rfl⟩
theorem ent35 : Entered Tryz.prog 35 := ⟨_, Tryz.func35, by kernel_rfl, by kernel_rfl⟩
theorem ent48 : Entered Tryz.prog 48 := ⟨_, Tryz.func48, by kernel_rfl, by kernel_rfl⟩
theorem ent39 : Entered Tryz.prog 39 := ⟨_, Tryz.func39, by kernel_rfl, by kernel_rfl⟩
theorem cuts20 : CutsP Tryz.prog 20 0 := ⟨ent20, fun s sep m w hs hm => Tryz.strings_Cut s sep m w hs hm⟩
theorem splits22 : SplitsP Tryz.prog 22 0 := ⟨ent22, 9, fun s sep m w hs hm h1 => Tryz.strings_Split s sep m w hs hm h1⟩
theorem itoas69 : ItoasP Tryz.prog 69 := ⟨ent69, fun i w hi => Tryz.strconv_Itoa_small i hi w⟩
theorem joins41 : JoinsP Tryz.prog 41 := ⟨ent41, fun a c sep w => Tryz.strings_Join_none a c sep w, fun bk o c xs sep w hcells hbk hN hcap hlen => Tryz.strings_Join bk o c xs sep w hcells hbk hN hcap hlen⟩
theorem atois36 : AtoisP Tryz.prog 36 := ⟨ent36, 5, fun s n w hl h => Tryz.strconv_Atoi s n hl h w⟩
theorem contains48 : ContainsP Tryz.prog 48 0 := ⟨ent48, fun s sep m w hs hm => Tryz.strings_Contains s sep m w hs hm⟩
theorem trimS35 : TrimSP Tryz.prog 35 := ⟨ent35, fun s c w hs hc ha => Tryz.strings_TrimS s c w hs hc ha⟩
theorem fmts39 : FmtsP Tryz.prog 39 := ⟨ent39, fun i w hi => Tryz.strconv_FormatInt_10_small i hi w⟩
theorem walk83 (x : Nat) (w : World) : Calls Tryz.prog 83 #[.int .i32 (x : Int)] w fun e w' => e = .returned (.bool (decide (48 ≤ x) && decide (x ≤ 57))) ∧ w' = w := by
  by_cases h1 : (48 : Int) ≤ x
  · by_cases h2 : (x : Int) ≤ 57
    · have e1 : decide (48 ≤ x) = true := by simp; omega
      have e2 : decide (x ≤ 57) = true := by simp; omega
      rw [e1, e2]
      go_enter Tryz.func83, Tryz.ntmps83
      go_wp2
      all_goals go_ret
      all_goals exact ⟨rfl, rfl⟩
    · have e1 : decide (x ≤ 57) = false := by simp; omega
      rw [e1]
      go_enter Tryz.func83, Tryz.ntmps83
      go_wp2
      all_goals go_ret
      all_goals exact ⟨rfl, rfl⟩
  · have e1 : decide (48 ≤ x) = false := by simp; omega
    rw [e1]
    go_enter Tryz.func83, Tryz.ntmps83
    go_wp2
    all_goals go_ret
    all_goals exact ⟨rfl, rfl⟩
theorem ent82 : Entered Tryz.prog 82 := ⟨_, Tryz.func82, by kernel_rfl, by kernel_rfl⟩
theorem ent83 : Entered Tryz.prog 83 := ⟨_, Tryz.func83, by kernel_rfl, by kernel_rfl⟩
theorem pairAt : ∀ (l : List (Int × Int)) (j : Nat), (l.flatMap fun p => [p.1, p.2])[2 * j]? = (l[j]?).map (·.1) ∧ (l.flatMap fun p => [p.1, p.2])[2 * j + 1]? = (l[j]?).map (·.2) := by
  intro l
  induction l with
  | nil => intro j; simp
  | cons a l ih =>
    intro j
    cases j with
    | zero => simp
    | succ j => simpa [Nat.mul_add] using ih j
theorem utf8_gl {X : Nat} {w : World} (h : Gl X w) : Lib.Utf8Tabs 5 6 w := by
  have e5 : globs.lookup 5 = some (u8s ((List.range 256).map fun c => (Lib.firstT c : Int))) := by kernel_rfl
  have e6 : globs.lookup 6 = some (u8s (((List.range 16).map fun i => ((Lib.accLo i : Int), (Lib.accHi i : Int))).flatMap fun p => [p.1, p.2])) := by kernel_rfl
  refine ⟨fun c hc => (h.1 _ _ e5).2 c _ ?_, fun i hi => ?_⟩
  · simp [u8s, hc]
  · have hp := pairAt ((List.range 16).map fun i => ((Lib.accLo i : Int), (Lib.accHi i : Int))) i
    simp only [List.getElem?_map, List.getElem?_range hi, Option.map_some] at hp
    refine ⟨(h.1 _ _ e6).2 (2 * i) _ ?_, (h.1 _ _ e6).2 (2 * i + 1) _ ?_⟩
    · rw [u8s, List.getElem?_map, hp.1]; rfl
    · rw [u8s, List.getElem?_map, hp.2]; rfl
theorem trims82 : TrimsP Tryz.prog 82 83 digN := ⟨ent82, fun s X w hs hG => Tryz.strings_TrimFunc_grows 83 #[] (fun args w => callFunc_enter ent83) digN s w hs (utf8_gl hG)
  fun W x _ _ => (walk83 x W).mono fun e w' ⟨he, hw⟩ => ⟨he, by subst hw; exact Go.RowKit.Below.refl _ _⟩⟩
theorem prims_step {P : Program} {q : FuncId → Option (List PV → Option PV)} {k : FuncId} {Q : List PV → Option PV} (hk : PureOK P fun g args => if g = k then Q args else none) (hr : PrimsOK P q) : PrimsOK P fun f => bif Nat.beq f k then some Q else q f := by
  intro g Q' h
  simp only at h
  cases hg : Nat.beq g k with
  | false => rw [hg] at h; exact hr g Q' h
  | true =>
    rw [hg] at h
    simp only [cond_true, Option.some.injEq] at h
    subst h
    have : g = k := Nat.eq_of_beq_eq_true hg
    subst this
    exact hk
theorem prims_hh : PrimsOK Tryz.prog hh.prim :=
  prims_step (cut_ok cuts20 (by decide)) (prims_step (split_ok splits22 (by decide)) (prims_step (atoi_ok atois36) (prims_step (itoa_ok itoas69) (prims_step (join_ok joins41) (prims_step (trimS_ok trimS35) (prims_step (contains_ok contains48 (by decide)) (prims_step (fmt_ok fmts39) (prims_step (trim_ok trims82) fun g q h => by cases h))))))))
theorem primsS_hh : PrimsSOK Tryz.prog hh.primS := fun g q h => by simp [hh, h0] at h
theorem primsM_hh : PrimsMOK Tryz.prog hh.primM := fun g q h => by simp [hh, h0] at h
theorem primsO_hh : PrimsOOK Tryz.prog hh.ownF hh.primO := fun g q sp h => by simp [hh, h0] at h
theorem gl_of {W : World} (h1 : ∀ (i : Nat) v, ((globs.lookup 1).getD [])[i]? = some v → W.cell? ⟨1, i, none⟩ = some v) (h5 : ∀ (i : Nat) v, ((globs.lookup 5).getD [])[i]? = some v → W.cell? ⟨5, i, none⟩ = some v)
    (h6 : ∀ (i : Nat) v, ((globs.lookup 6).getD [])[i]? = some v → W.cell? ⟨6, i, none⟩ = some v) (h0 : ∃ n, W.cell? ⟨0, 0, none⟩ = some (.int .i64 n)) : Gl W.heap.size W := by
  have hs : ∀ g i v, W.cell? ⟨g, i, none⟩ = some v → g < W.heap.size := fun g i v h => by
    unfold World.cell? at h
    rcases Nat.lt_or_ge g W.heap.size with h' | h'
    · exact h'
    · rw [Array.getElem?_eq_none h'] at h; simp at h
  refine ⟨fun g vs hg => ?_, fun g hg => ?_⟩
  · have hk : g = 1 ∨ g = 5 ∨ g = 6 := by
      by_cases a0 : g = 1
      · exact .inl a0
      by_cases a5 : g = 5
      · exact .inr (.inl a5)
      by_cases a6 : g = 6
      · exact .inr (.inr a6)
      · simp [globs, List.lookup, a0, a5, a6, beq_eq_false_iff_ne.2 a0, beq_eq_false_iff_ne.2 a5, beq_eq_false_iff_ne.2 a6] at hg
    rcases hk with rfl | rfl | rfl
    · rw [hg] at h1
      have hne : 0 < vs.length := by simp [globs, List.lookup] at hg; subst hg; decide +kernel
      exact ⟨hs _ _ _ (h1 0 vs[0] (by simp)), h1⟩
    · rw [hg] at h5
      have hne : 0 < vs.length := by simp [globs, List.lookup] at hg; subst hg; decide +kernel
      exact ⟨hs _ _ _ (h5 0 vs[0] (by simp)), h5⟩
    · rw [hg] at h6
      have hne : 0 < vs.length := by simp [globs, List.lookup] at hg; subst hg; decide +kernel
      exact ⟨hs _ _ _ (h6 0 vs[0] (by simp)), h6⟩
  · simp only [globInts, List.mem_singleton] at hg; subst hg
    obtain ⟨n, hn⟩ := h0
    exact ⟨hs _ _ _ hn, n, hn⟩
end Go.Lite
