import Derived.Orders
import Derived.Laws.Sem
import Derived.KernelRfl
import Derived.Laws.World
import Derived.Laws.Cells
import Derived.MapKept
import Derived.Below
import Derived.Laws.Entries
import Derived.ChangeKeysEq
import Derived.Laws.BytesString
set_option linter.unusedVariables false
set_option linter.unusedSimpArgs false

namespace Go.Lite
open Go
def u8s (l : List Int) : List Value := l.map fun n => .int .u8 n
/-- Package-level variables that keep what they hold: block, their cells; others of one int, whatever it is. -/
def globs : List (Nat × List Value) := [
  (1, u8s [0, 1, 28, 2, 29, 14, 24, 3, 30, 22, 20, 15, 25, 17, 4, 8, 31, 27, 13, 23, 21, 19, 16, 7, 26, 12, 18, 6, 11, 5, 10, 9]),
  (5, u8s (List.replicate 128 240 ++ List.replicate 66 241 ++ List.replicate 30 2 ++ [19] ++ List.replicate 12 3 ++ [35, 3, 3, 52, 4, 4, 4, 68] ++ List.replicate 11 241)),
  (6, u8s ([128, 191, 160, 191, 128, 159, 144, 191, 128, 143] ++ List.replicate 22 0))]
def globInts : List Nat := [0]
theorem globs_one : ∀ p ∈ globs, ∀ v ∈ p.2, v.oneCell' = true := by
  have h : (globs.all fun p => p.2.all Value.oneCell') = true := by kernel_rfl
  intro p hp v hv
  exact List.all_eq_true.1 (List.all_eq_true.1 h p hp) v hv
end Go.Lite

namespace Go.Lite
open Go

/-! # Lite: a deterministic evaluator of the model's code over pure values -/

/-- Pure values: no address is seen. A list is what a slice shows, up to its length; 'clip': its capacity is its length. 'ro': a place whose content stays. -/
inductive PV where
  | sc (v : Value)
  | list (lay : Nat) (clip : Bool) (xs : List PV)
  | ro (lay : Nat) (c : PV)
  | agg (cs : List PV)
  | tup (vs : List PV)
  | clo (f : FuncId) (first captured : List PV)
  | ifc (t : TypeId) (v : PV)
  deriving Inhabited

/-- Values of a running call: pure ones, and those that lead to its own objects. -/
inductive AV where
  | pv (d : PV)
  | ptr (id i off : Nat)
  | arr (id : Nat)
  | mp (id : Nat)
  | agg (cs : List AV)
  | tup (vs : List AV)
  | clo (f : FuncId) (first captured : List AV)
  | sub (id lo n : Nat)
  | dead
  deriving Inhabited

/-- Objects of a running call. 'var': one variable. 'arr': an array that it made (excl: nobody else reads it). -/
inductive Ob where
  | var (lay : Nat) (v : AV)
  | arr (lay : Nat) (excl : Bool) (xs : List PV)
  | sit (s : ByteArray) (pos : Nat)
  | map (es : List (Int × PV))
  | gone
  deriving Inhabited

abbrev Store := List Ob

/-! ## layouts: 0: one cell; n + 1: an aggregate of n cells -/
def layOf (P : Program) (t : TypeId) : Option Nat :=
  match P.underlying t, P.info? t with
  | some (.struct _), some i => some (i.size + 1)
  | some (.array _ _), some i => some (i.size + 1)
  | some _, some i => if i.size = 1 then some 0 else none
  | _, _ => none
def width (lay : Nat) : Nat := if lay = 0 then 1 else lay - 1

def PV.cells : PV → List PV
  | .agg cs => cs
  | v => [v]
def PV.isCell : PV → Bool
  | .sc (.agg _) => false
  | .sc (.tuple _) => false
  | .agg _ => false
  | .tup _ => false
  | _ => true
def PV.hasLay (lay : Nat) : PV → Bool
  | .agg cs => lay == cs.length + 1 && cs.all PV.isCell
  | d => lay == 0 && d.isCell
def PV.part (off lay : Nat) : PV → Option PV
  | .agg cs => if lay = 0 then cs[off]? else if off + (lay - 1) ≤ cs.length then some (.agg ((cs.drop off).take (lay - 1))) else none
  | _ => none
def PV.ofCells (lay : Nat) (cs : List PV) : Option PV :=
  if lay = 0 then (match cs with | [c] => some c | _ => none) else if cs.length = lay - 1 then some (.agg cs) else none
/-- A place's content as a variable of layout 'lay' at 'off' in what has layout 'l0'. -/
def PV.at_ (l0 off lay : Nat) (c : PV) : Option PV := if off = 0 ∧ l0 = lay then some c else if l0 = 0 then none else c.part off lay

def AV.cells : AV → List AV
  | .pv (.agg cs) => cs.map .pv
  | .agg cs => cs
  | v => [v]
def AV.isCell : AV → Bool
  | .pv d => d.isCell
  | .ptr _ _ _ => true
  | .arr _ => true
  | .mp _ => true
  | .clo _ _ _ => true
  | .sub _ _ _ => true
  | _ => false
def AV.hasLay (lay : Nat) : AV → Bool
  | .pv d => d.hasLay lay
  | .agg cs => lay == cs.length + 1 && cs.all AV.isCell
  | d => lay == 0 && d.isCell
def AV.pure? : AV → Option PV
  | .pv d => some d
  | _ => none
def AV.mkAgg (cs : List AV) : AV := match cs.mapM AV.pure? with | some ds => .pv (.agg ds) | none => .agg cs
def AV.mkTup (cs : List AV) : AV := match cs.mapM AV.pure? with | some ds => .pv (.tup ds) | none => .tup cs
def AV.part (off lay : Nat) : AV → Option AV
  | .pv d => (d.part off lay).map .pv
  | .agg cs => if lay = 0 then cs[off]? else if off + (lay - 1) ≤ cs.length then some (.mkAgg ((cs.drop off).take (lay - 1))) else none
  | _ => none
def AV.at_ (l0 off lay : Nat) (c : AV) : Option AV := if off = 0 ∧ l0 = lay then some c else if l0 = 0 then none else c.part off lay
/-- Cells put over others, from a place on. -/
def splice {α : Type} (cs : List α) (off : Nat) (new : List α) : Option (List α) :=
  if off + new.length ≤ cs.length then some (cs.take off ++ new ++ cs.drop (off + new.length)) else none
def AV.sized (l0 : Nat) : AV → Bool
  | .pv d => d.hasLay l0
  | .agg cs => l0 == cs.length + 1
  | _ => false
def AV.put (l0 off lay : Nat) (c x : AV) : Option AV :=
  if x.hasLay lay = false then none
  else if off = 0 ∧ l0 = lay then some x
  else if l0 = 0 ∨ c.sized l0 = false then none
  else (splice c.cells off x.cells).map .mkAgg

/-! ## the slots -/
inductive Env where
  | nil
  | node (v : AV) (l r : Env)
  deriving Inhabited
def Env.get : Env → Nat → AV
  | .nil, _ => .dead
  | .node v l r, t => if t = 0 then v else if t % 2 = 1 then l.get (t / 2) else r.get (t / 2 - 1)
def Env.setF : Nat → Env → Nat → AV → Env
  | 0, e, _, _ => e
  | n + 1, .nil, t, x => if t = 0 then .node x .nil .nil else if t % 2 = 1 then .node .dead (setF n .nil (t / 2) x) .nil else .node .dead .nil (setF n .nil (t / 2 - 1) x)
  | n + 1, .node v l r, t, x => if t = 0 then .node x l r else if t % 2 = 1 then .node v (setF n l (t / 2) x) r else .node v l (setF n r (t / 2 - 1) x)
def Env.set (e : Env) (t : Nat) (x : AV) : Env := Env.setF (t + 1) e t x
def Env.map (f : AV → AV) : Env → Env
  | .nil => .nil
  | .node v l r => .node (f v) (l.map f) (r.map f)
def Env.put (e : Env) (dst : Option Tmp) (x : AV) : Env := match dst with | some d => e.set d x | none => e
def Env.ofArgs : List AV → Nat → Env → Env
  | [], _, e => e
  | v :: r, i, e => Env.ofArgs r (i + 1) (e.set i v)

/-! ## what leads to objects is struck -/
mutual
def AV.low (n : Nat) : AV → Bool      -- leads to no object from n on
  | .ptr id _ _ => decide (id < n)
  | .arr id => decide (id < n)
  | .mp id => decide (id < n)
  | .sub id _ _ => decide (id < n)
  | .agg cs => AV.lowAll n cs
  | .tup cs => AV.lowAll n cs
  | .clo _ a b => AV.lowAll n a && AV.lowAll n b
  | _ => true
def AV.lowAll (n : Nat) : List AV → Bool
  | [] => true
  | v :: r => v.low n && AV.lowAll n r
end
def AV.cut (n : Nat) (v : AV) : AV := if v.low n then v else .dead
mutual
def AV.free (k : Nat) : AV → Bool      -- does not show array k
  | .ptr id _ _ => id != k
  | .arr id => id != k
  | .mp id => id != k
  | .sub id _ _ => id != k
  | .agg cs => AV.freeAll k cs
  | .tup cs => AV.freeAll k cs
  | .clo _ a b => AV.freeAll k a && AV.freeAll k b
  | _ => true
def AV.freeAll (k : Nat) : List AV → Bool
  | [] => true
  | v :: r => v.free k && AV.freeAll k r
end
def AV.looseC (k : Nat) (c : AV) : AV := if c.free k then c else .dead
def AV.loose (k : Nat) (v : AV) : AV := if v.free k then v else match v with | .agg cs => .agg (cs.map (AV.looseC k)) | _ => .dead
def Ob.mapV (f : AV → AV) : Ob → Ob
  | .var lay v => .var lay (f v)
  | o => o
/-- What a round of a loop leaves behind it: objects that it made are forgotten. -/
def trim (n : Nat) (e : Env) (S : Store) : Env × Store :=
  if S.length = n then (e, S) else (e.map (AV.cut n), (S.take n).map (Ob.mapV (AV.cut n)))

/-! ## frozen: values as pure ones -/
/-- a part of an array, as data -/
def subPV (S : Store) (id lo k : Nat) : Option PV :=
  match S[id]? with
  | some (.arr lay _ xs) => some (.list lay false ((xs.drop lo).take k))
  | _ => none
def freeze (S : Store) : Nat → AV → Option PV
  | 0, _ => none
  | _ + 1, .pv d => some d
  | n + 1, .ptr id 0 0 => match S[id]? with
    | some (.var lay v) => (freeze S n v).map (.ro lay)
    | _ => none
  | _ + 1, .arr id => match S[id]? with
    | some (.arr lay _ xs) => some (.list lay false xs)
    | _ => none
  | _ + 1, .sub id lo k => subPV S id lo k
  | n + 1, .agg cs => (cs.mapM (freeze S n)).map .agg
  | n + 1, .tup cs => (cs.mapM (freeze S n)).map .tup
  | n + 1, .clo f a b => do
    let a ← a.mapM (freeze S n)
    let b ← b.mapM (freeze S n)
    pure (.clo f a b)
  | _, _ => none
/-- .. variables alone, no array that is written -/
def freezeV (S : Store) : Nat → AV → Option PV
  | 0, _ => none
  | _ + 1, .pv d => some d
  | n + 1, .ptr id 0 0 => match S[id]? with
    | some (.var lay v) => (freezeV S n v).map (.ro lay)
    | _ => none
  | _ + 1, .arr id => match S[id]? with
    | some (.arr lay false xs) => some (.list lay false xs)
    | _ => none
  | n + 1, .agg cs => (cs.mapM (freezeV S n)).map .agg
  | n + 1, .tup cs => (cs.mapM (freezeV S n)).map .tup
  | n + 1, .clo f a b => do
    let a ← a.mapM (freezeV S n)
    let b ← b.mapM (freezeV S n)
    pure (.clo f a b)
  | _, _ => none
/-- .. for good: no variable, no array that is written. -/
def firm (S : Store) : Nat → AV → Option PV
  | 0, _ => none
  | _ + 1, .pv d => some d
  | _ + 1, .arr id => match S[id]? with
    | some (.arr lay false xs) => some (.list lay false xs)
    | _ => none
  | n + 1, .agg cs => (cs.mapM (firm S n)).map .agg
  | n + 1, .tup cs => (cs.mapM (firm S n)).map .tup
  | n + 1, .clo f a b => do
    let a ← a.mapM (firm S n)
    let b ← b.mapM (firm S n)
    pure (.clo f a b)
  | _, _ => none
/-- .. as results of a call that ends: its arrays and variables are nobody's then. -/
def thaw (S : Store) : Nat → AV → Option PV
  | 0, _ => none
  | _ + 1, .pv d => some d
  | _ + 1, .arr id => match S[id]? with
    | some (.arr lay _ xs) => some (.list lay false xs)
    | _ => none
  | _ + 1, .sub id lo k => subPV S id lo k
  | n + 1, .agg cs => (cs.mapM (thaw S n)).map .agg
  | n + 1, .tup cs => (cs.mapM (thaw S n)).map .tup
  | n + 1, .ptr id 0 0 => match S[id]? with
    | some (.var lay v) => (thaw S n v).map (.ro lay)
    | _ => none
  | n + 1, .clo f a b => do
    let a ← a.mapM (thaw S n)
    let b ← b.mapM (thaw S n)
    pure (.clo f a b)
  | _, _ => none
def deep : Nat := 12

/-! ## operations -/
def PV.ofValue : Value → PV
  | .agg cs => .agg (cs.toList.map .sc)
  | .tuple cs => .tup (cs.toList.map .sc)
  | v => .sc v
def zeroPV (P : Program) (t : TypeId) : Option PV := ((P.info? t).bind (·.zero)).map PV.ofValue

/-- A computation that asks nothing of memory. -/
def pureRun {α : Type} (P : Program) : Sem α → Option α
  | .pure a => some a
  | .program k => pureRun P (k P)
  | .mark _ k => pureRun P k
  | _ => none

def nilPV : PV := .sc (.slice none 0 0)
/-- A package-level variable whose content is known: a place whose content stays. -/
def globPV (g : Nat) : Option PV := (globs.lookup g).map fun vs => .ro (vs.length + 1) (.agg (vs.map .sc))
/-- .. for residual programs -/
def gl (g : Nat) : PV := (globPV g).getD nilPV
def opnd (e : Env) : Operand → AV
  | .tmp t => e.get t
  | .const v => .pv (.ofValue v)
  | .func f => .pv (.clo f [] [])
  | .global g => match globPV g with | some d => .pv d | none => .dead

/-- A fresh empty slice, or a written list, that shall be appended to, is made an array of the call's own. -/
def ownOb (lay : Nat) (v : AV) : Option Ob :=
  match v with
  | .pv (.sc (.slice none 0 0)) => some (.arr lay false [])
  | .pv (.list lay' true xs) => if lay = lay' then some (.arr lay false xs) else none
  | _ => none

def asInt? : AV → Option Int
  | .pv (.sc (.int _ n)) => some n
  | _ => none
def nilSlice : PV := .sc (.slice none 0 0)

/-- The elements that a value shows as a slice. -/
def elems? (S : Store) : AV → Option (Nat × List PV)
  | .pv (.list lay _ xs) => some (lay, xs)
  | .arr id => match S[id]? with | some (.arr lay _ xs) => some (lay, xs) | _ => none
  | _ => none
/-- which part of an array of the call's own: from where, its layout, how long -/
def ownPart (S : Store) : AV → Option (Nat × Nat × Nat × Nat)
  | .arr id => match S[id]? with | some (.arr lay true xs) => some (id, 0, lay, xs.length) | _ => none
  | .sub id lo n => match S[id]? with | some (.arr lay true _) => some (id, lo, lay, n) | _ => none
  | _ => none

def buildCells (cells : List AV) : List (Nat × AV) → Option (List AV)
  | [] => some cells
  | (off, v) :: r => (splice cells off v.cells).bind (buildCells · r)

def buildAV (P : Program) (t : TypeId) (parts : List (Nat × AV)) : Option AV :=
  match P.underlying t, zeroPV P t with
  | some (.struct fields), some (.agg z) =>
    match fields.toList.mapM fun f => layOf P f.type with
    | some lays =>
      match (parts.mapM fun (i, v) => match fields[i]?, lays[i]? with
        | some f, some lay => if v.hasLay lay then some (f.offset, v) else none
        | _, _ => none) with
      | some ps => (buildCells (z.map .pv) ps).map .mkAgg
      | none => none
    | none => none
  | some (.array _ el), some (.agg z) =>
    match layOf P el with
    | some lay => match (parts.mapM fun (i, v) => if AV.hasLay lay v then some (i * width lay, v) else none) with
      | some ps => (buildCells (z.map .pv) ps).map .mkAgg
      | none => none
    | none => none
  | _, _ => none

def setAll {α : Type} (xs : List α) : List (Nat × α) → Option (List α)
  | [] => some xs
  | (i, v) :: r => if i < xs.length then setAll (xs.set i v) r else none

def buildSliceAV (P : Program) (t : TypeId) (n : Nat) (parts : List (Nat × PV)) : Option PV :=
  match P.underlying t with
  | some (.slice el) =>
    match layOf P el, zeroPV P el with
    | some lay, some z =>
      if n * width lay ≤ 1000000 ∧ z.hasLay lay = true ∧ 0 < width lay ∧ (parts.all fun p => p.2.hasLay lay) = true then
        (setAll (List.replicate n z) parts).map (.list lay true)
      else none
    | _, _ => none
  | _ => none

def buildXs (P : Program) (t : TypeId) (lay : Nat) (n : Nat) (parts : List (Nat × PV)) : Option (List PV) :=
  match P.underlying t with
  | some (.slice el) =>
    match layOf P el, zeroPV P el with
    | some lay', some z =>
      if lay = lay' ∧ n * width lay ≤ 1000000 ∧ z.hasLay lay = true ∧ 0 < width lay ∧ (parts.all fun p => p.2.hasLay lay) = true then setAll (List.replicate n z) parts else none
    | _, _ => none
  | _ => none
/-- what is asked of a slot: 1000 + lay: an array of the call's own, with elements -/
def codeOf (hint : Option Nat) : Nat := hint.getD 0 - 1000
def ownCode (hint : Option Nat) : Bool := decide (1000 ≤ hint.getD 0)
def loadAV (P : Program) (S : Store) (t : TypeId) (a : AV) : Option AV :=
  match layOf P t, a with
  | some lay, .pv (.ro l0 c) => (c.at_ l0 0 lay).map .pv
  | some lay, .ptr id i off => match S[id]? with
    | some (.var l0 v) => if i = 0 then v.at_ l0 off lay else none
    | some (.arr l0 _ xs) => (xs[i]?).bind fun x => (x.at_ l0 off lay).map .pv
    | _ => none
  | _, _ => none

def storeAV (P : Program) (S : Store) (t : TypeId) (a x : AV) : Option Store :=
  match layOf P t, a with
  | some lay, .ptr id i off => match S[id]? with
    | some (.var l0 v) => if i = 0 then (v.put l0 off lay x).map fun v => S.set id (.var l0 v) else none
    | some (.arr l0 true xs) => (xs[i]?).bind fun y => ((AV.pv y).put l0 off lay x).bind fun z => z.pure?.map fun z => S.set id (.arr l0 true (xs.set i z))
    | _ => none
  | _, _ => none

def fieldAddrAV (P : Program) (s : TypeId) (a : AV) (i : Nat) : Option AV :=
  match P.underlying s with
  | some (.struct fields) =>
    match fields[i]? with
    | some f =>
      match layOf P f.type with
      | some lay =>
        if width lay = 0 then none else
        match a with
        | .pv (.ro l0 c) => (c.at_ l0 f.offset lay).map fun c => .pv (.ro lay c)
        | .ptr id i off => some (.ptr id i (off + f.offset))
        | _ => none
      | none => none
    | none => none
  | _ => none

def fieldAV (P : Program) (s : TypeId) (x : AV) (i : Nat) : Option AV :=
  match P.underlying s with
  | some (.struct fields) =>
    match fields[i]? with
    | some f => (layOf P f.type).bind fun lay => x.part f.offset lay
    | none => none
  | _ => none

def indexAddrAV (P : Program) (S : Store) (t : TypeId) (x : AV) (i : Int) : Option AV :=
  match P.underlying t with
  | some (.slice el) =>
    match layOf P el, x with
    | some lay, .pv (.list l0 _ xs) => if lay = l0 ∧ 0 ≤ i then (xs[i.toNat]?).map fun c => .pv (.ro lay c) else none
    | some lay, .arr id => match S[id]? with
      | some (.arr l0 _ xs) => if lay = l0 ∧ 0 ≤ i ∧ i < xs.length then some (.ptr id i.toNat 0) else none
      | _ => none
    | some lay, .sub id lo n => match S[id]? with
      | some (.arr l0 _ _) => if lay = l0 ∧ 0 ≤ i ∧ i < n then some (.ptr id (lo + i.toNat) 0) else none
      | _ => none
    | _, _ => none
  | some (.array n el) =>
    match layOf P el, x with
    | some lay, .ptr id k off => if 0 ≤ i ∧ i < n then some (.ptr id k (off + i.toNat * width lay)) else none
    | some lay, .pv (.ro l0 c) => if 0 ≤ i ∧ i < n then (c.at_ l0 (i.toNat * width lay) lay).map fun c => .pv (.ro lay c) else none
    | _, _ => none
  | _ => none

/-- s[lo:hi:max] of a list. -/
def slicePV (clip : Bool) (lay : Nat) (xs : List PV) (lo hi : Int) (max : Option Int) : Option PV :=
  if 0 ≤ lo ∧ lo ≤ hi ∧ hi ≤ xs.length then
    match max with
    | none => some (.list lay (clip && hi == xs.length) ((xs.take hi.toNat).drop lo.toNat))
    | some m => if hi ≤ m ∧ m ≤ xs.length then some (.list lay (m == hi) ((xs.take hi.toNat).drop lo.toNat)) else none
  else none
def optInt (d : Int) : Option AV → Option Int
  | none => some d
  | some v => asInt? v
def sliceMx (clip : Bool) (lay : Nat) (xs : List PV) (l h : Int) (hi mx : Option AV) : Option AV :=
  match mx with
  | none => (slicePV clip lay xs l h none).map .pv
  | some m => if hi.isNone then none else (asInt? m).bind fun m => (slicePV clip lay xs l h (some m)).map .pv
def sliceAV (P : Program) (S : Store) (t : TypeId) (x : AV) (lo hi mx : Option AV) : Option AV :=
  match P.underlying t with
  | some .string =>
    match x, mx with
    | .pv (.sc (.string s)), none =>
      match optInt 0 lo, optInt s.size hi with
      | some l, some h => if 0 ≤ l ∧ l ≤ h ∧ h ≤ s.size then some (.pv (.sc (.string (s.extract l.toNat h.toNat)))) else none
      | _, _ => none
    | _, _ => none
  | some (.slice el) =>
    match layOf P el, x with
    | some lay, .pv (.list l0 clip xs) =>
      if lay = l0 then
        match optInt 0 lo, optInt xs.length hi with
        | some l, some h => sliceMx clip lay xs l h hi mx
        | _, _ => none
      else none
    | some lay, .arr id => match S[id]? with
      | some (.arr l0 false xs) =>
        if lay = l0 then
          match optInt 0 lo, optInt xs.length hi with
          | some l, some h => sliceMx false lay xs l h hi mx
          | _, _ => none
        else none
      | _ => none
    | _, _ => none
  | _ => none

/-- what is left of a part, from lo to hi -/
def subRange (len : Nat) (lo hi : Option Int) : Option (Nat × Nat) :=
  match lo, hi with
  | some l, some h => if 0 ≤ l ∧ l ≤ h ∧ h ≤ len then some (l.toNat, h.toNat - l.toNat) else none
  | _, _ => none
/-- s[lo:hi] of an array of the call's own: a part, that is read and written -/
def subAV (P : Program) (S : Store) (t : TypeId) (x : AV) (lo hi : Option AV) : Option AV :=
  match P.underlying t with
  | some (.slice el) => match layOf P el, ownPart S x with
    | some lay, some (id, l0, lay', n) => if lay = lay' then (subRange n (optInt 0 lo) (optInt n hi)).map fun r => .sub id (l0 + r.1) r.2 else none
    | _, _ => none
  | _ => none

def PV.scalar? : PV → Option Value
  | .sc v => some v
  | _ => none
def AV.scalar? : AV → Option Value
  | .pv d => d.scalar?
  | _ => none
/-- A value without lists, as the model's own. -/
def PV.plain? : PV → Option Value
  | .sc v => some v
  | .agg cs => (cs.mapM PV.scalar?).map fun vs => .agg vs.toArray
  | _ => none

def binAV (P : Program) (op : BinOp) (t : TypeId) (x y : Operand) (a b : AV) : Option AV :=
  match a, b with
  | .pv a, .pv b =>
    match a.plain?, b.plain? with
    | some u, some v => (pureRun P (do eqGuard op t x y u v; binOp op t u v)).map fun r => .pv (.sc r)
    | _, _ => none
  | _, _ => none

/-- What is there, beside nil. -/
def nilCmpPV (P : Program) (op : BinOp) (t : TypeId) (a b : PV) : Option PV :=
  match op with
  | .eql => (match P.underlying t, a, b with
    | some (.slice _), .list _ _ (_ :: _), .sc (.slice none 0 0) => some (.sc (.bool false))
    | some (.pointer _), .ro _ _, .sc (.pointer none) => some (.sc (.bool false))
    | some (.func _ _ _), .clo _ _ _, .sc .nilFunc => some (.sc (.bool false))
    | _, _, _ => none)
  | .neq => (match P.underlying t, a, b with
    | some (.slice _), .list _ _ (_ :: _), .sc (.slice none 0 0) => some (.sc (.bool true))
    | some (.pointer _), .ro _ _, .sc (.pointer none) => some (.sc (.bool true))
    | some (.func _ _ _), .clo _ _ _, .sc .nilFunc => some (.sc (.bool true))
    | _, _, _ => none)
  | _ => none
def nilCmp (P : Program) (op : BinOp) (t : TypeId) (a b : AV) : Option PV :=
  match a, b with
  | .pv a, .pv b => nilCmpPV P op t a b
  | .ptr _ _ _, .pv (.sc (.pointer none)) => (match P.underlying t, op with
    | some (.pointer _), .eql => some (.sc (.bool false))
    | some (.pointer _), .neq => some (.sc (.bool true))
    | _, _ => none)
  | .clo _ _ _, .pv (.sc .nilFunc) => (match P.underlying t, op with
    | some (.func _ _ _), .eql => some (.sc (.bool false))
    | some (.func _ _ _), .neq => some (.sc (.bool true))
    | _, _ => none)
  | .mp _, .pv (.sc (.map none)) => (match P.underlying t, op with
    | some (.map _ _), .eql => some (.sc (.bool false))
    | some (.map _ _), .neq => some (.sc (.bool true))
    | _, _ => none)
  | _, _ => none

/-! ## maps: their keys are ints -/
def findM (n : Int) : List (Int × PV) → Option PV
  | [] => none
  | (k, d) :: r => bif k == n then some d else findM n r
def lookT (z : PV) (ok : Bool) (n : Int) (es : List (Int × PV)) : PV :=
  match findM n es with
  | some d => bif ok then .tup [d, .sc (.bool true)] else d
  | none => bif ok then .tup [z, .sc (.bool false)] else z
def updM (n : Int) (d : PV) : List (Int × PV) → List (Int × PV)
  | [] => [(n, d)]
  | (k, c) :: r => bif k == n then (n, d) :: r else (k, c) :: updM n d r
def delM (n : Int) : List (Int × PV) → List (Int × PV)
  | [] => []
  | (k, c) :: r => bif k == n then r else (k, c) :: delM n r
/-- the element's type of a map whose keys are ints -/
def intM (P : Program) (t : TypeId) : Option TypeId :=
  match P.underlying t with
  | some (.map k e) => match P.underlying k with
    | some (.int .i64) => some e
    | _ => none
  | _ => none
def key? : PV → Option Int
  | .sc (.int .i64 n) => some n
  | _ => none
def mapOf? (S : Store) : AV → Option (List (Int × PV))
  | .mp id => match S[id]? with
    | some (.map es) => some es
    | _ => none
  | _ => none
def lookPV (P : Program) (t : TypeId) (ok : Bool) (es : List (Int × PV)) (k : PV) : Option PV :=
  match intM P t with
  | some et => match zeroPV P et, key? k with
    | some z, some n => some (lookT z ok n es)
    | _, _ => none
  | none => none
def updPV (P : Program) (t : TypeId) (es : List (Int × PV)) (k d : PV) : Option (List (Int × PV)) :=
  match intM P t, key? k with
  | some _, some n => some (updM n d es)
  | _, _ => none
def delPV (P : Program) (t : TypeId) (es : List (Int × PV)) (k : PV) : Option (List (Int × PV)) :=
  match intM P t, key? k with
  | some _, some n => some (delM n es)
  | _, _ => none
def boxPV (P : Program) (t : TypeId) (d : PV) : Option PV :=
  match layOf P t with
  | some lay => if d.hasLay lay then some (.ro lay d) else none
  | none => none

def lenAV (P : Program) (S : Store) (t : TypeId) (x : AV) : Option Int :=
  match P.underlying t with
  | some .string => match x with
    | .pv (.sc (.string s)) => some s.size
    | _ => none
  | some (.slice _) => match x with
    | .pv (.sc (.slice none 0 _)) => some 0
    | .pv (.list _ _ xs) => some xs.length
    | .arr id => match S[id]? with | some (.arr _ _ xs) => some xs.length | _ => none
    | .sub _ _ n => some n
    | _ => none
  | some (.map _ _) => match x with
    | .mp id => match S[id]? with | some (.map es) => some es.length | _ => none
    | _ => none
  | _ => none

/-- How many bytes an append may come to. -/
def appendRoom : Nat := 2 ^ 47

/-- append(s, x...): what is appended is a list. (v, the objects then, the array that has moved) -/
def appendAV (P : Program) (S : Store) (t tx : TypeId) (s x : AV) : Option (AV × Store × Option Nat) :=
  match P.underlying t, P.underlying tx with
  | some (.slice el), some (.slice _) =>
    match layOf P el, P.info? el, zeroPV P el with
    | some lay, some i, some z =>
      if 0 < width lay ∧ 0 < i.bytes ∧ z.hasLay lay = true then
        match elems? S x with
        | some (lx, ys) =>
          if lay = lx then
            match s with
            | .arr id => match S[id]? with
              | some (.arr l0 excl xs) =>
                if lay = l0 ∧ (xs.length + ys.length) * i.bytes ≤ appendRoom ∧ x.free id = true then
                  some (.arr id, S.set id (.arr l0 excl (xs ++ ys)), some id)
                else none
              | _ => none
            | .pv (.sc (.slice none 0 0)) => if ys.length * i.bytes ≤ appendRoom then some (.pv (.list lay false ys), S, none) else none
            | .pv (.list l0 true xs) => if lay = l0 ∧ (xs.length + ys.length) * i.bytes ≤ appendRoom then some (.pv (.list lay ys.isEmpty (xs ++ ys)), S, none) else none
            | _ => none
          else none
        | none =>
          match x with
          | .pv (.sc (.slice none 0 0)) =>
            match s with
            | .arr id => (match S[id]? with | some (.arr l0 _ _) => if lay = l0 then some (.arr id, S, some id) else none | _ => none)
            | .pv (.sc (.slice none 0 0)) => some (s, S, none)
            | .pv (.list _ _ _) => some (s, S, none)
            | _ => none
          | .pv (.sc (.slice (some _) 0 _)) =>
            match s with
            | .arr id => (match S[id]? with | some (.arr l0 _ _) => if lay = l0 then some (.arr id, S, some id) else none | _ => none)
            | _ => none
          | _ => none
      else none
    | _, _, _ => none
  | _, _ => none

def mkClo (f : FuncId) (first captured : List AV) : AV :=
  match first.mapM AV.pure?, captured.mapM AV.pure? with
  | some a, some b => .pv (.clo f a b)
  | _, _ => .clo f first captured

/-- The bytes of a list. -/
def byte? : PV → Option UInt8
  | .sc (.int .u8 n) => some (UInt8.ofNat n.toNat)
  | _ => none

def convertPV (P : Program) (S : Store) (s d : TypeId) (x : AV) : Option PV :=
  match x with
  | .pv (.sc v) => (pureRun P (convert s d v)).map .sc
  | _ =>
    match P.underlying s, P.underlying d, elems? S x with
    | some (.slice e), some .string, some (0, xs) =>
      match P.underlying e with
      | some (.int .u8) => (xs.mapM byte?).map fun bs => .sc (.string ⟨bs.toArray⟩)
      | _ => none
    | _, _, _ => none

/-- Tables by number. -/
inductive Tr (α : Type) where
  | nil
  | node (k : Nat) (v : α) (l r : Tr α)
def Tr.get? {α : Type} : Tr α → Nat → Option α
  | .nil, _ => none
  | .node k v l r, t => bif Nat.beq t k then some v else bif Nat.blt t k then l.get? t else r.get? t
def pairFind {α : Type} : List (Nat × α) → Nat → Option α
  | [], _ => none
  | (k, v) :: r, t => bif Nat.beq t k then some v else pairFind r t

abbrev Prims := FuncId → Option (List PV → Option PV)
inductive Ex where
  | normal
  | exit (id : Nat)
  | ret
  deriving DecidableEq

/-- The slots that live where ways meet: at the way in; at each way out. -/
structure Join where
  ins : List Tmp
  normal : List Tmp
  exits : List (Nat × List Tmp)
  ret : List Tmp
def Join.outs (j : Join) : Ex → List Tmp
  | .normal => j.normal
  | .exit id => (pairFind j.exits id).getD []
  | .ret => j.ret
/-! ## objects as data: a struct whose fields are data, or maps -/
inductive FV where
  | p (d : PV)
  | m (es : List (Int × PV))
/-- what a method answers: data; a new struct; one, and data -/
inductive MR where
  | pure (d : PV)
  | one (fs : List FV)
  | two (fs : List FV) (e : PV)
/-- what is handed to a function that takes arrays for its own, and what it answers: data; an array of the call's own -/
inductive OV where
  | p (d : PV)
  | a (lay : Nat) (xs : List PV)
/-- args: 0: data; 1: an array that is handed over; lay + 2: an array that is lent, and comes back as long as it was. kind: 0: one; 1: a tuple; 2: a struct. res: data, or an array. -/
structure OwnSp where
  args : List Nat
  kind : Nat
  res : List (Option Nat)
/-- an own function that is not entered: what it comes to, the calls of closures being known -/
structure PO where
  q : (FuncId → List PV → Option PV) → List OV → Option (List OV)
  mono : ∀ cp cp' : FuncId → List PV → Option PV, (∀ f a r, cp f a = some r → cp' f a = some r) → ∀ os r, q cp os = some r → q cp' os = some r
/-- What is told the evaluator beside the code. Nothing here is trusted. -/
structure Hints where
  own : FuncId → Tmp → Option Nat := fun _ _ => none
  live : FuncId → Nat → List Tmp := fun _ _ => []
  join : FuncId → Nat → Option Join := fun _ _ => none
  shared : FuncId → Bool := fun _ => false
  prim : Prims := fun _ => none
  stil : FuncId → Nat → List Tmp := fun _ _ => []
  meth : FuncId → Option (Nat × List Bool) := fun _ => none
  inl : FuncId → Bool := fun _ => false
  primM : FuncId → Option (Option (List FV) → List PV → Option (MR × List FV)) := fun _ => none
  primS : FuncId → Option (List AV → Store → Option PV) := fun _ => none
  ownF : FuncId → Option OwnSp := fun _ => none
  primO : FuncId → Option PO := fun _ => none
  rel : FuncId → Bool := fun _ => false

def fvOf (S : Store) : AV → Option FV
  | .pv d => some (.p d)
  | .mp j => match S[j]? with
    | some (.map es) => some (.m es)
    | _ => none
  | _ => none
def fvsOf (S : Store) : List AV → Option (List FV)
  | [] => some []
  | c :: cs => match fvOf S c, fvsOf S cs with
    | some f, some fs => some (f :: fs)
    | _, _ => none
def ckB {R : Type} (c : Bool) (y : Option R) : Option R := match c with | true => y | false => none
def ckRoot (lay : Nat) (v : AV) : Bool := lay != 0 && v.hasLay lay
def rootK {R : Type} (S : Store) (id : Nat) (k : List AV → List FV → Option R) : Option R :=
  match S[id]? with
  | some (.var lay v) => ckB (ckRoot lay v) (match fvsOf S v.cells with | some fs => k v.cells fs | none => none)
  | _ => none
def rootAV (S : Store) (id : Nat) : Option (List AV × List FV) := rootK S id fun cs fs => some (cs, fs)
def mpIds : List AV → List Nat
  | [] => []
  | .mp j :: r => j :: mpIds r
  | _ :: r => mpIds r
def nodupN : List Nat → Bool
  | [] => true
  | a :: r => (r.all fun b => !Nat.beq a b) && nodupN r
def othersFree (id : Nat) (js : List Nat) : Nat → Store → Bool
  | _, [] => true
  | k, o :: r => (Nat.beq k id || (match o with | .var _ v => js.all fun j => v.free j | _ => true)) && othersFree id js (k + 1) r
/-- the fields' values; the maps lie from n on -/
def unR : Nat → List FV → List AV
  | _, [] => []
  | n, .p d :: r => .pv d :: unR n r
  | n, .m _ :: r => .mp n :: unR (n + 1) r
def mapsOf : List FV → Store
  | [] => []
  | .p _ :: r => mapsOf r
  | .m es :: r => .map es :: mapsOf r
def newS (n : Nat) (fs : List FV) : Store := .var (fs.length + 1) (.mkAgg (unR (n + 1) fs)) :: mapsOf fs
def backC : List AV → List FV → List AV
  | .mp j :: cs, .m _ :: fs => .mp j :: backC cs fs
  | _ :: cs, .p d :: fs => .pv d :: backC cs fs
  | _, _ => []
def setMaps (S : Store) : List Nat → List FV → Store
  | js, .p _ :: fs => setMaps S js fs
  | j :: js, .m es :: fs => setMaps (S.set j (.map es)) js fs
  | _, _ => S
def putBack (S : Store) (id : Nat) (cs : List AV) (fs : List FV) : Store := (setMaps S (mpIds cs) fs).set id (.var (cs.length + 1) (.mkAgg (backC cs fs)))
def shapeOf : List FV → List Bool
  | [] => []
  | .p _ :: r => false :: shapeOf r
  | .m _ :: r => true :: shapeOf r
section
variable {R : Type}
def fp (fs : List FV) (f : PV → List FV → Option R) : Option R := match fs with | .p d :: r => f d r | _ => none
def fm (fs : List FV) (f : List (Int × PV) → List FV → Option R) : Option R := match fs with | .m es :: r => f es r | _ => none
def fnil (fs : List FV) (x : Option R) : Option R := match fs with | [] => x | _ => none
def om (x : Option (MR × List FV)) (f : MR → List FV → Option R) : Option R := match x with | some (r, fs) => f r fs | none => none
def r1 (r : MR) (f : PV → Option R) : Option R := match r with | .pure d => f d | _ => none
def r2 (r : MR) (f : List FV → Option R) : Option R := match r with | .one fs => f fs | _ => none
def r3 (r : MR) (f : PV → Option R) (g : List FV → PV → Option R) : Option R := match r with | .pure d => f d | .two fs e => g fs e | _ => none
def shapeK : List Bool → List FV → (List FV → Option R) → Option R
  | [], fs, k => fnil fs (k [])
  | false :: s, fs, k => fp fs fun d r => shapeK s r fun t => k (.p d :: t)
  | true :: s, fs, k => fm fs fun es r => shapeK s r fun t => k (.m es :: t)
def resK (mk : Nat × List Bool) (r : MR) (S : Store) (k : AV → Store → Option R) : Option R :=
  match mk.1 with
  | 1 => r1 r fun d => k (.pv d) S
  | 2 => r2 r fun fs => shapeK mk.2 fs fun fs => k (.ptr S.length 0 0) (S ++ newS S.length fs)
  | 3 => r3 r (fun d => k (.pv d) S) fun fs e => shapeK mk.2 fs fun fs => k (.tup [.ptr S.length 0 0, .pv e]) (S ++ newS S.length fs)
  | 5 => r3 r (fun _ => none) fun fs e => shapeK mk.2 fs fun fs => k (.tup [.ptr S.length 0 0, .pv e]) (S ++ newS S.length fs)
  | _ => none
/-- a method, or what makes a struct: a call that sees the struct alone -/
def methK (mk : Nat × List Bool) (meth : FuncId → Option (List FV) → List PV → Option (MR × List FV)) (g : FuncId) (as : List AV) (S : Store) (k : AV → Store → Option R) : Option R :=
  match as with
  | .ptr id 0 0 :: rest => (match rest.mapM (firm S deep) with
    | some ds => rootK S id fun cs fs =>
      ckB (nodupN (mpIds cs) && othersFree id (mpIds cs) 0 S) (om (meth g (some fs) ds) fun r fs' => shapeK (shapeOf fs) fs' fun fs' => resK mk r (putBack S id cs fs') k)
    | none => none)
  | rest => (match rest.mapM (firm S deep) with
    | some ds => om (meth g none ds) fun r fs' => fnil fs' (resK mk r S k)
    | none => none)
end
def rootOf : Bool → Store → Option (List AV × List FV)
  | true, S => rootAV S 0
  | false, _ => some ([], [])
def rootOfK {R : Type} (b : Bool) (S : Store) (k : List AV → List FV → Option R) : Option R := match b with | true => rootK S 0 k | false => k [] []
def finM1 (root : Bool) (v : AV) (S : Store) (cs : List AV) (fs : List FV) : Option (MR × List FV) :=
  match v with
  | .ptr id 0 0 => rootK S id fun cs2 fs2 => ckB ((!root || id != 0) && nodupN (mpIds cs ++ mpIds cs2)) (some (.one fs2, fs))
  | .tup [.ptr id 0 0, .pv e] => rootK S id fun cs2 fs2 => ckB ((!root || id != 0) && nodupN (mpIds cs ++ mpIds cs2)) (some (.two fs2 e, fs))
  | v => (match firm S deep v with
    | some d => ckB (nodupN (mpIds cs)) (some (.pure d, fs))
    | none => none)
/-- what is told of the struct when the call ends -/
def finM (root : Bool) (v : AV) (S : Store) : Option (MR × List FV) := rootOfK root S fun cs fs => finM1 root v S cs fs

/-! ## calls that take arrays for their own -/
section
variable {R : Type}
def oo (x : Option (List OV)) (f : List OV → Option R) : Option R := match x with | some r => f r | none => none
def op (os : List OV) (f : PV → List OV → Option R) : Option R := match os with | .p d :: r => f d r | _ => none
def oa (lay : Nat) (os : List OV) (f : List PV → List OV → Option R) : Option R := match os with | .a l xs :: r => ckB (Nat.beq l lay) (f xs r) | _ => none
def onil (os : List OV) (x : Option R) : Option R := match os with | [] => x | _ => none
def shO : List (Option Nat) → List OV → (List OV → Option R) → Option R
  | [], os, k => onil os (k [])
  | none :: s, os, k => op os fun d r => shO s r fun t => k (.p d :: t)
  | some lay :: s, os, k => oa lay os fun xs r => shO s r fun t => k (.a lay xs :: t)
end
/-- arguments: what is handed over; the arrays that are moved; those that are lent -/
def argsO (S : Store) : List Nat → List AV → Option (List OV × List Nat × List Nat)
  | [], [] => some ([], [], [])
  | 0 :: fl, v :: r => match firm S deep v, argsO S fl r with
    | some d, some (os, a, b) => some (.p d :: os, a, b)
    | _, _ => none
  | 1 :: fl, .arr id :: r => match S[id]?, argsO S fl r with
    | some (.arr lay true xs), some (os, a, b) => some (.a lay xs :: os, id :: a, b)
    | _, _ => none
  | (l + 2) :: fl, .arr id :: r => match S[id]?, argsO S fl r with
    | some (.arr lay true xs), some (os, a, b) => if Nat.beq lay l then some (.a lay xs :: os, a, id :: b) else none
    | _, _ => none
  | _, _ => none
/-- what is handed over, laid from object n on -/
def resO : Nat → List OV → List AV × Store
  | _, [] => ([], [])
  | n, .p d :: r => (.pv d :: (resO n r).1, (resO n r).2)
  | n, .a lay xs :: r => (.arr n :: (resO (n + 1) r).1, .arr lay true xs :: (resO (n + 1) r).2)
def mkO (kind : Nat) (vs : List AV) : AV :=
  match kind, vs with
  | 0, [v] => v
  | 1, vs => .mkTup vs
  | 2, vs => .mkAgg vs
  | _, _ => .dead
def looseL : List Nat → AV → AV
  | [], v => v
  | k :: r, v => looseL r (v.loose k)
/-- arrays that are nobody's any more -/
def zomb : List Nat → Store → Store
  | [], S => S
  | id :: r, S => zomb r (match S[id]? with | some (.arr lay e xs) => S.set id (.arr lay e (xs ++ [.sc (.bool false)])) | _ => S)
def ownS (S : Store) (mv : List Nat) : Store := zomb mv (S.map (Ob.mapV (looseL mv)))
def putsO : Store → List Nat → List OV → Store
  | S, id :: r, .a lay ys :: os => putsO (S.set id (.arr lay true ys)) r os
  | S, _, _ => S
def lentL : List Nat → List (Option Nat)
  | [] => []
  | (l + 2) :: r => some l :: lentL r
  | _ :: r => lentL r
def ownK {R : Type} (sp : OwnSp) (own : FuncId → List OV → Option (List OV)) (g : FuncId) (as : List AV) (S : Store) (k : AV → Store → Option R) : Option R :=
  match argsO S sp.args as with
  | some (os, mv, bw) => ckB (nodupN (mv ++ bw)) (oo (own g os) fun r => shO (sp.res ++ lentL sp.args) r fun r =>
      k (mkO sp.kind (resO S.length (r.take sp.res.length)).1) (putsO (ownS S mv) bw (r.drop sp.res.length) ++ (resO S.length (r.take sp.res.length)).2))
  | none => none
/-- the lent arrays, where they lie when the call begins: object, layout, length -/
def lentIds : List Nat → List OV → Nat → List (Nat × Nat × Nat)
  | 0 :: fl, .p _ :: r, n => lentIds fl r n
  | 1 :: fl, .a _ _ :: r, n => lentIds fl r (n + 1)
  | (l + 2) :: fl, .a _ xs :: r, n => (n, l, xs.length) :: lentIds fl r (n + 1)
  | _, _, _ => []
def cellO (S : Store) : Option Nat → AV → Option (OV × List Nat)
  | none, c => (firm S deep c).map fun d => (.p d, [])
  | some lay, .arr id => (match S[id]? with
    | some (.arr l true xs) => if Nat.beq l lay then some (.a l xs, [id]) else none
    | _ => none)
  | some lay, .sub id lo n => (match S[id]? with
    | some (.arr l true xs) => if Nat.beq l lay then some (.a l ((xs.drop lo).take n), [id]) else none
    | _ => none)
  | some lay, .pv (.sc (.slice none 0 0)) => some (.a lay [], [])
  | _, _ => none
def cellsO (S : Store) : List (Option Nat) → List AV → Option (List OV × List Nat)
  | [], [] => some ([], [])
  | s :: sh, c :: cs => match cellO S s c, cellsO S sh cs with
    | some (o, a), some (os, b) => some (o :: os, a ++ b)
    | _, _ => none
  | _, _ => none
def AV.parts (kind : Nat) (v : AV) : Option (List AV) :=
  match kind, v with
  | 0, v => some [v]
  | 1, .pv (.tup ds) => some (ds.map .pv)
  | 1, .tup vs => some vs
  | 2, .pv (.agg ds) => some (ds.map .pv)
  | 2, .agg vs => some vs
  | _, _ => none
def lentO (S : Store) : List (Nat × Nat × Nat) → Option (List OV × List Nat)
  | [] => some ([], [])
  | (a, lay, len) :: r => match S[a]?, lentO S r with
    | some (.arr l true ys), some (os, b) => if Nat.beq l lay && Nat.beq ys.length len then some (.a l ys :: os, a :: b) else none
    | _, _ => none
/-! .. the same, one behind the other -/
section
variable {R : Type}
def cellK (S : Store) : Option Nat → AV → (OV → List Nat → Option R) → Option R
  | none, c, k => (match firm S deep c with | some d => k (.p d) [] | none => none)
  | some lay, .arr id, k => (match S[id]? with
    | some (.arr l true xs) => ckB (Nat.beq l lay) (k (.a l xs) [id])
    | _ => none)
  | some lay, .sub id lo n, k => (match S[id]? with
    | some (.arr l true xs) => ckB (Nat.beq l lay) (k (.a l ((xs.drop lo).take n)) [id])
    | _ => none)
  | some lay, .pv (.sc (.slice none 0 0)), k => k (.a lay []) []
  | _, _, _ => none
def cellsK (S : Store) : List (Option Nat) → List AV → (List OV → List Nat → Option R) → Option R
  | [], [], k => k [] []
  | s :: sh, c :: cs, k => cellK S s c fun o a => cellsK S sh cs fun os b => k (o :: os) (a ++ b)
  | _, _, _ => none
def lentK (S : Store) : List (Nat × Nat × Nat) → (List OV → List Nat → Option R) → Option R
  | [], k => k [] []
  | (a, lay, len) :: r, k => (match S[a]? with
    | some (.arr l true ys) => ckB (Nat.beq l lay && Nat.beq ys.length len) (lentK S r fun os b => k (.a l ys :: os) (a :: b))
    | _ => none)
end
/-- what such a call is told to answer -/
def finL (sp : OwnSp) (le : List (Nat × Nat × Nat)) (v : AV) (S : Store) : Option (List OV) :=
  match v.parts sp.kind with
  | some cs => cellsK S sp.res cs fun rs a => lentK S le fun bs b => ckB (nodupN (a ++ b)) (some (rs ++ bs))
  | none => none
def finO (sp : OwnSp) (os : List OV) (v : AV) (S : Store) : Option (List OV) := finL sp (lentIds sp.args os 0) v S

/-- what a call leaves of the caller's values: what has not moved; what leads to no map; what does not show these arrays -/
inductive Lv where
  | stale
  | calm
  | free (l : List Nat)
def mvOf : List Nat → List AV → List Nat
  | 1 :: fl, .arr id :: r => id :: mvOf fl r
  | _ :: fl, _ :: r => mvOf fl r
  | _, _ => []
/-- What the calls come to: of pure functions; of functions that are handed the objects. -/
structure Kallee where
  pure : FuncId → List PV → Option PV
  shared : FuncId → List AV → Store → Option (AV × Store)
  meth : FuncId → Option (List FV) → List PV → Option (MR × List FV)
  own : FuncId → List OV → Option (List OV)
  calm : FuncId → List AV → Lv
  read : FuncId → Option (List AV → Store → Option PV)

mutual
/-- No place is shown. -/
def PV.tame : PV → Bool
  | .sc _ => true
  | .list _ _ _ => false
  | .ro _ _ => false
  | .agg cs => PV.tameAll cs
  | .tup cs => PV.tameAll cs
  | .clo _ a b => PV.tameAll a && PV.tameAll b
  | .ifc _ d => d.tame
def PV.tameAll : List PV → Bool
  | [] => true
  | d :: r => d.tame && PV.tameAll r
end

mutual
/-- No variable is shown. -/
def PV.roFree : PV → Bool
  | .sc _ => true
  | .list _ _ xs => PV.roFreeAll xs
  | .ro _ _ => false
  | .agg cs => PV.roFreeAll cs
  | .tup cs => PV.roFreeAll cs
  | .clo _ a b => PV.roFreeAll a && PV.roFreeAll b
  | .ifc _ d => d.roFree
def PV.roFreeAll : List PV → Bool
  | [] => true
  | d :: r => d.roFree && PV.roFreeAll r
end
/-- May it be answered? 1: variables of the caller's were read; 2: arrays too, that are written. -/
def okAns (strict : Nat) (r : PV) : Bool := match strict with
  | 0 => true
  | 1 => r.roFree
  | _ => r.tame
def okK (strict : Nat) (r : Option PV) : Option PV := match strict with
  | 0 => r
  | s + 1 => (match r with | some r => ckB (okAns (s + 1) r) (some r) | none => none)
/-- A call by a pure closure. -/
def callD (cp : FuncId → List PV → Option PV) (d : PV) (args : List PV) (strict : Nat) : Option PV :=
  match d with
  | .clo g a b => okK strict (cp g (a ++ args ++ b))
  | _ => none

inductive Kd where
  | valP | val | new | mut | app | appP | call | bad
  deriving DecidableEq

def isConst : Operand → Bool
  | .const _ => true
  | _ => false
/-- Which kind of operation. -/
def kindOf (hint : Option Nat) (o : Oper) : Kd :=
  match o.op with
  | .move x => if isConst x && hint.isSome then .new else .val
  | .assign x => if isConst x && hint.isSome then .new else .val
  | .buildSlice .. => if hint.isSome then .new else .valP
  | .pick .. => .val
  | .build .. => .val
  | .load .. => if ownCode hint then .new else .val
  | .nilCheck _ => .val
  | .makeFunc (.func _) _ _ => .val
  | .field .. => .val
  | .fieldAddr .. => .val
  | .indexAddr .. => .val
  | .extract .. => .val
  | .binOp .. => .valP
  | .unOp .. => .valP
  | .convert .. => if hint == some 779 then .app else .valP
  | .index .. => .valP
  | .slice _ _ _ _ mx => if ownCode hint then .new else if hint == some 781 && mx.isNone then .val else .valP
  | .alloc _ => if ownCode hint then .app else .new
  | .box .. => if hint == some 778 then .valP else .new
  | .lookup .. => .valP
  | .makeMap .. => .new
  | .mapUpdate .. => .mut
  | .range .. => .new
  | .makeSlice .. => if hint == some 780 then .valP else .new
  | .store .. => .mut
  | .next _ true => .mut
  | .call c => match c.callee with
    | .builtin .len => .valP
    | .builtin .max => .valP
    | .builtin .min => .valP
    | .builtin .append => if hint == some 777 then .appP else .app
    | .builtin .delete => .mut
    | .builtin .clear => .mut
    | .value _ => .call
    | _ => .bad
  | _ => .bad

def intPV? : PV → Option Int
  | .sc (.int _ n) => some n
  | _ => none
def makeXs (P : Program) (t : TypeId) (a b : PV) : Option (List PV) :=
  match P.underlying t with
  | some (.slice el) => match layOf P el, zeroPV P el, P.info? el, intPV? a, intPV? b with
    | some lay, some z, some i, some lv, some cv =>
      if 0 ≤ lv ∧ lv ≤ cv ∧ (i.bytes : Int) * cv ≤ 140737488355328 ∧ cv ≤ 4611686018427387904 ∧ z.hasLay lay = true ∧ 0 < width lay then some (List.replicate lv.toNat z) else none
    | _, _, _, _, _ => none
  | _ => none
/-- made, and written no more -/
def makeLs (P : Program) (t : TypeId) (a b : PV) : Option PV :=
  match P.underlying t with
  | some (.slice el) => match layOf P el with
    | some lay => (makeXs P t a b).map (.list lay false)
    | none => none
  | _ => none
/-- .. as its hint asks: written, or appended to alone -/
def ownOb' (lay : Nat) (v : AV) : Option Ob :=
  if 1000 ≤ lay then (match v with | .pv (.sc (.slice none 0 0)) => some (.arr (lay - 1000) true []) | _ => none) else ownOb lay v
def opVP (P : Program) (e : Env) (S : Store) (o : Oper) : Option PV :=
  match o.op with
  | .binOp op t x y _ => match binAV P op t x y (opnd e x) (opnd e y) with | some (.pv d) => some d | _ => nilCmp P op t (opnd e x) (opnd e y)
  | .unOp op _ x => match opnd e x with
    | .pv (.sc v) => (pureRun P (Op.unary op v)).map .sc
    | _ => none
  | .convert s d x => convertPV P S s d (opnd e x)
  | .index t x i => match opnd e x, opnd e i with
    | .pv (.sc (.string s)), .pv (.sc (.int k n)) => (pureRun P (Instr.index t (.string s) (.int k n))).map .sc
    | _, _ => none
  | .slice t x lo hi mx => match sliceAV P S t (opnd e x) (lo.map (opnd e)) (hi.map (opnd e)) (mx.map (opnd e)) with | some (.pv d) => some d | _ => none
  | .buildSlice t n parts => match (parts.toList.mapM fun (i, x) => (firm S deep (opnd e x)).map fun d => (i, d)) with
    | some ps => buildSliceAV P t n ps
    | none => none
  | .lookup t m k ok => match mapOf? S (opnd e m), opnd e k with
    | some es, .pv k => lookPV P t ok es k
    | _, _ => none
  | .box t x => match opnd e x with
    | .pv d => boxPV P t d
    | _ => none
  | .makeSlice t l c => match opnd e l, opnd e c with
    | .pv a, .pv b => makeLs P t a b
    | _, _ => none
  | .call c => match c.callee with
    | .builtin .len => (match c.argTypes.toList, c.args.toList with
      | [t], [x] => (lenAV P S t (opnd e x)).map fun n => .sc (goInt n)
      | _, _ => none)
    | .builtin .max => ((c.args.toList.map (opnd e)).mapM AV.scalar?).bind fun vs => (pureRun P (Builtin.max_ #[] 0 vs.toArray)).map .sc
    | .builtin .min => ((c.args.toList.map (opnd e)).mapM AV.scalar?).bind fun vs => (pureRun P (Builtin.min_ #[] 0 vs.toArray)).map .sc
    | _ => none
  | _ => none

def opV (P : Program) (e : Env) (S : Store) (o : Oper) : Option AV :=
  match o.op with
  | .move x => some (opnd e x)
  | .assign x => some (opnd e x)
  | .pick c a b => match opnd e c with
    | .pv (.sc (.bool t)) => some (if t then opnd e a else opnd e b)
    | _ => none
  | .build t parts => buildAV P t (parts.toList.map fun (i, x) => (i, opnd e x))
  | .load t a => loadAV P S t (opnd e a)
  | .nilCheck x => match opnd e x with
    | .ptr a b c => some (.ptr a b c)
    | .pv (.ro l c) => some (.pv (.ro l c))
    | .pv (.clo f a b) => some (.pv (.clo f a b))
    | .clo f a b => some (.clo f a b)
    | _ => none
  | .makeFunc (.func f) first captured => some (mkClo f (first.toList.map (opnd e)) (captured.toList.map (opnd e)))
  | .field t x i => fieldAV P t (opnd e x) i
  | .fieldAddr t x i => fieldAddrAV P t (opnd e x) i
  | .indexAddr t x i => (asInt? (opnd e i)).bind fun n => indexAddrAV P S t (opnd e x) n
  | .extract x i => match opnd e x with
    | .pv (.tup vs) => (vs[i]?).map .pv
    | .tup vs => vs[i]?
    | _ => none
  | .slice t x lo hi none => subAV P S t (opnd e x) (lo.map (opnd e)) (hi.map (opnd e))
  | _ => none

def optPV? : Option AV → Option (Option PV)
  | none => some none
  | some (.pv d) => some (some d)
  | some _ => none
def zeroO (b : Bool) : Option PV → Bool
  | none => b
  | some d => intPV? d == some 0
/-- s[:0:0]: nothing is left, and no room -/
def emptyXs (P : Program) (lay : Nat) (t : TypeId) (x : PV) (lo hi mx : Option PV) : Option (List PV) :=
  match P.underlying t with
  | some (.slice el) => (match layOf P el with
    | some lay' => if lay = lay' ∧ zeroO true lo = true ∧ zeroO false hi = true ∧ zeroO false mx = true then
        (match x with
        | .sc (.slice none 0 0) => some []
        | .list l0 _ _ => if l0 = lay then some [] else none
        | _ => none)
      else none
    | none => none)
  | _ => none
/-- A new object, that stands in place 'n'. -/
def opN (P : Program) (hint : Option Nat) (n : Nat) (e : Env) (S : Store) (o : Oper) : Option (AV × Ob) :=
  match o.op with
  | .move x => (hint.bind fun lay => ownOb' lay (opnd e x)).map fun ob => (.arr n, ob)
  | .assign x => (hint.bind fun lay => ownOb' lay (opnd e x)).map fun ob => (.arr n, ob)
  | .load t a => (loadAV P S t (opnd e a)).bind fun v => hint.bind fun lay => match v with
    | .arr id => some (.arr id, .gone)
    | v => (ownOb' lay v).map fun ob => (.arr n, ob)
  | .buildSlice t len parts => match (parts.toList.mapM fun (i, x) => (firm S deep (opnd e x)).map fun d => (i, d)) with
    | some ps => if ownCode hint then (buildXs P t (codeOf hint) len ps).map fun xs => (.arr n, .arr (codeOf hint) true xs)
      else (buildSliceAV P t len ps).bind fun d => (hint.bind fun lay => ownOb lay (.pv d)).map fun ob => (.arr n, ob)
    | none => none
  | .slice t x lo hi mx => match opnd e x, optPV? (lo.map (opnd e)), optPV? (hi.map (opnd e)), optPV? (mx.map (opnd e)) with
    | .pv d, some l, some h, some m => (emptyXs P (codeOf hint) t d l h m).map fun xs => (.arr n, .arr (codeOf hint) true xs)
    | _, _, _, _ => none
  | .alloc t => match layOf P t, zeroPV P t with
    | some lay, some z => if z.hasLay lay then some (.ptr n 0 0, .var lay (.pv z)) else none
    | _, _ => none
  | .box t x => match layOf P t with
    | some lay => if (opnd e x).hasLay lay then some (.ptr n 0 0, .var lay (opnd e x)) else none
    | none => none
  | .makeMap _ r => if r.isNone then some (.mp n, .map []) else none
  | .range t x => match P.underlying t, opnd e x with
    | some .string, .pv (.sc (.string s)) => some (.ptr n 0 0, .sit s 0)
    | _, _ => none
  | .makeSlice t l c => match P.underlying t with
    | some (.slice el) => match layOf P el, zeroPV P el, P.info? el, asInt? (opnd e l), asInt? (opnd e c) with
      | some lay, some z, some i, some lv, some cv =>
        if 0 ≤ lv ∧ lv ≤ cv ∧ (i.bytes : Int) * cv ≤ 140737488355328 ∧ cv ≤ 4611686018427387904 ∧ z.hasLay lay = true ∧ 0 < width lay then
          some (.arr n, .arr lay true (List.replicate lv.toNat z))
        else none
      | _, _, _, _, _ => none
    | _ => none
  | _ => none

/-- noughts from a place on, so many -/
def zeroed (xs : List PV) (lo n : Nat) (z : PV) : List PV := xs.take lo ++ (List.replicate n z ++ xs.drop (lo + n))
def clearXs (P : Program) (t : TypeId) (lay lo n : Nat) (xs : List PV) : Option (List PV) :=
  match P.underlying t with
  | some (.slice el) => match layOf P el, zeroPV P el with
    | some lay', some z => if lay = lay' ∧ z.hasLay lay = true ∧ 0 < width lay ∧ lo + n ≤ xs.length then some (zeroed xs lo n z) else none
    | _, _ => none
  | _ => none
def clearAV (P : Program) (S : Store) (t : TypeId) (x : AV) : Option (AV × Store) :=
  match x with
  | .arr id => (match S[id]? with
    | some (.arr l0 true xs) => (clearXs P t l0 0 xs.length xs).map fun ys => (.pv (.tup []), S.set id (.arr l0 true ys))
    | _ => none)
  | .sub id lo n => (match S[id]? with
    | some (.arr l0 true xs) => (clearXs P t l0 lo n xs).map fun ys => (.pv (.tup []), S.set id (.arr l0 true ys))
    | _ => none)
  | _ => none
def opM (P : Program) (e : Env) (S : Store) (o : Oper) : Option (AV × Store) :=
  match o.op with
  | .store t a x => (storeAV P S t (opnd e a) (opnd e x)).map fun S => (.pv (.tup []), S)
  | .mapUpdate t m k x => match opnd e m, opnd e k, opnd e x with
    | .mp id, .pv k, .pv d => match S[id]? with
      | some (.map es) => (updPV P t es k d).map fun es => (.pv (.tup []), S.set id (.map es))
      | _ => none
    | _, _, _ => none
  | .call c => match c.callee, c.argTypes.toList, c.args.toList with
    | .builtin .delete, [t, _], [m, k] => (match opnd e m, opnd e k with
      | .mp id, .pv k => match S[id]? with
        | some (.map es) => (delPV P t es k).map fun es => (.pv (.tup []), S.set id (.map es))
        | _ => none
      | _, _ => none)
    | .builtin .clear, [t], [x] => clearAV P S t (opnd e x)
    | _, _, _ => none
  | .next it true => match opnd e it with
    | .ptr id 0 0 => match S[id]? with
      | some (.sit s pos) =>
        if pos < s.size then
          some (.pv (.tup [.sc (.bool true), .sc (goInt pos), .sc (.int .i32 (Utf8.decode s pos).1)]), S.set id (.sit s (pos + (Utf8.decode s pos).2)))
        else some (.pv (.tup [.sc (.bool false)]), S)
      | _ => none
    | _ => none
  | _ => none

/-- a constant's bytes: its row is marked, and written no more -/
def markable (P : Program) (s d : TypeId) (xs : List PV) : Bool :=
  match P.underlying s with
  | some (.slice e) => (match P.underlying e with
    | some (.int .u8) => s == d && !xs.isEmpty
    | _ => false)
  | _ => false
def opA (P : Program) (e : Env) (S : Store) (o : Oper) : Option (AV × Store × Option Nat) :=
  match o.op with
  | .convert s d x => match opnd e x with
    | .arr id => match S[id]? with
      | some (.arr l0 true xs) => if markable P s d xs then some (.arr id, S.set id (.arr l0 false xs), some id) else none
      | _ => none
    | _ => none
  | .call c => match c.argTypes.toList, c.args.toList with
    | [t, tx], [s, x] => appendAV P S t tx (opnd e s) (opnd e x)
    | _, _ => none
  | .alloc t => match P.underlying t, layOf P t, zeroPV P t with
    | some (.slice el), some 0, some (.sc (.slice none 0 0)) => match layOf P el with
      | some lay => some (.ptr (S.length + 1) 0 0, S ++ [.arr lay true []] ++ [.var 0 (.arr S.length)], none)
      | none => none
    | _, _, _ => none
  | _ => none

def isFn : Operand → Bool
  | .func _ => true
  | _ => false
/-- What is called, and with what: pure (the left; does it read variables?), or with the objects. -/
def opC (shared : FuncId → Bool) (e : Env) (S : Store) (o : Oper) : Option ((PV × List PV × Nat) ⊕ (FuncId × List AV)) :=
  match o.op with
  | .call c => match c.callee with
    | .value f =>
      match (match isFn f, opnd e f with
        | true, .pv (.clo g a b) => if shared g then some (g, a.map .pv ++ c.args.toList.map (opnd e) ++ b.map .pv) else none
        | _, .clo g a b => if shared g then some (g, a ++ c.args.toList.map (opnd e) ++ b) else none
        | _, _ => none) with
      | some p => some (.inr p)
      | none =>
        match firm S deep (opnd e f), (c.args.toList.map (opnd e)).mapM (firm S deep) with
        | some d, some as => some (.inl (d, as, 0))
        | _, _ =>
          match freezeV S deep (opnd e f), (c.args.toList.map (opnd e)).mapM (freezeV S deep) with
          | some d, some as => some (.inl (d, as, 1))
          | _, _ =>
            match freeze S deep (opnd e f), (c.args.toList.map (opnd e)).mapM (freeze S deep) with
            | some d, some as => some (.inl (d, as, 2))
            | _, _ => none
    | _ => none
  | _ => none

def guardPV (d : PV) (want : Bool) : Option Bool :=
  match d with
  | .sc (.bool b) => some (b == want)
  | .tup [] => some false
  | _ => none
/-- What a guard says: none, where it is not known. -/
def guardAV (ops : Array Oper) (e : Env) (j : Nat) (want : Bool) : Option Bool :=
  match (ops[j]?).bind (·.dst) with
  | none => some false
  | some t => match e.get t with
    | .pv d => guardPV d want
    | _ => none
def guarded {α : Type} (ops : Array Oper) (e : Env) (o : Oper) (x : Option α) (d : α) : Option α :=
  match o.guard with
  | none => x
  | some (j, want) => match guardAV ops e j want with
    | some g => if g then x else some d
    | none => none
def undefA : AV := .pv (.tup [])

/-! ## what operations come to, data first: the same, told so that the kernel sees it with the data unknown -/
inductive Out where
  | p (x : Option PV)
  | a (x : Option AV)
  | n (x : Option Nat) (id : Nat)
  | s (x : Option (Nat × Nat)) (id : Nat)
def Out.opt : Out → Option AV
  | .p x => x.map .pv
  | .a x => x
  | .n x id => x.map fun i => .ptr id i 0
  | .s x id => x.map fun r => .sub id r.1 r.2
def Out.go {R : Type} (o : Out) (F : AV → Option R) : Option R :=
  match o with
  | .p x => (match x with | some d => F (.pv d) | none => none)
  | .a x => (match x with | some v => F v | none => none)
  | .n x id => (match x with | some i => F (.ptr id i 0) | none => none)
  | .s x id => (match x with | some r => F (.sub id r.1 r.2) | none => none)
def guardP (g : Option Bool) (x : Option PV) : Option PV :=
  match g with
  | some true => x
  | some false => some (.tup [])
  | none => none
def Out.guard (ops : Array Oper) (e : Env) (o : Oper) (x : Out) : Out :=
  match o.guard with
  | none => x
  | some (j, w) => match x with
    | .p x => .p (guardP (guardAV ops e j w) x)
    | x => .a (match guardAV ops e j w with | some true => x.opt | some false => some undefA | none => none)

def loadPV (P : Program) (t : TypeId) (d : PV) : Option PV :=
  match layOf P t, d with
  | some lay, .ro l0 c => c.at_ l0 0 lay
  | _, _ => none
def fieldPV (P : Program) (s : TypeId) (x : PV) (i : Nat) : Option PV :=
  match P.underlying s with
  | some (.struct fields) =>
    match fields[i]? with
    | some f => (layOf P f.type).bind fun lay => x.part f.offset lay
    | none => none
  | _ => none
def fieldAddrPV (P : Program) (s : TypeId) (a : PV) (i : Nat) : Option PV :=
  match P.underlying s with
  | some (.struct fields) =>
    match fields[i]? with
    | some f =>
      match layOf P f.type with
      | some lay =>
        if width lay = 0 then none else
        match a with
        | .ro l0 c => (c.at_ l0 f.offset lay).map fun c => .ro lay c
        | _ => none
      | none => none
    | none => none
  | _ => none
def boolPV? : PV → Option Bool
  | .sc (.bool t) => some t
  | _ => none
def indexAddrPV (P : Program) (t : TypeId) (x k : PV) : Option PV :=
  match intPV? k with
  | none => none
  | some i =>
    match P.underlying t with
    | some (.slice el) =>
      match layOf P el, x with
      | some lay, .list l0 _ xs => if lay = l0 ∧ 0 ≤ i then (xs[i.toNat]?).map fun c => .ro lay c else none
      | _, _ => none
    | some (.array n el) =>
      match layOf P el, x with
      | some lay, .ro l0 c => if 0 ≤ i ∧ i < n then (c.at_ l0 (i.toNat * width lay) lay).map fun c => .ro lay c else none
      | _, _ => none
    | _ => none
def extractPV (x : PV) (i : Nat) : Option PV :=
  match x with
  | .tup vs => vs[i]?
  | _ => none
def pickPV (c a b : PV) : Option PV :=
  match boolPV? c with
  | some t => some (bif t then a else b)
  | none => none
def nilCheckPV (x : PV) : Option PV :=
  match x with
  | .ro l c => some (.ro l c)
  | .clo f a b => some (.clo f a b)
  | _ => none
def lenPV (P : Program) (t : TypeId) (x : PV) : Option Int :=
  match P.underlying t with
  | some .string => match x with
    | .sc (.string s) => some s.size
    | _ => none
  | some (.slice _) => match x with
    | .sc (.slice none 0 _) => some 0
    | .list _ _ xs => some xs.length
    | _ => none
  | _ => none
def optIntPV (d : Int) : Option PV → Option Int
  | none => some d
  | some v => intPV? v
def sliceMxPV (clip : Bool) (lay : Nat) (xs : List PV) (l h : Int) (hi mx : Option PV) : Option PV :=
  match mx with
  | none => slicePV clip lay xs l h none
  | some m => if hi.isNone then none else (intPV? m).bind fun m => slicePV clip lay xs l h (some m)
def slicePVd (P : Program) (t : TypeId) (x : PV) (lo hi mx : Option PV) : Option PV :=
  match P.underlying t with
  | some .string =>
    match x, mx with
    | .sc (.string s), none =>
      match optIntPV 0 lo, optIntPV s.size hi with
      | some l, some h => if 0 ≤ l ∧ l ≤ h ∧ h ≤ s.size then some (.sc (.string (s.extract l.toNat h.toNat))) else none
      | _, _ => none
    | _, _ => none
  | some (.slice el) =>
    match layOf P el, x with
    | some lay, .list l0 clip xs =>
      if lay = l0 then
        match optIntPV 0 lo, optIntPV xs.length hi with
        | some l, some h => sliceMxPV clip lay xs l h hi mx
        | _, _ => none
      else none
    | _, _ => none
  | _ => none
def convPV (P : Program) (s d : TypeId) (x : PV) : Option PV :=
  match x with
  | .sc v => (pureRun P (convert s d v)).map .sc
  | .list lay _ xs =>
    match P.underlying s, P.underlying d, lay with
    | some (.slice e), some .string, 0 =>
      match P.underlying e with
      | some (.int .u8) => (xs.mapM byte?).map fun bs => .sc (.string ⟨bs.toArray⟩)
      | _ => none
    | _, _, _ => none
  | _ => none
def binPV (P : Program) (op : BinOp) (t : TypeId) (x y : Operand) (a b : PV) : Option PV :=
  match a.plain?, b.plain? with
  | some u, some v => (pureRun P (do eqGuard op t x y u v; binOp op t u v)).map .sc
  | _, _ => nilCmpPV P op t a b
def unPV (P : Program) (op : UnOp) (x : PV) : Option PV :=
  match x with
  | .sc v => (pureRun P (Op.unary op v)).map .sc
  | _ => none
def indexPV (P : Program) (t : TypeId) (x i : PV) : Option PV :=
  match x, i with
  | .sc (.string s), .sc (.int k n) => (pureRun P (Instr.index t (.string s) (.int k n))).map .sc
  | _, _ => none
def spliceK (cells : List PV) : List (Nat × PV) → Option (List PV)
  | [] => some cells
  | (off, v) :: r => (splice cells off v.cells).bind (spliceK · r)
def buildPV (P : Program) (t : TypeId) (parts : List (Nat × PV)) : Option PV :=
  match P.underlying t, zeroPV P t with
  | some (.struct fields), some (.agg z) =>
    match fields.toList.mapM fun f => layOf P f.type with
    | some lays =>
      match (parts.mapM fun (i, v) => match fields[i]?, lays[i]? with
        | some f, some lay => if v.hasLay lay then some (f.offset, v) else none
        | _, _ => none) with
      | some ps => (spliceK z ps).map .agg
      | none => none
    | none => none
  | some (.array _ el), some (.agg z) =>
    match layOf P el with
    | some lay => match (parts.mapM fun (i, v) => if v.hasLay lay then some (i * width lay, v) else none) with
      | some ps => (spliceK z ps).map .agg
      | none => none
    | none => none
  | _, _ => none

/-- operands, as data -/
def pvs? : List AV → Option (List PV)
  | [] => some []
  | .pv d :: r => (match pvs? r with | some ds => some (d :: ds) | none => none)
  | _ :: _ => none

def maxPV (P : Program) (ds : List PV) : Option PV := (ds.mapM PV.scalar?).bind fun vs => (pureRun P (Builtin.max_ #[] 0 vs.toArray)).map .sc
def minPV (P : Program) (ds : List PV) : Option PV := (ds.mapM PV.scalar?).bind fun vs => (pureRun P (Builtin.min_ #[] 0 vs.toArray)).map .sc

def opVPN (P : Program) (e : Env) (S : Store) (o : Oper) : Option PV :=
  match o.op with
  | .binOp op t x y _ => (match opnd e x, opnd e y with
    | .pv a, .pv b => binPV P op t x y a b
    | a, b => nilCmp P op t a b)
  | .unOp op _ x => (match opnd e x with
    | .pv d => unPV P op d
    | _ => none)
  | .convert s d x => (match opnd e x with
    | .pv v => convPV P s d v
    | x => convertPV P S s d x)
  | .index t x i => (match opnd e x, opnd e i with
    | .pv a, .pv b => indexPV P t a b
    | _, _ => none)
  | .slice t x lo hi mx => (match opnd e x, optPV? (lo.map (opnd e)), optPV? (hi.map (opnd e)), optPV? (mx.map (opnd e)) with
    | .pv d, some l, some h, some m => slicePVd P t d l h m
    | x, _, _, _ => match sliceAV P S t x (lo.map (opnd e)) (hi.map (opnd e)) (mx.map (opnd e)) with | some (.pv d) => some d | _ => none)
  | .buildSlice t n parts => match (parts.toList.mapM fun (i, x) => (firm S deep (opnd e x)).map fun d => (i, d)) with
    | some ps => buildSliceAV P t n ps
    | none => none
  | .lookup t m k ok => (match mapOf? S (opnd e m), opnd e k with
    | some es, .pv k => lookPV P t ok es k
    | _, _ => none)
  | .box t x => (match opnd e x with
    | .pv d => boxPV P t d
    | _ => none)
  | .makeSlice t l c => (match opnd e l, opnd e c with
    | .pv a, .pv b => makeLs P t a b
    | _, _ => none)
  | .call c => match c.callee with
    | .builtin .len => (match c.argTypes.toList, c.args.toList with
      | [t], [x] => (match opnd e x with
        | .pv d => (lenPV P t d).map fun n => .sc (goInt n)
        | x => (lenAV P S t x).map fun n => .sc (goInt n))
      | _, _ => none)
    | .builtin .max => (match pvs? (c.args.toList.map (opnd e)) with | some ds => maxPV P ds | none => none)
    | .builtin .min => (match pvs? (c.args.toList.map (opnd e)) with | some ds => minPV P ds | none => none)
    | _ => none
  | _ => none

def loadO (P : Program) (S : Store) (t : TypeId) (a : AV) : Out :=
  match a with
  | .pv d => .p (loadPV P t d)
  | .ptr id i off => match layOf P t with
    | some lay => match S[id]? with
      | some (.var l0 (.pv c)) => if i = 0 then .p (c.at_ l0 off lay) else .a none
      | some (.arr l0 _ xs) => .p ((xs[i]?).bind fun x => x.at_ l0 off lay)
      | _ => .a (loadAV P S t (.ptr id i off))
    | none => .a none
  | a => .a (loadAV P S t a)
def idxArr (lay l0 n : Nat) (k : PV) : Option Nat :=
  match intPV? k with
  | some i => if lay = l0 ∧ 0 ≤ i ∧ i < n then some i.toNat else none
  | none => none
def idxSub (lay l0 lo n : Nat) (k : PV) : Option Nat :=
  match intPV? k with
  | some i => if lay = l0 ∧ 0 ≤ i ∧ i < n then some (lo + i.toNat) else none
  | none => none
/-- a part of an array of the call's own, its ends as data -/
def subO (P : Program) (S : Store) (t : TypeId) (x : AV) (lo hi : Option AV) : Out :=
  match x, optPV? lo, optPV? hi with
  | .arr id, some l, some h => (match P.underlying t, S[id]? with
    | some (.slice el), some (.arr l0 true xs) => (match layOf P el with
      | some lay => .s (match Nat.beq lay l0 with | true => subRange xs.length (optIntPV 0 l) (optIntPV xs.length h) | false => none) id
      | none => .a none)
    | _, _ => .a none)
  | .sub id lo n, some l, some h => (match P.underlying t, S[id]? with
    | some (.slice el), some (.arr l0 true _) => (match layOf P el with
      | some lay => .s ((match Nat.beq lay l0 with | true => subRange n (optIntPV 0 l) (optIntPV n h) | false => none).map fun (r : Nat × Nat) => (lo + r.1, r.2)) id
      | none => .a none)
    | _, _ => .a none)
  | x, _, _ => .a (subAV P S t x lo hi)
def indexAddrO (P : Program) (S : Store) (t : TypeId) (x k : AV) : Out :=
  match x, k with
  | .pv d, .pv k => .p (indexAddrPV P t d k)
  | .arr id, .pv k => match P.underlying t with
    | some (.slice el) => match layOf P el, S[id]? with
      | some lay, some (.arr l0 _ xs) => .n (idxArr lay l0 xs.length k) id
      | _, _ => .a none
    | _ => .a none
  | .sub id lo n, .pv k => match P.underlying t with
    | some (.slice el) => match layOf P el, S[id]? with
      | some lay, some (.arr l0 _ _) => .n (idxSub lay l0 lo n k) id
      | _, _ => .a none
    | _ => .a none
  | x, k => .a ((asInt? k).bind fun n => indexAddrAV P S t x n)

def opVO (P : Program) (e : Env) (S : Store) (o : Oper) : Out :=
  match o.op with
  | .move x => (match opnd e x with | .pv d => .p (some d) | v => .a (some v))
  | .assign x => (match opnd e x with | .pv d => .p (some d) | v => .a (some v))
  | .pick c a b => (match opnd e c, opnd e a, opnd e b with
    | .pv c, .pv a, .pv b => .p (pickPV c a b)
    | .pv c, a, b => .a (match boolPV? c with | some t => some (if t then a else b) | none => none)
    | _, _, _ => .a none)
  | .build t parts => (match pvs? (parts.toList.map fun (_, x) => opnd e x) with
    | some ds => .p (buildPV P t ((parts.toList.map (·.1)).zip ds))
    | none => .a (buildAV P t (parts.toList.map fun (i, x) => (i, opnd e x))))
  | .load t a => loadO P S t (opnd e a)
  | .nilCheck x => (match opnd e x with
    | .pv d => .p (nilCheckPV d)
    | .ptr a b c => .a (some (.ptr a b c))
    | .clo f a b => .a (some (.clo f a b))
    | _ => .a none)
  | .makeFunc (.func f) first captured => (match pvs? (first.toList.map (opnd e)), pvs? (captured.toList.map (opnd e)) with
    | some a, some b => .p (some (.clo f a b))
    | _, _ => .a (some (mkClo f (first.toList.map (opnd e)) (captured.toList.map (opnd e)))))
  | .field t x i => (match opnd e x with | .pv d => .p (fieldPV P t d i) | x => .a (fieldAV P t x i))
  | .fieldAddr t x i => (match opnd e x with | .pv d => .p (fieldAddrPV P t d i) | x => .a (fieldAddrAV P t x i))
  | .indexAddr t x i => indexAddrO P S t (opnd e x) (opnd e i)
  | .extract x i => (match opnd e x with
    | .pv d => .p (extractPV d i)
    | .tup vs => .a (vs[i]?)
    | _ => .a none)
  | .slice t x lo hi none => subO P S t (opnd e x) (lo.map (opnd e)) (hi.map (opnd e))
  | _ => .a none

/-- new objects -/
inductive OutN where
  | chk (c : Bool) (v : AV) (ob : Ob)
  | arr (n lay : Nat) (x : Option (List PV))
  | arrX (n lay : Nat) (x : Option (List PV))
  | sit (n : Nat) (x : Option ByteArray)
  | gen (x : Option (AV × Ob))
def OutN.go {R : Type} (o : OutN) (F : AV → Ob → Option R) : Option R :=
  match o with
  | .chk c v ob => (match c with | true => F v ob | false => none)
  | .arr n lay x => (match x with | some xs => F (.arr n) (.arr lay false xs) | none => none)
  | .arrX n lay x => (match x with | some xs => F (.arr n) (.arr lay true xs) | none => none)
  | .sit n x => (match x with | some s => F (.ptr n 0 0) (.sit s 0) | none => none)
  | .gen x => (match x with | some (v, ob) => F v ob | none => none)
def strPV? : PV → Option ByteArray
  | .sc (.string s) => some s
  | _ => none
def opNO (P : Program) (hint : Option Nat) (n : Nat) (e : Env) (S : Store) (o : Oper) : OutN :=
  match o.op with
  | .buildSlice t len parts => (match (parts.toList.mapM fun (i, x) => (firm S deep (opnd e x)).map fun d => (i, d)), hint with
    | some ps, some lay => match ownCode (some lay) with
      | true => .arrX n (codeOf (some lay)) (buildXs P t (codeOf (some lay)) len ps)
      | false => .arr n lay (buildXs P t lay len ps)
    | _, _ => .gen none)
  | .slice t x lo hi mx => (match opnd e x, optPV? (lo.map (opnd e)), optPV? (hi.map (opnd e)), optPV? (mx.map (opnd e)) with
    | .pv d, some l, some h, some m => .arrX n (codeOf hint) (emptyXs P (codeOf hint) t d l h m)
    | _, _, _, _ => .gen none)
  | .box t x => (match layOf P t, opnd e x with
    | some lay, .pv d => .chk (d.hasLay lay) (.ptr n 0 0) (.var lay (.pv d))
    | _, _ => .gen (opN P hint n e S o))
  | .makeSlice t l c => (match P.underlying t with
    | some (.slice el) => (match layOf P el, opnd e l, opnd e c with
      | some lay, .pv a, .pv b => .arrX n lay (makeXs P t a b)
      | _, _, _ => .gen none)
    | _ => .gen none)
  | .range t x => (match P.underlying t, opnd e x with
    | some .string, .pv d => .sit n (strPV? d)
    | _, _ => .gen none)
  | _ => .gen (opN P hint n e S o)

/-- objects written -/
inductive OutM where
  | cell (id l0 : Nat) (x : Option PV)
  | elem (id l0 : Nat) (x : Option (List PV))
  | mp (id : Nat) (x : Option (List (Int × PV)))
  | cellA (id l0 : Nat) (c : Bool) (v : AV)
  | gen (x : Option (AV × Store))
def OutM.go {R : Type} (S : Store) (o : OutM) (F : AV → Store → Option R) : Option R :=
  match o with
  | .cell id l0 x => (match x with | some d => F (.pv (.tup [])) (S.set id (.var l0 (.pv d))) | none => none)
  | .elem id l0 x => (match x with | some xs => F (.pv (.tup [])) (S.set id (.arr l0 true xs)) | none => none)
  | .cellA id l0 c v => (match c with | true => F (.pv (.tup [])) (S.set id (.var l0 v)) | false => none)
  | .mp id x => (match x with | some es => F (.pv (.tup [])) (S.set id (.map es)) | none => none)
  | .gen x => (match x with | some (v, S') => F v S' | none => none)
def putPV (l0 off lay : Nat) (c : AV) (d : PV) : Option PV :=
  if d.hasLay lay = false then none
  else if off = 0 ∧ l0 = lay then some d
  else match c with
    | .pv c => if l0 = 0 ∨ c.hasLay l0 = false then none else (splice c.cells off d.cells).map .agg
    | _ => none
/-- one cell, that leads to an object -/
def AV.lead : AV → Bool
  | .ptr _ _ _ => true
  | .arr _ => true
  | .mp _ => true
  | .clo _ _ _ => true
  | .sub _ _ _ => true
  | _ => false
def storeO (P : Program) (S : Store) (t : TypeId) (a x : AV) : OutM :=
  match a, x with
  | .ptr id i off, .pv d => match layOf P t, S[id]? with
    | some lay, some (.var l0 (.agg cs)) => if i = 0 then (if off = 0 ∧ l0 = lay then .cell id l0 (putPV l0 off lay (.agg cs) d)
      else if lay = 0 ∧ off < cs.length ∧ l0 ≠ 0 then .cellA id l0 (d.hasLay 0 && (AV.agg cs).sized l0) (.mkAgg (cs.set off (.pv d))) else .gen ((storeAV P S t (.ptr id i off) (.pv d)).map fun S => (.pv (.tup []), S))) else .gen none
    | some lay, some (.var l0 v) => if i = 0 then .cell id l0 (putPV l0 off lay v d) else .gen none
    | some lay, some (.arr l0 true xs) => .elem id l0 ((xs[i]?).bind fun y => (putPV l0 off lay (.pv y) d).map fun z => xs.set i z)
    | _, _ => .gen none
  | .ptr id i off, x => match layOf P t, S[id]? with
    | some lay, some (.var l0 (.agg cs)) => if x.lead = true ∧ i = 0 ∧ lay = 0 ∧ off < cs.length ∧ l0 ≠ 0 then .cellA id l0 ((AV.agg cs).sized l0) (.mkAgg (cs.set off x))
      else .gen ((storeAV P S t (.ptr id i off) x).map fun S => (.pv (.tup []), S))
    | some lay, some (.var l0 (.pv d)) => if l0 = 0 then .gen ((storeAV P S t (.ptr id i off) x).map fun S => (.pv (.tup []), S)) else (match d with
      | .agg cs => if x.lead = true ∧ i = 0 ∧ lay = 0 ∧ off < cs.length then .cellA id l0 ((PV.agg cs).hasLay l0) (.mkAgg ((cs.map .pv).set off x))
        else .gen ((storeAV P S t (.ptr id i off) x).map fun S => (.pv (.tup []), S))
      | _ => .gen ((storeAV P S t (.ptr id i off) x).map fun S => (.pv (.tup []), S)))
    | _, _ => .gen ((storeAV P S t (.ptr id i off) x).map fun S => (.pv (.tup []), S))
  | a, x => .gen ((storeAV P S t a x).map fun S => (.pv (.tup []), S))
def nextV (s : ByteArray) (pos : Nat) : PV :=
  if pos < s.size then .tup [.sc (.bool true), .sc (goInt pos), .sc (.int .i32 (Utf8.decode s pos).1)] else .tup [.sc (.bool false)]
def nextPos (s : ByteArray) (pos : Nat) : Nat := if pos < s.size then pos + (Utf8.decode s pos).2 else pos
def clearO (P : Program) (S : Store) (t : TypeId) (x : AV) : OutM :=
  match x with
  | .arr id => (match S[id]? with
    | some (.arr l0 true xs) => .elem id l0 (clearXs P t l0 0 xs.length xs)
    | _ => .gen none)
  | .sub id lo n => (match S[id]? with
    | some (.arr l0 true xs) => .elem id l0 (clearXs P t l0 lo n xs)
    | _ => .gen none)
  | _ => .gen none
def opMO (P : Program) (e : Env) (S : Store) (o : Oper) : OutM :=
  match o.op with
  | .store t a x => storeO P S t (opnd e a) (opnd e x)
  | .mapUpdate t m k x => (match opnd e m, opnd e k, opnd e x with
    | .mp id, .pv k, .pv d => match S[id]? with
      | some (.map es) => .mp id (updPV P t es k d)
      | _ => .gen none
    | _, _, _ => .gen none)
  | .call c => (match c.callee, c.argTypes.toList, c.args.toList with
    | .builtin .delete, [t, _], [m, k] => (match opnd e m, opnd e k with
      | .mp id, .pv k => match S[id]? with
        | some (.map es) => .mp id (delPV P t es k)
        | _ => .gen none
      | _, _ => .gen none)
    | .builtin .clear, [t], [x] => clearO P S t (opnd e x)
    | _, _, _ => .gen none)
  | .next it true => (match opnd e it with
    | .ptr id 0 0 => match S[id]? with
      | some (.sit s pos) => .gen (some (.pv (nextV s pos), S.set id (.sit s (nextPos s pos))))
      | _ => .gen none
    | _ => .gen none)
  | _ => .gen none

/-- appended -/
inductive OutA where
  | own (id l0 : Nat) (excl : Bool) (x : Option (List PV))
  | p (x : Option PV)
  | gen (x : Option (AV × Store × Option Nat))
def OutA.go {R : Type} (S : Store) (o : OutA) (F : AV → Store → Option Nat → Option R) : Option R :=
  match o with
  | .own id l0 excl x => (match x with | some xs => F (.arr id) (S.set id (.arr l0 excl xs)) (some id) | none => none)
  | .p x => (match x with | some d => F (.pv d) S none | none => none)
  | .gen x => (match x with | some (v, S', g) => F v S' g | none => none)
def elemsPV? : PV → Option (List PV)
  | .list _ _ xs => some xs
  | .sc (.slice none 0 0) => some []
  | .sc (.slice (some _) 0 _) => some []
  | _ => none
def layPV (lay : Nat) : PV → Bool
  | .list l _ _ => lay == l
  | _ => true
def appendTo (P : Program) (t tx : TypeId) (l0 : Nat) (xs : List PV) (d : PV) : Option (List PV) :=
  match P.underlying t, P.underlying tx with
  | some (.slice el), some (.slice _) =>
    match layOf P el, P.info? el, zeroPV P el with
    | some lay, some i, some z =>
      if 0 < width lay ∧ 0 < i.bytes ∧ z.hasLay lay = true ∧ lay = l0 ∧ layPV lay d = true then
        match elemsPV? d with
        | some ys => if (xs.length + ys.length) * i.bytes ≤ appendRoom then some (xs ++ ys) else none
        | none => none
      else none
    | _, _, _ => none
  | _, _ => none
def appendPV (P : Program) (t tx : TypeId) (s d : PV) : Option PV :=
  match P.underlying t, P.underlying tx with
  | some (.slice el), some (.slice _) =>
    match layOf P el, P.info? el, zeroPV P el with
    | some lay, some i, some z =>
      if 0 < width lay ∧ 0 < i.bytes ∧ z.hasLay lay = true then
        match d with
        | .list lx _ ys =>
          if lay = lx then
            match s with
            | .sc (.slice none 0 0) => if ys.length * i.bytes ≤ appendRoom then some (.list lay false ys) else none
            | .list l0 true xs => if lay = l0 ∧ (xs.length + ys.length) * i.bytes ≤ appendRoom then some (.list lay ys.isEmpty (xs ++ ys)) else none
            | _ => none
          else none
        | .sc (.slice none 0 0) =>
          match s with
          | .sc (.slice none 0 0) => some s
          | .list _ _ _ => some s
          | _ => none
        | _ => none
      else none
    | _, _, _ => none
  | _, _ => none
def appendO (P : Program) (S : Store) (t tx : TypeId) (s x : AV) : OutA :=
  match s, x with
  | .pv s, .pv d => .p (appendPV P t tx s d)
  | .arr id, .pv d => (match S[id]? with
    | some (.arr l0 excl xs) => .own id l0 excl (appendTo P t tx l0 xs d)
    | _ => .gen none)
  | s, x => .gen (appendAV P S t tx s x)
def opAO (P : Program) (e : Env) (S : Store) (o : Oper) : OutA :=
  match o.op with
  | .convert s d x => (match opnd e x with
    | .arr id => match S[id]? with
      | some (.arr l0 true xs) => .own id l0 false (match markable P s d xs with | true => some xs | false => none)
      | _ => .gen none
    | _ => .gen none)
  | .call c => match c.argTypes.toList, c.args.toList with
    | [t, tx], [s, x] => appendO P S t tx (opnd e s) (opnd e x)
    | _, _ => .gen none
  | .alloc _ => .gen (opA P e S o)
  | _ => .gen none

/-- appended to what is written out: nobody's memory is touched -/
def opAP (P : Program) (e : Env) (o : Oper) : Option PV :=
  match o.op with
  | .call c => match c.argTypes.toList, c.args.toList with
    | [t, tx], [s, x] => (match opnd e s, opnd e x with
      | .pv s, .pv d => appendPV P t tx s d
      | _, _ => none)
    | _, _ => none
  | _ => none

/-- Every other operation has its place before it, or behind it. -/
def settled (ops : Array Oper) (i : Nat) : Bool :=
  let b := Region.before ops
  (List.range ops.size).all fun j => j == i || (b.getD i 0).testBit j || (b.getD j 0).testBit i
/-- what looks at slots alone -/
def floatO (o : Oper) : Bool := match o.op with
  | .extract _ _ => true
  | .move (.tmp _) => true
  | .binOp _ _ _ _ _ => true
  | .fieldAddr _ _ _ => true
  | .pick _ _ _ => true
  | .build _ _ => true
  | _ => false
/-- what the slot of operation j holds is no array that j has made, and nobody else writes it -/
def floatD (ops : Array Oper) (i : Nat) (e : Env) (o : Oper) (j : Nat) : Bool :=
  match o.dst with
  | none => true
  | some d => (match e.get d with | .arr _ => false | _ => true) && (List.range i).all fun k => Nat.ble k j || (match ops[k]? with | some o' => !(o'.dst == some d) | none => true)
/-- a read of another object than the one that operation i stores to -/
def floatL (hint : Tmp → Option Nat) (ops : Array Oper) (i : Nat) (e : Env) (o : Oper) (j : Nat) : Bool :=
  match o.op, (ops[i]?).map Oper.op with
  | .load _ (.tmp t), some (.store _ a _) =>
    ((match e.get t, opnd e a with
    | .ptr x _ _, .ptr y _ _ => x != y
    | .pv _, .ptr _ _ _ => true
    | _, _ => false) && (List.range i).all fun k => Nat.blt k j || (match ops[k]? with | some o' => !(o'.dst == some t) | none => true)) &&
      (match o.guard with
      | none => floatD ops i e o j
      | some _ => !(kindOf (o.dst.bind hint) o == .new))
  | _, _ => false
/-- .. but for what looks at slots alone, or elsewhere, and stands before it -/
def settledM (hint : Tmp → Option Nat) (ops : Array Oper) (i : Nat) (e : Env) : Bool :=
  let b := Region.before ops
  (List.range ops.size).all fun j => j == i || (b.getD i 0).testBit j || (b.getD j 0).testBit i || (Nat.blt j i && (match ops[j]? with | some o => floatO o || floatL hint ops i e o j | none => false))

def AV.looseO : Option Nat → AV → AV
  | none, v => v
  | some k, v => v.loose k
mutual
def AV.fits (S S' : Store) : AV → Bool      -- its arrays have not moved between S and S'
  | .ptr id _ _ => match S[id]? with
    | some (.arr _ _ xs) => (match S'[id]? with
      | some (.arr _ _ ys) => xs.length == ys.length
      | _ => false)
    | some (.map _) => false
    | _ => true
  | .arr id => match S[id]?, S'[id]? with
    | some (.arr _ _ xs), some (.arr _ _ ys) => xs.length == ys.length
    | _, _ => false
  | .mp _ => false
  | .sub id _ _ => match S[id]?, S'[id]? with
    | some (.arr _ _ xs), some (.arr _ _ ys) => xs.length == ys.length
    | _, _ => false
  | .agg cs => AV.fitsAll S S' cs
  | .tup cs => AV.fitsAll S S' cs
  | .clo _ a b => AV.fitsAll S S' a && AV.fitsAll S S' b
  | _ => true
def AV.fitsAll (S S' : Store) : List AV → Bool
  | [] => true
  | v :: r => v.fits S S' && AV.fitsAll S S' r
end
def AV.stale (S S' : Store) (v : AV) : AV := if v.fits S S' then v else .dead
def isMapAt (S : Store) (id : Nat) : Bool := match S[id]? with
  | some (.map _) => true
  | _ => false
mutual
def AV.calmB (S : Store) : AV → Bool      -- leads to no map
  | .ptr id _ _ => !isMapAt S id
  | .arr id => !isMapAt S id
  | .mp _ => false
  | .sub id _ _ => !isMapAt S id
  | .agg cs => AV.calmAll S cs
  | .tup cs => AV.calmAll S cs
  | .clo _ a b => AV.calmAll S a && AV.calmAll S b
  | _ => true
def AV.calmAll (S : Store) : List AV → Bool
  | [] => true
  | v :: r => v.calmB S && AV.calmAll S r
end
/-- what a call leaves of the caller's values -/
def staleK (lv : Lv) (S S' : Store) (v : AV) : AV := match lv with
  | .calm => if v.calmB S then v else .dead
  | .stale => v.stale S S'
  | .free l => looseL l v
def Hints.calmB (h : Hints) (f : FuncId) (as : List AV) : Lv := match h.primS f with
  | some _ => .calm
  | none => match h.meth f with
    | some _ => .calm
    | none => match h.ownF f with
      | some sp => .free (mvOf sp.args as)
      | none => .stale
/-- .. but where a call is told to be a pure one -/
def shAt (hint : Option Nat) (shared : FuncId → Bool) : FuncId → Bool := match hint == some 783 with
  | true => fun _ => false
  | false => shared

/-- The operations of a region, from the i-th on, in the order of the text. -/
def evalOps (P : Program) (K : Kallee) (hint : Tmp → Option Nat) (shared : FuncId → Bool) (draw : Bool) (ops : Array Oper) {R : Type} :
    List Oper → Nat → Env → Store → (Env → Store → Option R) → Option R
  | [], _, e, S, k => k e S
  | o :: rest, i, e, S, k =>
    match kindOf (o.dst.bind hint) o with
    | .valP => ((Out.p (opVPN P e S o)).guard ops e o).go fun v => evalOps P K hint shared draw ops rest (i + 1) (e.put o.dst v) S k
    | .val => ((opVO P e S o).guard ops e o).go fun v => evalOps P K hint shared draw ops rest (i + 1) (e.put o.dst v) S k
    | .new => (match o.guard with
      | none => opNO P (o.dst.bind hint) S.length e S o
      | some _ => .gen (guarded ops e o (opN P (o.dst.bind hint) S.length e S o) (undefA, .gone))).go fun v ob => evalOps P K hint shared draw ops rest (i + 1) (e.put o.dst v) (S ++ [ob]) k
    | .mut => if draw && !settledM hint ops i e then none else (match o.guard with
      | none => opMO P e S o
      | some _ => .gen (guarded ops e o (opM P e S o) (undefA, S))).go S fun v S' => evalOps P K hint shared draw ops rest (i + 1) (e.put o.dst v) S' k
    | .app => if draw && !settled ops i then none else (match o.guard with
      | none => opAO P e S o
      | some _ => .gen (guarded ops e o (opA P e S o) (undefA, S, none))).go S fun v S' g => evalOps P K hint shared draw ops rest (i + 1) ((e.map (AV.looseO g)).put o.dst v) (S'.map (Ob.mapV (AV.looseO g))) k
    | .appP => ((Out.p (opAP P e o)).guard ops e o).go fun v => evalOps P K hint shared draw ops rest (i + 1) (e.put o.dst v) S k
    | .call => match opC (shAt (o.dst.bind hint) shared) e S o with
      | some (.inl (d, as, strict)) => ((Out.p (callD K.pure d as strict)).guard ops e o).go fun v => evalOps P K hint shared draw ops rest (i + 1) (e.put o.dst v) S k
      | some (.inr (g, as)) => match K.read g with
        | some q => ((Out.p (q as S)).guard ops e o).go fun v => evalOps P K hint shared draw ops rest (i + 1) (e.put o.dst v) S k
        | none => if draw && !settled ops i then none else match guarded ops e o (K.shared g as S) (undefA, S) with
          | some (v, S') => evalOps P K hint shared draw ops rest (i + 1) ((e.map (staleK (K.calm g as) S S')).put o.dst v) S' k
          | none => none
      | none => none
    | .bad => none

/-- The slots that some code writes. -/
def writes : Code → List Tmp
  | .region _ ops _ => ops.toList.filterMap (·.dst)
  | .seq a b => writes a ++ writes b
  | .cond _ a b => writes a ++ writes b
  | .block _ b => writes b
  | .loop b => writes b
  | .scope b => writes b
  | _ => []
def firstRegion : Code → Option Nat
  | .region id _ _ => some id
  | .seq a b => (firstRegion a) <|> (firstRegion b)
  | .cond _ a b => (firstRegion a) <|> (firstRegion b)
  | .block _ b => firstRegion b
  | .loop b => firstRegion b
  | .scope b => firstRegion b
  | _ => none

/-- The slots that live on. -/
def Env.pick (e : Env) : List Tmp → Env
  | [] => .nil
  | t :: r => (Env.pick e r).set t (e.get t)
def Env.strike (e : Env) : List Tmp → Env
  | [] => e
  | t :: r => (Env.strike e r).set t .dead
def Env.lay (e : Env) : List Tmp → List AV → Env
  | t :: r, v :: s => (Env.lay e r s).set t v
  | _, _ => e
def trimS (n : Nat) (S : Store) : Store := if S.length = n then S else (S.take n).map (Ob.mapV (AV.cut n))
def trimV (n : Nat) (S : Store) (v : AV) : AV := if S.length = n then v else v.cut n
/-- A join: what was made on the way is forgotten, but for what lives on. -/
def prune {R : Type} (J : Option Join) (n : Nat) (k : Ex → Env → Store → Option R) : Ex → Env → Store → Option R :=
  match J with
  | none => k
  | some j => fun x e S => k x ((e.map (trimV n S)).pick (j.outs x)) (trimS n S)
def enter (J : Option Join) (e : Env) : Env :=
  match J with
  | none => e
  | some j => e.pick j.ins
/-- Where a piece of code is told of: by its first region, and what it is. -/
def spotOf (c : Code) : Nat :=
  match c with
  | .block id _ => 4 * id + 1
  | .cond _ _ _ => (match firstRegion c with | some r => 4 * (r + 1) + 2 | none => 2)
  | _ => (match firstRegion c with | some r => 4 * (r + 1) | none => 0)
/-- The end of a block. -/
def leaveB {R : Type} (id : Nat) (k : Ex → Env → Store → Option R) : Ex → Env → Store → Option R := fun x e S =>
  match x with
  | .exit id' => if id' = id then k .normal e S else k (.exit id') e S
  | x => k x e S
def next {R : Type} (f : Env → Store → Option R) (k : Ex → Env → Store → Option R) : Ex → Env → Store → Option R := fun x e S =>
  match x with
  | .normal => f e S
  | x => k x e S
def caseB {R : Type} (a : AV) (y n : Option R) : Option R :=
  match a with
  | .pv d => (match boolPV? d with | some true => y | some false => n | none => none)
  | _ => none

def iter {R : Type} (body : Env → Store → (Ex → Env → Store → Option R) → Option R) (live : List Tmp) (n : Nat) (k : Ex → Env → Store → Option R) : Nat → Env → Store → Option R
  | 0, _, _ => none
  | L + 1, e, S => body e S (next (fun e' S' => iter body live n k L ((e'.map (trimV n S')).pick live) (trimS n S')) k)

def sealI : List Nat → Store → Store
  | [], S => S
  | id :: r, S => sealI r (match S[id]? with
    | some (.arr lay true xs) => S.set id (.arr lay false xs)
    | _ => S)
def arrIds : List AV → List Nat
  | [] => []
  | .arr id :: r => id :: arrIds r
  | _ :: r => arrIds r
/-- the arrays that a value shows: itself, or in its cells, or in those of its variable -/
def showsA (S : Store) : AV → List Nat
  | .arr id => [id]
  | .agg cs => arrIds cs
  | .ptr id 0 0 => (match S[id]? with | some (.var _ v) => arrIds v.cells | _ => [])
  | _ => []
/-- Arrays that are written no more, from here on. -/
def sealL (e : Env) : List Tmp → Store → Store
  | [], S => S
  | t :: r, S => sealL e r (sealI (showsA S (e.get t)) S)
def exec (P : Program) (K : Kallee) (h : Hints) (L : Nat) (f : FuncId) : Code → {R : Type} → Env → Store → (Ex → Env → Store → Option R) → Option R
  | .skip, _, e, S, k => k .normal e S
  | .label _, _, e, S, k => k .normal e S
  | .region id ops draw, _, e, S, k => evalOps P K (h.own f) h.shared draw ops ops.toList 0 (enter (h.join f (4 * (id + 1) + 3)) e) (sealL e (h.stil f id) S) (prune (h.join f (4 * (id + 1) + 3)) S.length k .normal)
  | .seq a b, _, e, S, k => exec P K h L f a e S (next (fun e S => exec P K h L f b e S k) k)
  | .cond c a b, _, e, S, k =>
    caseB (opnd (enter (h.join f (spotOf (.cond c a b))) e) c)
      (exec P K h L f a (enter (h.join f (spotOf (.cond c a b))) e) S (prune (h.join f (spotOf (.cond c a b))) S.length k))
      (exec P K h L f b (enter (h.join f (spotOf (.cond c a b))) e) S (prune (h.join f (spotOf (.cond c a b))) S.length k))
  | .block id bd, _, e, S, k => exec P K h L f bd (enter (h.join f (spotOf (.block id bd))) e) S (leaveB id (prune (h.join f (spotOf (.block id bd))) S.length k))
  | .loop bd, _, e, S, k =>
    iter (exec P K h L f bd) (h.live f ((firstRegion bd).getD 0)) S.length (prune (h.join f (spotOf (.loop bd))) S.length k) L (e.pick (h.live f ((firstRegion bd).getD 0))) S
  | .exit id, _, e, S, k => k (.exit id) e S
  | .ret, _, e, S, k => k .ret e S
  | .scope bd, _, e, S, k => exec P K h L f bd e S k
  | _, _, _, _, _ => none

def resultAV (P : Program) (e : Env) (S : Store) : ResultVar → Option AV
  | .tmp t => some (e.get t)
  | .cell a t => loadAV P S t (e.get a)
def resultsAV (P : Program) (fn : Func) (e : Env) (S : Store) : Option AV :=
  match fn.results.toList.mapM (resultAV P e S) with
  | some [v] => some v
  | some vs => some (.mkTup vs)
  | none => none

/-- What a function comes to, its calls being what K says. -/
def bodyK (P : Program) (K : Kallee) (h : Hints) (L : Nat) (f : FuncId) (args : List AV) (S : Store) {R : Type} (fin : AV → Store → Option R) : Option R :=
  match P.funcs[f]? with
  | none => none
  | some fn =>
    match fn.body with
    | none => none
    | some c =>
      if fn.name == "runtime.NumGoroutine" || decide (fn.ntmps < args.length) then none else
      exec P K h L f c (Env.ofArgs args 0 .nil) S fun x e S' =>
        match x with
        | .exit _ => none
        | _ => (match resultsAV P fn e S' with | some v => fin v S' | none => none)
def body (P : Program) (K : Kallee) (h : Hints) (L : Nat) (f : FuncId) (args : List AV) (S : Store) : Option (AV × Store) := bodyK P K h L f args S fun v S' => some (v, S')
def bodyP (P : Program) (K : Kallee) (h : Hints) (L : Nat) (f : FuncId) (args : List PV) : Option PV := bodyK P K h L f (args.map .pv) [] fun v S' => thaw S' deep v

/-- a call that sees a struct alone -/
def startM : Option (List FV) → List PV → List AV × Store
  | some fs, args => (.ptr 0 0 0 :: args.map .pv, newS 0 fs)
  | none, args => (args.map .pv, [])
def bodyM (P : Program) (K : Kallee) (h : Hints) (L : Nat) (f : FuncId) (d : Option (List FV)) (args : List PV) : Option (MR × List FV) :=
  bodyK P K h L f (startM d args).1 (startM d args).2 (finM d.isSome)
/-- .. as it is told, or as its code says -/
def runM (P : Program) (K : Kallee) (h : Hints) (L : Nat) (f : FuncId) (d : Option (List FV)) (args : List PV) : Option (MR × List FV) :=
  match h.primM f with
  | some q => (match q d args with | some r => some r | none => bodyM P K h L f d args)
  | none => bodyM P K h L f d args

def bodyO (P : Program) (K : Kallee) (h : Hints) (L : Nat) (f : FuncId) (sp : OwnSp) (os : List OV) : Option (List OV) :=
  bodyK P K h L f (resO 0 os).1 (resO 0 os).2 (finO sp os)
def runO (P : Program) (K : Kallee) (h : Hints) (L : Nat) (f : FuncId) (os : List OV) : Option (List OV) :=
  match h.primO f with
  | some q => q.q K.pure os
  | none => match h.ownF f with
    | some sp => bodyO P K h L f sp os
    | none => none

/-- the array that is answered is laid where the one that was handed over lay -/
def relO (b : Bool) (mv : List Nat) (S : Store) (v : AV) (S' : Store) : AV × Store :=
  match b, mv, v with
  | true, [id], .arr n => bif Nat.beq n S.length && Nat.beq S'.length (n + 1) then
      (match S[id]?, S'[n]? with
       | some (.arr _ _ xs), some (.arr lay true ys) => bif Nat.blt xs.length ys.length then (.arr id, (trimS S.length S').set id (.arr lay true ys)) else (v, S')
       | _, _ => (v, S'))
     else (v, S')
  | _, _, _ => (v, S')
def ownK2 {R : Type} (b : Bool) (sp : OwnSp) (own : FuncId → List OV → Option (List OV)) (g : FuncId) (as : List AV) (S : Store) (k : AV → Store → Option R) : Option R :=
  ownK sp own g as S fun v S' => k (relO b (mvOf sp.args as) S v S').1 (relO b (mvOf sp.args as) S v S').2

mutual
/-- Calls, so many deep. -/
def callS (P : Program) (h : Hints) (L : Nat) : Nat → FuncId → List AV → Store → Option (AV × Store)
  | 0, _, _, _ => none
  | n + 1, f, args, S =>
    match h.primS f with
    | some q => (q args S).map fun d => (.pv d, S)
    | none =>
      match h.meth f with
      | some mk => methK mk (fun g d as => runM P ⟨callP P h L n, callS P h L n, callM P h L n, callO P h L n, h.calmB, h.primS⟩ h L g d as) f args S fun v S => some (v, S)
      | none =>
        match h.ownF f with
        | some sp => ownK2 (h.rel f) sp (fun g os => runO P ⟨callP P h L n, callS P h L n, callM P h L n, callO P h L n, h.calmB, h.primS⟩ h L g os) f args S fun v S => some (v, S)
        | none => body P ⟨callP P h L n, callS P h L n, callM P h L n, callO P h L n, h.calmB, h.primS⟩ h L f args S
def callM (P : Program) (h : Hints) (L : Nat) : Nat → FuncId → Option (List FV) → List PV → Option (MR × List FV)
  | 0, _, _, _ => none
  | n + 1, f, d, args => runM P ⟨callP P h L n, callS P h L n, callM P h L n, callO P h L n, h.calmB, h.primS⟩ h L f d args
def callO (P : Program) (h : Hints) (L : Nat) : Nat → FuncId → List OV → Option (List OV)
  | 0, _, _ => none
  | n + 1, f, os => runO P ⟨callP P h L n, callS P h L n, callM P h L n, callO P h L n, h.calmB, h.primS⟩ h L f os
def callP (P : Program) (h : Hints) (L : Nat) : Nat → FuncId → List PV → Option PV
  | 0, f, args => (match h.prim f with
    | some g => g args
    | none => none)
  | n + 1, f, args =>
    match h.prim f with
    | some g => g args
    | none => bodyP P ⟨callP P h L n, callS P h L n, callM P h L n, callO P h L n, h.calmB, h.primS⟩ h L f args
end

end Go.Lite

namespace Go.Lite
open Go

/-! # The slots -/
theorem setF_get (n : Nat) : ∀ (e : Env) (t t' : Nat) (x : AV), t < n → (Env.setF n e t x).get t' = if t' = t then x else e.get t' := by
  induction n with
  | zero => intro e t t' x h; omega
  | succ n ih =>
    intro e t t' x h
    cases e with
    | nil =>
      unfold Env.setF
      by_cases h0 : t = 0
      · subst h0
        by_cases h1 : t' = 0
        · subst h1; simp [Env.get]
        · simp only [if_true, Env.get, h1, if_false]
          split <;> rfl
      · simp only [h0, if_false]
        by_cases hp : t % 2 = 1
        · simp only [hp, if_true, Env.get]
          by_cases h1 : t' = 0
          · subst h1; simp; intro h; exact absurd h.symm h0
          · simp only [h1, if_false]
            by_cases hq : t' % 2 = 1
            · simp only [hq, if_true]
              rw [ih _ _ _ _ (by omega)]
              by_cases he : t' = t
              · subst he; simp
              · rw [if_neg (by omega), if_neg he]; rfl
            · simp only [hq, if_false]
              rw [if_neg (by omega)]
        · simp only [hp, if_false, Env.get]
          by_cases h1 : t' = 0
          · subst h1; simp; intro h; exact absurd h.symm h0
          · simp only [h1, if_false]
            by_cases hq : t' % 2 = 1
            · simp only [hq, if_true]
              rw [if_neg (by omega)]
            · simp only [hq, if_false]
              rw [ih _ _ _ _ (by omega)]
              by_cases he : t' = t
              · subst he; simp
              · rw [if_neg (by omega), if_neg he]; rfl
    | node v l r =>
      unfold Env.setF
      by_cases h0 : t = 0
      · subst h0
        by_cases h1 : t' = 0
        · subst h1; simp [Env.get]
        · simp only [if_true, Env.get, h1, if_false]
      · simp only [h0, if_false]
        by_cases hp : t % 2 = 1
        · simp only [hp, if_true, Env.get]
          by_cases h1 : t' = 0
          · subst h1; simp; intro h; exact absurd h.symm h0
          · simp only [h1, if_false]
            by_cases hq : t' % 2 = 1
            · simp only [hq, if_true]
              rw [ih _ _ _ _ (by omega)]
              by_cases he : t' = t
              · subst he; simp
              · rw [if_neg (by omega), if_neg he]
            · simp only [hq, if_false]
              rw [if_neg (by omega)]
        · simp only [hp, if_false, Env.get]
          by_cases h1 : t' = 0
          · subst h1; simp; intro h; exact absurd h.symm h0
          · simp only [h1, if_false]
            by_cases hq : t' % 2 = 1
            · simp only [hq, if_true]
              rw [if_neg (by omega)]
            · simp only [hq, if_false]
              rw [ih _ _ _ _ (by omega)]
              by_cases he : t' = t
              · subst he; simp
              · rw [if_neg (by omega), if_neg he]

theorem Env.get_set (e : Env) (t t' : Nat) (x : AV) : (e.set t x).get t' = if t' = t then x else e.get t' :=
  setF_get _ _ _ _ _ (by omega)
theorem Env.get_nil (t : Nat) : Env.nil.get t = .dead := rfl
theorem Env.get_put (e : Env) (d : Option Tmp) (t' : Nat) (x : AV) : (e.put d x).get t' = if d = some t' then x else e.get t' := by
  cases d with
  | none => simp [Env.put]
  | some d => simp only [Env.put, Env.get_set, Option.some.injEq, eq_comm]
theorem Env.get_map (f : AV → AV) (hf : f .dead = .dead) (e : Env) : ∀ t, (e.map f).get t = f (e.get t) := by
  induction e with
  | nil => intro t; simp [Env.map, Env.get, hf]
  | node v l r ihl ihr =>
    intro t
    simp only [Env.map, Env.get]
    split
    · rfl
    · split
      · exact ihl _
      · exact ihr _
theorem Env.get_pick (e : Env) (l : List Tmp) (t : Nat) : (e.pick l).get t = if t ∈ l then e.get t else .dead := by
  induction l with
  | nil => rfl
  | cons a l ih =>
    simp only [Env.pick, Env.get_set, ih, List.mem_cons]
    by_cases h : t = a
    · subst h; simp
    · simp [h]
theorem Env.get_strike (e : Env) (l : List Tmp) (t : Nat) : (e.strike l).get t = if t ∈ l then .dead else e.get t := by
  induction l with
  | nil => simp [Env.strike]
  | cons a l ih =>
    simp only [Env.strike, Env.get_set, ih, List.mem_cons]
    by_cases h : t = a
    · subst h; simp
    · simp [h]

/-! # The relation between pure values and the world -/

/-- the value of a variable of this layout; its cells -/
def cellsL (lay : Nat) (cv : Value) : Array Value := if lay = 0 then #[cv] else cv.cells
def LayS (lay : Nat) (cv : Value) : Prop := lay = 0 ∨ ∃ vs : Array Value, cv = .agg vs ∧ lay = vs.size + 1
def Lay (lay : Nat) (cv : Value) : Prop := LayS lay cv ∧ ∀ (j : Nat) (v : Value), (cellsL lay cv)[j]? = some v → v.oneCell' = true

theorem Lay.size {lay : Nat} {cv : Value} (h : Lay lay cv) : (cellsL lay cv).size = width lay := by
  rcases h.1 with rfl | ⟨vs, rfl, rfl⟩
  · simp [cellsL, width]
  · simp [cellsL, Value.cells, width]

abbrev Keep := Nat → Nat → Prop
/-- what may be read through a pointer of which nothing is written: what is kept, and what was there below X -/
def KX (K : Keep) (X : Nat) : Keep := fun b o => K b o ∨ b < X
/-- the cells of a variable -/
def Row (w : World) (K : Keep) (b off lay : Nat) (cv : Value) : Prop :=
  Lay lay cv ∧ ∀ j v, (cellsL lay cv)[j]? = some v → K b (off + j) ∧ w.cell? ⟨b, off + j, none⟩ = some v

inductive PVR (X : Nat) (w : World) (K : Keep) : PV → Value → Prop
  | sc (v : Value) : PVR X w K (.sc v) v
  | list {lay : Nat} {clip : Bool} {xs : List PV} {b off len cap : Nat} (cvs : List Value) (hl : len = xs.length) (hc : len ≤ cap)
      (hcl : clip = true → cap = len) (hs : cvs.length = xs.length)
      (hx : ∀ (i : Nat) (x : PV) (cv : Value), xs[i]? = some x → cvs[i]? = some cv → PVR X w K x cv)
      (hr : ∀ (i : Nat) (cv : Value), cvs[i]? = some cv → Row w K b (off + i * width lay) lay cv) :
      PVR X w K (.list lay clip xs) (.slice (some ⟨b, off, none⟩) len cap)
  | empty {lay : Nat} {clip : Bool} {a : Option Addr} : PVR X w K (.list lay clip []) (.slice a 0 0)
  | ro {lay : Nat} {c : PV} {b off : Nat} {cv : Value} (hc : PVR X w K c cv) (hr : Row w (KX K X) b off lay cv) :
      PVR X w K (.ro lay c) (.pointer (some ⟨b, off, none⟩))
  | agg {cs : List PV} {vs : Array Value} (hs : vs.size = cs.length)
      (hx : ∀ (i : Nat) (c : PV) (v : Value), cs[i]? = some c → vs[i]? = some v → PVR X w K c v) : PVR X w K (.agg cs) (.agg vs)
  | tup {cs : List PV} {vs : Array Value} (hs : vs.size = cs.length)
      (hx : ∀ (i : Nat) (c : PV) (v : Value), cs[i]? = some c → vs[i]? = some v → PVR X w K c v) : PVR X w K (.tup cs) (.tuple vs)
  | clo {f : FuncId} {as bs : List PV} {va vb : Array Value} (ha : va.size = as.length) (hb : vb.size = bs.length)
      (hx : ∀ (i : Nat) (c : PV) (v : Value), as[i]? = some c → va[i]? = some v → PVR X w K c v)
      (hy : ∀ (i : Nat) (c : PV) (v : Value), bs[i]? = some c → vb[i]? = some v → PVR X w K c v) : PVR X w K (.clo f as bs) (.func (.func f) va vb)
  | ifc {t : TypeId} {d : PV} {v : Value} (h : PVR X w K d v) : PVR X w K (.ifc t d) (.iface t v)

/-- where an object lies: its address, as a slice its length and capacity; the width of an element; whether the block is the call's own -/
structure Loc where
  a : Option Addr
  len : Nat
  cap : Nat
  sz : Nat
  own : Bool

abbrev Map := Nat → Option Loc

inductive VR (X : Nat) (w : World) (K : Keep) (m : Map) : AV → Value → Prop
  | pv {d : PV} {v : Value} (h : PVR X w K d v) : VR X w K m (.pv d) v
  | ptr {id i off b o : Nat} {loc : Loc} (h : m id = some loc) (ha : loc.a = some ⟨b, o, none⟩) :
      VR X w K m (.ptr id i off) (.pointer (some ⟨b, o + i * loc.sz + off, none⟩))
  | arr {id : Nat} {loc : Loc} (h : m id = some loc) : VR X w K m (.arr id) (.slice loc.a loc.len loc.cap)
  | mp {id b : Nat} {loc : Loc} (h : m id = some loc) (ha : loc.a = some ⟨b, 0, none⟩) : VR X w K m (.mp id) (.map (some b))
  | agg {cs : List AV} {vs : Array Value} (hs : vs.size = cs.length)
      (hx : ∀ (i : Nat) (c : AV) (v : Value), cs[i]? = some c → vs[i]? = some v → VR X w K m c v) : VR X w K m (.agg cs) (.agg vs)
  | tup {cs : List AV} {vs : Array Value} (hs : vs.size = cs.length)
      (hx : ∀ (i : Nat) (c : AV) (v : Value), cs[i]? = some c → vs[i]? = some v → VR X w K m c v) : VR X w K m (.tup cs) (.tuple vs)
  | clo {f : FuncId} {as bs : List AV} {va vb : Array Value} (ha : va.size = as.length) (hb : vb.size = bs.length)
      (hx : ∀ (i : Nat) (c : AV) (v : Value), as[i]? = some c → va[i]? = some v → VR X w K m c v)
      (hy : ∀ (i : Nat) (c : AV) (v : Value), bs[i]? = some c → vb[i]? = some v → VR X w K m c v) : VR X w K m (.clo f as bs) (.func (.func f) va vb)
  | sub {id lo n cap : Nat} {a : Option Addr} {loc : Loc} (h : m id = some loc) (hn : n ≤ cap) (hcap : lo + cap ≤ loc.cap) (hlen : lo + n ≤ loc.len)
      (ha : cap ≠ 0 → ∃ b o, loc.a = some ⟨b, o, none⟩ ∧ a = some ⟨b, o + lo * loc.sz, none⟩) : VR X w K m (.sub id lo n) (.slice a n cap)
  | dead (v : Value) : VR X w K m .dead v

/-! ## what stays -/
/-- kept cells read as before; so do those below X -/
def Pres (X : Nat) (w : World) (K : Keep) (w' : World) : Prop := ∀ b o v, KX K X b o → w.cell? ⟨b, o, none⟩ = some v → w'.cell? ⟨b, o, none⟩ = some v
def Sub (K K' : Keep) : Prop := ∀ b o, K b o → K' b o
theorem Sub.refl (K : Keep) : Sub K K := fun _ _ h => h
theorem Sub.trans {K K' K'' : Keep} (h : Sub K K') (h' : Sub K' K'') : Sub K K'' := fun b o x => h' b o (h b o x)
theorem Sub.kx {K K' : Keep} (h : Sub K K') (X : Nat) : Sub (KX K X) (KX K' X) := fun b o x => x.imp (h b o) id

theorem Row.mono {X : Nat} {w w' : World} {K K' : Keep} {b off lay : Nat} {cv : Value} (h : Row w K b off lay cv) (hp : Pres X w K w') (hk : Sub K K') : Row w' K' b off lay cv :=
  ⟨h.1, fun j v hj => let ⟨a, c⟩ := h.2 j v hj; ⟨hk _ _ a, hp _ _ _ (.inl a) c⟩⟩
theorem Row.monoX {X : Nat} {w w' : World} {K K' : Keep} {b off lay : Nat} {cv : Value} (h : Row w (KX K X) b off lay cv) (hp : Pres X w K w') (hk : Sub K K') : Row w' (KX K' X) b off lay cv :=
  ⟨h.1, fun j v hj => let ⟨a, c⟩ := h.2 j v hj; ⟨hk.kx X _ _ a, hp _ _ _ a c⟩⟩
theorem Row.weaken {w : World} {K K' : Keep} {b off lay : Nat} {cv : Value} (h : Row w K b off lay cv) (hk : Sub K K') : Row w K' b off lay cv :=
  ⟨h.1, fun j v hj => let ⟨a, c⟩ := h.2 j v hj; ⟨hk _ _ a, c⟩⟩
theorem Row.kx {X : Nat} {w : World} {K : Keep} {b off lay : Nat} {cv : Value} (h : Row w K b off lay cv) : Row w (KX K X) b off lay cv := h.weaken fun _ _ => .inl

theorem PVR.mono {X : Nat} {w w' : World} {K K' : Keep} (hp : Pres X w K w') (hk : Sub K K') {d : PV} {v : Value} (h : PVR X w K d v) : PVR X w' K' d v := by
  induction h with
  | sc v => exact .sc v
  | list cvs hl hc hcl hs hx hr ih => exact .list cvs hl hc hcl hs ih fun i cv h => (hr i cv h).mono hp hk
  | empty => exact .empty
  | ro hc hr ih => exact .ro ih (hr.monoX hp hk)
  | agg hs hx ih => exact .agg hs ih
  | tup hs hx ih => exact .tup hs ih
  | clo ha hb hx hy ih1 ih2 => exact .clo ha hb ih1 ih2
  | ifc h ih => exact .ifc ih

theorem VR.mono {X : Nat} {w w' : World} {K K' : Keep} {m m' : Map} (hp : Pres X w K w') (hk : Sub K K') {d : AV} {v : Value}
    (h : VR X w K m d v) (hm : ∀ id loc, m id = some loc → m' id = some loc) : VR X w' K' m' d v := by
  induction h with
  | pv h => exact .pv (h.mono hp hk)
  | ptr h ha => exact .ptr (hm _ _ h) ha
  | arr h => exact .arr (hm _ _ h)
  | mp h ha => exact .mp (hm _ _ h) ha
  | agg hs hx ih => exact .agg hs ih
  | tup hs hx ih => exact .tup hs ih
  | clo ha hb hx hy ih1 ih2 => exact .clo ha hb ih1 ih2
  | sub h hn hcap hlen ha => exact .sub (hm _ _ h) hn hcap hlen ha
  | dead v => exact .dead v

/-! ## objects -/
def Unfrozen (w : World) (b : Nat) : Prop := (∀ o, w.frozen? ⟨b, o, none⟩ = true → w.cell? ⟨b, o, none⟩ = none) ∧ ∀ cs ty fr, w.heap[b]? = some (.cells cs ty fr) → fr.1 ≤ fr.2

/-- .. of an array that is written: its bytes are no string's either -/
def UnfrozenX (e : Bool) (w : World) (b : Nat) : Prop := Unfrozen w b ∧ (e = true → ∀ o, w.frozen? ⟨b, o, none⟩ = false)

inductive ObR (X : Nat) (w : World) (K : Keep) (m : Map) : Ob → Loc → Prop
  | var {lay : Nat} {v : AV} {cv : Value} {b : Nat} {ty : TypeId} {fr : Nat × Nat} {loc : Loc} (hv : VR X w K m v cv) (hl : Lay lay cv) (ha : loc.a = some ⟨b, 0, none⟩)
      (hz : loc.sz = width lay) (ho : loc.own = true) (hb : w.heap[b]? = some (.cells (cellsL lay cv) ty fr)) (hf : Unfrozen w b) (hk : ∀ o, ¬ K b o) : ObR X w K m (.var lay v) loc
  | arr {lay : Nat} {excl : Bool} {xs : List PV} {b off : Nat} {loc : Loc} (cvs : List Value)
      (ha : loc.a = some ⟨b, off, none⟩) (hz : loc.sz = width lay) (hl : loc.len = xs.length) (hc : loc.len ≤ loc.cap) (hs : cvs.length = xs.length)
      (hx : ∀ (i : Nat) (x : PV) (cv : Value), xs[i]? = some x → cvs[i]? = some cv → PVR X w K x cv)
      (hr : ∀ (i : Nat) (cv : Value), cvs[i]? = some cv → Row w (if excl then fun _ _ => True else K) b (off + i * width lay) lay cv)
      (ho : loc.own = true → (∃ cs ty fr, w.heap[b]? = some (.cells cs ty fr) ∧ off + loc.cap * width lay ≤ cs.size) ∧ UnfrozenX excl w b ∧ ∀ o, K b o → excl = false ∧ o < off + loc.len * width lay)
      (hn : loc.own = false → excl = false ∧ loc.cap = loc.len) : ObR X w K m (.arr lay excl xs) loc
  | nilArr {lay : Nat} {excl : Bool} {loc : Loc} (hz : loc.sz = width lay) (hl : loc.len = 0) (hc : loc.cap = 0) (ho : loc.own = false) : ObR X w K m (.arr lay excl []) loc
  | sit {s : ByteArray} {pos b : Nat} {loc : Loc} (ha : loc.a = some ⟨b, 0, none⟩) (ho : loc.own = true) (hb : w.heap[b]? = some (.stringIter s pos)) (hk : ∀ o, ¬ K b o) :
      ObR X w K m (.sit s pos) loc
  | map {es : List (Int × PV)} {b clock : Nat} {ents : Array MapEntry} {loc : Loc} (ha : loc.a = some ⟨b, 0, none⟩) (ho : loc.own = true) (hb : w.heap[b]? = some (.map ents clock)) (hs : ents.size = es.length)
      (hx : ∀ (i : Nat) (p : Int × PV) (en : MapEntry), es[i]? = some p → ents[i]? = some en → en.key = .int .i64 p.1 ∧ PVR X w K p.2 en.val) (hst : Go.MapKept.Stamped ents clock) (hk : ∀ o, ¬ K b o) :
      ObR X w K m (.map es) loc
  | gone {loc : Loc} : ObR X w K m .gone loc

/-- the block that an object has for itself -/
def Loc.block? (l : Loc) : Option Nat := if l.own then l.a.map (·.block) else none

/-- What is known of package-level variables. -/
def Gl (X : Nat) (w : World) : Prop := (∀ g vs, globs.lookup g = some vs → g < X ∧ ∀ (i : Nat) v, vs[i]? = some v → w.cell? ⟨g, i, none⟩ = some v) ∧ ∀ g ∈ globInts, g < X ∧ ∃ n, w.cell? ⟨g, 0, none⟩ = some (.int .i64 n)
def Lo (X B : Nat) (w : World) : Prop := X ≤ B ∧ Gl X w

/-- The store and the world. B: the blocks below were there when the call began. -/
structure SR (X B : Nat) (w : World) (K : Keep) (m : Map) (S : Store) : Prop where
  ob : ∀ id o loc, S[id]? = some o → m id = some loc → ObR X w K m o loc
  sep : ∀ id id' loc loc' b, m id = some loc → m id' = some loc' → loc.block? = some b → loc'.block? = some b → id = id'
  mine : ∀ id loc b, m id = some loc → loc.block? = some b → B ≤ b ∧ b < w.heap.size
  keep : ∀ b o, K b o → b < w.heap.size
  size : B ≤ w.heap.size
  low : Lo X B w

/-- The slots. -/
def ER (X : Nat) (w : World) (K : Keep) (m : Map) (e : Env) (tmps : Array Value) : Prop := ∀ t, VR X w K m (e.get t) (tmps.getD t undef)

end Go.Lite

namespace Go.Lite
open Go
open Go.RowKit (Below)
theorem Gl.blocks {X B : Nat} {w w' : World} (h : Gl X w) (hX : X ≤ B) (hb : ∀ b, b < B → w'.heap[b]? = w.heap[b]?) : Gl X w' := by
  have key : ∀ g i v, g < X → w.cell? ⟨g, i, none⟩ = some v → w'.cell? ⟨g, i, none⟩ = some v := fun g i v hg c => by
    have e := hb g (Nat.lt_of_lt_of_le hg hX)
    simp only [World.cell?] at c ⊢
    rw [e]; exact c
  exact ⟨fun g vs hg => let ⟨a, c⟩ := h.1 g vs hg; ⟨a, fun i v hv => key g i v a (c i v hv)⟩, fun g hg => let ⟨a, n, c⟩ := h.2 g hg; ⟨a, n, key g 0 _ a c⟩⟩
theorem Gl.up {X X' : Nat} {w : World} (h : Gl X w) (h1 : X ≤ X') : Gl X' w :=
  ⟨fun g vs hg => let ⟨a, c⟩ := h.1 g vs hg; ⟨Nat.lt_of_lt_of_le a h1, c⟩, fun g hg => let ⟨a, c⟩ := h.2 g hg; ⟨Nat.lt_of_lt_of_le a h1, c⟩⟩
theorem Lo.blocks {X B : Nat} {w w' : World} (h : Lo X B w) (hb : ∀ b, b < B → w'.heap[b]? = w.heap[b]?) : Lo X B w' := ⟨h.1, h.2.blocks h.1 hb⟩
theorem Lo.on {X B : Nat} {w w' : World} (h : Lo X B w) (hb : Below B w w') : Lo X B w' := h.blocks hb.block
theorem Lo.le {X B B' : Nat} {w : World} (h : Lo X B w) (hb : B ≤ B') : Lo X B' w := ⟨Nat.le_trans h.1 hb, h.2⟩
theorem Lo.up {X X' B : Nat} {w : World} (h : Lo X B w) (h1 : X ≤ X') (h2 : X' ≤ B) : Lo X' B w := ⟨h2, h.2.up h1⟩

/-! # What grows alone -/
/-- Nothing that was there has turned; what is kept besides lies in new blocks. -/
structure Ext (w : World) (K : Keep) (w' : World) (K' : Keep) : Prop where
  below : Below w.heap.size w w'
  sub : Sub K K'
  new : ∀ b o, K' b o → K b o ∨ (w.heap.size ≤ b ∧ b < w'.heap.size)

theorem Ext.refl (w : World) (K : Keep) : Ext w K w K := ⟨Below.refl _ _, Sub.refl _, fun _ _ h => .inl h⟩
theorem Ext.trans {w w' w'' : World} {K K' K'' : Keep} (h : Ext w K w' K') (h' : Ext w' K' w'' K'') : Ext w K w'' K'' :=
  ⟨h.below.trans (h'.below.mono h.below.size), h.sub.trans h'.sub, fun b o x => (h'.new b o x).elim (fun y => (h.new b o y).imp id fun z => ⟨z.1, Nat.lt_of_lt_of_le z.2 h'.below.size⟩)
    fun y => .inr ⟨Nat.le_trans h.below.size y.1, y.2⟩⟩

/-! # who may be written -/
def Mine (m : Map) (b : Nat) : Prop := ∃ id loc, m id = some loc ∧ loc.block? = some b
def Reach (w : World) (m : Map) (b : Nat) : Prop := w.heap.size ≤ b ∨ Mine m b
/-- Only what is new, and the objects' own blocks, are turned. -/
structure Frm (w : World) (K : Keep) (m : Map) (w' : World) (K' : Keep) (m' : Map) : Prop where
  size : w.heap.size ≤ w'.heap.size
  touch : ∀ b, ¬ Reach w m b → w'.heap[b]? = w.heap[b]?
  own : ∀ b, Mine m' b → Reach w m b
  knew : ∀ b o, K' b o → K b o ∨ Reach w m b
theorem Frm.refl (w : World) (K : Keep) (m : Map) : Frm w K m w K m := ⟨Nat.le_refl _, fun _ _ => rfl, fun _ h => .inr h, fun _ _ h => .inl h⟩
theorem Frm.reach {w w' : World} {K K' : Keep} {m m' : Map} (h : Frm w K m w' K' m') {b : Nat} (hb : Reach w' m' b) : Reach w m b :=
  hb.elim (fun h' => .inl (Nat.le_trans h.size h')) (h.own b)
theorem Frm.trans {w w' w'' : World} {K K' K'' : Keep} {m m' m'' : Map} (h : Frm w K m w' K' m') (h' : Frm w' K' m' w'' K'' m'') : Frm w K m w'' K'' m'' :=
  ⟨Nat.le_trans h.size h'.size, fun b hb => (h'.touch b fun x => hb (h.reach x)).trans (h.touch b hb), fun b x => h.reach (h'.own b x),
    fun b o x => (h'.knew b o x).elim (fun x => h.knew b o x) fun x => .inr (h.reach x)⟩
theorem Ext.frm' {w w' : World} {K K' : Keep} {m m' : Map} (h : Ext w K w' K') (ho : ∀ b, Mine m' b → Reach w m b) : Frm w K m w' K' m' :=
  ⟨h.below.size, fun b hb => h.below.block b (Nat.lt_of_not_le fun x => hb (.inl x)), ho, fun b o x => (h.new b o x).imp id fun x => .inl x.1⟩
theorem Ext.frm {w w' : World} {K K' : Keep} (m : Map) (h : Ext w K w' K') : Frm w K m w' K' m := h.frm' fun _ x => .inr x

theorem cell?_of_heap {w w' : World} {b : Nat} (h : w'.heap[b]? = w.heap[b]?) (o : Nat) : w'.cell? ⟨b, o, none⟩ = w.cell? ⟨b, o, none⟩ := by
  simp [World.cell?, h]
theorem frozen?_of_heap {w w' : World} {b : Nat} (h : w'.heap[b]? = w.heap[b]?) (o : Nat) : w'.frozen? ⟨b, o, none⟩ = w.frozen? ⟨b, o, none⟩ := by
  simp [World.frozen?, h]
theorem lt_of_cell {w : World} {b o : Nat} {v : Value} (h : w.cell? ⟨b, o, none⟩ = some v) : b < w.heap.size := World.block_lt_of_cell? (w := w) (a := ⟨b, o, none⟩) h
theorem lt_of_block {w : World} {b : Nat} {o : Obj} (h : w.heap[b]? = some o) : b < w.heap.size := by
  rcases Nat.lt_or_ge b w.heap.size with h' | h'
  · exact h'
  · simp [Array.getElem?_eq_none h'] at h

theorem Below.pres {X : Nat} {w w' : World} (h : Below w.heap.size w w') (K : Keep) : Pres X w K w' := fun b o v _ hc => by
  rw [cell?_of_heap (h.block b (lt_of_cell hc))]; exact hc
theorem Ext.pres {X : Nat} {w w' : World} {K K' : Keep} (h : Ext w K w' K') : Pres X w K w' := Below.pres h.below K
theorem Pres.all {X : Nat} {w w' : World} (h : Below w.heap.size w w') : Pres X w (fun _ _ => True) w' := Below.pres h _

theorem PVR.ext {X : Nat} {w w' : World} {K K' : Keep} (h : Ext w K w' K') {d : PV} {v : Value} (hv : PVR X w K d v) : PVR X w' K' d v := hv.mono h.pres h.sub
theorem VR.ext {X : Nat} {w w' : World} {K K' : Keep} {m : Map} (h : Ext w K w' K') {d : AV} {v : Value} (hv : VR X w K m d v) : VR X w' K' m d v := hv.mono h.pres h.sub fun _ _ => id
theorem ER.ext {X : Nat} {w w' : World} {K K' : Keep} {m : Map} (h : Ext w K w' K') {e : Env} {t : Array Value} (hv : ER X w K m e t) : ER X w' K' m e t := fun i => (hv i).ext h

theorem Unfrozen.ext {w w' : World} {b : Nat} (h : w'.heap[b]? = w.heap[b]?) (hu : Unfrozen w b) : Unfrozen w' b := ⟨fun o => by
  rw [cell?_of_heap h, frozen?_of_heap h]; exact hu.1 o, fun cs ty fr hb => hu.2 cs ty fr (h.symm.trans hb)⟩

theorem UnfrozenX.ext {e : Bool} {w w' : World} {b : Nat} (h : w'.heap[b]? = w.heap[b]?) (hu : UnfrozenX e w b) : UnfrozenX e w' b :=
  ⟨Unfrozen.ext h hu.1, fun he o => by rw [frozen?_of_heap h]; exact hu.2 he o⟩
/-- cells written, nothing marked -/
theorem UnfrozenX.turn {e : Bool} {w w' : World} {b : Nat} {cs cs' : Array Value} {ty : TypeId} {fr : Nat × Nat} (hu : UnfrozenX e w b) (hb : w.heap[b]? = some (.cells cs ty fr)) (hb' : w'.heap[b]? = some (.cells cs' ty fr)) (hu' : Unfrozen w' b) : UnfrozenX e w' b :=
  ⟨hu', fun he o => by
    have := hu.2 he o
    simp only [World.frozen?, hb, hb'] at this ⊢; exact this⟩
theorem UnfrozenX.weak {w : World} {b : Nat} (h : Unfrozen w b) : UnfrozenX false w b := ⟨h, fun h => by cases h⟩
theorem ObR.ext {X : Nat} {w w' : World} {K K' : Keep} {m m' : Map} (h : Ext w K w' K') {o : Ob} {loc : Loc} (hm : ∀ id loc, m id = some loc → m' id = some loc)
    (ho : ObR X w K m o loc) : ObR X w' K' m' o loc := by
  cases ho with
  | var hv hl ha hz ho hb hf hk =>
    have hlt := lt_of_block hb
    have hsame := h.below.block _ hlt
    exact .var (hv.mono h.pres h.sub hm) hl ha hz ho (hsame.trans hb) (hf.ext hsame) fun o hK => (h.new _ _ hK).elim (hk o) fun x => by omega
  | arr cvs ha hz hl hc hs hx hr ho hn =>
    refine .arr cvs ha hz hl hc hs (fun i x cv h1 h2 => (hx i x cv h1 h2).ext h) (fun i cv h1 => ?_) (fun hown => ?_) hn
    · obtain ⟨hl, hr⟩ := hr i cv h1
      refine ⟨hl, fun j v hj => ?_⟩
      obtain ⟨a, c⟩ := hr j v hj
      refine ⟨?_, by rw [cell?_of_heap (h.below.block _ (lt_of_cell c))]; exact c⟩
      split
      · trivial
      · rename_i he; simp only [he] at a; exact h.sub _ _ a
    · obtain ⟨⟨cs, ty, fr, hb, a⟩, c, d⟩ := ho hown
      have hlt := lt_of_block hb
      have hsame := h.below.block _ hlt
      exact ⟨⟨cs, ty, fr, hsame.trans hb, a⟩, c.ext hsame, fun o hK => d o ((h.new _ _ hK).elim id fun x => by omega)⟩
  | nilArr hz hl hc ho => exact .nilArr hz hl hc ho
  | sit ha ho hb hk =>
    have hlt := lt_of_block hb
    exact .sit ha ho ((h.below.block _ hlt).trans hb) fun o hK => (h.new _ _ hK).elim (hk o) fun x => by omega
  | map ha ho hb hs hx hst hk =>
    have hlt := lt_of_block hb
    exact .map ha ho ((h.below.block _ hlt).trans hb) hs (fun i p en h1 h2 => let ⟨a, c⟩ := hx i p en h1 h2; ⟨a, c.ext h⟩) hst fun o hK => (h.new _ _ hK).elim (hk o) fun x => by omega
  | gone => exact .gone

theorem SR.ext {B : Nat} {X : Nat} {w w' : World} {K K' : Keep} {m : Map} {S : Store} (h : Ext w K w' K') (hS : SR X B w K m S) : SR X B w' K' m S where
  ob id o loc h1 h2 := (hS.ob id o loc h1 h2).ext h fun _ _ x => x
  sep := hS.sep
  mine id loc b h1 h2 := let ⟨a, c⟩ := hS.mine id loc b h1 h2; ⟨a, Nat.lt_of_lt_of_le c h.below.size⟩
  keep b o hK := (h.new b o hK).elim (fun x => Nat.lt_of_lt_of_le (hS.keep _ _ x) h.below.size) fun x => x.2
  size := Nat.le_trans hS.size h.below.size
  low := hS.low.on (h.below.mono hS.size)

/-- A new block of cells, kept as a whole. -/
theorem Ext.alloc {w : World} {K : Keep} (o : Obj) : Ext w K (w.alloc o) (fun b i => K b i ∨ b = w.heap.size) where
  below := (Below.refl _ _).alloc (Nat.le_refl _) o
  sub _ _ h := .inl h
  new _ _ h := h.imp id fun h => ⟨by omega, by simp; omega⟩
/-- .. not kept. -/
theorem Ext.alloc' {w : World} {K : Keep} (o : Obj) : Ext w K (w.alloc o) K where
  below := (Below.refl _ _).alloc (Nat.le_refl _) o
  sub := Sub.refl _
  new _ _ h := .inl h
theorem Ext.drew {w : World} {K : Keep} : Ext w K w.drew K := ⟨(Below.refl _ _).drew, Sub.refl _, fun _ _ h => .inl h⟩

/-! # Runs that ask nothing of memory -/
theorem pureRun_run {α : Type} {P : Program} {s : Sem α} {a : α} (h : pureRun P s = some a) (w : World) : s.run P w = .ok a w := by
  induction s with
  | pure b => simp only [pureRun, Option.some.injEq] at h; subst h; rfl
  | program k ih => simp only [pureRun] at h; simp only [Sem.run]; exact ih P h
  | mark m k ih => simp only [pureRun] at h; simp only [Sem.run]; exact ih h
  | _ => simp [pureRun] at h

theorem run_underlying' {P : Program} {t : TypeId} {d : TypeDesc} (h : P.underlying t = some d) (w : World) : (underlying t).run P w = .ok d w := run_underlying h w
theorem run_typeInfo' {P : Program} {t : TypeId} {i : TypeInfo} (h : P.info? t = some i) (w : World) : (typeInfo t).run P w = .ok i w := by
  unfold typeInfo; simp [h]
theorem run_sizeOf' {P : Program} {t : TypeId} {i : TypeInfo} (h : P.info? t = some i) (w : World) : (sizeOf t).run P w = .ok i.size w := by
  unfold sizeOf; simp [run_typeInfo' h]
theorem run_zeroValue' {P : Program} {t : TypeId} {i : TypeInfo} {z : Value} (h : P.info? t = some i) (hz : i.zero = some z) (w : World) : (zeroValue t).run P w = .ok z w := by
  unfold zeroValue; simp [run_typeInfo' h, hz]

/-- what a layout says of a type -/
theorem layOf_some {P : Program} {t : TypeId} {lay : Nat} (h : layOf P t = some lay) :
    ∃ d i, P.underlying t = some d ∧ P.info? t = some i ∧ i.size = width lay ∧ (∀ w, (isAgg t).run P w = .ok (decide (lay ≠ 0)) w) := by
  unfold layOf at h
  cases hd : P.underlying t with
  | none => simp [hd] at h
  | some d =>
    cases hi : P.info? t with
    | none => cases d <;> simp [hd, hi] at h
    | some i =>
      refine ⟨d, i, rfl, rfl, ?_, fun w => ?_⟩
      · cases d <;> simp only [hd, hi] at h <;> (try (split at h <;> simp at h)) <;> (try simp at h) <;> subst h <;> simp [width] <;> assumption
      · unfold isAgg
        simp only [Sem.run_bind, run_underlying' hd, Result.andThen_ok]
        cases d <;> simp only [hd, hi] at h <;> (try (split at h <;> simp at h)) <;> (try simp at h) <;> subst h <;> simp

theorem add_none (b o n : Nat) : (Addr.add ⟨b, o, none⟩ n) = ⟨b, o + n, none⟩ := by
  unfold Addr.add; split
  · rename_i h; subst h; rfl
  · rfl

theorem run_loadVar_row' {P : Program} {t : TypeId} {lay : Nat} (hl : layOf P t = some lay) {w : World} {K : Keep} {b off : Nat} {cv : Value}
    (h : Row w K b off lay cv) : (loadVar t ⟨b, off, none⟩).run P w = .ok cv w := by
  obtain ⟨d, i, hd, hi, hsz, hagg⟩ := layOf_some hl
  unfold loadVar
  simp only [Sem.run_bind, hagg, Result.andThen_ok]
  obtain ⟨hlay, hr⟩ := h
  rcases hlay.1 with rfl | ⟨vs, rfl, rfl⟩
  · have := (hr 0 cv (by simp [cellsL])).2
    simp only [Nat.add_zero] at this
    simp [this]
  · simp only [ne_eq, Nat.succ_ne_zero, not_false_eq_true, decide_true, if_true]
    simp only [Sem.run_bind, run_sizeOf' hi, Result.andThen_ok, hsz]
    have hw : width (vs.size + 1) = vs.toList.length := by simp [width]
    rw [hw, run_loadCells_list w ⟨b, off, none⟩ vs.toList (fun j v hj => by
      rw [add_none]; exact (hr j v (by simpa [cellsL, Value.cells] using hj)).2)]
    simp

end Go.Lite

namespace Go.Lite
open Go
open Go.RowKit (Below)

/-! # Values of operands -/
theorem ofValue_rel {X : Nat} (w : World) (K : Keep) (v : Value) : PVR X w K (PV.ofValue v) v := by
  cases v with
  | agg cs =>
    refine .agg (by simp) fun i c v h1 h2 => ?_
    simp only [List.getElem?_map, Array.getElem?_toList] at h1
    rw [h2] at h1; simp at h1; subst h1; exact .sc v
  | tuple cs =>
    refine .tup (by simp) fun i c v h1 h2 => ?_
    simp only [List.getElem?_map, Array.getElem?_toList] at h1
    rw [h2] at h1; simp at h1; subst h1; exact .sc v
  | _ => exact .sc _

theorem glob_rel {X : Nat} {w : World} {K : Keep} {g : Nat} {d : PV} (hG : Gl X w) (h : globPV g = some d) : PVR X w K d (.pointer (some ⟨g, 0, none⟩)) := by
  unfold globPV at h
  simp only [Option.map_eq_some_iff] at h
  obtain ⟨vs, h, rfl⟩ := h
  obtain ⟨hX, hc⟩ := hG.1 g vs h
  have hmem : (g, vs) ∈ globs := by
    rw [List.lookup_eq_some_iff] at h
    obtain ⟨l1, l2, e, _⟩ := h
    rw [e]; simp
  refine .ro (cv := .agg vs.toArray) (.agg (by simp) fun i c v h1 h2 => ?_) ⟨⟨.inr ⟨_, rfl, by simp⟩, fun j v hj => ?_⟩, fun j v hj => ?_⟩
  · simp only [List.getElem?_map, Option.map_eq_some_iff] at h1
    obtain ⟨u, h1, rfl⟩ := h1
    simp at h2
    rw [h2] at h1; simp only [Option.some.injEq] at h1; subst h1
    exact .sc _
  · simp [cellsL, Value.cells] at hj
    exact globs_one _ hmem v (List.mem_of_getElem? hj)
  · simp [cellsL, Value.cells] at hj
    exact ⟨.inr hX, by rw [Nat.zero_add]; exact hc j v hj⟩
theorem opnd_rel {X : Nat} {w : World} {K : Keep} {m : Map} {e : Env} {a : Act} {x : Operand} (hG : Gl X w) (h : ∀ t, x = .tmp t → VR X w K m (e.get t) (a.tmps.getD t undef)) :
    VR X w K m (opnd e x) (a.eval x) := by
  cases x with
  | tmp t => exact h t rfl
  | const v => exact .pv (ofValue_rel w K v)
  | func f => exact .pv (.clo rfl rfl (by simp) (by simp))
  | global g =>
    simp only [opnd]
    cases hg : globPV g with
    | none => exact .dead _
    | some d => exact .pv (glob_rel hG hg)

/-! # Lists of values -/
theorem mapM_pure {cs : List AV} {ds : List PV} (h : cs.mapM AV.pure? = some ds) : cs = ds.map .pv := by
  induction cs generalizing ds with
  | nil => simp at h; subst h; rfl
  | cons c cs ih =>
    simp only [List.mapM_cons] at h
    cases c <;> simp only [AV.pure?, Option.bind_eq_bind, Option.bind_some, Option.bind_none, reduceCtorEq] at h
    rename_i d
    cases h2 : cs.mapM AV.pure? with
    | none => simp [h2] at h
    | some r => simp only [h2, Option.bind_some, Option.pure_def, Option.some.injEq] at h; subst h; simp [ih h2]

theorem VR.pv_inv {X : Nat} {w : World} {K : Keep} {m : Map} {d : PV} {v : Value} (h : VR X w K m (.pv d) v) : PVR X w K d v := by
  cases h; assumption

theorem mkAgg_rel {X : Nat} {w : World} {K : Keep} {m : Map} {cs : List AV} {vs : Array Value} (hs : vs.size = cs.length)
    (hx : ∀ (i : Nat) (c : AV) (v : Value), cs[i]? = some c → vs[i]? = some v → VR X w K m c v) : VR X w K m (AV.mkAgg cs) (.agg vs) := by
  unfold AV.mkAgg
  cases h : cs.mapM AV.pure? with
  | none => exact .agg hs hx
  | some ds =>
    have := mapM_pure h
    subst this
    exact .pv (.agg (by simpa using hs) fun i c v h1 h2 => (hx i (.pv c) v (by simp [h1]) h2).pv_inv)
theorem mkTup_rel {X : Nat} {w : World} {K : Keep} {m : Map} {cs : List AV} {vs : Array Value} (hs : vs.size = cs.length)
    (hx : ∀ (i : Nat) (c : AV) (v : Value), cs[i]? = some c → vs[i]? = some v → VR X w K m c v) : VR X w K m (AV.mkTup cs) (.tuple vs) := by
  unfold AV.mkTup
  cases h : cs.mapM AV.pure? with
  | none => exact .tup hs hx
  | some ds =>
    have := mapM_pure h
    subst this
    exact .pv (.tup (by simpa using hs) fun i c v h1 h2 => (hx i (.pv c) v (by simp [h1]) h2).pv_inv)

/-! # Parts -/
def PartV (vs : Array Value) (off lay : Nat) (dv : Value) : Prop :=
  (lay = 0 ∧ vs[off]? = some dv) ∨ (∃ n, lay = n + 1 ∧ off + n ≤ vs.size ∧ dv = .agg (vs.extract off (off + n)))

theorem Row.part {w : World} {K : Keep} {b o l0 off lay : Nat} {vs : Array Value} {dv : Value} (h : Row w K b o l0 (.agg vs)) (h0 : l0 ≠ 0) (hp : PartV vs off lay dv) :
    Row w K b (o + off) lay dv := by
  obtain ⟨hl, hr⟩ := h
  have hc : cellsL l0 (.agg vs) = vs := by simp [cellsL, h0, Value.cells]
  rw [hc] at hr
  have hone := hl.2
  rw [hc] at hone
  rcases hp with ⟨rfl, hd⟩ | ⟨n, rfl, hn, rfl⟩
  · have h0 : ∀ (j : Nat) (v : Value), (cellsL 0 dv)[j]? = some v → j = 0 ∧ v = dv := fun j v hj => by
      simp only [cellsL, if_true] at hj
      have : j = 0 := by
        rcases Nat.lt_or_ge j 1 with h | h
        · omega
        · simp [Array.getElem?_eq_none (xs := #[dv]) (by simpa using h)] at hj
      subst this
      simp at hj; exact ⟨rfl, hj.symm⟩
    refine ⟨⟨.inl rfl, fun j v hj => ?_⟩, fun j v hj => ?_⟩
    · obtain ⟨rfl, rfl⟩ := h0 j v hj; exact hone off v hd
    · obtain ⟨rfl, rfl⟩ := h0 j v hj; exact hr off v hd
  · have h0 : ∀ (j : Nat) (v : Value), (cellsL (n + 1) (.agg (vs.extract off (off + n))))[j]? = some v → vs[off + j]? = some v := fun j v hj => by
      simp only [cellsL, Nat.succ_ne_zero, if_false, Value.cells] at hj
      have hjn : j < n := by
        rcases Nat.lt_or_ge j n with h | h
        · exact h
        · simp [Array.getElem?_extract] at hj; omega
      simp only [Array.getElem?_extract] at hj; split at hj <;> simp_all
    refine ⟨⟨.inr ⟨_, rfl, by simp; omega⟩, fun j v hj => hone (off + j) v (h0 j v hj)⟩, fun j v hj => ?_⟩
    rw [Nat.add_assoc]; exact hr (off + j) v (h0 j v hj)

theorem PV.part_rel {X : Nat} {w : World} {K : Keep} {off lay : Nat} {c d : PV} {cv : Value} (h : c.part off lay = some d) (hc : PVR X w K c cv) :
    ∃ vs dv, cv = .agg vs ∧ PVR X w K d dv ∧ PartV vs off lay dv := by
  cases c with
  | agg cs =>
    cases hc with
    | agg hs hx =>
      rename_i vs
      simp only [PV.part] at h
      by_cases h0 : lay = 0
      · simp only [h0, if_true] at h
        have hlt : off < cs.length := by
          rcases Nat.lt_or_ge off cs.length with h' | h'
          · exact h'
          · simp [List.getElem?_eq_none h'] at h
        have hv : vs[off]? = some vs[off] := Array.getElem?_eq_getElem (by omega)
        exact ⟨vs, vs[off], rfl, hx off d _ h hv, .inl ⟨h0, hv⟩⟩
      · simp only [h0, if_false] at h
        split at h
        · rename_i hle
          simp only [Option.some.injEq] at h
          subst h
          refine ⟨vs, _, rfl, ?_, .inr ⟨lay - 1, by omega, by omega, rfl⟩⟩
          refine .agg (by simp; omega) fun i c v h1 h2 => ?_
          rw [List.getElem?_take, List.getElem?_drop] at h1
          simp only [Array.getElem?_extract] at h2
          split at h1
          · split at h2
            · exact hx _ c v h1 h2
            · simp at h2
          · simp at h1
        · simp at h
  | _ => simp [PV.part] at h

theorem AV.part_rel {X : Nat} {w : World} {K : Keep} {m : Map} {off lay : Nat} {c d : AV} {cv : Value} (h : c.part off lay = some d) (hc : VR X w K m c cv) :
    ∃ vs dv, cv = .agg vs ∧ VR X w K m d dv ∧ PartV vs off lay dv := by
  cases c with
  | pv c =>
    simp only [AV.part, Option.map_eq_some_iff] at h
    obtain ⟨d', h, rfl⟩ := h
    obtain ⟨vs, dv, h1, h2, h3⟩ := PV.part_rel h hc.pv_inv
    exact ⟨vs, dv, h1, .pv h2, h3⟩
  | agg cs =>
    cases hc with
    | agg hs hx =>
      rename_i vs
      simp only [AV.part] at h
      by_cases h0 : lay = 0
      · simp only [h0, if_true] at h
        have hlt : off < cs.length := by
          rcases Nat.lt_or_ge off cs.length with h' | h'
          · exact h'
          · simp [List.getElem?_eq_none h'] at h
        have hv : vs[off]? = some vs[off] := Array.getElem?_eq_getElem (by omega)
        exact ⟨vs, vs[off], rfl, hx off d _ h hv, .inl ⟨h0, hv⟩⟩
      · simp only [h0, if_false] at h
        split at h
        · rename_i hle
          simp only [Option.some.injEq] at h
          subst h
          refine ⟨vs, _, rfl, ?_, .inr ⟨lay - 1, by omega, by omega, rfl⟩⟩
          refine mkAgg_rel (by simp; omega) fun i c v h1 h2 => ?_
          rw [List.getElem?_take, List.getElem?_drop] at h1
          simp only [Array.getElem?_extract] at h2
          split at h1
          · split at h2
            · exact hx _ c v h1 h2
            · simp at h2
          · simp at h1
        · simp at h
  | _ => simp [AV.part] at h

theorem PV.at_rel {X : Nat} {w : World} {K KT : Keep} {b o l0 off lay : Nat} {c d : PV} {cv : Value} (h : c.at_ l0 off lay = some d) (hc : PVR X w K c cv) (hr : Row w KT b o l0 cv) :
    ∃ dv, PVR X w K d dv ∧ Row w KT b (o + off) lay dv := by
  unfold PV.at_ at h
  split at h
  · rename_i h0; obtain ⟨rfl, rfl⟩ := h0; simp only [Option.some.injEq] at h; subst h; exact ⟨cv, hc, by simpa using hr⟩
  · split at h
    · simp at h
    · rename_i h1
      obtain ⟨vs, dv, rfl, h2, h3⟩ := PV.part_rel h hc
      exact ⟨dv, h2, hr.part h1 h3⟩
theorem AV.at_rel {X : Nat} {w : World} {K KT : Keep} {m : Map} {b o l0 off lay : Nat} {c d : AV} {cv : Value} (h : c.at_ l0 off lay = some d) (hc : VR X w K m c cv) (hr : Row w KT b o l0 cv) :
    ∃ dv, VR X w K m d dv ∧ Row w KT b (o + off) lay dv := by
  unfold AV.at_ at h
  split at h
  · rename_i h0; obtain ⟨rfl, rfl⟩ := h0; simp only [Option.some.injEq] at h; subst h; exact ⟨cv, hc, by simpa using hr⟩
  · split at h
    · simp at h
    · rename_i h1
      obtain ⟨vs, dv, rfl, h2, h3⟩ := AV.part_rel h hc
      exact ⟨dv, h2, hr.part h1 h3⟩

theorem run_part {P : Program} {t : TypeId} {lay off : Nat} {vs : Array Value} {dv : Value} (hl : layOf P t = some lay) (hp : PartV vs off lay dv) (w : World) :
    (part t vs off).run P w = .ok dv w := by
  obtain ⟨d, i, hd, hi, hsz, hagg⟩ := layOf_some hl
  unfold part
  simp only [Sem.run_bind, hagg, Result.andThen_ok]
  rcases hp with ⟨rfl, h⟩ | ⟨n, rfl, h1, rfl⟩
  · simp [h]
  · simp [run_sizeOf' hi, hsz, width]

/-! # Rows of objects -/
/-- a variable's place, read -/
theorem ObR.var_row {X : Nat} {w : World} {K : Keep} {m : Map} {lay : Nat} {v : AV} {loc : Loc} (h : ObR X w K m (.var lay v) loc) :
    ∃ cv b, VR X w K m v cv ∧ loc.a = some ⟨b, 0, none⟩ ∧ loc.sz = width lay ∧ Row w (fun _ _ => True) b 0 lay cv := by
  cases h with
  | var hv hl ha hz ho hb hf hk =>
    rename_i cv b ty fr
    exact ⟨cv, b, hv, ha, hz, hl, fun j v hj => ⟨trivial, by simp [World.cell?, hb, hj]⟩⟩

/-- an array's element, read -/
theorem ObR.arr_row {X : Nat} {w : World} {K : Keep} {m : Map} {lay : Nat} {excl : Bool} {xs : List PV} {loc : Loc} (h : ObR X w K m (.arr lay excl xs) loc) {i : Nat} {x : PV} (hi : xs[i]? = some x) :
    ∃ cv b off, PVR X w K x cv ∧ loc.a = some ⟨b, off, none⟩ ∧ loc.sz = width lay ∧ Row w (fun _ _ => True) b (off + i * width lay) lay cv := by
  cases h with
  | arr cvs ha hz hl hc hs hx hr ho hn =>
    rename_i b off
    have hlt : i < xs.length := by
      rcases Nat.lt_or_ge i xs.length with h' | h'
      · exact h'
      · simp [List.getElem?_eq_none h'] at hi
    have hcv : cvs[i]? = some cvs[i] := List.getElem?_eq_getElem (by omega)
    obtain ⟨a, c⟩ := hr i _ hcv
    exact ⟨cvs[i], b, off, hx i x _ hi hcv, ha, hz, a, fun j v hj => ⟨trivial, (c j v hj).2⟩⟩
  | nilArr => simp at hi

/-! # load -/
theorem loadAV_rel {P : Program} {B : Nat} {X : Nat} {w : World} {K : Keep} {m : Map} {S : Store} {t : TypeId} {a r : AV} {av : Value} (hS : SR X B w K m S)
    (h : loadAV P S t a = some r) (ha : VR X w K m a av) : ∃ rv, (Instr.loadAt t av).run P w = .ok rv w ∧ VR X w K m r rv := by
  unfold loadAV at h
  cases hl : layOf P t with
  | none => simp [hl] at h
  | some lay =>
    simp only [hl] at h
    cases a with
    | pv d =>
      cases d with
      | ro l0 c =>
        simp only [Option.map_eq_some_iff] at h
        obtain ⟨d, h, rfl⟩ := h
        cases ha.pv_inv with
        | ro hc hr =>
          rename_i b off cv
          obtain ⟨dv, h1, h2⟩ := PV.at_rel h hc hr
          refine ⟨dv, ?_, .pv h1⟩
          simp only [Nat.add_zero] at h2
          simp [Instr.loadAt, Instr.sureAddr, run_loadVar_row' hl h2]
      | _ => simp at h
    | ptr id i off =>
      simp only at h
      cases ho : S[id]? with
      | none => simp [ho] at h
      | some ob =>
        simp only [ho] at h
        cases ha with
        | ptr hm hla =>
          rename_i b o loc
          have hob := hS.ob id ob loc ho hm
          cases ob with
          | var l0 v =>
            simp only at h
            split at h
            · rename_i hi; subst hi
              obtain ⟨cv, b', hv, hla', hz, hr⟩ := hob.var_row
              rw [hla] at hla'; simp only [Option.some.injEq, Addr.mk.injEq] at hla'; obtain ⟨rfl, rfl, _⟩ := hla'
              obtain ⟨dv, h1, h2⟩ := AV.at_rel h hv hr
              refine ⟨dv, ?_, h1⟩
              simp only [Nat.zero_add] at h2
              simp [Instr.loadAt, Instr.sureAddr, run_loadVar_row' hl h2]
            · simp at h
          | arr l0 excl xs =>
            simp only [Option.bind_eq_some_iff, Option.map_eq_some_iff] at h
            obtain ⟨x, hx, d, h, rfl⟩ := h
            obtain ⟨cv, b', off', hv, hla', hz, hr⟩ := hob.arr_row hx
            rw [hla] at hla'; simp only [Option.some.injEq, Addr.mk.injEq] at hla'; obtain ⟨rfl, rfl, _⟩ := hla'
            obtain ⟨dv, h1, h2⟩ := PV.at_rel h hv hr
            refine ⟨dv, ?_, .pv h1⟩
            rw [← hz] at h2
            simp [Instr.loadAt, Instr.sureAddr, run_loadVar_row' hl h2]
          | _ => simp at h
    | _ => simp at h

end Go.Lite

namespace Go.Lite
open Go
open Go.RowKit (Below)

/-! # fields -/
theorem fieldAV_rel {P : Program} {X : Nat} {w : World} {K : Keep} {m : Map} {t : TypeId} {x r : AV} {xv : Value} {i : Nat} (h : fieldAV P t x i = some r) (hx : VR X w K m x xv) :
    ∃ rv, (Instr.field t xv i).run P w = .ok rv w ∧ VR X w K m r rv := by
  unfold fieldAV at h
  split at h
  · rename_i fields hu
    split at h
    · rename_i f hf
      simp only [Option.bind_eq_some_iff] at h
      obtain ⟨lay, hl, h⟩ := h
      obtain ⟨vs, dv, rfl, h2, h3⟩ := AV.part_rel h hx
      exact ⟨dv, by simp [Instr.field, run_underlying' hu, hf, asAgg, run_part hl h3], h2⟩
    · simp at h
  · simp at h

theorem fieldAddrAV_rel {P : Program} {X : Nat} {w : World} {K : Keep} {m : Map} {t : TypeId} {x r : AV} {xv : Value} {i : Nat} (h : fieldAddrAV P t x i = some r) (hx : VR X w K m x xv) :
    ∃ rv, (Instr.fieldAt t xv i).run P w = .ok rv w ∧ VR X w K m r rv := by
  unfold fieldAddrAV at h
  split at h
  · rename_i fields hu
    split at h
    · rename_i f hf
      split at h
      · rename_i lay hl
        split at h
        · simp at h
        · rename_i hw
          obtain ⟨d, inf, hd, hi, hsz, hagg⟩ := layOf_some hl
          have hplace : ∀ b o, (fieldPlace ⟨b, o, none⟩ f).run P w = .ok ⟨b, o + f.offset, none⟩ w := fun b o => by
            unfold fieldPlace
            simp only [Sem.run_bind, run_sizeOf' hi, Result.andThen_ok, hsz]
            rw [if_neg hw]; simp [add_none]
          cases x with
          | pv d =>
            cases d with
            | ro l0 c =>
              simp only [Option.map_eq_some_iff] at h
              obtain ⟨d, h, rfl⟩ := h
              cases hx.pv_inv with
              | ro hc hr =>
                rename_i b off cv
                obtain ⟨dv, h1, h2⟩ := PV.at_rel h hc hr
                exact ⟨_, by simp [Instr.fieldAt, run_underlying' hu, hf, Instr.sureAddr, hplace], .pv (.ro h1 h2)⟩
            | _ => simp at h
          | ptr id i off =>
            simp only [Option.some.injEq] at h
            subst h
            cases hx with
            | ptr hm hla =>
              rename_i b o loc
              refine ⟨_, by simp [Instr.fieldAt, run_underlying' hu, hf, Instr.sureAddr, hplace]; rfl, ?_⟩
              rw [show o + i * loc.sz + off + f.offset = o + i * loc.sz + (off + f.offset) by omega]
              exact .ptr hm hla
          | _ => simp at h
      · simp at h
    · simp at h
  · simp at h

/-! # places of elements -/
theorem asInt_rel {X : Nat} {w : World} {K : Keep} {m : Map} {x : AV} {xv : Value} {n : Int} (h : asInt? x = some n) (hx : VR X w K m x xv) : ∃ k, xv = .int k n := by
  cases x with
  | pv d =>
    cases d with
    | sc v =>
      cases hx.pv_inv
      cases xv <;> simp [asInt?] at h
      subst h; exact ⟨_, rfl⟩
    | _ => simp [asInt?] at h
  | _ => simp [asInt?] at h

theorem indexAddrAV_rel {P : Program} {B : Nat} {X : Nat} {w : World} {K : Keep} {m : Map} {S : Store} {t : TypeId} {x r : AV} {xv : Value} {k : IntKind} {n : Int} (hS : SR X B w K m S)
    (h : indexAddrAV P S t x n = some r) (hx : VR X w K m x xv) :
    ∃ rv, (Instr.indexAt t xv (.int k n)).run P w = .ok rv w ∧ VR X w K m r rv := by
  unfold indexAddrAV at h
  split at h
  · rename_i el hu
    cases hl : layOf P el with
    | none => simp [hl] at h
    | some lay =>
      simp only [hl] at h
      obtain ⟨d, inf, hd, hi, hsz, hagg⟩ := layOf_some hl
      cases x with
      | pv d =>
        cases d with
        | list l0 clip xs =>
          simp only at h
          split at h
          · rename_i hc; obtain ⟨rfl, h0⟩ := hc
            simp only [Option.map_eq_some_iff] at h
            obtain ⟨c, hc, rfl⟩ := h
            cases hx.pv_inv with
            | list cvs hl' hcap hcl hs hx' hr =>
              rename_i b off len cap
              have hlt : n.toNat < xs.length := by
                rcases Nat.lt_or_ge n.toNat xs.length with h' | h'
                · exact h'
                · simp [List.getElem?_eq_none h'] at hc
              have hcv : cvs[n.toNat]? = some cvs[n.toNat] := List.getElem?_eq_getElem (by omega)
              refine ⟨.pointer (some ⟨b, off + n.toNat * inf.size, none⟩), ?_, .pv (.ro (hx' _ _ _ hc hcv) (hsz ▸ (hr _ _ hcv).kx))⟩
              simp only [Instr.indexAt, asIntOf, Sem.run_bind, Sem.run_pure, Result.andThen_ok, run_underlying' hu]
              rw [if_pos ⟨h0, by omega⟩]
              simp [run_sizeOf' hi, add_none]
            | empty => simp at hc
          · simp at h
        | _ => simp at h
      | arr id =>
        simp only at h
        cases ho : S[id]? with
        | none => simp [ho] at h
        | some ob =>
          simp only [ho] at h
          cases ob with
          | arr l0 excl xs =>
            simp only at h
            split at h
            · rename_i hc; obtain ⟨rfl, h0, h1⟩ := hc
              simp only [Option.some.injEq] at h; subst h
              cases hx with
              | arr hm =>
                rename_i loc
                have hob := hS.ob _ _ _ ho hm
                cases hob with
                | arr cvs ha hz hl' hc hs hx' hr ho' hn =>
                  rename_i b off
                  refine ⟨.pointer (some ⟨b, off + n.toNat * loc.sz + 0, none⟩), ?_, .ptr hm ha⟩
                  simp only [Instr.indexAt, asIntOf, Sem.run_bind, Sem.run_pure, Result.andThen_ok, run_underlying' hu, ha]
                  rw [if_pos ⟨h0, by omega⟩]
                  simp [run_sizeOf' hi, add_none, hsz, hz]
                | nilArr => simp at h1; omega
            · simp at h
          | _ => simp at h
      | sub id lo len =>
        simp only at h
        cases ho : S[id]? with
        | none => simp [ho] at h
        | some ob =>
          simp only [ho] at h
          cases ob with
          | arr l0 excl xs =>
            simp only at h
            split at h
            · rename_i hc; obtain ⟨rfl, h0, h1⟩ := hc
              simp only [Option.some.injEq] at h; subst h
              cases hx with
              | sub hm hn hcap hlen ha =>
                rename_i cap a loc
                have hob := hS.ob _ _ _ ho hm
                obtain ⟨b, o, hla, rfl⟩ := ha (by omega)
                cases hob with
                | arr cvs ha' hz hl' hc hs hx' hr ho' hn' =>
                  refine ⟨.pointer (some ⟨b, o + (lo + n.toNat) * loc.sz + 0, none⟩), ?_, .ptr hm hla⟩
                  simp only [Instr.indexAt, asIntOf, Sem.run_bind, Sem.run_pure, Result.andThen_ok, run_underlying' hu]
                  rw [if_pos ⟨h0, by omega⟩]
                  simp [run_sizeOf' hi, add_none, hsz, hz, Nat.add_mul, Nat.add_assoc]
                | nilArr hz hl' hc => omega
            · simp at h
          | _ => simp at h
      | _ => simp at h
  · rename_i N0 el hu
    cases hl : layOf P el with
    | none => simp [hl] at h
    | some lay =>
      simp only [hl] at h
      obtain ⟨d, inf, hd, hi, hsz, hagg⟩ := layOf_some hl
      cases x with
      | pv d =>
        cases d with
        | ro l0 c =>
          simp only at h
          split at h
          · rename_i hc
            simp only [Option.map_eq_some_iff] at h
            obtain ⟨d, h, rfl⟩ := h
            cases hx.pv_inv with
            | ro hc' hr =>
              rename_i b off cv
              obtain ⟨dv, h1, h2⟩ := PV.at_rel h hc' hr
              refine ⟨.pointer (some ⟨b, off + n.toNat * inf.size, none⟩), ?_, .pv (.ro h1 (hsz ▸ h2))⟩
              simp only [Instr.indexAt, asIntOf, Sem.run_bind, Sem.run_pure, Result.andThen_ok, run_underlying' hu, Instr.sureAddr]
              rw [if_pos hc]
              simp [run_sizeOf' hi, add_none]
          · simp at h
        | _ => simp at h
      | ptr id j off =>
        simp only at h
        split at h
        · rename_i hc
          simp only [Option.some.injEq] at h; subst h
          cases hx with
          | ptr hm hla =>
            rename_i b o loc
            refine ⟨.pointer (some ⟨b, o + j * loc.sz + (off + n.toNat * width lay), none⟩), ?_, .ptr hm hla⟩
            simp only [Instr.indexAt, asIntOf, Instr.sureAddr, Sem.run_bind, Sem.run_pure, Result.andThen_ok, run_underlying' hu]
            rw [if_pos hc]
            simp [run_sizeOf' hi, add_none, hsz]
            omega
        · simp at h
      | _ => simp at h
  · simp at h

theorem plain_rel {X : Nat} {w : World} {K : Keep} {d : PV} {u v : Value} (h : d.plain? = some u) (hd : PVR X w K d v) : v = u := by
  cases d with
  | sc v' => simp only [PV.plain?, Option.some.injEq] at h; subst h; cases hd; rfl
  | agg cs =>
    simp only [PV.plain?, Option.map_eq_some_iff] at h
    obtain ⟨vs', h, rfl⟩ := h
    cases hd with
    | agg hs hx =>
      rename_i vs
      have key : ∀ (cs : List PV) (vs' : List Value), cs.mapM PV.scalar? = some vs' → cs.length = vs'.length ∧ ∀ (i : Nat) (c : PV), cs[i]? = some c → ∃ v, c = PV.sc v ∧ vs'[i]? = some v := by
        intro cs
        induction cs with
        | nil => intro vs' h; simp at h; subst h; simp
        | cons c cs ih =>
          intro vs' h
          simp only [List.mapM_cons] at h
          cases c <;> simp only [PV.scalar?, Option.bind_eq_bind, Option.bind_some, Option.bind_none, reduceCtorEq] at h
          rename_i v
          cases h2 : cs.mapM PV.scalar? with
          | none => simp [h2] at h
          | some r =>
            simp only [h2, Option.bind_some, Option.pure_def, Option.some.injEq] at h
            subst h
            obtain ⟨h3, h4⟩ := ih r h2
            refine ⟨by simp [h3], fun i c hc => ?_⟩
            cases i with
            | zero => simp at hc; subst hc; exact ⟨v, rfl, rfl⟩
            | succ i => simp only [List.getElem?_cons_succ] at hc ⊢; exact h4 i c hc
      obtain ⟨h1, h2⟩ := key cs vs' h
      congr 1
      apply Array.ext
      · simp; omega
      · intro i hi1 hi2
        have hc : cs[i]? = some (cs[i]'(by omega)) := List.getElem?_eq_getElem (by omega)
        obtain ⟨v, hv, hv'⟩ := h2 i _ hc
        have := hx i _ vs[i] hc (Array.getElem?_eq_getElem hi1)
        rw [hv] at this
        cases this
        simp only [List.getElem_toArray]
        simp only [List.size_toArray] at hi2
        rw [List.getElem?_eq_getElem hi2] at hv'
        simpa using hv'.symm
  | _ => simp [PV.plain?] at h

theorem mkClo_rel {X : Nat} {w : World} {K : Keep} {m : Map} {f : FuncId} {as bs : List AV} {va vb : Array Value} (ha : va.size = as.length) (hb : vb.size = bs.length)
      (hx : ∀ (i : Nat) (c : AV) (v : Value), as[i]? = some c → va[i]? = some v → VR X w K m c v)
      (hy : ∀ (i : Nat) (c : AV) (v : Value), bs[i]? = some c → vb[i]? = some v → VR X w K m c v) : VR X w K m (mkClo f as bs) (.func (.func f) va vb) := by
  unfold mkClo
  split
  · rename_i a b h1 h2
    have h1 := mapM_pure h1
    have h2 := mapM_pure h2
    subst h1; subst h2
    exact .pv (.clo (by simpa using ha) (by simpa using hb) (fun i c v h1 h2 => (hx i (.pv c) v (by simp [h1]) h2).pv_inv) fun i c v h1 h2 => (hy i (.pv c) v (by simp [h1]) h2).pv_inv)
  · exact .clo ha hb hx hy

theorem map_rel {X : Nat} {w : World} {K : Keep} {m : Map} {e : Env} {a : Act} {xs : Array Operand} (hx : ∀ x ∈ xs, VR X w K m (opnd e x) (a.eval x)) :
    (xs.map a.eval).size = (xs.toList.map (opnd e)).length ∧
    ∀ (i : Nat) (c : AV) (v : Value), (xs.toList.map (opnd e))[i]? = some c → (xs.map a.eval)[i]? = some v → VR X w K m c v := by
  refine ⟨by simp, fun i c v h1 h2 => ?_⟩
  simp only [List.getElem?_map, Array.getElem?_toList, Option.map_eq_some_iff, Array.getElem?_map] at h1 h2
  obtain ⟨x, hx1, rfl⟩ := h1
  obtain ⟨y, hy1, rfl⟩ := h2
  rw [hx1] at hy1; simp only [Option.some.injEq] at hy1; subst hy1
  exact hx x (Array.mem_of_getElem? hx1)

end Go.Lite

namespace Go.Lite
open Go
open Go.RowKit (Below)

/-! # layouts of values -/
theorem PV.isCell_rel {X : Nat} {w : World} {K : Keep} {d : PV} {v : Value} (h : d.isCell = true) (hd : PVR X w K d v) : v.cells = #[v] ∧ v.oneCell' = true ∧ d.cells = [d] := by
  cases d with
  | sc u => cases hd; cases v <;> simp [PV.isCell] at h <;> exact ⟨rfl, rfl, rfl⟩
  | list => cases hd <;> exact ⟨rfl, rfl, rfl⟩
  | ro => cases hd; exact ⟨rfl, rfl, rfl⟩
  | agg cs => simp [PV.isCell] at h
  | tup => simp [PV.isCell] at h
  | clo => cases hd; exact ⟨rfl, rfl, rfl⟩
  | ifc => cases hd; exact ⟨rfl, rfl, rfl⟩
theorem AV.isCell_rel {X : Nat} {w : World} {K : Keep} {m : Map} {d : AV} {v : Value} (h : d.isCell = true) (hd : VR X w K m d v) : v.cells = #[v] ∧ v.oneCell' = true ∧ d.cells = [d] := by
  cases d with
  | pv d =>
    obtain ⟨h1, h2, h3⟩ := PV.isCell_rel h hd.pv_inv
    refine ⟨h1, h2, ?_⟩
    cases d <;> first | rfl | simp [AV.isCell, PV.isCell] at h
  | ptr => cases hd; exact ⟨rfl, rfl, rfl⟩
  | arr => cases hd; exact ⟨rfl, rfl, rfl⟩
  | mp => cases hd; exact ⟨rfl, rfl, rfl⟩
  | agg cs => simp [AV.isCell] at h
  | tup => simp [AV.isCell] at h
  | clo => cases hd; exact ⟨rfl, rfl, rfl⟩
  | sub => cases hd; exact ⟨rfl, rfl, rfl⟩
  | dead => simp [AV.isCell] at h

theorem PV.hasLay_rel {X : Nat} {w : World} {K : Keep} {lay : Nat} {d : PV} {v : Value} (h : d.hasLay lay = true) (hd : PVR X w K d v) :
    Lay lay v ∧ v.cells = cellsL lay v ∧ d.cells.length = width lay ∧ ∀ (i : Nat) (c : PV) (x : Value), d.cells[i]? = some c → v.cells[i]? = some x → PVR X w K c x := by
  have one : lay = 0 → d.isCell = true → Lay lay v ∧ v.cells = cellsL lay v ∧ d.cells.length = width lay ∧ ∀ (i : Nat) (c : PV) (x : Value), d.cells[i]? = some c → v.cells[i]? = some x → PVR X w K c x := by
    intro h0 hc
    obtain ⟨h1, h2, h3⟩ := PV.isCell_rel hc hd
    subst h0
    refine ⟨⟨.inl rfl, fun j u hj => ?_⟩, by simp [cellsL, h1], by simp [h3, width], fun i c x g1 g2 => ?_⟩
    · simp only [cellsL, if_true] at hj
      cases j with
      | zero => simp at hj; subst hj; exact h2
      | succ j => simp at hj
    · rw [h3] at g1; rw [h1] at g2
      cases i with
      | zero => simp at g1 g2; subst g1; subst g2; exact hd
      | succ i => simp at g1
  cases d with
  | agg cs =>
    simp only [PV.hasLay, Bool.and_eq_true, beq_iff_eq, List.all_eq_true] at h
    cases hd with
    | agg hs hx =>
      rename_i vs
      refine ⟨⟨.inr ⟨vs, rfl, by omega⟩, fun j u hj => ?_⟩, by simp [cellsL, h], by simp [PV.cells, h, width], fun i c x h1 h2 => hx i c x h1 h2⟩
      simp only [cellsL, h.1, Nat.succ_ne_zero, if_false, Value.cells] at hj
      have hlt : j < vs.size := by
        rcases Nat.lt_or_ge j vs.size with h' | h'
        · exact h'
        · simp [Array.getElem?_eq_none h'] at hj
      have hc : cs[j]? = some (cs[j]'(by omega)) := List.getElem?_eq_getElem (by omega)
      exact (PV.isCell_rel (h.2 _ (List.getElem_mem (by omega))) (hx j _ u hc hj)).2.1
  | _ => simp only [PV.hasLay, Bool.and_eq_true, beq_iff_eq] at h; exact one h.1 h.2

theorem AV.hasLay_rel {X : Nat} {w : World} {K : Keep} {m : Map} {lay : Nat} {d : AV} {v : Value} (h : d.hasLay lay = true) (hd : VR X w K m d v) :
    Lay lay v ∧ v.cells = cellsL lay v ∧ d.cells.length = width lay ∧ ∀ (i : Nat) (c : AV) (x : Value), d.cells[i]? = some c → v.cells[i]? = some x → VR X w K m c x := by
  have one : lay = 0 → d.isCell = true → Lay lay v ∧ v.cells = cellsL lay v ∧ d.cells.length = width lay ∧ ∀ (i : Nat) (c : AV) (x : Value), d.cells[i]? = some c → v.cells[i]? = some x → VR X w K m c x := by
    intro h0 hc
    obtain ⟨h1, h2, h3⟩ := AV.isCell_rel hc hd
    subst h0
    refine ⟨⟨.inl rfl, fun j u hj => ?_⟩, by simp [cellsL, h1], by simp [h3, width], fun i c x g1 g2 => ?_⟩
    · simp only [cellsL, if_true] at hj
      cases j with
      | zero => simp at hj; subst hj; exact h2
      | succ j => simp at hj
    · rw [h3] at g1; rw [h1] at g2
      cases i with
      | zero => simp at g1 g2; subst g1; subst g2; exact hd
      | succ i => simp at g1
  cases d with
  | pv d =>
    obtain ⟨h1, h2, h3, h4⟩ := PV.hasLay_rel h hd.pv_inv
    refine ⟨h1, h2, ?_, ?_⟩
    · rw [← h3]; cases d <;> simp [AV.cells, PV.cells]
    · intro i c x hi hx
      cases d with
      | agg cs =>
        simp only [AV.cells, List.getElem?_map, Option.map_eq_some_iff] at hi
        obtain ⟨c, hi, rfl⟩ := hi
        exact .pv (h4 i c x (by simpa [PV.cells] using hi) hx)
      | _ =>
        simp only [AV.cells] at hi
        cases i with
        | zero => simp at hi; subst hi; exact .pv (h4 0 _ x (by simp [PV.cells]) hx)
        | succ i => simp at hi
  | agg cs =>
    simp only [AV.hasLay, Bool.and_eq_true, beq_iff_eq, List.all_eq_true] at h
    cases hd with
    | agg hs hx =>
      rename_i vs
      refine ⟨⟨.inr ⟨vs, rfl, by omega⟩, fun j u hj => ?_⟩, by simp [cellsL, h], by simp [AV.cells, h, width], fun i c x h1 h2 => hx i c x h1 h2⟩
      simp only [cellsL, h.1, Nat.succ_ne_zero, if_false, Value.cells] at hj
      have hlt : j < vs.size := by
        rcases Nat.lt_or_ge j vs.size with h' | h'
        · exact h'
        · simp [Array.getElem?_eq_none h'] at hj
      have hc : cs[j]? = some (cs[j]'(by omega)) := List.getElem?_eq_getElem (by omega)
      exact (AV.isCell_rel (h.2 _ (List.getElem_mem (by omega))) (hx j _ u hc hj)).2.1
  | _ => simp only [AV.hasLay, Bool.and_eq_true, beq_iff_eq] at h; exact one h.1 h.2

/-! # fill -/
theorem fold_set (off : Nat) : ∀ (l : List Value) (k : Nat) (cs : Array Value) (i : Nat), off + k + l.length ≤ cs.size →
    ((l.zipIdx k).foldl (fun cs p => cs.setIfInBounds (off + p.2) p.1) cs)[i]? = (if off + k ≤ i ∧ i < off + k + l.length then l[i - (off + k)]? else cs[i]?) ∧
    ((l.zipIdx k).foldl (fun cs p => cs.setIfInBounds (off + p.2) p.1) cs).size = cs.size := by
  intro l
  induction l with
  | nil => intro k cs i h; simp; intros; omega
  | cons c l ih =>
    intro k cs i h
    simp only [List.zipIdx_cons, List.foldl_cons]
    simp only [List.length_cons] at h
    obtain ⟨h1, h2⟩ := ih (k + 1) (cs.setIfInBounds (off + k) c) i (by simp; omega)
    refine ⟨?_, by rw [h2]; simp⟩
    rw [h1]
    simp only [Array.getElem?_setIfInBounds, List.length_cons]
    by_cases ha : i = off + k
    · subst ha
      rw [if_neg (by omega), if_pos rfl, if_pos (by omega), if_pos (by omega)]; simp
    · by_cases hb : off + (k + 1) ≤ i ∧ i < off + (k + 1) + l.length
      · rw [if_pos hb, if_pos (by omega)]
        have : i - (off + k) = (i - (off + (k + 1))) + 1 := by omega
        rw [this]; simp
      · rw [if_neg hb, if_neg (by omega), if_neg (by omega)]

theorem fill_step (cells : Array Value) (v : Value) (off : Nat) (h : off + v.cells.size ≤ cells.size) :
    (∀ (i : Nat), (v.cells.zipIdx.foldl (fun cs (c, j) => cs.setIfInBounds (off + j) c) cells)[i]? = if off ≤ i ∧ i < off + v.cells.size then v.cells[i - off]? else cells[i]?) ∧
    (v.cells.zipIdx.foldl (fun cs (c, j) => cs.setIfInBounds (off + j) c) cells).size = cells.size := by
  have key : v.cells.zipIdx.foldl (fun cs (c, j) => cs.setIfInBounds (off + j) c) cells = (v.cells.toList.zipIdx 0).foldl (fun cs p => cs.setIfInBounds (off + p.2) p.1) cells := by
    rw [← Array.foldl_toList]; simp
  rw [key]
  refine ⟨fun i => ?_, (fold_set off v.cells.toList 0 cells 0 (by simpa using h)).2⟩
  rw [(fold_set off v.cells.toList 0 cells i (by simpa using h)).1]
  simp

theorem splice_get {α : Type} {cs new r : List α} {off : Nat} (h : splice cs off new = some r) :
    off + new.length ≤ cs.length ∧ r.length = cs.length ∧ ∀ (i : Nat), r[i]? = if off ≤ i ∧ i < off + new.length then new[i - off]? else cs[i]? := by
  unfold splice at h
  split at h
  · rename_i hle
    simp only [Option.some.injEq] at h; subst h
    refine ⟨hle, by simp; omega, fun i => ?_⟩
    by_cases h1 : i < off
    · rw [if_neg (by omega), List.getElem?_append_left (by simp; omega), List.getElem?_append_left (by simp; omega), List.getElem?_take, if_pos h1]
    · by_cases h2 : i < off + new.length
      · rw [if_pos (by omega), List.getElem?_append_left (by simp; omega), List.getElem?_append_right (by simp; omega)]
        congr 1; simp; omega
      · rw [if_neg (by omega), List.getElem?_append_right (by simp; omega)]
        simp only [List.length_append, List.length_take, List.getElem?_drop]
        congr 1; omega
  · simp at h

theorem buildCells_rel {X : Nat} {w : World} {K : Keep} {m : Map} (place : Nat → Option (Nat × Nat)) : ∀ (ps : List (Nat × AV)) (vs : List (Nat × Value)) (cells r : List AV) (cv : Array Value),
    buildCells cells ps = some r → ps.length = vs.length → cv.size = cells.length → (∀ (i : Nat) (c : AV) (v : Value), cells[i]? = some c → cv[i]? = some v → VR X w K m c v) →
    (∀ (k : Nat) p q, ps[k]? = some p → vs[k]? = some q → VR X w K m p.2 q.2 ∧ ∃ lay, p.2.hasLay lay = true ∧ place q.1 = some (p.1, width lay)) →
    ∃ rv, Instr.fill place cv vs = some rv ∧ rv.size = r.length ∧ (∀ (i : Nat) (c : AV) (v : Value), r[i]? = some c → rv[i]? = some v → VR X w K m c v) := by
  intro ps
  induction ps with
  | nil =>
    intro vs cells r cv h hl hs hx hp
    cases vs with
    | nil => simp [buildCells] at h; subst h; exact ⟨cv, rfl, hs, hx⟩
    | cons => simp at hl
  | cons p ps ih =>
    intro vs cells r cv h hl hs hx hp
    cases vs with
    | nil => simp at hl
    | cons q vs =>
      obtain ⟨off, v⟩ := p
      simp only [buildCells, Option.bind_eq_some_iff] at h
      obtain ⟨cells', hsp, h⟩ := h
      obtain ⟨hle, hlen, hget⟩ := splice_get hsp
      obtain ⟨hv, lay, hlay, hplace⟩ := hp 0 _ q rfl rfl
      obtain ⟨h1, h2, h3, h4⟩ := AV.hasLay_rel hlay hv
      have hsz : q.2.cells.size = width lay := by rw [h2]; exact h1.size
      have hvc : v.cells.length = width lay := h3
      obtain ⟨f1, f2⟩ := fill_step cv q.2 off (by omega)
      obtain ⟨i, vv⟩ := q
      simp only at *
      obtain ⟨rv, e1, e2, e3⟩ := ih vs cells' r _ h (by simpa using hl) (by rw [f2]; omega) (fun j c x hc hx' => by
        rw [hget] at hc; rw [f1] at hx'
        by_cases hj : off ≤ j ∧ j < off + width lay
        · rw [if_pos (by omega)] at hc; rw [if_pos (by omega)] at hx'
          exact h4 _ c x hc hx'
        · rw [if_neg (by omega)] at hc; rw [if_neg (by omega)] at hx'
          exact hx _ c x hc hx') (fun k p q hp' hq' => hp (k + 1) p q (by simpa using hp') (by simpa using hq'))
      refine ⟨rv, ?_, e2, e3⟩
      unfold Instr.fill
      simp only [hplace]
      rw [if_neg (by simp; omega)]
      exact e1

end Go.Lite

namespace Go.Lite
open Go
open Go.RowKit (Below)

theorem optM_get {α β : Type} {f : α → Option β} : ∀ {l : List α} {r : List β}, l.mapM f = some r →
    r.length = l.length ∧ (∀ (k : Nat) (x : α), l[k]? = some x → ∃ y, f x = some y ∧ r[k]? = some y) ∧ (∀ (k : Nat) (y : β), r[k]? = some y → ∃ x, l[k]? = some x ∧ f x = some y) := by
  intro l
  induction l with
  | nil => intro r h; simp at h; subst h; simp
  | cons a l ih =>
    intro r h
    simp only [List.mapM_cons, Option.bind_eq_bind] at h
    cases h1 : f a with
    | none => simp [h1] at h
    | some b =>
      cases h2 : l.mapM f with
      | none => simp [h1, h2] at h
      | some s =>
        simp only [h1, h2, Option.bind_some, Option.pure_def, Option.some.injEq] at h
        subst h
        obtain ⟨i1, i2, i3⟩ := ih h2
        refine ⟨by simp [i1], fun k x hk => ?_, fun k y hk => ?_⟩
        · cases k with
          | zero => simp at hk; subst hk; exact ⟨b, h1, rfl⟩
          | succ k => simpa using i2 k x (by simpa using hk)
        · cases k with
          | zero => simp at hk; subst hk; exact ⟨a, rfl, h1⟩
          | succ k => simpa using i3 k y (by simpa using hk)

theorem run_mapM_list {P : Program} {w : World} {α β : Type} {f : α → Sem β} {g : α → β} : ∀ {l : List α}, (∀ x ∈ l, (f x).run P w = .ok (g x) w) → (l.mapM f).run P w = .ok (l.map g) w := by
  intro l
  induction l with
  | nil => intro _; rfl
  | cons a l ih =>
    intro h
    simp only [List.mapM_cons, Sem.run_bind, h a (by simp), Result.andThen_ok, ih fun x hx => h x (by simp [hx]), Sem.run_pure, List.map_cons]
theorem run_mapM_array {P : Program} {w : World} {α β : Type} {f : α → Sem β} {g : α → β} {l : Array α} (h : ∀ x ∈ l, (f x).run P w = .ok (g x) w) : (l.mapM f).run P w = .ok (l.map g) w := by
  rw [Array.mapM_eq_mapM_toList, Sem.run_map, run_mapM_list (l := l.toList) (g := g) (fun x hx => h x (by simpa using hx))]
  simp only [Result.andThen_ok]
  congr 1
  apply Array.ext' <;> simp

theorem zeroPV_some {P : Program} {t : TypeId} {z : PV} (h : zeroPV P t = some z) : ∃ i v, P.info? t = some i ∧ i.zero = some v ∧ z = PV.ofValue v := by
  unfold zeroPV at h
  simp only [Option.map_eq_some_iff, Option.bind_eq_some_iff] at h
  obtain ⟨v, ⟨i, h1, h2⟩, h3⟩ := h
  exact ⟨i, v, h1, h2, h3.symm⟩

theorem ofValue_agg {v : Value} {z : List PV} (h : PV.agg z = PV.ofValue v) : ∃ vs, v = .agg vs ∧ z = vs.toList.map .sc := by
  cases v <;> simp [PV.ofValue] at h
  exact ⟨_, rfl, h⟩

theorem buildAV_rel {P : Program} {X : Nat} {w : World} {K : Keep} {m : Map} {t : TypeId} {ps : List (Nat × AV)} {vs : Array (Nat × Value)} {r : AV}
    (h : buildAV P t ps = some r) (hl : ps.length = vs.size) (hp : ∀ (k : Nat) p q, ps[k]? = some p → vs[k]? = some q → p.1 = q.1 ∧ VR X w K m p.2 q.2) :
    ∃ rv, (Instr.build t vs).run P w = .ok rv w ∧ VR X w K m r rv := by
  unfold buildAV at h
  split at h
  · rename_i fields z hu hz
    obtain ⟨ti, zv, hti, hzv, hze⟩ := zeroPV_some hz
    obtain ⟨zs, rfl, hzs⟩ := ofValue_agg hze
    split at h
    · rename_i lays hlays
      obtain ⟨l1, l2, l3⟩ := optM_get hlays
      split at h
      · rename_i ps' hps
        obtain ⟨p1, p2, p3⟩ := optM_get hps
        simp only [Option.map_eq_some_iff] at h
        obtain ⟨cells, hc, rfl⟩ := h
        have hplaces : (fields.mapM fun (f : Field) => do pure (f.offset, ← sizeOf f.type)).run P w = .ok (fields.map fun (f : Field) => (f.offset, ((P.info? f.type).map (·.size)).getD 0)) w := by
          refine run_mapM_array fun f hf => ?_
          obtain ⟨k, hk⟩ := Array.mem_iff_getElem?.1 hf
          obtain ⟨lay, hlay, _⟩ := l2 k f (by simpa using hk)
          obtain ⟨d, i, hd, hi, hsz, _⟩ := layOf_some hlay
          simp [run_sizeOf' hi, hi]
        obtain ⟨rv, e1, e2, e3⟩ := buildCells_rel (w := w) (K := K) (m := m) (fun k => (fields.map fun (f : Field) => (f.offset, ((P.info? f.type).map (·.size)).getD 0))[k]?) ps' vs.toList (z.map .pv) cells zs hc
          (by rw [p1, hl]; simp) (by simp [hzs]) (fun i c v hc hv => by
            subst hzs
            simp only [List.map_map, List.getElem?_map, Array.getElem?_toList, hv, Option.map_some, Option.some.injEq] at hc
            subst hc; exact .pv (.sc v)) (fun k p q hp' hq' => by
            obtain ⟨x, hx, hf⟩ := p3 k p hp'
            obtain ⟨i, v⟩ := x
            simp only at hf
            split at hf
            · rename_i f lay hfi hli
              split at hf
              · rename_i hlay
                simp only [Option.some.injEq] at hf
                subst hf
                obtain ⟨g1, g2⟩ := hp k (i, v) q hx (by simpa using hq')
                refine ⟨g2, lay, hlay, ?_⟩
                simp only at g1
                obtain ⟨f', hf', hl'⟩ := l3 i lay hli
                simp only [Array.getElem?_toList, hfi, Option.some.injEq] at hf'
                subst hf'
                obtain ⟨d, inf, hd, hi, hsz, _⟩ := layOf_some hl'
                simp [← g1, hfi, hi, hsz]
              · simp at hf
            · simp at hf)
        refine ⟨.agg rv, ?_, mkAgg_rel e2 e3⟩
        unfold Instr.build
        simp only [Sem.run_bind, run_zeroValue' hti hzv, Result.andThen_ok, run_underlying' hu, hplaces, Value.cells]
        rw [e1]
        rfl
      · simp at h
    · simp at h
  · rename_i N0 el z hu hz
    obtain ⟨ti, zv, hti, hzv, hze⟩ := zeroPV_some hz
    obtain ⟨zs, rfl, hzs⟩ := ofValue_agg hze
    split at h
    · rename_i lay hlay
      obtain ⟨d, inf, hd, hi, hsz, _⟩ := layOf_some hlay
      split at h
      · rename_i ps' hps
        obtain ⟨p1, p2, p3⟩ := optM_get hps
        simp only [Option.map_eq_some_iff] at h
        obtain ⟨cells, hc, rfl⟩ := h
        obtain ⟨rv, e1, e2, e3⟩ := buildCells_rel (w := w) (K := K) (m := m) (fun k => some (k * width lay, width lay)) ps' vs.toList (z.map .pv) cells zs hc
          (by rw [p1, hl]; simp) (by simp [hzs]) (fun i c v hc hv => by
            subst hzs
            simp only [List.map_map, List.getElem?_map, Array.getElem?_toList, hv, Option.map_some, Option.some.injEq] at hc
            subst hc; exact .pv (.sc v)) (fun k p q hp' hq' => by
            obtain ⟨x, hx, hf⟩ := p3 k p hp'
            obtain ⟨i, v⟩ := x
            simp only at hf
            split at hf
            · rename_i hlay2
              simp only [Option.some.injEq] at hf
              subst hf
              obtain ⟨g1, g2⟩ := hp k (i, v) q hx (by simpa using hq')
              refine ⟨g2, lay, hlay2, ?_⟩
              simp only at g1
              simp [← g1]
            · simp at hf)
        refine ⟨.agg rv, ?_, mkAgg_rel e2 e3⟩
        unfold Instr.build
        simp only [Sem.run_bind, run_zeroValue' hti hzv, Result.andThen_ok, run_underlying' hu, Value.cells, run_sizeOf' hi, hsz]
        rw [e1]
        rfl
      · simp at h
    · simp at h
  · simp at h

/-! # written lists -/
theorem setAll_get {α : Type} : ∀ {ps : List (Nat × α)} {xs r : List α}, setAll xs ps = some r → r.length = xs.length := by
  intro ps
  induction ps with
  | nil => intro xs r h; simp [setAll] at h; rw [h]
  | cons p ps ih =>
    intro xs r h
    obtain ⟨i, v⟩ := p
    simp only [setAll] at h
    split at h
    · have := ih h; simpa using this
    · simp at h

/-- the cells of a list of values of one layout -/
def CellsOf (X : Nat) (w : World) (K : Keep) (lay : Nat) (xs : List PV) (cells : Array Value) : Prop :=
  cells.size = xs.length * width lay ∧ ∃ cvs : List Value, cvs.length = xs.length ∧ (∀ (i : Nat) (x : PV) (cv : Value), xs[i]? = some x → cvs[i]? = some cv → PVR X w K x cv ∧ Lay lay cv ∧
    ∀ (j : Nat), j < width lay → cells[i * width lay + j]? = (cellsL lay cv)[j]?)

theorem fillSlice_rel {X : Nat} {w : World} {K : Keep} {lay : Nat} : ∀ (ps : List (Nat × PV)) (vs : List (Nat × Value)) (xs r : List PV) (cells : Array Value),
    setAll xs ps = some r → ps.length = vs.length → CellsOf X w K lay xs cells → (∀ p ∈ ps, p.2.hasLay lay = true) →
    (∀ (k : Nat) p q, ps[k]? = some p → vs[k]? = some q → p.1 = q.1 ∧ PVR X w K p.2 q.2) →
    ∃ rv, Instr.fill (fun i => some (i * width lay, width lay)) cells vs = some rv ∧ CellsOf X w K lay r rv := by
  intro ps
  induction ps with
  | nil =>
    intro vs xs r cells h hl hc _ _
    cases vs with
    | nil => simp [setAll] at h; subst h; exact ⟨cells, rfl, hc⟩
    | cons => simp at hl
  | cons p ps ih =>
    intro vs xs r cells h hl hc hlay hp
    cases vs with
    | nil => simp at hl
    | cons q vs =>
      obtain ⟨i, v⟩ := p
      obtain ⟨i', vv⟩ := q
      obtain ⟨hi, hv⟩ := hp 0 _ _ rfl rfl
      simp only at hi hv; subst hi
      simp only [setAll] at h
      split at h
      · rename_i hlt
        obtain ⟨h1, h2, h3, h4⟩ := PV.hasLay_rel (hlay (i, v) (by simp)) hv
        have hsz : vv.cells.size = width lay := by rw [h2]; exact h1.size
        obtain ⟨hcs, cvs, hcl, hcx⟩ := hc
        have hfit : i * width lay + width lay ≤ xs.length * width lay := by
          have := Nat.mul_le_mul_right (width lay) (show i + 1 ≤ xs.length by omega)
          rw [Nat.add_mul] at this; omega
        obtain ⟨f1, f2⟩ := fill_step cells vv (i * width lay) (by omega)
        obtain ⟨rv, e1, e2⟩ := ih vs (xs.set i v) r _ h (by simpa using hl) ⟨by rw [f2, hcs]; simp, cvs.set i vv, by simp [hcl], fun k x cv hx hcv => by
          by_cases hk : k = i
          · subst hk
            rw [List.getElem?_set_self (by omega)] at hx
            rw [List.getElem?_set_self (by omega)] at hcv
            simp only [Option.some.injEq] at hx hcv
            subst hx; subst hcv
            refine ⟨hv, h1, fun j hj => ?_⟩
            rw [f1, if_pos (by omega), ← h2]; congr 1; omega
          · rw [List.getElem?_set_ne (Ne.symm hk)] at hx
            rw [List.getElem?_set_ne (Ne.symm hk)] at hcv
            obtain ⟨g1, g2, g3⟩ := hcx k x cv hx hcv
            refine ⟨g1, g2, fun j hj => ?_⟩
            rw [f1, if_neg, g3 j hj]
            intro hbad
            rcases Nat.lt_or_gt_of_ne hk with hlt' | hlt'
            · have := Nat.mul_le_mul_right (width lay) (show k + 1 ≤ i by omega)
              rw [Nat.add_mul] at this; omega
            · have := Nat.mul_le_mul_right (width lay) (show i + 1 ≤ k by omega)
              rw [Nat.add_mul] at this; omega⟩ (fun p hp => hlay p (by simp [hp])) (fun k p q h1 h2 => hp (k + 1) p q (by simpa using h1) (by simpa using h2))
        refine ⟨rv, ?_, e2⟩
        unfold Instr.fill
        simp only
        rw [if_neg (by simp; omega)]
        exact e1
      · simp at h

theorem CellsOf.replicate {X : Nat} {w : World} {K : Keep} {lay n : Nat} {z : PV} {zv : Value} (hz : z.hasLay lay = true) (hv : PVR X w K z zv) :
    CellsOf X w K lay (List.replicate n z) ((Array.range (n * width lay)).map (zv.cells[· % zv.cells.size]!)) := by
  obtain ⟨h1, h2, h3, h4⟩ := PV.hasLay_rel hz hv
  have hsz : zv.cells.size = width lay := by rw [h2]; exact h1.size
  refine ⟨by simp, List.replicate n zv, by simp, fun i x cv hx hcv => ?_⟩
  simp only [List.getElem?_replicate] at hx hcv
  by_cases hi : i < n
  case neg => simp [hi] at hx
  simp only [hi, if_true, Option.some.injEq] at hx hcv
  subst hx; subst hcv
  refine ⟨hv, h1, fun j hj => ?_⟩
  have hfit : i * width lay + width lay ≤ n * width lay := by
    have := Nat.mul_le_mul_right (width lay) (show i + 1 ≤ n by omega)
    rw [Nat.add_mul] at this; omega
  rw [Array.getElem?_map, Array.getElem?_range, if_pos (by omega)]
  simp only [Option.map_some, hsz]
  rw [show (i * width lay + j) % width lay = j by rw [Nat.add_comm, Nat.add_mul_mod_self_right, Nat.mod_eq_of_lt hj], ← h2]
  rw [getElem!_pos zv.cells j (by omega), Array.getElem?_eq_getElem (by omega)]

theorem buildXs_rel {P : Program} {X : Nat} {w : World} {K : Keep} {t : TypeId} {lay n : Nat} {ps : List (Nat × PV)} {vs : Array (Nat × Value)} {xs : List PV}
    (h : buildXs P t lay n ps = some xs) (hl : ps.length = vs.size) (hp : ∀ (k : Nat) p q, ps[k]? = some p → vs[k]? = some q → p.1 = q.1 ∧ PVR X w K p.2 q.2) :
    ∃ (el : TypeId) (rv : Array Value), (Instr.buildSlice t n vs).run P w = .ok (.slice (some ⟨w.heap.size, 0, none⟩) n n) (w.alloc (.cells rv el)) ∧ CellsOf X w K lay xs rv ∧ xs.length = n := by
  unfold buildXs at h
  split at h
  · rename_i el hu
    split at h
    · rename_i lay' z hlay hz
      split at h
      · rename_i hcond
        obtain ⟨rfl, hbig, hzl, hw, hall⟩ := hcond
        have hset := h
        obtain ⟨ti, zv, hti, hzv, rfl⟩ := zeroPV_some hz
        obtain ⟨d, i, hd, hi, hsz, hagg⟩ := layOf_some hlay
        obtain ⟨rv, e1, e2⟩ := fillSlice_rel (w := w) (K := K) ps vs.toList _ xs _ hset (by simpa using hl) (CellsOf.replicate (n := n) hzl (ofValue_rel w K zv))
          (fun p hp => by simp only [List.all_eq_true] at hall; exact hall p hp) (fun k p q h1 h2 => hp k p q h1 (by simpa using h2))
        have hxl : xs.length = n := by have := setAll_get hset; simpa using this
        refine ⟨el, rv, ?_, e2, hxl⟩
        unfold Instr.buildSlice
        simp only [Sem.run_bind, run_underlying' hu, Result.andThen_ok, run_sizeOf' hi, hsz, Sem.run_ite]
        rw [if_neg (by omega)]
        simp only [Sem.run_pure, Result.andThen_ok]
        by_cases h0 : n * width lay = 0
        · have hn : n = 0 := by
            rcases Nat.mul_eq_zero.1 h0 with h | h
            · exact h
            · omega
          subst hn
          simp only [Nat.zero_mul, if_true] at e1 ⊢
          have : (Array.range 0).map (fun x => (#[] : Array Value)[x % (#[] : Array Value).size]!) = (Array.range 0).map (zv.cells[· % zv.cells.size]!) := by simp
          rw [this, e1]
          simp [newRow, run_newObj]
        · rw [if_neg h0]
          simp only [run_zeroValue' hti hzv, Result.andThen_ok]
          rw [e1]
          simp [newRow, run_newObj]
      · simp at h
    · simp at h
  · simp at h

theorem buildSliceAV_rel {P : Program} {X : Nat} {w : World} {K : Keep} {t : TypeId} {n : Nat} {ps : List (Nat × PV)} {vs : Array (Nat × Value)} {r : PV}
    (h : buildSliceAV P t n ps = some r) (hl : ps.length = vs.size) (hp : ∀ (k : Nat) p q, ps[k]? = some p → vs[k]? = some q → p.1 = q.1 ∧ PVR X w K p.2 q.2) :
    ∃ rv w', (Instr.buildSlice t n vs).run P w = .ok rv w' ∧ PVR X w' (fun b i => K b i ∨ b = w.heap.size) r rv ∧ Ext w K w' (fun b i => K b i ∨ b = w.heap.size) ∧
      ∃ lay xs b, r = .list lay true xs ∧ rv = .slice (some ⟨b, 0, none⟩) n n := by
  unfold buildSliceAV at h
  split at h
  · rename_i el hu
    split at h
    · rename_i lay z hlay hz
      split at h
      · rename_i hcond
        obtain ⟨hbig, hzl, hw, hall⟩ := hcond
        simp only [Option.map_eq_some_iff] at h
        obtain ⟨xs, hset, rfl⟩ := h
        obtain ⟨ti, zv, hti, hzv, rfl⟩ := zeroPV_some hz
        obtain ⟨d, i, hd, hi, hsz, hagg⟩ := layOf_some hlay
        obtain ⟨rv, e1, e2⟩ := fillSlice_rel (w := w) (K := K) ps vs.toList _ xs _ hset (by simpa using hl) (CellsOf.replicate (n := n) hzl (ofValue_rel w K zv))
          (fun p hp => by simp only [List.all_eq_true] at hall; exact hall p hp) (fun k p q h1 h2 => hp k p q h1 (by simpa using h2))
        have hxl : xs.length = n := by have := setAll_get hset; simpa using this
        obtain ⟨hcs, cvs, hcl, hcx⟩ := e2
        have hext : Ext w K (w.alloc (.cells rv el)) (fun b i => K b i ∨ b = w.heap.size) := Ext.alloc _
        refine ⟨.slice (some ⟨w.heap.size, 0, none⟩) n n, w.alloc (.cells rv el), ?_, ?_, hext, lay, xs, _, rfl, rfl⟩
        · unfold Instr.buildSlice
          simp only [Sem.run_bind, run_underlying' hu, Result.andThen_ok, run_sizeOf' hi, hsz, Sem.run_ite]
          rw [if_neg (by omega)]
          simp only [Sem.run_pure, Result.andThen_ok]
          by_cases h0 : n * width lay = 0
          · have hn : n = 0 := by
              rcases Nat.mul_eq_zero.1 h0 with h | h
              · exact h
              · omega
            subst hn
            simp only [Nat.zero_mul, if_true] at e1 ⊢
            have : (Array.range 0).map (fun x => (#[] : Array Value)[x % (#[] : Array Value).size]!) = (Array.range 0).map (zv.cells[· % zv.cells.size]!) := by simp
            rw [this, e1]
            simp [newRow, run_newObj]
          · rw [if_neg h0]
            simp only [run_zeroValue' hti hzv, Result.andThen_ok]
            rw [e1]
            simp [newRow, run_newObj]
        · refine .list cvs hxl.symm (Nat.le_refl _) (fun _ => rfl) hcl (fun i x cv hx hcv => (hcx i x cv hx hcv).1.ext hext) fun i cv hcv => ?_
          have hlt : i < xs.length := by
            rcases Nat.lt_or_ge i xs.length with h' | h'
            · exact h'
            · rw [List.getElem?_eq_none (by omega)] at hcv; simp at hcv
          obtain ⟨g1, g2, g3⟩ := hcx i _ cv (List.getElem?_eq_getElem hlt) hcv
          refine ⟨g2, fun j v hj => ⟨.inr rfl, ?_⟩⟩
          have hjw : j < width lay := by
            rw [← g2.size]
            rcases Nat.lt_or_ge j (cellsL lay cv).size with h' | h'
            · exact h'
            · simp [Array.getElem?_eq_none h'] at hj
          have := g3 j hjw
          rw [hj] at this
          simp only [Nat.zero_add]
          simp [World.cell?_alloc_new, this]
      · simp at h
    · simp at h
  · simp at h

end Go.Lite

namespace Go.Lite
open Go
open Go.RowKit (Below)

/-! # slices as lists -/
/-- what a slice shows -/
def ListV (X : Nat) (w : World) (K KR : Keep) (lay : Nat) (xs : List PV) (a : Option Addr) (len cap : Nat) : Prop :=
  (len = 0 ∧ cap = 0 ∧ xs = []) ∨
  ∃ (b off : Nat) (cvs : List Value), a = some ⟨b, off, none⟩ ∧ len = xs.length ∧ len ≤ cap ∧ cvs.length = xs.length ∧
    (∀ (i : Nat) (x : PV) (cv : Value), xs[i]? = some x → cvs[i]? = some cv → PVR X w K x cv) ∧
    (∀ (i : Nat) (cv : Value), cvs[i]? = some cv → Row w KR b (off + i * width lay) lay cv)

theorem ListV.length {X : Nat} {w : World} {K KR : Keep} {lay : Nat} {xs : List PV} {a : Option Addr} {len cap : Nat} (h : ListV X w K KR lay xs a len cap) : len = xs.length ∧ len ≤ cap := by
  rcases h with ⟨rfl, rfl, rfl⟩ | ⟨b, off, cvs, rfl, h1, h2, _⟩
  · simp
  · exact ⟨h1, h2⟩

theorem PVR.listV {X : Nat} {w : World} {K : Keep} {lay : Nat} {clip : Bool} {xs : List PV} {v : Value} (h : PVR X w K (.list lay clip xs) v) :
    ∃ a len cap, v = .slice a len cap ∧ ListV X w K K lay xs a len cap ∧ (clip = true → cap = len) := by
  cases h with
  | list cvs hl hc hcl hs hx hr => exact ⟨_, _, _, rfl, .inr ⟨_, _, cvs, rfl, hl, hc, hs, hx, hr⟩, hcl⟩
  | empty => exact ⟨_, _, _, rfl, .inl ⟨rfl, rfl, rfl⟩, fun _ => rfl⟩
theorem ListV.pvr {X : Nat} {w : World} {K : Keep} {lay : Nat} {clip : Bool} {xs : List PV} {a : Option Addr} {len cap : Nat} (h : ListV X w K K lay xs a len cap) (hc : clip = true → cap = len) :
    PVR X w K (.list lay clip xs) (.slice a len cap) := by
  rcases h with ⟨rfl, rfl, rfl⟩ | ⟨b, off, cvs, rfl, h1, h2, h3, h4, h5⟩
  · exact .empty
  · exact .list cvs h1 h2 hc h3 h4 h5
theorem ObR.listV {X : Nat} {w : World} {K : Keep} {m : Map} {lay : Nat} {excl : Bool} {xs : List PV} {loc : Loc} (h : ObR X w K m (.arr lay excl xs) loc) :
    ListV X w K (if excl then fun _ _ => True else K) lay xs loc.a loc.len loc.cap := by
  cases h with
  | arr cvs ha hz hl hc hs hx hr ho hn => exact .inr ⟨_, _, cvs, ha, hl, hc, hs, hx, hr⟩
  | nilArr hz hl hc ho => exact .inl ⟨hl, hc, rfl⟩

/-- The elements of what 'elems?' reads. -/
theorem elems_rel {B : Nat} {X : Nat} {w : World} {K : Keep} {m : Map} {S : Store} {x : AV} {xv : Value} {lay : Nat} {xs : List PV} (hS : SR X B w K m S) (h : elems? S x = some (lay, xs)) (hx : VR X w K m x xv) :
    ∃ a len cap, xv = .slice a len cap ∧ ListV X w K (fun _ _ => True) lay xs a len cap := by
  have weak : ∀ {KR : Keep} {a len cap}, ListV X w K KR lay xs a len cap → ListV X w K (fun _ _ => True) lay xs a len cap := by
    intro KR a len cap h
    rcases h with h | ⟨b, off, cvs, h0, h1, h2, h3, h4, h5⟩
    · exact .inl h
    · exact .inr ⟨b, off, cvs, h0, h1, h2, h3, h4, fun i cv hc => ⟨(h5 i cv hc).1, fun j v hj => ⟨trivial, ((h5 i cv hc).2 j v hj).2⟩⟩⟩
  cases x with
  | pv d =>
    cases d with
    | list l0 clip xs' =>
      simp only [elems?, Option.some.injEq, Prod.mk.injEq] at h; obtain ⟨rfl, rfl⟩ := h
      obtain ⟨a, len, cap, rfl, h, _⟩ := hx.pv_inv.listV
      exact ⟨a, len, cap, rfl, weak h⟩
    | _ => simp [elems?] at h
  | arr id =>
    simp only [elems?] at h
    cases ho : S[id]? with
    | none => simp [ho] at h
    | some ob =>
      cases ob with
      | arr l0 excl xs' =>
        simp only [ho, Option.some.injEq, Prod.mk.injEq] at h; obtain ⟨rfl, rfl⟩ := h
        cases hx with
        | arr hm => exact ⟨_, _, _, rfl, weak (hS.ob _ _ _ ho hm).listV⟩
      | _ => simp [ho] at h
  | _ => simp [elems?] at h

/-! # s[lo:hi:max] -/
/-- an operand that may be left out -/
def OptV (v : Option Value) (d n : Int) : Prop := (v = none ∧ n = d) ∨ ∃ k, v = some (.int k n)

theorem optInt_rel {X : Nat} {w : World} {K : Keep} {m : Map} {x : Option AV} {v : Option Value} {d n : Int} (h : optInt d x = some n) (hn : x = none ↔ v = none)
    (hx : ∀ y u, x = some y → v = some u → VR X w K m y u) : OptV v d n := by
  cases x with
  | none => simp [optInt] at h; exact .inl ⟨hn.1 rfl, h.symm⟩
  | some y =>
    cases v with
    | none => simp at hn
    | some u =>
      obtain ⟨k, rfl⟩ := asInt_rel (by simpa [optInt] using h) (hx y u rfl rfl)
      exact .inr ⟨k, rfl⟩

theorem sliceBound_run {P : Program} {w : World} {k : IntKind} {n : Int} {y : Nat} {c : BoundsCode} (h0 : 0 ≤ n) (h1 : n ≤ y) : (Instr.sliceBound (.int k n) y c).run P w = .ok n.toNat w := by
  unfold Instr.sliceBound
  simp only [asIntOf, Sem.run_bind, Sem.run_pure, Result.andThen_ok]
  rw [if_pos ⟨h0, h1⟩]; rfl

theorem sliceBounds_run {P : Program} {w : World} {isSlice : Bool} {len cap : Nat} {lv hv mv : Option Value} {l h mx : Int} (hl : OptV lv 0 l) (hh : OptV hv len h) (hm : OptV mv cap mx)
    (hmh : mv ≠ none → hv ≠ none) (h0 : 0 ≤ l) (h1 : l ≤ h) (h2 : h ≤ mx) (h3 : mx ≤ cap) :
    (Instr.sliceBounds isSlice len cap lv hv mv).run P w = .ok (l.toNat, h.toNat, mx.toNat) w := by
  unfold Instr.sliceBounds
  rcases hm with ⟨rfl, rfl⟩ | ⟨km, rfl⟩
  · rcases hh with ⟨rfl, rfl⟩ | ⟨kh, rfl⟩
    · rcases hl with ⟨rfl, rfl⟩ | ⟨kl, rfl⟩
      · simp
      · simp [sliceBound_run h0 h1]
    · rcases hl with ⟨rfl, rfl⟩ | ⟨kl, rfl⟩
      · simp [sliceBound_run (y := cap) (show 0 ≤ h by omega) h2]
      · simp [sliceBound_run (y := cap) (show 0 ≤ h by omega) h2, sliceBound_run (y := h.toNat) h0 (by omega)]
  · rcases hh with ⟨rfl, rfl⟩ | ⟨kh, rfl⟩
    · exact absurd rfl (hmh (by simp))
    · rcases hl with ⟨rfl, rfl⟩ | ⟨kl, rfl⟩
      · simp [sliceBound_run (y := cap) (show 0 ≤ mx by omega) h3, sliceBound_run (y := mx.toNat) (show 0 ≤ h by omega) (by omega)]
      · simp [sliceBound_run (y := cap) (show 0 ≤ mx by omega) h3, sliceBound_run (y := mx.toNat) (show 0 ≤ h by omega) (by omega), sliceBound_run (y := h.toNat) h0 (by omega)]

theorem ListV.cut {X : Nat} {w : World} {K : Keep} {lay : Nat} {xs : List PV} {a : Option Addr} {len cap l h mx : Nat} (hv : ListV X w K K lay xs a len cap) (h1 : l ≤ h) (h2 : h ≤ len) (h3 : h ≤ mx) (h4 : mx ≤ cap) :
    ListV X w K K lay ((xs.take h).drop l) (if mx = l then a else a.map (·.add (l * width lay))) (h - l) (mx - l) := by
  rcases hv with ⟨rfl, rfl, rfl⟩ | ⟨b, off, cvs, rfl, g1, g2, g3, g4, g5⟩
  · left
    refine ⟨by omega, by omega, by simp⟩
  · right
    by_cases he : mx = l
    · refine ⟨b, off, [], by simp [he], by simp; omega, by omega, by simp; omega, fun i x cv hx hcv => by simp at hcv, fun i cv hcv => by simp at hcv⟩
    · refine ⟨b, off + l * width lay, (cvs.take h).drop l, by simp [he, add_none], by simp; omega, by omega, by simp; omega, fun i x cv hx hcv => ?_, fun i cv hcv => ?_⟩
      · rw [List.getElem?_drop, List.getElem?_take] at hx hcv
        split at hx
        · rename_i hlt; rw [if_pos hlt] at hcv; exact g4 _ x cv hx hcv
        · simp at hx
      · rw [List.getElem?_drop, List.getElem?_take] at hcv
        split at hcv
        · have := g5 _ cv hcv
          rw [show off + l * width lay + i * width lay = off + (l + i) * width lay by rw [Nat.add_mul]; omega]
          exact this
        · simp at hcv

theorem sliceList_rel {P : Program} {X : Nat} {w : World} {K : Keep} {t el : TypeId} {lay : Nat} {clip : Bool} {xs : List PV} {a : Option Addr} {len cap : Nat} {lv hv mv : Option Value} {l h : Int} {mx : Option Int} {d : PV}
    (hu : P.underlying t = some (.slice el)) (hl : layOf P el = some lay) (hlist : ListV X w K K lay xs a len cap) (hclip : clip = true → cap = len)
    (hlo : OptV lv 0 l) (hhi : OptV hv xs.length h) (hmx : (mv = none ∧ mx = none) ∨ ∃ k n, mv = some (.int k n) ∧ mx = some n ∧ hv ≠ none) (hd : slicePV clip lay xs l h mx = some d) :
    ∃ rv, (Instr.sliceAt t (.slice a len cap) lv hv mv).run P w = .ok rv w ∧ PVR X w K d rv := by
  obtain ⟨dd, i, hdd, hi, hsz, hagg⟩ := layOf_some hl
  obtain ⟨hlen, hcap⟩ := hlist.length
  unfold slicePV at hd
  split at hd
  · rename_i hb
    obtain ⟨b0, b1, b2⟩ := hb
    have core : ∀ mxi : Int, OptV mv cap mxi → (mv ≠ none → hv ≠ none) → h ≤ mxi → mxi ≤ cap → ∀ clip', (clip' = true → mxi.toNat - l.toNat = h.toNat - l.toNat) →
        ∃ rv, (Instr.sliceAt t (.slice a len cap) lv hv mv).run P w = .ok rv w ∧ PVR X w K (.list lay clip' ((xs.take h.toNat).drop l.toNat)) rv := by
      intro mxi hm hmh h2 h3 clip' hc'
      refine ⟨.slice (if mxi.toNat = l.toNat then a else a.map (·.add (l.toNat * width lay))) (h.toNat - l.toNat) (mxi.toNat - l.toNat), ?_, ?_⟩
      · unfold Instr.sliceAt
        simp only [Sem.run_bind, run_underlying' hu, Result.andThen_ok]
        unfold Instr.slice
        simp only [Sem.run_bind, run_underlying' hu, Result.andThen_ok]
        rw [sliceBounds_run hlo (by rw [hlen]; exact hhi) hm hmh b0 b1 h2 h3]
        simp [run_sizeOf' hi, hsz]
      · exact (hlist.cut (by omega) (by omega) (by omega) (by omega)).pvr hc'
    rcases hmx with ⟨rfl, rfl⟩ | ⟨k, n, rfl, rfl, hne⟩
    · simp only [Option.some.injEq] at hd; subst hd
      refine core cap (.inl ⟨rfl, rfl⟩) (by simp) (by omega) (by omega) _ fun hc => ?_
      simp only [Bool.and_eq_true, beq_iff_eq] at hc
      have := hclip hc.1
      omega
    · simp only at hd
      split at hd
      · rename_i hc
        simp only [Option.some.injEq] at hd; subst hd
        refine core n (.inr ⟨k, rfl⟩) (fun _ => hne) hc.1 (by omega) _ fun hc => ?_
        simp only [beq_iff_eq] at hc
        omega
      · simp at hd
  · simp at hd

theorem sliceAV_rel {P : Program} {B : Nat} {X : Nat} {w : World} {K : Keep} {m : Map} {S : Store} {t : TypeId} {x : AV} {lo hi mx : Option AV} {xv : Value} {lv hv mv : Option Value} {d : AV} (hS : SR X B w K m S)
    (h : sliceAV P S t x lo hi mx = some d) (hx : VR X w K m x xv) (hl : ∀ y u, lo = some y → lv = some u → VR X w K m y u) (hh : ∀ y u, hi = some y → hv = some u → VR X w K m y u)
    (hm : ∀ y u, mx = some y → mv = some u → VR X w K m y u) (hl0 : lo = none ↔ lv = none) (hh0 : hi = none ↔ hv = none) (hm0 : mx = none ↔ mv = none) :
    ∃ rv, (Instr.sliceAt t xv lv hv mv).run P w = .ok rv w ∧ VR X w K m d rv := by
  unfold sliceAV at h
  split at h
  · rename_i hu
    split at h
    · rename_i s
      split at h
      · rename_i l hh' e1 e2
        split at h
        · rename_i hb
          simp only [Option.some.injEq] at h; subst h
          cases hx.pv_inv
          have hmv : mv = none := hm0.1 rfl
          subst hmv
          refine ⟨.string (s.extract l.toNat hh'.toNat), ?_, .pv (.sc _)⟩
          unfold Instr.sliceAt
          simp only [Sem.run_bind, run_underlying' hu, Result.andThen_ok]
          unfold Instr.slice
          simp only [Sem.run_bind, run_underlying' hu, Result.andThen_ok]
          rw [if_neg (by simp)]
          simp only [Sem.run_bind]
          rw [sliceBounds_run (len := s.size) (cap := s.size) (mv := none) (mx := s.size) (optInt_rel e1 hl0 hl) (optInt_rel e2 hh0 hh) (.inl ⟨rfl, rfl⟩) (by simp) hb.1 hb.2.1 hb.2.2 (by omega)]
          simp
        · simp at h
      · simp at h
    · simp at h
  · rename_i el hu
    have fin : ∀ {lay clip xs a len cap} {l hh' : Int}, layOf P el = some lay → ListV X w K K lay xs a len cap → (clip = true → cap = len) → optInt 0 lo = some l → optInt xs.length hi = some hh' →
        sliceMx clip lay xs l hh' hi mx = some d →
        ∃ rv, (Instr.sliceAt t (.slice a len cap) lv hv mv).run P w = .ok rv w ∧ VR X w K m d rv := by
      intro lay clip xs a len cap l hh' hlay hlist hclip e1 e2 h3
      clear h
      unfold sliceMx at h3
      have o1 := optInt_rel e1 hl0 hl
      have o2 := optInt_rel e2 hh0 hh
      cases mx with
      | none =>
        simp only [Option.map_eq_some_iff] at h3
        obtain ⟨d', h3, rfl⟩ := h3
        obtain ⟨rv, g1, g2⟩ := sliceList_rel hu hlay hlist hclip o1 o2 (.inl ⟨hm0.1 rfl, rfl⟩) h3
        exact ⟨rv, g1, .pv g2⟩
      | some y =>
        simp only at h3
        split at h3
        · simp at h3
        · rename_i hne
          simp only [Option.bind_eq_some_iff, Option.map_eq_some_iff] at h3
          obtain ⟨n, hn, d', h3, rfl⟩ := h3
          cases mv with
          | none => simp at hm0
          | some u =>
            obtain ⟨k, rfl⟩ := asInt_rel hn (hm y u rfl rfl)
            obtain ⟨rv, g1, g2⟩ := sliceList_rel hu hlay hlist hclip o1 o2 (.inr ⟨k, n, rfl, rfl, fun hc => hne (by rw [hh0.2 hc]; rfl)⟩) h3
            exact ⟨rv, g1, .pv g2⟩
    split at h
    · rename_i lay l0 clip xs hlay
      split at h
      · rename_i he; subst he
        split at h
        · rename_i l hh' e1 e2
          obtain ⟨a, len, cap, rfl, hlist, hclip⟩ := hx.pv_inv.listV
          exact fin hlay hlist hclip e1 e2 h
        · simp at h
      · simp at h
    · rename_i lay id hlay
      split at h
      · rename_i l0 xs ho
        split at h
        · rename_i he; subst he
          split at h
          · rename_i l hh' e1 e2
            cases hx with
            | arr hm' =>
              have hlist := (hS.ob _ _ _ ho hm').listV
              simp only [Bool.false_eq_true, if_false] at hlist
              exact fin hlay hlist (by simp) e1 e2 h
          · simp at h
        · simp at h
      · simp at h
    · simp at h
  · simp at h

/-- a part of an array lies in it -/
theorem sub_le {X : Nat} {w : World} {K : Keep} {m : Map} {lay lo n : Nat} {e : Bool} {xs : List PV} {loc : Loc} (h : ObR X w K m (.arr lay e xs) loc) (hlen : lo + n ≤ loc.len) : lo + n ≤ xs.length := by
  cases h with
  | arr cvs ha hz hl hc hs hx hr ho hn => omega
  | nilArr hz hl hc ho => simp; omega
/-- s[:0:0] -/
theorem emptyXs_rel {P : Program} {X : Nat} {w : World} {K : Keep} {lay : Nat} {t : TypeId} {d : PV} {l h mx : Option PV} {xs : List PV} {v : Value} {lv hv mv : Option Value} (he : emptyXs P lay t d l h mx = some xs) (hx : PVR X w K d v)
    (hl : ∀ b k, zeroO b l = true → (b = true → k = 0) → OptV lv k 0) (hh : ∀ b k, zeroO b h = true → (b = true → k = 0) → OptV hv k 0) (hm : ∀ b k, zeroO b mx = true → (b = true → k = 0) → OptV mv k 0) :
    xs = [] ∧ ∃ a, (Instr.sliceAt t v lv hv mv).run P w = .ok (.slice a 0 0) w := by
  unfold emptyXs at he
  split at he
  · rename_i el hu
    split at he
    · rename_i lay' hlay
      split at he
      · rename_i hc
        obtain ⟨rfl, z1, z2, z3⟩ := hc
        obtain ⟨dd, i, hdd, hi, hsz, hagg⟩ := layOf_some hlay
        have run : ∀ a len cap, (Instr.sliceAt t (.slice a len cap) lv hv mv).run P w = .ok (.slice a 0 0) w := by
          intro a len cap
          have o1 := hl true 0 z1 (fun _ => rfl)
          have o2 := hh false len z2 (fun h => by cases h)
          have o3 := hm false cap z3 (fun h => by cases h)
          have hne : mv ≠ none → hv ≠ none := fun _ hn => by
            have := hh false (1 : Int) z2 (fun h => by cases h)
            rcases this with ⟨_, h1⟩ | ⟨k, h1⟩
            · simp at h1
            · rw [hn] at h1; cases h1
          unfold Instr.sliceAt
          simp only [Sem.run_bind, run_underlying' hu, Result.andThen_ok]
          unfold Instr.slice
          simp only [Sem.run_bind, run_underlying' hu, Result.andThen_ok]
          rw [sliceBounds_run (len := len) (cap := cap) o1 o2 o3 hne (by omega) (by omega) (by omega) (by omega)]
          simp [run_sizeOf' hi, hsz]
        split at he
        · simp only [Option.some.injEq] at he; subst he
          cases hx
          exact ⟨rfl, _, run _ _ _⟩
        · split at he
          · simp only [Option.some.injEq] at he; subst he
            obtain ⟨a, len, cap, rfl, _, _⟩ := hx.listV
            exact ⟨rfl, _, run _ _ _⟩
          · cases he
        · cases he
      · cases he
    · cases he
  · cases he
/-! # parts of arrays of the call's own -/
theorem ownPart_rel {B : Nat} {X : Nat} {w : World} {K : Keep} {m : Map} {S : Store} {x : AV} {xv : Value} {id l0 lay k : Nat} (hS : SR X B w K m S) (h : ownPart S x = some (id, l0, lay, k)) (hx : VR X w K m x xv) :
    ∃ (loc : Loc) (a : Option Addr) (cap : Nat), m id = some loc ∧ xv = .slice a k cap ∧ k ≤ cap ∧ l0 + cap ≤ loc.cap ∧ l0 + k ≤ loc.len ∧ (cap ≠ 0 → ∃ b o, loc.a = some ⟨b, o, none⟩ ∧ a = some ⟨b, o + l0 * loc.sz, none⟩) ∧ loc.sz = width lay := by
  unfold ownPart at h
  split at h
  · rename_i id'
    split at h
    · rename_i lay' xs' ho
      simp only [Option.some.injEq, Prod.mk.injEq] at h
      obtain ⟨rfl, rfl, rfl, rfl⟩ := h
      cases hx with
      | arr hm =>
        rename_i loc
        cases hS.ob _ _ _ ho hm with
        | arr cvs ha hz hl hc hs hx' hr ho' hn => exact ⟨loc, loc.a, loc.cap, hm, by rw [hl], by omega, by omega, by omega, fun _ => ⟨_, _, ha, by simp [ha]⟩, hz⟩
        | nilArr hz hl hc ho' => exact ⟨loc, loc.a, loc.cap, hm, by rw [hl]; rfl, by simp, by omega, by simp [hl], fun h => absurd hc h, hz⟩
    · cases h
  · rename_i id' lo n
    split at h
    · rename_i lay' xs' ho
      simp only [Option.some.injEq, Prod.mk.injEq] at h
      obtain ⟨rfl, rfl, rfl, rfl⟩ := h
      cases hx with
      | sub hm hn hcap hlen ha =>
        rename_i cap a loc
        refine ⟨loc, a, cap, hm, rfl, hn, hcap, hlen, ha, ?_⟩
        cases hS.ob _ _ _ ho hm with
        | arr cvs ha hz hl hc hs hx' hr ho' hn => exact hz
        | nilArr hz hl hc ho' => exact hz
    · cases h
  · cases h
theorem sub_pvr {X : Nat} {w : World} {K : Keep} {lay : Nat} {xs : List PV} {loc : Loc} {a : Option Addr} {lo n cap : Nat} (hL : ListV X w K K lay xs loc.a loc.len loc.cap) (hz : loc.sz = width lay) (hle : lo + n ≤ xs.length) (hn : n ≤ cap)
    (ha : cap ≠ 0 → ∃ b o, loc.a = some ⟨b, o, none⟩ ∧ a = some ⟨b, o + lo * loc.sz, none⟩) : PVR X w K (.list lay false ((xs.drop lo).take n)) (.slice a n cap) := by
  have hln : ((xs.drop lo).take n).length = n := by simp; omega
  by_cases hc : cap = 0
  · subst hc
    obtain rfl : n = 0 := by omega
    simpa using PVR.empty
  · obtain ⟨b, o, h1, rfl⟩ := ha hc
    rcases hL with ⟨g1, g2, rfl⟩ | ⟨b', off, cvs, h0, g1, g2, g3, g4, g5⟩
    · obtain rfl : n = 0 := by simp at hle; omega
      exact .list [] (by simp) hn (by simp) (by simp) (fun i x cv h => by simp at h) fun i cv h => by simp at h
    · rw [h1] at h0; simp only [Option.some.injEq, Addr.mk.injEq] at h0; obtain ⟨rfl, rfl, _⟩ := h0
      refine .list ((cvs.drop lo).take n) hln.symm hn (by simp) (by simp; omega) (fun i x cv hx hcv => ?_) fun i cv hcv => ?_
      · rw [List.getElem?_take, List.getElem?_drop] at hx hcv
        split at hx
        · rename_i hlt; rw [if_pos hlt] at hcv; exact g4 _ x cv hx hcv
        · simp at hx
      · rw [List.getElem?_take, List.getElem?_drop] at hcv
        split at hcv
        · have := g5 _ cv hcv
          rw [hz, show o + lo * width lay + i * width lay = o + (lo + i) * width lay by rw [Nat.add_mul]; omega]
          exact this
        · simp at hcv
theorem subAV_rel {P : Program} {B : Nat} {X : Nat} {w : World} {K : Keep} {m : Map} {S : Store} {t : TypeId} {x : AV} {lo hi : Option AV} {xv : Value} {lv hv : Option Value} {d : AV} (hS : SR X B w K m S)
    (h : subAV P S t x lo hi = some d) (hx : VR X w K m x xv) (hl : ∀ y u, lo = some y → lv = some u → VR X w K m y u) (hh : ∀ y u, hi = some y → hv = some u → VR X w K m y u)
    (hl0 : lo = none ↔ lv = none) (hh0 : hi = none ↔ hv = none) :
    ∃ rv, (Instr.sliceAt t xv lv hv none).run P w = .ok rv w ∧ VR X w K m d rv := by
  unfold subAV at h
  split at h
  · rename_i el hu
    split at h
    · rename_i lay id l0 lay' k hlay hp
      split at h
      · rename_i he; subst he
        simp only [Option.map_eq_some_iff] at h
        obtain ⟨⟨l, n⟩, h, rfl⟩ := h
        unfold subRange at h
        split at h
        · rename_i li hi' e1 e2
          split at h
          · rename_i hb
            simp only [Option.some.injEq, Prod.mk.injEq] at h
            obtain ⟨rfl, rfl⟩ := h
            obtain ⟨loc, a, cap, g1, rfl, g3, g4, g5, g6, g7⟩ := ownPart_rel hS hp hx
            obtain ⟨dd, i, hdd, hi, hsz, hagg⟩ := layOf_some hlay
            refine ⟨.slice (if cap = li.toNat then a else a.map (·.add (li.toNat * width lay))) (hi'.toNat - li.toNat) (cap - li.toNat), ?_, .sub g1 (by omega) (by omega) (by omega) fun hc => ?_⟩
            · unfold Instr.sliceAt
              simp only [Sem.run_bind, run_underlying' hu, Result.andThen_ok]
              unfold Instr.slice
              simp only [Sem.run_bind, run_underlying' hu, Result.andThen_ok]
              rw [sliceBounds_run (len := k) (cap := cap) (mv := none) (mx := cap) (optInt_rel e1 hl0 hl) (optInt_rel e2 hh0 hh) (.inl ⟨rfl, rfl⟩) (by simp) hb.1 hb.2.1 (by omega) (by omega)]
              simp [run_sizeOf' hi, hsz]
            · obtain ⟨b, o, q1, q2⟩ := g6 (by omega)
              refine ⟨b, o, q1, ?_⟩
              rw [if_neg (by omega), q2]
              simp [add_none, g7, Nat.add_mul, Nat.add_assoc]
          · cases h
        · cases h
      · cases h
    · cases h
  · cases h

/-! # len -/
theorem lenAV_rel {P : Program} {B : Nat} {X : Nat} {w : World} {K : Keep} {m : Map} {S : Store} {t : TypeId} {x : AV} {xv : Value} {n : Int} (hS : SR X B w K m S) (h : lenAV P S t x = some n) (hx : VR X w K m x xv) :
    (Builtin.len_ #[t] 0 #[xv]).run P w = .ok (goInt n) w := by
  unfold lenAV at h
  split at h
  · rename_i hu
    split at h
    · rename_i s
      cases hx.pv_inv
      simp only [Option.some.injEq] at h; subst h
      simp [Builtin.len_, run_underlying' hu]
    · simp at h
  · rename_i el hu
    split at h
    · cases hx.pv_inv
      simp only [Option.some.injEq] at h; subst h
      simp [Builtin.len_, run_underlying' hu]
    · obtain ⟨a, len, cap, rfl, hlist, _⟩ := hx.pv_inv.listV
      simp only [Option.some.injEq] at h; subst h
      simp [Builtin.len_, run_underlying' hu, hlist.length.1]
    · rename_i id
      split at h
      · rename_i l0 excl xs ho
        simp only [Option.some.injEq] at h; subst h
        cases hx with
        | arr hm =>
          have := (hS.ob _ _ _ ho hm).listV.length.1
          simp [Builtin.len_, run_underlying' hu, this]
      · simp at h
    · simp only [Option.some.injEq] at h; subst h
      cases hx with
      | sub hm hn hcap hlen ha => simp [Builtin.len_, run_underlying' hu]
    · simp at h
  · rename_i hu
    split at h
    · rename_i id
      split at h
      · rename_i es ho
        simp only [Option.some.injEq] at h; subst h
        cases hx with
        | mp hm hla =>
          cases hS.ob _ _ _ ho hm with
          | map ha ho' hb hs hx' hst hk =>
            rw [hla] at ha; simp only [Option.some.injEq, Addr.mk.injEq] at ha; obtain ⟨rfl, -⟩ := ha
            simp [Builtin.len_, run_underlying' hu, Go.MapKept.run_getObj_map hb, hs]
      · simp at h
    · simp at h
  · simp at h

end Go.Lite

namespace Go.Lite
open Go
open Go.RowKit (Below)

/-- The operands of an operation are related. -/
def OpsR (X : Nat) (w : World) (K : Keep) (m : Map) (e : Env) (a : Act) (op : Op) : Prop := ∀ x ∈ op.operands, VR X w K m (opnd e x) (a.eval x)

theorem pairs_rel {X : Nat} {w : World} {K : Keep} {m : Map} {e : Env} {a : Act} {ps : Array (Nat × Operand)} (h : ∀ x ∈ (ps.toList.map (·.2)), VR X w K m (opnd e x) (a.eval x)) :
    (ps.toList.map fun (i, x) => (i, opnd e x)).length = (ps.map fun (i, x) => (i, a.eval x)).size ∧
    ∀ (k : Nat) p q, (ps.toList.map fun (i, x) => (i, opnd e x))[k]? = some p → (ps.map fun (i, x) => (i, a.eval x))[k]? = some q → p.1 = q.1 ∧ VR X w K m p.2 q.2 := by
  refine ⟨by simp, fun k p q h1 h2 => ?_⟩
  simp only [List.getElem?_map, Array.getElem?_toList, Option.map_eq_some_iff, Array.getElem?_map] at h1 h2
  obtain ⟨x, hx1, rfl⟩ := h1
  obtain ⟨y, hy1, rfl⟩ := h2
  rw [hx1] at hy1; simp only [Option.some.injEq] at hy1; subst hy1
  exact ⟨rfl, h x.2 (List.mem_map.2 ⟨x, by simpa using Array.mem_of_getElem? hx1, rfl⟩)⟩

theorem opV_sound {P : Program} {B : Nat} {X : Nat} {w : World} {K : Keep} {m : Map} {S : Store} {e : Env} {a : Act} {o : Oper} {r : AV} (hS : SR X B w K m S) (hE : OpsR X w K m e a o.op)
    (h : opV P e S o = some r) : ∃ v, (execOp a.eval o).run P w = .ok (.value v) w ∧ VR X w K m r v := by
  obtain ⟨dst, op, type, pos, after, guard⟩ := o
  have fin : ∀ {s : Sem Value} {rv : Value}, s.run P w = .ok rv w → (do pure (Next.value (← s)) : Sem Next).run P w = .ok (.value rv) w := by
    intro s rv h; simp [h]
  cases op <;> simp only [opV] at h <;> (try (simp at h; done))
  case move x => simp only [Option.some.injEq] at h; subst h; exact ⟨_, by simp [execOp], hE x (by simp [Op.operands])⟩
  case assign x => simp only [Option.some.injEq] at h; subst h; exact ⟨_, by simp [execOp], hE x (by simp [Op.operands])⟩
  case pick c x y =>
    split at h
    · rename_i t hc
      have := hE c (by simp [Op.operands])
      rw [hc] at this
      have hb : a.eval c = .bool t := by
        generalize a.eval c = cv at this
        cases this.pv_inv; rfl
      simp only [Option.some.injEq] at h; subst h
      refine ⟨if t then a.eval x else a.eval y, by simp [execOp, hb, asBool], ?_⟩
      split
      · exact hE x (by simp [Op.operands])
      · exact hE y (by simp [Op.operands])
    · simp at h
  case build t ps =>
    obtain ⟨h1, h2⟩ := pairs_rel (fun x hx => hE x (by simpa [Op.operands] using hx))
    obtain ⟨rv, g1, g2⟩ := buildAV_rel (w := w) (K := K) (m := m) h h1 h2
    exact ⟨rv, fin g1, g2⟩
  case load t x =>
    obtain ⟨rv, g1, g2⟩ := loadAV_rel hS h (hE x (by simp [Op.operands]))
    exact ⟨rv, fin g1, g2⟩
  case nilCheck x =>
    have hx := hE x (by simp [Op.operands])
    generalize hv : a.eval x = xv at hx
    split at h <;> simp only [Option.some.injEq, reduceCtorEq] at h <;> subst h <;> rename_i he <;> rw [he] at hx
    · refine ⟨xv, ?_, hx⟩
      cases hx with
      | ptr h1 h2 => simp [execOp, hv]
    · refine ⟨xv, ?_, hx⟩
      cases hx.pv_inv with
      | ro h1 h2 => simp [execOp, hv]
    · refine ⟨xv, ?_, hx⟩
      cases hx.pv_inv with
      | clo h1 h2 h3 h4 => simp [execOp, hv]
    · refine ⟨xv, ?_, hx⟩
      cases hx with
      | clo h1 h2 h3 h4 => simp [execOp, hv]
  case makeFunc fn first captured =>
    cases fn <;> simp only [Option.some.injEq, reduceCtorEq] at h
    subst h
    obtain ⟨h1, h2⟩ := map_rel (xs := first) (w := w) (K := K) (m := m) (e := e) (a := a) fun x hx => hE x (by simp [Op.operands, hx])
    obtain ⟨h3, h4⟩ := map_rel (xs := captured) (w := w) (K := K) (m := m) (e := e) (a := a) fun x hx => hE x (by simp [Op.operands, hx])
    exact ⟨_, by simp [execOp, Instr.makeFunc], mkClo_rel h1 h3 h2 h4⟩
  case field t x i =>
    obtain ⟨rv, g1, g2⟩ := fieldAV_rel h (hE x (by simp [Op.operands]))
    exact ⟨rv, fin g1, g2⟩
  case fieldAddr t x i =>
    obtain ⟨rv, g1, g2⟩ := fieldAddrAV_rel h (hE x (by simp [Op.operands]))
    exact ⟨rv, fin g1, g2⟩
  case indexAddr t x i =>
    simp only [Option.bind_eq_some_iff] at h
    obtain ⟨n, hn, h⟩ := h
    obtain ⟨k, hk⟩ := asInt_rel hn (hE i (by simp [Op.operands]))
    obtain ⟨rv, g1, g2⟩ := indexAddrAV_rel (k := k) hS h (hE x (by simp [Op.operands]))
    rw [← hk] at g1
    exact ⟨rv, fin g1, g2⟩
  case extract x i =>
    have hx := hE x (by simp [Op.operands])
    generalize hv : a.eval x = xv at hx
    split at h
    · rename_i vs he
      rw [he] at hx
      simp only [Option.map_eq_some_iff] at h
      obtain ⟨d, hd, rfl⟩ := h
      cases hx.pv_inv with
      | tup hs hx' =>
        rename_i us
        have hlt : i < vs.length := by
          rcases Nat.lt_or_ge i vs.length with h' | h'
          · exact h'
          · simp [List.getElem?_eq_none h'] at hd
        have hu : us[i]? = some us[i] := Array.getElem?_eq_getElem (by omega)
        exact ⟨us[i], by simp [execOp, Instr.extract, hv, hu], .pv (hx' i d _ hd hu)⟩
    · rename_i vs he
      rw [he] at hx
      cases hx with
      | tup hs hx' =>
        rename_i us
        have hlt : i < vs.length := by
          rcases Nat.lt_or_ge i vs.length with h' | h'
          · exact h'
          · simp [List.getElem?_eq_none h'] at h
        have hu : us[i]? = some us[i] := Array.getElem?_eq_getElem (by omega)
        exact ⟨us[i], by simp [execOp, Instr.extract, hv, hu], hx' i r _ h hu⟩
    · simp at h
  case slice t x lo hi mx =>
    cases mx with
    | some y => simp at h
    | none =>
      simp only at h
      obtain ⟨rv, g1, g2⟩ := subAV_rel (lv := lo.map a.eval) (hv := hi.map a.eval) hS h (hE x (by simp [Op.operands]))
        (fun y u h1 h2 => by
          cases lo with
          | none => simp at h1
          | some z => simp only [Option.map_some, Option.some.injEq] at h1 h2; subst h1; subst h2; exact hE z (by simp [Op.operands]))
        (fun y u h1 h2 => by
          cases hi with
          | none => simp at h1
          | some z => simp only [Option.map_some, Option.some.injEq] at h1 h2; subst h1; subst h2; exact hE z (by simp [Op.operands]))
        (by simp) (by simp)
      exact ⟨rv, fin g1, g2⟩

/-! # freezing -/
/-- what 'freeze' reads is what the value shows: to whom may read all that there is -/
theorem PVR.up {X X' : Nat} {w : World} {K : Keep} (hX : X ≤ X') {d : PV} {v : Value} (h : PVR X w K d v) : PVR X' w K d v := by
  induction h with
  | sc v => exact .sc v
  | list cvs hl hc hcl hs hx hr ih => exact .list cvs hl hc hcl hs ih hr
  | empty => exact .empty
  | ro hc hr ih => exact .ro ih (hr.weaken fun b o h => h.imp id fun h => Nat.lt_of_lt_of_le h hX)
  | agg hs hx ih => exact .agg hs ih
  | tup hs hx ih => exact .tup hs ih
  | clo ha hb hx hy ih1 ih2 => exact .clo ha hb ih1 ih2
  | ifc h ih => exact .ifc ih
theorem PVR.sub {X : Nat} {w : World} {K K' : Keep} (hK : Sub K K') {d : PV} {v : Value} (h : PVR X w K d v) : PVR X w K' d v := h.mono (fun _ _ _ _ h => h) hK

theorem freeze_rel {X B : Nat} {w : World} {K : Keep} {m : Map} {S : Store} (hS : SR X B w K m S) :
    ∀ (n : Nat) (v : AV) (d : PV) (vv : Value), freeze S n v = some d → VR X w K m v vv → PVR w.heap.size w (fun b _ => b < w.heap.size) d vv := by
  have hX : X ≤ w.heap.size := Nat.le_trans hS.low.1 hS.size
  have hKall : Sub K (fun b _ => b < w.heap.size) := fun b o h => hS.keep b o h
  intro n
  induction n with
  | zero => intro v d vv h; simp [freeze] at h
  | succ n ih =>
    have many : ∀ {cs : List AV} {ds : List PV}, cs.mapM (freeze S n) = some ds → ∀ {us : Array Value}, (∀ (i : Nat) (c : AV) (v : Value), cs[i]? = some c → us[i]? = some v → VR X w K m c v) →
        ds.length = cs.length ∧ ∀ (i : Nat) (c : PV) (v : Value), ds[i]? = some c → us[i]? = some v → PVR w.heap.size w (fun b _ => b < w.heap.size) c v := by
      intro cs ds h us hx
      obtain ⟨h1, h2, h3⟩ := optM_get h
      refine ⟨h1, fun i c v hc hv => ?_⟩
      obtain ⟨x, hx1, hx2⟩ := h3 i c hc
      exact ih x c v hx2 (hx i x v hx1 hv)
    intro v d vv h hv
    cases v with
    | pv d' => simp only [freeze, Option.some.injEq] at h; subst h; exact (hv.pv_inv.up hX).sub hKall
    | ptr id i off =>
      cases i with
      | succ i => simp [freeze] at h
      | zero =>
        cases off with
        | succ off => simp [freeze] at h
        | zero =>
          simp only [freeze] at h
          cases ho : S[id]? with
          | none => simp [ho] at h
          | some ob =>
            cases ob <;> simp only [ho, reduceCtorEq] at h
            rename_i lay v
            simp only [Option.map_eq_some_iff] at h
            obtain ⟨d', h, rfl⟩ := h
            cases hv with
            | ptr hm hla =>
              obtain ⟨cv, b, hcv, hla', hz, hr⟩ := (hS.ob _ _ _ ho hm).var_row
              rw [hla] at hla'; simp only [Option.some.injEq, Addr.mk.injEq] at hla'; obtain ⟨rfl, rfl, _⟩ := hla'
              simp only [Nat.zero_mul, Nat.add_zero]
              refine .ro (ih v d' cv h hcv) ⟨hr.1, fun j u hj => ?_⟩
              have := (hr.2 j u hj).2
              exact ⟨.inr (lt_of_cell this), this⟩
    | arr id =>
      simp only [freeze] at h
      cases ho : S[id]? with
      | none => simp [ho] at h
      | some ob =>
        cases ob with
        | arr lay excl xs =>
          simp only [ho, Option.some.injEq] at h
          subst h
          cases hv with
          | arr hm =>
            have := (hS.ob _ _ _ ho hm).listV
            rcases this with ⟨h1, h2, h3⟩ | ⟨b, off, cvs, h0, h1, h2, h3, h4, h5⟩
            · exact ListV.pvr (.inl ⟨h1, h2, h3⟩) (by simp)
            · exact ListV.pvr (.inr ⟨b, off, cvs, h0, h1, h2, h3, fun i x cv g1 g2 => ((h4 i x cv g1 g2).up hX).sub hKall, fun i cv g1 => ⟨(h5 i cv g1).1, fun j v hj => let ⟨_, c⟩ := (h5 i cv g1).2 j v hj; ⟨lt_of_cell c, c⟩⟩⟩) (by simp)
        | _ => simp [ho] at h
    | agg cs =>
      simp only [freeze, Option.map_eq_some_iff] at h
      obtain ⟨ds, h, rfl⟩ := h
      cases hv with
      | agg hs hx => obtain ⟨h1, h2⟩ := many h hx; exact .agg (by omega) h2
    | tup cs =>
      simp only [freeze, Option.map_eq_some_iff] at h
      obtain ⟨ds, h, rfl⟩ := h
      cases hv with
      | tup hs hx => obtain ⟨h1, h2⟩ := many h hx; exact .tup (by omega) h2
    | clo f as bs =>
      simp only [freeze, Option.bind_eq_bind, Option.bind_eq_some_iff, Option.pure_def, Option.some.injEq] at h
      obtain ⟨da, ha, db, hb, rfl⟩ := h
      cases hv with
      | clo h1 h2 hx hy =>
        obtain ⟨g1, g2⟩ := many ha hx
        obtain ⟨g3, g4⟩ := many hb hy
        exact .clo (by omega) (by omega) g2 g4
    | mp id => simp [freeze] at h
    | sub id lo k =>
      simp only [freeze, subPV] at h
      cases ho : S[id]? with
      | none => simp [ho] at h
      | some ob =>
        cases ob with
        | arr lay excl xs =>
          simp only [ho] at h
          · simp only [Option.some.injEq] at h; subst h
            cases hv with
            | sub hm hn hcap hlen ha =>
              rename_i cap a loc
              have hob := hS.ob _ _ _ ho hm
              have hle := sub_le hob hlen
              have hz : loc.sz = width lay := by cases hob with | arr cvs ha hz hl hc hs hx' hr ho' hn => exact hz | nilArr hz hl hc ho' => exact hz
              refine sub_pvr ?_ hz hle hn ha
              rcases hob.listV with ⟨h1, h2, h3⟩ | ⟨b, off, cvs, h0, h1, h2, h3, h4, h5⟩
              · exact .inl ⟨h1, h2, h3⟩
              · exact .inr ⟨b, off, cvs, h0, h1, h2, h3, fun i x cv g1 g2 => ((h4 i x cv g1 g2).up hX).sub hKall, fun i cv g1 => ⟨(h5 i cv g1).1, fun j v hj => let ⟨_, c⟩ := (h5 i cv g1).2 j v hj; ⟨lt_of_cell c, c⟩⟩⟩
        | _ => simp [ho] at h
    | dead => simp [freeze] at h

/-- what 'freezeV' reads: to whom may read all that there is; what is kept is as before -/
theorem freezeV_rel {X B : Nat} {w : World} {K : Keep} {m : Map} {S : Store} (hS : SR X B w K m S) :
    ∀ (n : Nat) (v : AV) (d : PV) (vv : Value), freezeV S n v = some d → VR X w K m v vv → PVR w.heap.size w K d vv := by
  have hX : X ≤ w.heap.size := Nat.le_trans hS.low.1 hS.size
  intro n
  induction n with
  | zero => intro v d vv h; simp [freezeV] at h
  | succ n ih =>
    have many : ∀ {cs : List AV} {ds : List PV}, cs.mapM (freezeV S n) = some ds → ∀ {us : Array Value}, (∀ (i : Nat) (c : AV) (v : Value), cs[i]? = some c → us[i]? = some v → VR X w K m c v) →
        ds.length = cs.length ∧ ∀ (i : Nat) (c : PV) (v : Value), ds[i]? = some c → us[i]? = some v → PVR w.heap.size w K c v := by
      intro cs ds h us hx
      obtain ⟨h1, h2, h3⟩ := optM_get h
      refine ⟨h1, fun i c v hc hv => ?_⟩
      obtain ⟨x, hx1, hx2⟩ := h3 i c hc
      exact ih x c v hx2 (hx i x v hx1 hv)
    intro v d vv h hv
    cases v with
    | pv d' => simp only [freezeV, Option.some.injEq] at h; subst h; exact hv.pv_inv.up hX
    | ptr id i off =>
      cases i with
      | succ i => simp [freezeV] at h
      | zero =>
        cases off with
        | succ off => simp [freezeV] at h
        | zero =>
          simp only [freezeV] at h
          cases ho : S[id]? with
          | none => simp [ho] at h
          | some ob =>
            cases ob <;> simp only [ho, reduceCtorEq] at h
            rename_i lay v
            simp only [Option.map_eq_some_iff] at h
            obtain ⟨d', h, rfl⟩ := h
            cases hv with
            | ptr hm hla =>
              obtain ⟨cv, b, hcv, hla', hz, hr⟩ := (hS.ob _ _ _ ho hm).var_row
              rw [hla] at hla'; simp only [Option.some.injEq, Addr.mk.injEq] at hla'; obtain ⟨rfl, rfl, _⟩ := hla'
              simp only [Nat.zero_mul, Nat.add_zero]
              refine .ro (ih v d' cv h hcv) ⟨hr.1, fun j u hj => ?_⟩
              have := (hr.2 j u hj).2
              exact ⟨.inr (lt_of_cell this), this⟩
    | arr id =>
      simp only [freezeV] at h
      cases ho : S[id]? with
      | none => simp [ho] at h
      | some ob =>
        cases ob with
        | arr lay excl xs =>
          cases excl <;> simp only [ho, Option.some.injEq, reduceCtorEq] at h
          subst h
          cases hv with
          | arr hm =>
            have := (hS.ob _ _ _ ho hm).listV
            simp only [Bool.false_eq_true, if_false] at this
            rcases this with ⟨h1, h2, h3⟩ | ⟨b, off, cvs, h0, h1, h2, h3, h4, h5⟩
            · exact ListV.pvr (.inl ⟨h1, h2, h3⟩) (by simp)
            · exact ListV.pvr (.inr ⟨b, off, cvs, h0, h1, h2, h3, fun i x cv g1 g2 => (h4 i x cv g1 g2).up hX, h5⟩) (by simp)
        | _ => simp [ho] at h
    | agg cs =>
      simp only [freezeV, Option.map_eq_some_iff] at h
      obtain ⟨ds, h, rfl⟩ := h
      cases hv with
      | agg hs hx => obtain ⟨h1, h2⟩ := many h hx; exact .agg (by omega) h2
    | tup cs =>
      simp only [freezeV, Option.map_eq_some_iff] at h
      obtain ⟨ds, h, rfl⟩ := h
      cases hv with
      | tup hs hx => obtain ⟨h1, h2⟩ := many h hx; exact .tup (by omega) h2
    | clo f as bs =>
      simp only [freezeV, Option.bind_eq_bind, Option.bind_eq_some_iff, Option.pure_def, Option.some.injEq] at h
      obtain ⟨da, ha, db, hb, rfl⟩ := h
      cases hv with
      | clo h1 h2 hx hy =>
        obtain ⟨g1, g2⟩ := many ha hx
        obtain ⟨g3, g4⟩ := many hb hy
        exact .clo (by omega) (by omega) g2 g4
    | mp id => simp [freezeV] at h
    | sub id lo k => simp [freezeV] at h
    | dead => simp [freezeV] at h

/-- an array that is nobody's any more -/
theorem thaw_list {X B : Nat} {w : World} {K K' : Keep} {m : Map} {S : Store} (hS : SR X B w K m S) (hK : Sub K K') (hall : ∀ b o, B ≤ b → b < w.heap.size → K' b o)
    {id : Nat} {lay : Nat} {excl : Bool} {xs : List PV} {loc : Loc} (ho : S[id]? = some (.arr lay excl xs)) (hm : m id = some loc) : ListV X w K' K' lay xs loc.a loc.len loc.cap := by
  have hob := hS.ob _ _ _ ho hm
  cases hob with
  | nilArr hz hl hc ho' => exact .inl ⟨hl, hc, rfl⟩
  | arr cvs ha hz hl hc hs hx hr ho' hn =>
    rename_i b off
    refine .inr ⟨b, off, cvs, ha, hl, hc, hs, fun i x cv h1 h2 => (hx i x cv h1 h2).sub hK, fun i cv h1 => ⟨(hr i cv h1).1, fun j v hj => ?_⟩⟩
    obtain ⟨g1, g2⟩ := (hr i cv h1).2 j v hj
    refine ⟨?_, g2⟩
    cases hown : loc.own with
    | true => exact hall _ _ (hS.mine id loc b hm (by simp [Loc.block?, hown, ha])).1 (lt_of_cell g2)
    | false =>
      have he := (hn hown).1
      subst he
      exact hK _ _ (by simpa using g1)

/-- what 'thaw' reads: when the call ends, all blocks from B on are kept -/
theorem thaw_rel {X B : Nat} {w : World} {K K' : Keep} {m : Map} {S : Store} (hS : SR X B w K m S) (hK : Sub K K') (hall : ∀ b o, B ≤ b → b < w.heap.size → K' b o) :
    ∀ (n : Nat) (v : AV) (d : PV) (vv : Value), thaw S n v = some d → VR X w K m v vv → PVR X w K' d vv := by
  intro n
  induction n with
  | zero => intro v d vv h; simp [thaw] at h
  | succ n ih =>
    have many : ∀ {cs : List AV} {ds : List PV}, cs.mapM (thaw S n) = some ds → ∀ {us : Array Value}, (∀ (i : Nat) (c : AV) (v : Value), cs[i]? = some c → us[i]? = some v → VR X w K m c v) →
        ds.length = cs.length ∧ ∀ (i : Nat) (c : PV) (v : Value), ds[i]? = some c → us[i]? = some v → PVR X w K' c v := by
      intro cs ds h us hx
      obtain ⟨h1, h2, h3⟩ := optM_get h
      refine ⟨h1, fun i c v hc hv => ?_⟩
      obtain ⟨x, hx1, hx2⟩ := h3 i c hc
      exact ih x c v hx2 (hx i x v hx1 hv)
    intro v d vv h hv
    cases v with
    | pv d' => simp only [thaw, Option.some.injEq] at h; subst h; exact hv.pv_inv.sub hK
    | ptr id i off =>
      cases i with
      | succ i => simp [thaw] at h
      | zero =>
        cases off with
        | succ off => simp [thaw] at h
        | zero =>
          simp only [thaw] at h
          cases ho : S[id]? with
          | none => simp [ho] at h
          | some ob =>
            cases ob <;> simp only [ho, reduceCtorEq] at h
            rename_i lay v
            simp only [Option.map_eq_some_iff] at h
            obtain ⟨d', h, rfl⟩ := h
            cases hv with
            | ptr hm hla =>
              rename_i a loc
              have hob := hS.ob _ _ _ ho hm
              obtain ⟨cv, b, hcv, hla', hz, hr⟩ := hob.var_row
              have hown : loc.own = true := by cases hob with | var hv hl ha hz ho hb hf hk => exact ho
              have hBb := (hS.mine id _ b hm (by simp [Loc.block?, hown, hla'])).1
              rw [hla] at hla'; simp only [Option.some.injEq, Addr.mk.injEq] at hla'; obtain ⟨rfl, rfl, _⟩ := hla'
              simp only [Nat.zero_mul, Nat.add_zero]
              refine .ro (ih v d' cv h hcv) ⟨hr.1, fun j u hj => ?_⟩
              have := (hr.2 j u hj).2
              exact ⟨.inl (hall _ _ hBb (lt_of_cell this)), this⟩
    | arr id =>
      simp only [thaw] at h
      cases ho : S[id]? with
      | none => simp [ho] at h
      | some ob =>
        cases ob with
        | arr lay excl xs =>
          simp only [ho, Option.some.injEq] at h
          subst h
          cases hv with
          | arr hm =>
            rename_i loc
            exact (thaw_list hS hK hall ho hm).pvr (by simp)
        | _ => simp [ho] at h
    | sub id lo k =>
      simp only [thaw, subPV] at h
      cases ho : S[id]? with
      | none => simp [ho] at h
      | some ob =>
        cases ob with
        | arr lay excl xs =>
          simp only [ho] at h
          · simp only [Option.some.injEq] at h; subst h
            cases hv with
            | sub hm hn hcap hlen ha =>
              rename_i cap a loc
              have hle := sub_le (hS.ob _ _ _ ho hm) hlen
              have hz : loc.sz = width lay := by cases hS.ob _ _ _ ho hm with | arr cvs ha hz hl hc hs hx' hr ho' hn => exact hz | nilArr hz hl hc ho' => exact hz
              exact sub_pvr (thaw_list hS hK hall ho hm) hz hle hn ha
        | _ => simp [ho] at h
    | agg cs =>
      simp only [thaw, Option.map_eq_some_iff] at h
      obtain ⟨ds, h, rfl⟩ := h
      cases hv with
      | agg hs hx => obtain ⟨h1, h2⟩ := many h hx; exact .agg (by omega) h2
    | tup cs =>
      simp only [thaw, Option.map_eq_some_iff] at h
      obtain ⟨ds, h, rfl⟩ := h
      cases hv with
      | tup hs hx => obtain ⟨h1, h2⟩ := many h hx; exact .tup (by omega) h2
    | clo f as bs =>
      simp only [thaw, Option.bind_eq_bind, Option.bind_eq_some_iff, Option.pure_def, Option.some.injEq] at h
      obtain ⟨da, ha, db, hb, rfl⟩ := h
      cases hv with
      | clo h1 h2 hx hy =>
        obtain ⟨g1, g2⟩ := many ha hx
        obtain ⟨g3, g4⟩ := many hb hy
        exact .clo (by omega) (by omega) g2 g4
    | mp id => simp [thaw] at h
    | dead => simp [thaw] at h

end Go.Lite
