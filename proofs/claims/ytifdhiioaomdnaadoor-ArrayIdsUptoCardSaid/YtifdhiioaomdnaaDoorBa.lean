import Derived.Test.YtifdhiioaomdnaaDoorLf
import Derived.Deep.CondSized
import Derived.Lib.Split
import Derived.Lib.SplitLaws
import Derived.Lib.CutLaws
import Derived.Lib.AtoiErrMem
import Derived.WalkSmall
import Derived.Shelf.Strings.Split
import Derived.Lib.Join
import Derived.Shelf.Strconv.Atoi
import Derived.Shelf.Strconv.Itoa3
import Derived.Test.YtifdhiioaomdnaaDoorProg
import Derived.KernelRfl
import Derived.Shelf.Strings.Builder1
import Derived.Shelf.Strings.Builder2
import Derived.Shelf.Strings.OnBuilder
import Derived.Shelf.Small.Wraps
import Derived.Shelf.Strings.BuilderF
import Derived.Shelf.Strings.BuilderK
import Derived.Shelf.Utf8.RuneCount
import Derived.Shelf.Strings.Builder2Cap
import Derived.Shelf.Strconv.Itoa0
import Derived.Shelf.Strconv.Itoa1
import Derived.Shelf.LaysM
import Derived.Shelf.Strconv.Itoa2
import Derived.Shelf.Strconv.AtoiErrFast
import Derived.Shelf.Strconv.ParseIntEmpty
import Derived.Shelf.Strconv.AtoiFail
import Derived.Shelf.Strconv.Clone
import Derived.Shelf.Strconv.SyntaxError
import Derived.Shelf.Strconv.Lower
import Derived.Shelf.Strconv.ParseUint10
import Derived.Shelf.Strconv.ParseUint10Empty
import Derived.Shelf.Strconv.RangeError
import Derived.Shelf.Strconv.ParseUintEmpty
import Derived.Shelf.Strconv.ParseUint10b64
import Derived.Shelf.Strconv.ParseUint10b32
import Derived.Shelf.Strconv.ParseUint10b16
import Derived.Shelf.Strconv.ParseUint10b8
import Derived.Shelf.Strings.Search1
import Derived.Shelf.Strings.Search2
import Derived.Shelf.Strings.Search3
import Derived.Shelf.Strings.Cut
import Derived.Shelf.Strings.Count
import Derived.Shelf.Strings.Shaped
import Derived.Shelf.GgClosure.StringsIndexFunc
import Derived.Ground.GgwProg
import Derived.Shelf.GgClosure.StringsIndexFuncTop
import Derived.Shelf.Strings.SplitShaped
import Derived.Shelf.Unicode.Decode
import Derived.Shelf.Strings.RuneCount
import Derived.Shelf.Strings.Explode
import Derived.Shelf.Unicode.DecodeSlow
import Derived.Shelf.Unicode.DecodeAny
import Derived.Shelf.Strings.FuncGrows
import Derived.Shelf.Slices.Reverse
import Derived.Ground.Names2Prog
import Derived.Shelf.Slices.SearchI
import Derived.Shelf.Slices.Cells
import Derived.Shelf.Slices.Empties
import Derived.Ground.SlgnProg
import Derived.Shelf.SlicesE.Reverse
set_option linter.unusedVariables false
set_option linter.unusedSimpArgs false

namespace Go.Lite
open Go
open Go.RowKit (Below)
set_option linter.unusedVariables false

/-! # rows where what is handed in is small -/
mutual
/-- how many elements there are, in all -/
def PV.cnt : PV → Nat
  | .list _ _ xs => PV.cntS xs
  | .agg cs => PV.cntA cs
  | .sc (.string s) => s.size
  | _ => 0
def PV.cntS : List PV → Nat
  | [] => 0
  | y :: r => y.cnt + 1 + PV.cntS r
def PV.cntA : List PV → Nat
  | [] => 0
  | y :: r => y.cnt + PV.cntA r
end
theorem PV.cntA_append : ∀ (a b : List PV), PV.cntA (a ++ b) = PV.cntA a + PV.cntA b
  | [], b => by simp [PV.cntA]
  | x :: a, b => by simp only [List.cons_append, PV.cntA, PV.cntA_append a b]; omega
theorem PV.cntS_len : ∀ (a : List PV), a.length ≤ PV.cntS a
  | [] => by simp [PV.cntS]
  | x :: a => by have := PV.cntS_len a; simp only [PV.cntS, List.length_cons]; omega
structure BulkOK {H : Type} (bk : DataW H → Nat) (bkA : List (DataW H) → Nat) : Prop where
  one : ∀ d, 1 ≤ bk d
  slice : ∀ e s, bk (.slice e s) = bkA e + bkA s + 1
  agg : ∀ ps, bk (.agg ps) = bkA ps + 1
  nil : bkA [] = 0
  str : ∀ bytes, bytes.length + 1 ≤ bk (.lit (.string bytes))
  cons : ∀ d r, bkA (d :: r) = bk d + bkA r
theorem rowPV_cnt {lay : Nat} {xs : List PV} (h : xs.length = width lay) : (rowPV lay xs).cnt = PV.cntA xs := by
  unfold rowPV
  by_cases h0 : lay = 0
  · subst h0
    simp only [width, if_true] at h
    cases xs with
    | nil => simp at h
    | cons x r =>
      have : r = [] := by
        have : r.length = 0 := by simp at h; exact List.length_eq_zero_iff.2 h
        simpa using this
      subst this
      simp [PV.cntA]
  · simp [h0, PV.cnt]
section
variable {H : Type} {enc : TypeId × Value → H} {P : Program} {w : World} {sp : Nat → Bool} {bk : DataW H → Nat} {bkA : List (DataW H) → Nat} {base : Nat}
theorem cntS_le (hB : BulkOK bk bkA) : ∀ (l : List (DataW H)) (ys : List PV), ys.length = l.length → (∀ (i : Nat) y d, ys[i]? = some y → l[i]? = some d → y.cnt + 1 ≤ bk d) → PV.cntS ys ≤ bkA l
  | [], [], _, _ => by simp [PV.cntS]
  | d :: l, y :: ys, h, hh => by
    have h1 := cntS_le hB l ys (by simpa using h) fun i y d a b => hh (i + 1) y d (by simpa using a) (by simpa using b)
    have h2 := hh 0 y d rfl rfl
    rw [hB.cons]
    simp only [PV.cntS]
    omega
  | [], _ :: _, h, _ => by simp at h
  | _ :: _, [], h, _ => by simp at h
theorem fields_typedB (hB : BulkOK bk bkA) {X : Nat} {K : Keep} {fuel n : Nat} {cs : List Value}
    (ih : ∀ (t : TypeId) (cs : List Value) (d : DataW H) (ps : List MemPlace) (cts : List CT), DataW.trod enc P w 0 sp true fuel t cs = some (d, ps) → (DataW.weights P t d).all (· ≤ reachBytes) = true → ctsOf P n t = some cts → ∃ xs, RowT X w K cts cs xs ∧ PV.cntA xs + 1 ≤ bk d) :
    ∀ (fs : List Field) (ctss : List (List CT)) (o : Nat) (xs : List (DataW H × List MemPlace)), fs.mapM (fun f => ctsOf P n f.type) = some ctss → fitsF P fs ctss o = true →
      fs.mapM (fun f => DataW.trod enc P w 0 sp true fuel f.type ((cs.drop f.offset).take (P.cellsOf f.type))) = some xs → (DataW.weightsEach P (fs.map (·.type)) (xs.map (·.1))).all (· ≤ reachBytes) = true → ∃ ys, RowT X w K ctss.flatten ((cs.drop o).take ctss.flatten.length) ys ∧ PV.cntA ys ≤ bkA (xs.map (·.1)) := by
  intro fs
  induction fs with
  | nil =>
    intro ctss o xs h1 h2 h3 _
    simp at h1; subst h1
    exact ⟨[], by simpa using RowT.nil X w K, by simp [PV.cntA]⟩
  | cons f fs ihf =>
    intro ctss o xs h1 h2 h3 hwt
    simp only [List.mapM_cons, Option.pure_def, Option.bind_eq_bind, Option.bind_eq_some_iff, Option.some.injEq] at h1 h3
    obtain ⟨c, hc, css, hcss, rfl⟩ := h1
    obtain ⟨⟨d, ps⟩, hd, ds, hds, rfl⟩ := h3
    simp only [fitsF, Bool.and_eq_true, beq_iff_eq] at h2
    obtain ⟨⟨hoff, hsz⟩, hrest⟩ := h2
    simp only [List.map_cons, DataW.weightsEach, List.all_append, Bool.and_eq_true] at hwt
    obtain ⟨y1, hy1, hc1⟩ := ih f.type _ d ps c hd hwt.1 hc
    obtain ⟨y2, hy2, hc2⟩ := ihf css (o + c.length) ds hcss hrest hds hwt.2
    refine ⟨y1 ++ y2, ?_, by rw [PV.cntA_append, List.map_cons, hB.cons]; simp only; omega⟩
    rw [hoff, hsz] at hy1
    have := hy1.append hy2
    simp only [List.flatten_cons, List.length_append]
    rw [List.take_add, List.drop_drop]
    exact this

theorem trod_typedB (hB : BulkOK bk bkA) {X : Nat} : ∀ (fuel n : Nat) (t : TypeId) (cs : List Value) (d : DataW H) (ps : List MemPlace) (cts : List CT), (∀ b, sp b = true) →
    DataW.trod enc P w 0 sp true fuel t cs = some (d, ps) → (DataW.weights P t d).all (· ≤ reachBytes) = true → ctsOf P n t = some cts → ∃ xs, RowT X w (allK w) cts cs xs ∧ PV.cntA xs + 1 ≤ bk d := by
  intro fuel
  induction fuel with
  | zero => intro n t cs d ps cts _ h; simp [DataW.trod] at h
  | succ fuel ih =>
    intro n t cs d ps cts hsp h hwt hc
    cases n with
    | zero => simp [ctsOf] at hc
    | succ n =>
      unfold ctsOf at hc
      unfold DataW.trod at h
      split at hc
      · -- bool
        rename_i hu
        simp only [Option.some.injEq] at hc; subst hc
        rw [hu] at h
        split at h <;> (try (exfalso; clear ih; simp_all; done)) <;> (try (exfalso; clear ih; simp at h; done))
        exact ⟨_, RowT.one (.bool _) (.sc _) rfl, by have := hB.one d; simp [PV.cntA, PV.cnt]; exact this⟩
      · rename_i k hu
        simp only [Option.some.injEq] at hc; subst hc
        rw [hu] at h
        split at h <;> (try (exfalso; clear ih; simp_all; done)) <;> (try (exfalso; clear ih; simp at h; done))
        rename_i h1
        simp only [Option.some.injEq, TypeDesc.int.injEq] at h1; subst h1
        split at h
        · rename_i hk
          obtain ⟨rfl, hwf⟩ := hk
          exact ⟨_, RowT.one (.int hwf) (.sc _) rfl, by have := hB.one d; simp [PV.cntA, PV.cnt]; exact this⟩
        · simp at h
      · rename_i hu
        simp only [Option.some.injEq] at hc; subst hc
        rw [hu] at h
        split at h <;> (try (exfalso; clear ih; simp_all; done)) <;> (try (exfalso; clear ih; simp at h; done))
        split at h
        · rename_i hk
          simp only [Option.some.injEq, Prod.mk.injEq] at h
          obtain ⟨rfl, _⟩ := h
          simp only [DataW.weights, List.all_cons, Bool.and_eq_true, decide_eq_true_eq] at hwt
          exact ⟨_, RowT.one (.str (by have := hwt.1; simpa using this)) (.sc _) rfl, by simp only [PV.cntA, PV.cnt, Nat.add_zero]; exact hB.str _⟩
        · simp at h
      · -- slice
        rename_i e hu
        split at hc
        case h_2 => simp at hc
        rename_i lay cte hlay hcte
        split at hc
        case isFalse => simp at hc
        rename_i hcond
        obtain ⟨hw1, hw2, hw3⟩ := hcond
        simp only [Option.some.injEq] at hc; subst hc
        rw [hu] at h
        split at h <;> (try (exfalso; clear ih; simp_all; done)) <;> (try (exfalso; clear ih; simp at h; done))
        · exact ⟨_, RowT.one (x := .list lay false ([].map (rowPV lay))) (.list [] (by simp) (by simp) (by simp) (by simp)) .empty rfl, by simp [PV.cntA, PV.cnt, PV.cntS]; exact hB.one _⟩
        · rename_i a len cap h1
          simp only [Option.some.injEq, TypeDesc.slice.injEq] at h1; subst h1
          split at h
          case isFalse => simp at h
          rename_i hb
          obtain ⟨_, hlc, hmax⟩ := hb
          simp only [hsp, if_true, Option.bind_eq_some_iff, Option.map_eq_some_iff] at h
          obtain ⟨elems, he, rest, hr, hdd⟩ := h
          simp only [Prod.mk.injEq] at hdd
          obtain ⟨rfl, _⟩ := hdd
          simp only [DataW.weights, hu, List.all_cons, List.all_append, Bool.and_eq_true, decide_eq_true_eq, List.length_map] at hwt
          obtain ⟨hwl, hwe, hwr⟩ := hwt
          have wAll : ∀ (l : List (DataW H)), (DataW.weightsAll P e l).all (· ≤ reachBytes) = true → ∀ x ∈ l, (DataW.weights P e x).all (· ≤ reachBytes) = true := by
            intro l
            induction l with
            | nil => intro _ x hx; simp at hx
            | cons y l ihl =>
              intro hy x hx
              simp only [DataW.weightsAll, List.all_append, Bool.and_eq_true] at hy
              rcases List.mem_cons.1 hx with rfl | hx
              · exact hy.1
              · exact ihl hy.2 x hx
          obtain ⟨e1, e2⟩ := mapM_range he
          obtain ⟨r1, r2⟩ := mapM_range hr
          rw [hw2] at e2 r2
          have row : ∀ (i : Nat) (y : DataW H × List MemPlace), ((w.cells? 0 (a.add (i * width lay)) (width lay)).bind (DataW.trod enc P w 0 sp true fuel e)) = some y → (y ∈ elems ∨ y ∈ rest) →
              ∃ vs xs, w.cells? 0 (a.add (i * width lay)) (width lay) = some vs ∧ RowT X w (allK w) cte vs xs ∧ PV.cntA xs + 1 ≤ bk y.1 := by
            intro i y hy hmem
            simp only [Option.bind_eq_some_iff] at hy
            obtain ⟨vs, hvs, hy⟩ := hy
            obtain ⟨d', ps'⟩ := y
            have hw' : (DataW.weights P e d').all (· ≤ reachBytes) = true := by
              rcases hmem with hmem | hmem
              · exact wAll _ hwe d' (List.mem_map.2 ⟨_, hmem, rfl⟩)
              · exact wAll _ hwr d' (List.mem_map.2 ⟨_, hmem, rfl⟩)
            obtain ⟨xs, hxs, hcx⟩ := ih n e vs d' ps' cte hsp hy hw' hcte
            exact ⟨vs, xs, hvs, hxs, hcx⟩
          by_cases hcap : cap = 0
          · have hlen : len = 0 := by omega
            subst hlen; subst hcap
            exact ⟨_, RowT.one (x := .list lay false ([].map (rowPV lay))) (.list [] (by simp) (by simp) (by simp) (by simp)) .empty rfl, by simp [PV.cntA, PV.cnt, PV.cntS]; exact hB.one _⟩
          · have hspot : a = ⟨a.block, a.off, none⟩ := by
              have : ∃ y, ((w.cells? 0 (a.add (0 * width lay)) (width lay)).bind (DataW.trod enc P w 0 sp true fuel e)) = some y ∧ (y ∈ elems ∨ y ∈ rest) := by
                by_cases hl : len = 0
                · subst hl
                  obtain ⟨y, hy, hm⟩ := r2 0 (by omega)
                  exact ⟨y, by simpa using hy, .inr (List.mem_of_getElem? hm)⟩
                · obtain ⟨y, hy, hm⟩ := e2 0 (by omega)
                  exact ⟨y, hy, .inl (List.mem_of_getElem? hm)⟩
              obtain ⟨y, hy, hm⟩ := this
              obtain ⟨vs, xs, hvs, hxs, _⟩ := row 0 y hy hm
              obtain ⟨c1, c2⟩ := cells?_some hvs
              have := c2 0 (vs[0]'(by omega)) (List.getElem?_eq_getElem (by omega))
              simp only [Nat.zero_mul, Addr.add, if_true] at this
              exact spot_of_cell this
            generalize a.block = b at hspot
            generalize a.off = off at hspot
            subst hspot
            -- the rows
            have rows : ∀ i, i < len → ∃ vs xs, w.cells? 0 (Addr.add ⟨b, off, none⟩ (i * width lay)) (width lay) = some vs ∧ RowT X w (allK w) cte vs xs ∧ ∀ y, elems[i]? = some y → PV.cntA xs + 1 ≤ bk y.1 := fun i hi => by
              obtain ⟨y, hy, hm⟩ := e2 i hi
              obtain ⟨vs, xs, q1, q2, q3⟩ := row i y hy (.inl (List.mem_of_getElem? hm))
              exact ⟨vs, xs, q1, q2, fun y' hy' => by rw [hm] at hy'; simp only [Option.some.injEq] at hy'; subst hy'; exact q3⟩
            obtain ⟨F, hF⟩ : ∃ F : Nat → List Value × List PV, ∀ i, i < len → w.cells? 0 (Addr.add ⟨b, off, none⟩ (i * width lay)) (width lay) = some (F i).1 ∧ RowT X w (allK w) cte (F i).1 (F i).2 ∧ ∀ y, elems[i]? = some y → PV.cntA (F i).2 + 1 ≤ bk y.1 := by
              refine ⟨fun i => if hi : i < len then (Classical.choose (rows i hi), Classical.choose (Classical.choose_spec (rows i hi))) else ([], []), fun i hi => ?_⟩
              simp only [hi, dif_pos]
              exact Classical.choose_spec (Classical.choose_spec (rows i hi))
            have hcnt : PV.cntA [.list lay false (((List.range len).map fun i => (F i).2).map (rowPV lay))] + 1 ≤ bk (.slice (elems.map (·.1)) (rest.map (·.1))) := by
              have := cntS_le hB (elems.map (·.1)) (((List.range len).map fun i => (F i).2).map (rowPV lay)) (by simp [e1]) fun i y d hy hd => by
                simp only [List.map_map, List.getElem?_map, Option.map_eq_some_iff] at hy hd
                obtain ⟨i1, hi1, rfl⟩ := hy
                obtain ⟨z, hz, rfl⟩ := hd
                have hi : i < len ∧ i1 = i := by
                  rcases Nat.lt_or_ge i len with h' | h'
                  · rw [List.getElem?_range h'] at hi1; exact ⟨h', by simpa using hi1.symm⟩
                  · rw [List.getElem?_eq_none (by simpa using h')] at hi1; cases hi1
                obtain ⟨hi, rfl⟩ := hi
                have h3 := (hF i1 hi).2.2 z hz
                have h4 := (hF i1 hi).2.1.len
                simp only [Function.comp_apply]
                rw [rowPV_cnt (by rw [h4, hw1])]; exact h3
              rw [hB.slice]
              simp only [PV.cntA, PV.cnt, Nat.add_zero]
              omega
            refine ⟨[.list lay false (((List.range len).map fun i => (F i).2).map (rowPV lay))], RowT.one (.list _ ?_ ?_ ?_ ?_) (.list ((List.range len).map fun i => rowV lay (F i).1) ?_ hlc (by simp) ?_ ?_ ?_) rfl, hcnt⟩
            · simp; exact Nat.le_trans hlc hmax
            · simp only [List.length_map, List.length_range]
              rw [e1] at hwl
              exact Nat.le_trans (Nat.mul_le_mul_right _ (Nat.le_add_right _ _)) hwl
            · intro xs hx
              simp only [List.mem_map, List.mem_range] at hx
              obtain ⟨i, hi, rfl⟩ := hx
              exact (hF i hi).2.1.len
            · intro xs hx
              simp only [List.mem_map, List.mem_range] at hx
              obtain ⟨i, hi, rfl⟩ := hx
              exact (hF i hi).2.1.typed
            · simp
            · simp
            · intro i x cv hx hcv
              simp only [List.map_map, List.getElem?_map, Option.map_eq_some_iff] at hx hcv
              obtain ⟨i1, hi1, rfl⟩ := hx
              obtain ⟨i2, hi2, rfl⟩ := hcv
              rw [hi1] at hi2; simp only [Option.some.injEq] at hi2; subst hi2
              have hi : i1 < len := by
                have := List.mem_of_getElem? hi1
                simpa using this
              exact (hF i1 hi).2.1.pvr hw1
            · intro i cv hcv
              simp only [List.getElem?_map, Option.map_eq_some_iff] at hcv
              obtain ⟨i1, hi1, rfl⟩ := hcv
              have hi : i < len ∧ i1 = i := by
                rcases Nat.lt_or_ge i len with h' | h'
                · rw [List.getElem?_range h'] at hi1; exact ⟨h', by simpa using hi1.symm⟩
                · rw [List.getElem?_eq_none (by simpa using h')] at hi1; cases hi1
              obtain ⟨hi, rfl⟩ := hi
              obtain ⟨l1, l2⟩ := (hF i1 hi).2.1.lay hw1
              refine ⟨l1, fun j v hj => ?_⟩
              obtain ⟨c1, c2⟩ := cells?_some (hF i1 hi).1
              have hj' : (F i1).1[j]? = some v := by rw [← l2]; simpa using hj
              have := c2 j v hj'
              rw [add_none, add_none] at this
              exact ⟨lt_of_cell this, this⟩
      · -- struct
        rename_i fs hu
        split at hc
        case h_2 => simp at hc
        rename_i ctss hctss
        split at hc
        case isFalse => simp at hc
        rename_i hcond
        simp only [Option.some.injEq] at hc; subst hc
        rw [hu] at h
        split at h <;> (try (exfalso; clear ih; simp_all; done)) <;> (try (exfalso; clear ih; simp at h; done))
        rename_i h1
        simp only [Option.some.injEq, TypeDesc.struct.injEq] at h1; subst h1
        split at h
        case isFalse => simp at h
        rename_i hlen
        simp only [Option.map_eq_some_iff] at h
        obtain ⟨xs, hxs, hdd⟩ := h
        simp only [Prod.mk.injEq] at hdd
        obtain ⟨rfl, _⟩ := hdd
        simp only [DataW.weights, hu] at hwt
        obtain ⟨ys, hys, hcy⟩ := fields_typedB (X := X) hB (K := allK w) (fun t cs d ps cts h1 h2 h3 => ih n t cs d ps cts hsp h1 h2 h3) fs.toList ctss 0 xs hctss hcond.1 hxs hwt
        rw [List.drop_zero, List.take_of_length_le (by omega)] at hys
        exact ⟨ys, hys, by rw [hB.agg]; omega⟩
      · simp at hc
theorem args_typedB (hB : BulkOK bk bkA) {X n : Nat} : ∀ (ts : List TypeId) (vs : List Value) (ds : List (DataW H)) (p : List MemPlace) (ats : List (Nat × List CT)), DataW.TrodAll enc P w 0 (fun _ => true) true ts vs ds p → (DataW.weightsEach P ts ds).all (· ≤ reachBytes) = true →
    (∀ (j : Nat) t v, ts[j]? = some t → vs[j]? = some v → Value.okWide P w .any base t v) → ts.mapM (argT P n) = some ats →
    ∃ args : List PV, args.length = vs.length ∧ args.length = ats.length ∧ (∀ (i : Nat) a d, ats[i]? = some a → args[i]? = some d → TypedA a d) ∧ (∀ (i : Nat) d v, args[i]? = some d → vs[i]? = some v → PVR X w (allK w) d v) ∧ PV.cntA args ≤ bkA ds := by
  intro ts
  induction ts with
  | nil =>
    intro vs ds p ats h _ _ ha
    obtain ⟨rfl, rfl, rfl⟩ := Go.ChangeShapes.trodAll_nil h
    simp at ha; subst ha
    exact ⟨[], rfl, rfl, by simp, by simp, by simp [PV.cntA]⟩
  | cons t ts ih =>
    intro vs ds p ats h hwt hok ha
    simp only [List.mapM_cons, Option.pure_def, Option.bind_eq_bind, Option.bind_eq_some_iff, Option.some.injEq] at ha
    obtain ⟨a, hat, rest, hrest, rfl⟩ := ha
    cases vs with
    | nil => simp [DataW.TrodAll] at h
    | cons v vs =>
      cases ds with
      | nil => simp [DataW.TrodAll] at h
      | cons d ds =>
        simp only [DataW.TrodAll] at h
        obtain ⟨p1, q1, ⟨fuel, ht⟩, hall, rfl⟩ := h
        simp only [DataW.weightsEach, List.all_append, Bool.and_eq_true] at hwt
        unfold argT at hat
        split at hat
        case h_2 => simp at hat
        rename_i lay cts hlay hcts
        split at hat
        case isFalse => simp at hat
        rename_i hw
        simp only [Option.some.injEq] at hat; subst hat
        obtain ⟨xs, hxs, hcx⟩ := trod_typedB (X := X) hB fuel n t _ d p1 cts (fun _ => rfl) ht hwt.1 hcts
        obtain ⟨args, e1, e2, e3, e4, e5⟩ := ih vs ds q1 rest hall hwt.2 (fun j t' v' h1 h2 => hok (j + 1) t' v' (by simpa using h1) (by simpa using h2)) hrest
        have hv : v = rowV lay v.cells.toList := value_row hlay (hok 0 t v rfl rfl) fun h0 => by
          subst h0; rw [hxs.lenV, hw]; rfl
        refine ⟨rowPV lay xs :: args, by simp [e1], by simp [e2], fun i a d h1 h2 => ?_, fun i d v' h1 h2 => ?_, by rw [hB.cons]; simp only [PV.cntA]; rw [rowPV_cnt (by rw [hxs.len, hw])]; omega⟩
        · cases i with
          | zero => simp at h1 h2; subst h1; subst h2; exact ⟨xs, rfl, hxs.len, hxs.typed⟩
          | succ i => exact e3 i a d (by simpa using h1) (by simpa using h2)
        · cases i with
          | zero =>
            simp only [List.getElem?_cons_zero, Option.some.injEq] at h1 h2; subst h1; subst h2
            have := hxs.pvr hw
            rw [← hv] at this
            exact this
          | succ i => exact e4 i d v' (by simpa using h1) (by simpa using h2)

theorem liftedC (hB : BulkOK bk bkA) {B : Nat} {h : Hints} {C : Checked} {f : FuncId} {fn : Func} {s : ChangeSpec} {apart fresh handsOn : Bool} {bt : TypeId} {ats : List (Nat × List CT)} {depth : Nat}
    (hT : TidyF C.prog) (hp : PrimsOK C.prog h.prim) (hps : PrimsSOK C.prog h.primS) (hpm : PrimsMOK C.prog h.primM) (hpo : PrimsOOK C.prog h.ownF h.primO) (hpf : h.prim f = none) (hvars : s.vars = [])
    (hs : ∀ ds : List (DataW H), ds.length = fn.params.size → s.fn H ds = { results := [.lit (.bool true)], args := ds })
    (hres : fn.resultTypes = #[bt]) (hbt : C.prog.underlying bt = some .bool) (hlaid : laidOutB C.prog = true) (hpar : fn.params.toList.mapM (argT C.prog depth) = some ats)
    (hread : ∀ t ∈ fn.params.toList, C.prog.readableRec t = true ∧ t < C.prog.types.size)
    (hmain : ∀ args : List PV, args.length = ats.length → (∀ (i : Nat) a d, ats[i]? = some a → args[i]? = some d → TypedA a d) → PV.cntA args ≤ B → ∃ L n, callP C.prog h L n f args = some (.sc (.bool true)))
    (W : World) (base : Nat) (args : Array Value) (ds gs : List (DataW H)) (before : List MemPlace) (hval0 : ∀ (j : Nat) t v, fn.params[j]? = some t → args[j]? = some v → Value.okWide C.prog W .any base t v)
    (hW : DataW.Whole enc C.prog fn.params.toList s.vars apart W args.toList ds gs before) (hsmall : bkA (ds ++ gs) ≤ B) (hwt : (DataW.weightsEach C.prog (fn.params.toList ++ s.plain.varTypes C.prog) (ds ++ gs)).all (· ≤ reachBytes) = true) (hG : Gl W.heap.size W) :
    Calls C.prog f args W fun e W' => ∃ v, e = .returned v ∧ s.post enc C.prog fn apart fresh handsOn false W args v W' := by
  have hlt := hW.lt
  obtain ⟨p, q, hA, hV, rfl, hfz, hnd⟩ := id hW
  obtain ⟨rfl, rfl⟩ : gs = [] ∧ q = [] := by rw [hvars] at hV; exact Go.ChangeShapes.trodVars_none hV
  have hval' : ∀ (j : Nat) t v, fn.params.toList[j]? = some t → args.toList[j]? = some v → Value.okWide C.prog W .any base t v := fun j t v h1 h2 => hval0 j t v (by simpa using h1) (by simpa using h2)
  obtain ⟨l1, l2⟩ := trodAll_length hA
  rw [weights_front C.prog _ _ _ (by first | exact l2.symm | omega)] at hwt
  obtain ⟨avs, e1, e2, e3, e4, e5⟩ := args_typedB hB (X := W.heap.size) fn.params.toList args.toList ds p ats hA hwt hval' hpar
  obtain ⟨L, n, hr⟩ := hmain avs e2 e3 (by rw [List.append_nil] at hsmall; omega)
  refine (callP_calls (L := L) hT hp hps hpm hpo hpf hr (K := allK W) (vs := args) ⟨Nat.le_refl _, hG⟩ (fun b o hb => hb) (by simpa using e1.symm) fun i c v h1 h2 => e4 i c v h1 (by simpa using h2)).mono fun e W' ⟨v, he, hx, hv⟩ => ⟨v, he, ?_⟩
  have hb := hx.below
  cases hv
  have hss := hs ds (by simpa using l2)
  have hargs := trodAll_below hlaid hb _ _ _ _ hread hA fun x hx => hlt x (by simp [hx])
  refine ⟨ds, [], p ++ [], [], p, [], hW, ?_, ?_, ?_, ?_, fun h => by cases h⟩
  · rw [List.append_nil, hss, hres]
    refine ⟨[], [], ⟨1, ?_⟩, rfl, rfl⟩
    simp [DataW.trod, hbt, Value.cells]
  · rw [List.append_nil, hss]; exact hargs
  · rw [hvars]; simp only [List.append_nil, hss]; exact rfl
  · exact Below.frame hb _
end
end Go.Lite

namespace Go.Lite
open Go Go.Proofs
open Go.RowKit (Below)

/-! # strings.Cut, strings.Split, strings.Join, strconv.Itoa, strconv.Atoi -/
theorem two_array {vs : Array Value} (h : vs.size = 2) : ∃ a b, vs = #[a, b] := by
  obtain ⟨l⟩ := vs
  match l, h with
  | [a, b], _ => exact ⟨a, b, rfl⟩
theorem ext_same {w w' : World} {K : Keep} (h : Below w.heap.size w w') : Ext w K w' (fun b i => K b i ∨ (w.heap.size ≤ b ∧ b < w'.heap.size)) :=
  ⟨h, fun _ _ h => .inl h, fun _ _ h => h⟩
theorem tup_scs {X : Nat} {w : World} {K : Keep} (l : List Value) : PVR X w K (.tup (l.map .sc)) (.tuple l.toArray) := by
  refine .tup (by simp) fun i c v h1 h2 => ?_
  simp only [List.getElem?_map, Option.map_eq_some_iff] at h1
  obtain ⟨u, h1, rfl⟩ := h1
  simp at h2
  rw [h2] at h1; simp only [Option.some.injEq] at h1; subst h1
  exact .sc _
def strOf (l : List UInt8) : Value := .string ⟨l.toArray⟩

def CutsP (P : Program) (f b : Nat) : Prop := Entered P f ∧ ∀ (s sep : ByteArray) (m : Int) (w : World), s.size < 4294967281 → w.cell? ⟨b, 0, none⟩ = some (.int .i64 m) →
  Calls P f #[.string s, .string sep] w fun e w' => e = .returned (.tuple #[.string ⟨(Lib.cut s.data.toList sep.data.toList).1.toArray⟩, .string ⟨(Lib.cut s.data.toList sep.data.toList).2.1.toArray⟩, .bool (Lib.cut s.data.toList sep.data.toList).2.2]) ∧ ∃ n, w' = w.drewN n
def cutQ (args : List PV) : Option PV :=
  match args with
  | [.sc (.string s), .sc (.string sep)] => bif Nat.blt s.size 4294967281 then
      some (.tup [.sc (strOf (Lib.cut s.data.toList sep.data.toList).1), .sc (strOf (Lib.cut s.data.toList sep.data.toList).2.1), .sc (.bool (Lib.cut s.data.toList sep.data.toList).2.2)]) else none
  | _ => none
theorem cut_ok {P : Program} {f b : Nat} (hf : CutsP P f b) (hb : b ∈ globInts) : PureOK P fun g args => if g = f then cutQ args else none := by
  intro g args r hr X w K vs hX hk hs hx
  simp only at hr
  split at hr
  case isFalse => cases hr
  rename_i hg; subst hg
  unfold cutQ at hr
  split at hr
  case h_2 => cases hr
  rename_i s sep
  cases hlt : Nat.blt s.size 4294967281 <;> rw [hlt] at hr <;> simp only [cond_true, cond_false, Option.some.injEq, reduceCtorEq] at hr
  subst hr
  obtain ⟨v0, v1, rfl⟩ := two_array hs
  cases hx 0 _ v0 rfl rfl
  cases hx 1 _ v1 rfl rfl
  obtain ⟨_, n, hn⟩ := hX.2.2 b hb
  refine .inl ⟨hf.1, (hf.2 s sep n w (Nat.le_of_ble_eq_true hlt) hn).mono fun e w' ⟨he, k, hw⟩ => ⟨_, he, ?_, ?_⟩⟩
  · subst hw; exact ext_same (below_drewN (Below.refl _ _) k)
  · exact tup_scs [_, _, _]

def SplitsP (P : Program) (f b : Nat) : Prop := Entered P f ∧ ∃ ty : TypeId, ∀ (s sep : ByteArray) (m : Int) (w : World), s.size < 4294967281 → w.cell? ⟨b, 0, none⟩ = some (.int .i64 m) → 1 ≤ sep.size →
  Calls P f #[.string s, .string sep] w fun e w' => e = .returned (.slice (some ⟨w.heap.size, 0, none⟩) (Lib.countB s sep + 1) (Lib.countB s sep + 1)) ∧
    w' = w.alloc (.cells ((Lib.splitB sep 0 (Lib.countB s sep) s).map Value.string).toArray ty)
def splitQ (args : List PV) : Option PV :=
  match args with
  | [.sc (.string s), .sc (.string sep)] => bif Nat.blt s.size 4294967281 && Nat.blt 0 sep.size then some (.list 0 true ((Lib.splitB sep 0 (Lib.countB s sep) s).map fun x => .sc (.string x))) else none
  | _ => none
theorem split_ok {P : Program} {f b : Nat} (hf : SplitsP P f b) (hb : b ∈ globInts) : PureOK P fun g args => if g = f then splitQ args else none := by
  intro g args r hr X w K vs hX hk hs hx
  simp only at hr
  split at hr
  case isFalse => cases hr
  rename_i hg; subst hg
  unfold splitQ at hr
  split at hr
  case h_2 => cases hr
  rename_i s sep
  cases hlt : (Nat.blt s.size 4294967281 && Nat.blt 0 sep.size) <;> rw [hlt] at hr <;> simp only [cond_true, cond_false, Option.some.injEq, reduceCtorEq] at hr
  subst hr
  simp only [Bool.and_eq_true] at hlt
  obtain ⟨v0, v1, rfl⟩ := two_array hs
  cases hx 0 _ v0 rfl rfl
  cases hx 1 _ v1 rfl rfl
  obtain ⟨_, n, hn⟩ := hX.2.2 b hb
  obtain ⟨hent, ty, hcall⟩ := hf
  have h1 : 1 ≤ sep.size := Nat.le_of_ble_eq_true hlt.2
  have hlen := Lib.splitB_all sep h1 0 (Lib.countB s sep) s rfl
  refine .inl ⟨hent, (hcall s sep n w (Nat.le_of_ble_eq_true hlt.1) hn h1).mono fun e w' ⟨he, hw⟩ => ⟨_, he, ?_, ?_⟩⟩
  · subst hw; exact ext_same ((Below.refl _ _).alloc (Nat.le_refl _) _)
  · subst hw
    refine .list ((Lib.splitB sep 0 (Lib.countB s sep) s).map Value.string) (by simp [hlen]) (Nat.le_refl _) (fun _ => rfl) (by simp) (fun i x cv h2 h3 => ?_) fun i cv h2 => ?_
    · simp only [List.getElem?_map, Option.map_eq_some_iff] at h2 h3
      obtain ⟨u, h2, rfl⟩ := h2
      obtain ⟨u', h3, rfl⟩ := h3
      rw [h2] at h3; cases h3; exact .sc _
    · have h2' := h2
      simp only [List.getElem?_map, Option.map_eq_some_iff] at h2'
      obtain ⟨u, h3, rfl⟩ := h2'
      refine ⟨⟨.inl rfl, fun j v hj => ?_⟩, fun j v hj => ?_⟩
      · cases j with
        | zero => simp [cellsL] at hj; subst hj; rfl
        | succ j => simp [cellsL] at hj
      · cases j with
        | zero =>
          simp [cellsL] at hj; subst hj
          refine ⟨.inr ⟨Nat.le_refl _, by simp⟩, ?_⟩
          rw [World.cell?_alloc_new]
          simpa [width] using h2
        | succ j => simp [cellsL] at hj

def ItoasP (P : Program) (f : Nat) : Prop := Entered P f ∧ ∀ (i : Nat) (w : World), i < 100 → Calls P f #[.int .i64 i] w fun e w' => e = .returned (.string ⟨(Lib.decDigits i).toArray⟩) ∧ w' = w
def itoaQ (args : List PV) : Option PV :=
  match args with
  | [.sc (.int .i64 (.ofNat n))] => bif Nat.blt n 100 then some (.sc (strOf (Lib.decDigits n))) else none
  | _ => none
theorem itoa_ok {P : Program} {f : Nat} (hf : ItoasP P f) : PureOK P fun g args => if g = f then itoaQ args else none := by
  intro g args r hr X w K vs hX hk hs hx
  simp only at hr
  split at hr
  case isFalse => cases hr
  rename_i hg; subst hg
  unfold itoaQ at hr
  split at hr
  case h_2 => cases hr
  rename_i n
  cases hlt : Nat.blt n 100 <;> rw [hlt] at hr <;> simp only [cond_true, cond_false, Option.some.injEq, reduceCtorEq] at hr
  subst hr
  simp only [List.length_cons, List.length_nil] at hs
  obtain ⟨v0, rfl⟩ : ∃ v0, vs = #[v0] := ⟨vs[0], one_array hs⟩
  cases hx 0 _ v0 rfl rfl
  refine .inl ⟨hf.1, (hf.2 n w (Nat.le_of_ble_eq_true hlt)).mono fun e w' ⟨he, hw⟩ => ⟨_, he, ?_, .sc _⟩⟩
  subst hw; exact ext_same (Below.refl _ _)

def AtoisP (P : Program) (f : Nat) : Prop := Entered P f ∧ ∃ ty : TypeId, ∀ (s : ByteArray) (n : Int) (w : World), s.size ≤ 18 → Lib.atoi s.data.toList = some n →
  Calls P f #[.string s] w fun e w' => e = .returned (.tuple #[.int .i64 n, .nilIface]) ∧ ∃ t, w' = Lib.bytesWorld w ty t
def atoiQ (args : List PV) : Option PV :=
  match args with
  | [.sc (.string s)] => bif Nat.ble s.size 18 then (match Lib.atoi s.data.toList with | some n => some (.tup [.sc (.int .i64 n), .sc .nilIface]) | none => none) else none
  | _ => none
theorem atoi_ok {P : Program} {f : Nat} (hf : AtoisP P f) : PureOK P fun g args => if g = f then atoiQ args else none := by
  intro g args r hr X w K vs hX hk hs hx
  simp only at hr
  split at hr
  case isFalse => cases hr
  rename_i hg; subst hg
  unfold atoiQ at hr
  split at hr
  case h_2 => cases hr
  rename_i s
  cases hlt : Nat.ble s.size 18 <;> rw [hlt] at hr <;> simp only [cond_true, cond_false, reduceCtorEq] at hr
  split at hr
  case h_2 => cases hr
  rename_i n hn
  simp only [Option.some.injEq] at hr; subst hr
  simp only [List.length_cons, List.length_nil] at hs
  obtain ⟨v0, rfl⟩ : ∃ v0, vs = #[v0] := ⟨vs[0], one_array hs⟩
  cases hx 0 _ v0 rfl rfl
  obtain ⟨hent, ty, hcall⟩ := hf
  refine .inl ⟨hent, (hcall s n w (Nat.le_of_ble_eq_true hlt) hn).mono fun e w' ⟨he, t, hw⟩ => ⟨_, he, ?_, tup_scs [_, _]⟩⟩
  subst hw; exact ext_same (Lib.bytesWorld_below w ty t)

/-- strings, as data -/
def strs? : List PV → Option (List ByteArray)
  | [] => some []
  | .sc (.string s) :: r => (strs? r).map (s :: ·)
  | _ => none
theorem strs_some {xs : List PV} {ss : List ByteArray} (h : strs? xs = some ss) : xs = ss.map fun s => .sc (.string s) := by
  induction xs generalizing ss with
  | nil => simp [strs?] at h; subst h; rfl
  | cons x r ih =>
    unfold strs? at h
    split at h
    · rename_i h'; cases h'
    · rename_i s r' h'
      cases h'
      simp only [Option.map_eq_some_iff] at h
      obtain ⟨t, h, rfl⟩ := h
      rw [ih h]; rfl
    · cases h
def JoinsP (P : Program) (f : Nat) : Prop := Entered P f ∧ (∀ (a : Option Addr) (c : Nat) (sep : ByteArray) (w : World), Calls P f #[.slice a 0 c, .string sep] w fun e w' => e = .returned (.string ⟨#[]⟩) ∧ w' = w) ∧
  ∀ (bk o c : Nat) (xs : List ByteArray) (sep : ByteArray) (w : World), (∀ (j : Nat) x, xs[j]? = some x → w.cell? ⟨bk, o + j, none⟩ = some (.string x)) → bk < w.heap.size → xs.length ≤ 140737488355328 → xs.length ≤ c →
    (Lib.join (xs.map (·.data.toList)) sep.data.toList).length ≤ 140737488355328 →
    Calls P f #[.slice (some ⟨bk, o, none⟩) xs.length c, .string sep] w fun e w' => e = .returned (.string ⟨(Lib.join (xs.map (·.data.toList)) sep.data.toList).toArray⟩) ∧ Below w.heap.size w w'
def joinQ (args : List PV) : Option PV :=
  match args with
  | [.list 0 _ (x :: xs), .sc (.string sep)] => match strs? (x :: xs) with
    | some ss => bif Nat.ble ss.length 140737488355328 && Nat.ble (Lib.join (ss.map (·.data.toList)) sep.data.toList).length 140737488355328 then some (.sc (strOf (Lib.join (ss.map (·.data.toList)) sep.data.toList))) else none
    | none => none
  | [.sc (.slice none 0 0), .sc (.string _)] => some (.sc (strOf []))
  | _ => none
theorem join_ok {P : Program} {f : Nat} (hf : JoinsP P f) : PureOK P fun g args => if g = f then joinQ args else none := by
  intro g args r hr X w K vs hX hk hs hx
  simp only at hr
  split at hr
  case isFalse => cases hr
  rename_i hg; subst hg
  obtain ⟨hent, hnone, hcall⟩ := hf
  unfold joinQ at hr
  split at hr
  · rename_i cl x xs sep
    split at hr
    case h_2 => cases hr
    rename_i ss hss
    cases hlt : (Nat.ble ss.length 140737488355328 && Nat.ble (Lib.join (ss.map (·.data.toList)) sep.data.toList).length 140737488355328) <;> rw [hlt] at hr <;> simp only [cond_true, cond_false, Option.some.injEq, reduceCtorEq] at hr
    subst hr
    simp only [Bool.and_eq_true] at hlt
    obtain ⟨v0, v1, rfl⟩ := two_array hs
    have hl := hx 0 _ v0 rfl rfl
    cases hx 1 _ v1 rfl rfl
    have e := strs_some hss
    have elen : (x :: xs).length = ss.length := by rw [e]; simp
    cases hl with
    | list cvs hl hc hcl hs' hx' hr' =>
      rename_i b off len cap
      have hcell : ∀ (j : Nat) s, ss[j]? = some s → w.cell? ⟨b, off + j, none⟩ = some (.string s) ∧ K b (off + j) := fun j s hj => by
        have h1 : (x :: xs)[j]? = some (.sc (.string s)) := by rw [e]; simp [hj]
        have hjl : j < cvs.length := by
          rw [hs', elen]
          rcases Nat.lt_or_ge j ss.length with h' | h'
          · exact h'
          · simp [List.getElem?_eq_none h'] at hj
        have h2 := List.getElem?_eq_getElem hjl
        have h3 := hx' j _ _ h1 h2
        have h4 := (hr' j _ h2).2 0 (cvs[j]) (by simp [cellsL])
        generalize cvs[j] = cv at h3 h4
        cases h3
        simp [width] at h4
        exact ⟨h4.2, h4.1⟩
      have hpos : 0 < ss.length := by rw [← elen]; simp
      have hb : b < w.heap.size := hk b _ (hcell 0 ss[0] (List.getElem?_eq_getElem hpos)).2
      subst hl
      rw [elen] at hc ⊢
      refine .inl ⟨hent, (hcall b off cap ss sep w (fun j s hj => (hcell j s hj).1) hb (Nat.le_of_ble_eq_true hlt.1) hc (Nat.le_of_ble_eq_true hlt.2)).mono fun e w' ⟨he, hw⟩ => ⟨_, he, ext_same hw, .sc _⟩⟩
  · simp only [Option.some.injEq] at hr; subst hr
    obtain ⟨v0, v1, rfl⟩ := two_array hs
    cases hx 0 _ v0 rfl rfl
    cases hx 1 _ v1 rfl rfl
    refine .inl ⟨hent, (hnone none 0 _ w).mono fun e w' ⟨he, hw⟩ => ⟨_, he, ?_, .sc _⟩⟩
    subst hw; exact ext_same (Below.refl _ _)
  · cases hr
end Go.Lite

namespace Go.Lite
open Go Go.Proofs
set_option maxRecDepth 1000000
set_option linter.unusedVariables false
noncomputable section
def ownT : Tr (List (Nat × Nat)) := (.node 13 [(10, 18)] (.node 8 [(10, 1000), (10, 0)] (.node 7 [(9, 1000), (4, 4)] (.node 6 [(3, 0)] .nil .nil) .nil) (.node 9 [(4, 0)] .nil .nil)) (.node 30 [(65, 781)] (.node 20 [(7, 1000), (7, 0)] (.node 19 [(6, 1000), (12, 781), (34, 781), (43, 781), (50, 781), (53, 781), (60, 781), (66, 781), (73, 781), (76, 781), (80, 781), (86, 781), (91, 781)] .nil .nil) .nil) (.node 44 [(5, 3)] .nil .nil)))
def liveT : Tr (List (Nat × List Nat)) := (.node 30 [(11, [0, 1, 2, 3, 9, 10])] (.node 13 [(9, [0, 3, 6, 10, 48, 49, 50])] (.node 8 [(27, [4, 10, 11, 13, 14, 16, 17, 18]), (19, [4, 10, 11, 13, 14, 16, 17]), (16, [4, 10, 11, 13, 14, 16]), (12, [4, 10, 11]), (5, [4, 5])] (.node 6 [(3, [0, 3, 4])] (.node 5 [(7, [1, 2, 5, 35, 36])] .nil .nil) (.node 7 [(18, [9, 10, 12, 13, 38, 39, 40]), (15, [9, 10, 38, 39, 40]), (5, [4, 19, 20, 21])] .nil .nil)) (.node 10 [(8, [0, 4, 5]), (4, [0, 4])] (.node 9 [(7, [0, 4, 5, 6]), (5, [0, 4, 5])] .nil .nil) (.node 11 [(4, [0, 1, 5])] .nil .nil))) (.node 24 [(22, [1, 8, 63, 64, 65]), (12, [0, 1, 5, 39, 40, 41])] (.node 20 [(3, [0, 1, 5, 6])] (.node 18 [(3, [0, 1, 6, 7, 8])] .nil .nil) (.node 22 [(2, [0, 5, 6, 7])] .nil .nil)) (.node 26 [(2, [0, 3])] (.node 25 [(2, [0, 3])] .nil .nil) (.node 29 [(4, [0, 1, 5])] .nil .nil)))) (.node 68 [(1, [0, 1, 4])] (.node 58 [(2, [2, 4])] (.node 45 [(6, [0, 1, 6, 7])] (.node 37 [(3, [0, 3, 4])] .nil .nil) (.node 46 [(6, [0, 1, 5])] .nil .nil)) (.node 63 [(10, [5, 6, 47, 48, 49])] (.node 61 [(15, [0, 1, 5, 6, 7, 8, 9, 10])] .nil .nil) (.node 65 [(1, [0, 2, 3])] .nil .nil))) (.node 89 [(8, [4, 6, 7, 8]), (3, [0, 4, 5])] (.node 76 [(11, [0, 1, 5, 6, 7, 8, 10]), (5, [0, 1, 5, 6, 7, 8, 9])] (.node 69 [(11, [0, 1, 3, 4, 10, 11, 12, 13, 14, 15, 16]), (18, [0, 1, 3, 4, 10, 11, 12, 13, 17])] .nil .nil) (.node 77 [(2, [1, 2, 10])] .nil .nil)) (.node 96 [(10, [0, 3, 4, 5])] (.node 90 [(36, [1, 8, 9, 10, 11, 12, 13, 99, 100, 101])] .nil .nil) .nil))))
def shutT : Tr (List (Nat × List Nat)) := (.node 30 [(18, [9])] .nil .nil)
def sharedT : Tr Bool := (.node 19 true (.node 17 true .nil .nil) .nil)
def methT : Tr (Nat × List Bool) := .nil
def ownFT : Tr OwnSp := (.node 19 ⟨[1, 0, 0], 0, [some 0]⟩ .nil .nil)
def inlT : Tr Bool := .nil
def joinTab : Tr (List (Nat × Join)) := (.node 22 [(12, ⟨[0, 5, 6, 7], [], [(0, [0])], [2]⟩)] (.node 11 [(20, ⟨[0, 1, 5], [], [(0, [])], [4]⟩)] (.node 5 [(32, ⟨[1, 2, 5, 35, 36], [], [(0, [])], [4]⟩)] .nil .nil) (.node 13 [(40, ⟨[0, 3, 6, 10, 48, 49, 50], [], [(0, [10])], []⟩)] .nil .nil)) (.node 29 [(20, ⟨[0, 1, 5], [], [(0, [])], [4]⟩)] (.node 27 [(54, ⟨[1, 3, 5, 52, 61], [1, 3, 5, 52, 61], [], []⟩), (21, ⟨[1, 3, 4, 5, 52], [1, 3, 5], [(6, [1, 3, 5]), (0, [])], [2]⟩), (27, ⟨[1, 3, 4], [1, 3, 4, 5], [], []⟩), (23, ⟨[1, 3], [1, 3, 4], [], []⟩), (19, ⟨[1], [1, 3], [], []⟩)] .nil .nil) .nil))
def h0 : Hints := { own := fun f t => (ownT.get? f).bind fun l => pairFind l t, live := fun f i => ((liveT.get? f).bind fun l => pairFind l i).getD [], join := fun f i => (joinTab.get? f).bind fun l => pairFind l i, shared := fun f => (sharedT.get? f).getD false, stil := fun f i => ((shutT.get? f).bind fun l => pairFind l i).getD [], meth := fun f => methT.get? f, inl := fun f => (inlT.get? f).getD false, primS := fun f => none, primM := fun g => none, ownF := fun f => ownFT.get? f, primO := fun g => bif Nat.beq g 19 then some (insertPO 0 8) else none, rel := fun f => bif Nat.beq f 19 then true else false }
def hh : Hints := { h0 with prim := fun f => bif Nat.beq f 44 then some (cloneQ 3) else bif Nat.beq f 15 then some (splitQ) else bif Nat.beq f 31 then some (cutQ) else bif Nat.beq f 23 then some (itoaQ) else bif Nat.beq f 24 then some (joinQ) else bif Nat.beq f 51 then some (atoiQ) else none }

end
end Go.Lite

namespace Go.Proofs
open Go.Shelf
def Tryd.lays156_ren : Go.Shelf.Ren := ⟨fun | 156 => 24 | 165 => 39 | 166 => 40 | 169 => 41 | 240 => 55 | 241 => 56 | 276 => 70 | 277 => 71 | n => n, fun | 31 => 49 | 9 => 9 | 3 => 3 | 4 => 4 | 0 => 0 | 20 => 20 | 72 => 79 | 76 => 83 | 70 => 77 | 37 => 76 | 75 => 82 | 127 => 96 | 164 => 110 | 5 => 5 | 80 => 85 | n => n, fun | n => n⟩
theorem Tryd.lays156 : Go.Proofs.Lays.n156 Tryd.prog Tryd.lays156_ren := {
  mixed := by kernel_rfl
  f156 := Tryd.func24.trans (congrArg some (by kernel_rfl))
  f165 := Tryd.func39.trans (congrArg some (by kernel_rfl))
  f166 := Tryd.func40.trans (congrArg some (by kernel_rfl))
  f169 := Tryd.func41.trans (congrArg some (by kernel_rfl))
  f240 := Tryd.func55.trans (congrArg some (by kernel_rfl))
  f241 := Tryd.func56.trans (congrArg some (by kernel_rfl))
  f276 := Tryd.func70.trans (congrArg some (by kernel_rfl))
  f277 := Tryd.func71.trans (congrArg some (by kernel_rfl))
  t0 := Tryd.underlying0
  a0 := Tryd.isAgg0
  z0 := Tryd.sizeOf0
  v0 := Tryd.zeroValue0
  t3 := Tryd.underlying3
  a3 := Tryd.isAgg3
  z3 := Tryd.sizeOf3
  v3 := Tryd.zeroValue3
  t4 := Tryd.underlying4
  a4 := Tryd.isAgg4
  z4 := Tryd.sizeOf4
  v4 := Tryd.zeroValue4
  t9 := Tryd.underlying9
  a9 := Tryd.isAgg9
  z9 := Tryd.sizeOf9
  v9 := Tryd.zeroValue9
  t20 := Tryd.underlying20
  a20 := Tryd.isAgg20
  z20 := Tryd.sizeOf20
  v20 := Tryd.zeroValue20
  t31 := Tryd.underlying49
  a31 := Tryd.isAgg49
  z31 := Tryd.sizeOf49
  v31 := Tryd.zeroValue49
  t37 := Tryd.underlying76
  a37 := Tryd.isAgg76
  z37 := Tryd.sizeOf76
  v37 := Tryd.zeroValue76
  t70 := Tryd.underlying77
  a70 := Tryd.isAgg77
  z70 := Tryd.sizeOf77
  v70 := Tryd.zeroValue77
  t72 := Tryd.underlying79
  a72 := Tryd.isAgg79
  z72 := Tryd.sizeOf79
  v72 := Tryd.zeroValue79
  t75 := Tryd.underlying82
  a75 := Tryd.isAgg82
  z75 := Tryd.sizeOf82
  v75 := Tryd.zeroValue82
  t76 := Tryd.underlying83
  a76 := Tryd.isAgg83
  z76 := Tryd.sizeOf83
  v76 := Tryd.zeroValue83
  t127 := Tryd.underlying96
  a127 := Tryd.isAgg96
  z127 := Tryd.sizeOf96
  v127 := Tryd.zeroValue96
  t164 := Tryd.underlying110
  a164 := Tryd.isAgg110
  z164 := Tryd.sizeOf110
  v164 := Tryd.zeroValue110 }
theorem Tryd.Builder_Extra_156 : Builder.Extra Tryd.prog Tryd.lays156_ren := {
  sizeBuilder := by kernel_rfl
  liesBuilder := by kernel_rfl
  t5 := Tryd.underlying5
  a5 := Tryd.isAgg5
  z5 := Tryd.sizeOf5
  v5 := Tryd.zeroValue5
  infoByte := by kernel_rfl
  cellsByte := by kernel_rfl
  sizeByte := by kernel_rfl
  neB5 := by decide }
open Go.RowKit in
theorem Tryd.strings_Join_none (a : Option Addr) (c : Nat) (sep : ByteArray) (w : World) :
    Calls Tryd.prog 24 #[.slice a 0 c, .string sep] w fun e w' => e = .returned (.string ⟨#[]⟩) ∧ w' = w := Any.strings_Join_none Tryd.lays156 Tryd.Builder_Extra_156 a c sep w
open Go.RowKit in
theorem Tryd.strings_Join (bk o c : Nat) (xs : List ByteArray) (sep : ByteArray) (w : World) (hcells : ∀ (j : Nat) x, xs[j]? = some x → w.cell? ⟨bk, o + j, none⟩ = some (.string x)) (hbk : bk < w.heap.size) (hN : xs.length ≤ 140737488355328) (hcap : xs.length ≤ c) (hlen : (Lib.join (xs.map (·.data.toList)) sep.data.toList).length ≤ 140737488355328) :
    Calls Tryd.prog 24 #[.slice (some ⟨bk, o, none⟩) xs.length c, .string sep] w fun e w' => e = .returned (.string ⟨(Lib.join (xs.map (·.data.toList)) sep.data.toList).toArray⟩) ∧ Below w.heap.size w w' := Any.strings_Join Tryd.lays156 Tryd.Builder_Extra_156 bk o c xs sep w hcells hbk hN hcap hlen
def Tryd.lays172_ren : Go.Shelf.Ren := ⟨fun | 172 => 51 | 244 => 63 | 245 => 64 | 247 => 78 | 279 => 79 | 280 => 80 | 281 => 81 | 282 => 82 | 287 => 90 | 316 => 91 | 171 => 23 | 205 => 92 | 321 => 95 | 322 => 96 | 243 => 38 | 246 => 54 | 283 => 66 | 284 => 67 | 285 => 68 | 286 => 69 | 129 => 84 | 317 => 83 | 318 => 85 | 319 => 86 | 320 => 87 | 337 => 93 | 338 => 94 | n => n, fun | 9 => 9 | 3 => 3 | 75 => 82 | 76 => 83 | 4 => 4 | 5 => 5 | 167 => 115 | 37 => 76 | 0 => 0 | 85 => 116 | 2 => 2 | 168 => 118 | 53 => 105 | 175 => 131 | 46 => 72 | 210 => 135 | 127 => 96 | 145 => 141 | 143 => 139 | 21 => 21 | 171 => 104 | 173 => 108 | 212 => 122 | 51 => 42 | 20 => 20 | 213 => 123 | 232 => 142 | 233 => 143 | 80 => 85 | n => n, fun | 15 => 4 | 16 => 5 | 17 => 1 | 18 => 6 | 19 => 7 | n => n⟩
theorem Tryd.lays172 : Go.Proofs.Lays.n172 Tryd.prog Tryd.lays172_ren := {
  mixed := by kernel_rfl
  f129 := Tryd.func84.trans (congrArg some (by kernel_rfl))
  f171 := Tryd.func23.trans (congrArg some (by kernel_rfl))
  f172 := Tryd.func51.trans (congrArg some (by kernel_rfl))
  f205 := Tryd.func92.trans (congrArg some (by kernel_rfl))
  f243 := Tryd.func38.trans (congrArg some (by kernel_rfl))
  f244 := Tryd.func63.trans (congrArg some (by kernel_rfl))
  f245 := Tryd.func64.trans (congrArg some (by kernel_rfl))
  f246 := Tryd.func54.trans (congrArg some (by kernel_rfl))
  f247 := Tryd.func78.trans (congrArg some (by kernel_rfl))
  f279 := Tryd.func79.trans (congrArg some (by kernel_rfl))
  f280 := Tryd.func80.trans (congrArg some (by kernel_rfl))
  f281 := Tryd.func81.trans (congrArg some (by kernel_rfl))
  f282 := Tryd.func82.trans (congrArg some (by kernel_rfl))
  f283 := Tryd.func66.trans (congrArg some (by kernel_rfl))
  f284 := Tryd.func67.trans (congrArg some (by kernel_rfl))
  f285 := Tryd.func68.trans (congrArg some (by kernel_rfl))
  f286 := Tryd.func69.trans (congrArg some (by kernel_rfl))
  f287 := Tryd.func90.trans (congrArg some (by kernel_rfl))
  f316 := Tryd.func91.trans (congrArg some (by kernel_rfl))
  f317 := Tryd.func83.trans (congrArg some (by kernel_rfl))
  f318 := Tryd.func85.trans (congrArg some (by kernel_rfl))
  f319 := Tryd.func86.trans (congrArg some (by kernel_rfl))
  f320 := Tryd.func87.trans (congrArg some (by kernel_rfl))
  f321 := Tryd.func95.trans (congrArg some (by kernel_rfl))
  f322 := Tryd.func96.trans (congrArg some (by kernel_rfl))
  f337 := Tryd.func93.trans (congrArg some (by kernel_rfl))
  f338 := Tryd.func94.trans (congrArg some (by kernel_rfl))
  t0 := Tryd.underlying0
  a0 := Tryd.isAgg0
  z0 := Tryd.sizeOf0
  v0 := Tryd.zeroValue0
  t2 := Tryd.underlying2
  a2 := Tryd.isAgg2
  z2 := Tryd.sizeOf2
  v2 := Tryd.zeroValue2
  t3 := Tryd.underlying3
  a3 := Tryd.isAgg3
  z3 := Tryd.sizeOf3
  v3 := Tryd.zeroValue3
  t4 := Tryd.underlying4
  a4 := Tryd.isAgg4
  z4 := Tryd.sizeOf4
  v4 := Tryd.zeroValue4
  t5 := Tryd.underlying5
  a5 := Tryd.isAgg5
  z5 := Tryd.sizeOf5
  v5 := Tryd.zeroValue5
  t9 := Tryd.underlying9
  a9 := Tryd.isAgg9
  z9 := Tryd.sizeOf9
  v9 := Tryd.zeroValue9
  t20 := Tryd.underlying20
  a20 := Tryd.isAgg20
  z20 := Tryd.sizeOf20
  v20 := Tryd.zeroValue20
  t21 := Tryd.underlying21
  a21 := Tryd.isAgg21
  z21 := Tryd.sizeOf21
  v21 := Tryd.zeroValue21
  t37 := Tryd.underlying76
  a37 := Tryd.isAgg76
  z37 := Tryd.sizeOf76
  v37 := Tryd.zeroValue76
  t46 := Tryd.underlying72
  a46 := Tryd.isAgg72
  z46 := Tryd.sizeOf72
  v46 := Tryd.zeroValue72
  t51 := Tryd.underlying42
  a51 := Tryd.isAgg42
  z51 := Tryd.sizeOf42
  v51 := Tryd.zeroValue42
  t53 := Tryd.underlying105
  a53 := Tryd.isAgg105
  z53 := Tryd.sizeOf105
  v53 := Tryd.zeroValue105
  t75 := Tryd.underlying82
  a75 := Tryd.isAgg82
  z75 := Tryd.sizeOf82
  v75 := Tryd.zeroValue82
  t76 := Tryd.underlying83
  a76 := Tryd.isAgg83
  z76 := Tryd.sizeOf83
  v76 := Tryd.zeroValue83
  t85 := Tryd.underlying116
  a85 := Tryd.isAgg116
  z85 := Tryd.sizeOf116
  v85 := Tryd.zeroValue116
  t127 := Tryd.underlying96
  a127 := Tryd.isAgg96
  z127 := Tryd.sizeOf96
  v127 := Tryd.zeroValue96
  t143 := Tryd.underlying139
  a143 := Tryd.isAgg139
  z143 := Tryd.sizeOf139
  v143 := Tryd.zeroValue139
  t145 := Tryd.underlying141
  a145 := Tryd.isAgg141
  z145 := Tryd.sizeOf141
  v145 := Tryd.zeroValue141
  t167 := Tryd.underlying115
  a167 := Tryd.isAgg115
  z167 := Tryd.sizeOf115
  v167 := Tryd.zeroValue115
  t168 := Tryd.underlying118
  a168 := Tryd.isAgg118
  z168 := Tryd.sizeOf118
  v168 := Tryd.zeroValue118
  t171 := Tryd.underlying104
  a171 := Tryd.isAgg104
  z171 := Tryd.sizeOf104
  v171 := Tryd.zeroValue104
  t173 := Tryd.underlying108
  a173 := Tryd.isAgg108
  z173 := Tryd.sizeOf108
  v173 := Tryd.zeroValue108
  t175 := Tryd.underlying131
  a175 := Tryd.isAgg131
  z175 := Tryd.sizeOf131
  v175 := Tryd.zeroValue131
  t210 := Tryd.underlying135
  a210 := Tryd.isAgg135
  z210 := Tryd.sizeOf135
  v210 := Tryd.zeroValue135
  t212 := Tryd.underlying122
  a212 := Tryd.isAgg122
  z212 := Tryd.sizeOf122
  v212 := Tryd.zeroValue122
  t213 := Tryd.underlying123
  a213 := Tryd.isAgg123
  z213 := Tryd.sizeOf123
  t232 := Tryd.underlying142
  a232 := Tryd.isAgg142
  z232 := Tryd.sizeOf142
  v232 := Tryd.zeroValue142
  t233 := Tryd.underlying143
  a233 := Tryd.isAgg143
  z233 := Tryd.sizeOf143
  v233 := Tryd.zeroValue143
  g15 := by kernel_rfl
  g16 := by kernel_rfl
  g17 := by kernel_rfl
  g18 := by kernel_rfl
  g19 := by kernel_rfl }
open Go.RowKit in
theorem Tryd.strconv_Atoi (s : ByteArray) (n : Int) (hl : s.size ≤ 18) (h : Lib.atoi s.data.toList = some n) (w : World) :
    Calls Tryd.prog 51 #[.string s] w fun e w' => e = .returned (.tuple #[.int .i64 n, .nilIface]) ∧ ∃ t, w' = Lib.bytesWorld w 5 t := Any.strconv_Atoi Tryd.lays172 s n hl h w
def Tryd.lays171_ren : Go.Shelf.Ren := ⟨fun | 171 => 23 | 243 => 38 | 246 => 54 | 283 => 66 | 284 => 67 | 285 => 68 | 286 => 69 | 129 => 84 | 317 => 83 | 318 => 85 | 319 => 86 | 320 => 87 | 337 => 93 | 338 => 94 | n => n, fun | 3 => 3 | 9 => 9 | 2 => 2 | 4 => 4 | 171 => 104 | 0 => 0 | 53 => 105 | 37 => 76 | 5 => 5 | 173 => 108 | 212 => 122 | 51 => 42 | 20 => 20 | 213 => 123 | 46 => 72 | 232 => 142 | 233 => 143 | n => n, fun | 17 => 1 | 18 => 6 | 19 => 7 | n => n⟩
theorem Tryd.lays171 : Go.Proofs.Lays.n171 Tryd.prog Tryd.lays171_ren := {
  mixed := by kernel_rfl
  f129 := Tryd.func84.trans (congrArg some (by kernel_rfl))
  f171 := Tryd.func23.trans (congrArg some (by kernel_rfl))
  f243 := Tryd.func38.trans (congrArg some (by kernel_rfl))
  f246 := Tryd.func54.trans (congrArg some (by kernel_rfl))
  f283 := Tryd.func66.trans (congrArg some (by kernel_rfl))
  f284 := Tryd.func67.trans (congrArg some (by kernel_rfl))
  f285 := Tryd.func68.trans (congrArg some (by kernel_rfl))
  f286 := Tryd.func69.trans (congrArg some (by kernel_rfl))
  f317 := Tryd.func83.trans (congrArg some (by kernel_rfl))
  f318 := Tryd.func85.trans (congrArg some (by kernel_rfl))
  f319 := Tryd.func86.trans (congrArg some (by kernel_rfl))
  f320 := Tryd.func87.trans (congrArg some (by kernel_rfl))
  f337 := Tryd.func93.trans (congrArg some (by kernel_rfl))
  f338 := Tryd.func94.trans (congrArg some (by kernel_rfl))
  t0 := Tryd.underlying0
  a0 := Tryd.isAgg0
  z0 := Tryd.sizeOf0
  v0 := Tryd.zeroValue0
  t2 := Tryd.underlying2
  a2 := Tryd.isAgg2
  z2 := Tryd.sizeOf2
  v2 := Tryd.zeroValue2
  t3 := Tryd.underlying3
  a3 := Tryd.isAgg3
  z3 := Tryd.sizeOf3
  v3 := Tryd.zeroValue3
  t4 := Tryd.underlying4
  a4 := Tryd.isAgg4
  z4 := Tryd.sizeOf4
  v4 := Tryd.zeroValue4
  t5 := Tryd.underlying5
  a5 := Tryd.isAgg5
  z5 := Tryd.sizeOf5
  v5 := Tryd.zeroValue5
  t9 := Tryd.underlying9
  a9 := Tryd.isAgg9
  z9 := Tryd.sizeOf9
  v9 := Tryd.zeroValue9
  t20 := Tryd.underlying20
  a20 := Tryd.isAgg20
  z20 := Tryd.sizeOf20
  v20 := Tryd.zeroValue20
  t37 := Tryd.underlying76
  a37 := Tryd.isAgg76
  z37 := Tryd.sizeOf76
  v37 := Tryd.zeroValue76
  t46 := Tryd.underlying72
  a46 := Tryd.isAgg72
  z46 := Tryd.sizeOf72
  v46 := Tryd.zeroValue72
  t51 := Tryd.underlying42
  a51 := Tryd.isAgg42
  z51 := Tryd.sizeOf42
  v51 := Tryd.zeroValue42
  t53 := Tryd.underlying105
  a53 := Tryd.isAgg105
  z53 := Tryd.sizeOf105
  v53 := Tryd.zeroValue105
  t171 := Tryd.underlying104
  a171 := Tryd.isAgg104
  z171 := Tryd.sizeOf104
  v171 := Tryd.zeroValue104
  t173 := Tryd.underlying108
  a173 := Tryd.isAgg108
  z173 := Tryd.sizeOf108
  v173 := Tryd.zeroValue108
  t212 := Tryd.underlying122
  a212 := Tryd.isAgg122
  z212 := Tryd.sizeOf122
  v212 := Tryd.zeroValue122
  t213 := Tryd.underlying123
  a213 := Tryd.isAgg123
  z213 := Tryd.sizeOf123
  t232 := Tryd.underlying142
  a232 := Tryd.isAgg142
  z232 := Tryd.sizeOf142
  v232 := Tryd.zeroValue142
  t233 := Tryd.underlying143
  a233 := Tryd.isAgg143
  z233 := Tryd.sizeOf143
  v233 := Tryd.zeroValue143
  g17 := by kernel_rfl
  g18 := by kernel_rfl
  g19 := by kernel_rfl }
open Go.RowKit Go.Sort Go.Lib in
theorem Tryd.strconv_Itoa_small (i : Nat) (hi : i < 100) (w : World) :
    Calls Tryd.prog 23 #[.int .i64 i] w fun e w' => e = .returned (.string ⟨(Lib.decDigits i).toArray⟩) ∧ w' = w := Any.strconv_Itoa_small Tryd.lays171 i hi w
def Tryd.lays145_ren : Go.Shelf.Ren := ⟨fun | 145 => 31 | 220 => 48 | 219 => 61 | 217 => 73 | 225 => 74 | 224 => 75 | 267 => 76 | 266 => 88 | 314 => 89 | n => n, fun | 9 => 9 | 4 => 4 | 59 => 69 | 3 => 3 | 5 => 5 | 46 => 72 | 146 => 129 | 51 => 42 | n => n, fun | 1 => 0 | n => n⟩
theorem Tryd.lays145 : Go.Proofs.Lays.n145 Tryd.prog Tryd.lays145_ren := {
  mixed := by kernel_rfl
  f145 := Tryd.func31.trans (congrArg some (by kernel_rfl))
  f217 := Tryd.func73.trans (congrArg some (by kernel_rfl))
  f219 := Tryd.func61.trans (congrArg some (by kernel_rfl))
  f220 := Tryd.func48.trans (congrArg some (by kernel_rfl))
  f224 := Tryd.func75.trans (congrArg some (by kernel_rfl))
  f225 := Tryd.func74.trans (congrArg some (by kernel_rfl))
  f266 := Tryd.func88.trans (congrArg some (by kernel_rfl))
  f267 := Tryd.func76.trans (congrArg some (by kernel_rfl))
  f314 := Tryd.func89.trans (congrArg some (by kernel_rfl))
  t3 := Tryd.underlying3
  a3 := Tryd.isAgg3
  z3 := Tryd.sizeOf3
  v3 := Tryd.zeroValue3
  t4 := Tryd.underlying4
  a4 := Tryd.isAgg4
  z4 := Tryd.sizeOf4
  v4 := Tryd.zeroValue4
  t5 := Tryd.underlying5
  a5 := Tryd.isAgg5
  z5 := Tryd.sizeOf5
  v5 := Tryd.zeroValue5
  t9 := Tryd.underlying9
  a9 := Tryd.isAgg9
  z9 := Tryd.sizeOf9
  v9 := Tryd.zeroValue9
  t46 := Tryd.underlying72
  a46 := Tryd.isAgg72
  z46 := Tryd.sizeOf72
  v46 := Tryd.zeroValue72
  t51 := Tryd.underlying42
  a51 := Tryd.isAgg42
  z51 := Tryd.sizeOf42
  v51 := Tryd.zeroValue42
  t59 := Tryd.underlying69
  a59 := Tryd.isAgg69
  z59 := Tryd.sizeOf69
  v59 := Tryd.zeroValue69
  t146 := Tryd.underlying129
  a146 := Tryd.isAgg129
  z146 := Tryd.sizeOf129
  v146 := Tryd.zeroValue129
  g1 := by kernel_rfl }
open Go.RowKit Go.Lib in
theorem Tryd.strings_Cut (s sep : ByteArray) (m : Int) (w : World) (hs : s.size < 4294967281) (hm : w.cell? ⟨0, 0, none⟩ = some (.int .i64 m)) :
    Calls Tryd.prog 31 #[.string s, .string sep] w fun e w' => e = .returned (.tuple #[.string ⟨(Lib.cut s.data.toList sep.data.toList).1.toArray⟩, .string ⟨(Lib.cut s.data.toList sep.data.toList).2.1.toArray⟩, .bool (Lib.cut s.data.toList sep.data.toList).2.2]) ∧ ∃ n, w' = w.drewN n := Any.strings_Cut Tryd.lays145 s sep m w hs hm
def Tryd.lays146_ren : Go.Shelf.Ren := ⟨fun | 146 => 15 | 221 => 30 | 268 => 45 | 138 => 46 | 143 => 47 | 195 => 58 | 197 => 59 | 218 => 60 | 219 => 61 | 260 => 72 | 217 => 73 | 225 => 74 | 224 => 75 | 267 => 76 | 266 => 88 | 314 => 89 | n => n, fun | 9 => 9 | 31 => 49 | 3 => 3 | 4 => 4 | 0 => 0 | 105 => 98 | 21 => 21 | 5 => 5 | 46 => 72 | 119 => 125 | 139 => 128 | 138 => 127 | 146 => 129 | 51 => 42 | n => n, fun | 1 => 0 | 3 => 2 | 4 => 3 | n => n⟩
theorem Tryd.lays146 : Go.Proofs.Lays.n146 Tryd.prog Tryd.lays146_ren := {
  mixed := by kernel_rfl
  f138 := Tryd.func46.trans (congrArg some (by kernel_rfl))
  f143 := Tryd.func47.trans (congrArg some (by kernel_rfl))
  f146 := Tryd.func15.trans (congrArg some (by kernel_rfl))
  f195 := Tryd.func58.trans (congrArg some (by kernel_rfl))
  f197 := Tryd.func59.trans (congrArg some (by kernel_rfl))
  f217 := Tryd.func73.trans (congrArg some (by kernel_rfl))
  f218 := Tryd.func60.trans (congrArg some (by kernel_rfl))
  f219 := Tryd.func61.trans (congrArg some (by kernel_rfl))
  f221 := Tryd.func30.trans (congrArg some (by kernel_rfl))
  f224 := Tryd.func75.trans (congrArg some (by kernel_rfl))
  f225 := Tryd.func74.trans (congrArg some (by kernel_rfl))
  f260 := Tryd.func72.trans (congrArg some (by kernel_rfl))
  f266 := Tryd.func88.trans (congrArg some (by kernel_rfl))
  f267 := Tryd.func76.trans (congrArg some (by kernel_rfl))
  f268 := Tryd.func45.trans (congrArg some (by kernel_rfl))
  f314 := Tryd.func89.trans (congrArg some (by kernel_rfl))
  t0 := Tryd.underlying0
  a0 := Tryd.isAgg0
  z0 := Tryd.sizeOf0
  v0 := Tryd.zeroValue0
  t3 := Tryd.underlying3
  a3 := Tryd.isAgg3
  z3 := Tryd.sizeOf3
  v3 := Tryd.zeroValue3
  t4 := Tryd.underlying4
  a4 := Tryd.isAgg4
  z4 := Tryd.sizeOf4
  v4 := Tryd.zeroValue4
  t5 := Tryd.underlying5
  a5 := Tryd.isAgg5
  z5 := Tryd.sizeOf5
  v5 := Tryd.zeroValue5
  t9 := Tryd.underlying9
  a9 := Tryd.isAgg9
  z9 := Tryd.sizeOf9
  v9 := Tryd.zeroValue9
  t21 := Tryd.underlying21
  a21 := Tryd.isAgg21
  z21 := Tryd.sizeOf21
  v21 := Tryd.zeroValue21
  t31 := Tryd.underlying49
  a31 := Tryd.isAgg49
  z31 := Tryd.sizeOf49
  v31 := Tryd.zeroValue49
  t46 := Tryd.underlying72
  a46 := Tryd.isAgg72
  z46 := Tryd.sizeOf72
  v46 := Tryd.zeroValue72
  t51 := Tryd.underlying42
  a51 := Tryd.isAgg42
  z51 := Tryd.sizeOf42
  v51 := Tryd.zeroValue42
  t105 := Tryd.underlying98
  a105 := Tryd.isAgg98
  z105 := Tryd.sizeOf98
  v105 := Tryd.zeroValue98
  t119 := Tryd.underlying125
  a119 := Tryd.isAgg125
  z119 := Tryd.sizeOf125
  t138 := Tryd.underlying127
  a138 := Tryd.isAgg127
  z138 := Tryd.sizeOf127
  v138 := Tryd.zeroValue127
  t139 := Tryd.underlying128
  a139 := Tryd.isAgg128
  z139 := Tryd.sizeOf128
  v139 := Tryd.zeroValue128
  t146 := Tryd.underlying129
  a146 := Tryd.isAgg129
  z146 := Tryd.sizeOf129
  v146 := Tryd.zeroValue129
  g1 := by kernel_rfl
  g3 := by kernel_rfl
  g4 := by kernel_rfl }
open Go.RowKit Go.Lib in
theorem Tryd.strings_Split (s sep : ByteArray) (m : Int) (w : World) (hs : s.size < 4294967281) (hm : w.cell? ⟨0, 0, none⟩ = some (.int .i64 m)) (h1 : 1 ≤ sep.size) :
    Calls Tryd.prog 15 #[.string s, .string sep] w fun e w' =>
      e = .returned (.slice (some ⟨w.heap.size, 0, none⟩) (Lib.countB s sep + 1) (Lib.countB s sep + 1)) ∧ w' = w.alloc (.cells ((Lib.splitB sep 0 (Lib.countB s sep) s).map Value.string).toArray 9) := Any.strings_Split Tryd.lays146 (by kernel_rfl) s sep m w hs hm h1
open Go.Lite
def insRen : Ren := ⟨fun | 22 => 19 | 29 => 35 | 30 => 36 | n => n, fun | 24 => 22 | 9 => 3 | 3 => 3 | 4 => 4 | 0 => 0 | n => n, fun | n => n⟩
theorem insLay : InsLay Tryd.prog insRen 1 8 (.int .i64 0) := {
  mixed := by kernel_rfl
  f22 := ⟨Tryd.f19.name, by decide, Tryd.func19.trans (congrArg some (by kernel_rfl))⟩
  x29 := ⟨Tryd.f35, Tryd.func35, by decide, by kernel_rfl, by kernel_rfl, by kernel_rfl⟩
  t0 := Tryd.underlying0
  a0 := Tryd.isAgg0
  z0 := Tryd.sizeOf0
  v0 := Tryd.zeroValue0
  t3 := Tryd.underlying3
  a3 := Tryd.isAgg3
  z3 := Tryd.sizeOf3
  v3 := Tryd.zeroValue3
  t4 := Tryd.underlying4
  a4 := Tryd.isAgg4
  z4 := Tryd.sizeOf4
  v4 := Tryd.zeroValue4
  z9 := Tryd.sizeOf3
  t24 := Tryd.underlying22
  a24 := Tryd.isAgg22
  z24 := Tryd.sizeOf22
  v24 := Tryd.zeroValue22
  i9 := by kernel_rfl
  zk := by kernel_rfl
  k0 := by decide }
theorem ins19 : InsertsP Tryd.prog 19 0 8 := ⟨⟨_, Tryd.func19, by kernel_rfl, by kernel_rfl⟩, by decide, insRen, _, insLay, rfl⟩
end Go.Proofs

namespace Go.Lite
open Go Go.Proofs
set_option linter.unusedVariables false
set_option linter.unusedSimpArgs false
set_option maxRecDepth 100000
noncomputable abbrev kk (L n : Nat) : Kallee := ⟨callP Tryd.prog hh L n, callS Tryd.prog hh L n, callM Tryd.prog hh L n, callO Tryd.prog hh L n, hh.calmB, hh.primS⟩
theorem callP_of' {L n : Nat} {f : FuncId} {args : List PV} {x : PV} (hn : 1 ≤ n) (hp : hh.prim f = none) (he : bodyPR Tryd.prog (kk L n) hh L f args = some x) : callP Tryd.prog hh L (n + 1) f args = some x := by
  obtain ⟨k, rfl⟩ : ∃ k, n = k + 1 := ⟨n - 1, by omega⟩
  exact callP_of hp he
theorem callD_t {cp : FuncId → List PV → Option PV} {g : FuncId} {a b xs : List PV} {r : PV} (h : cp g (a ++ xs ++ b) = some r) (ht : r.roFree = true) : callD cp (.clo g a b) xs 1 = some r := by
  simp only [callD, h, okK, okAns, ht]; rfl
end Go.Lite

namespace Go.Lite
open Go Go.Proofs
set_option linter.unusedVariables false
set_option linter.unusedSimpArgs false
set_option maxRecDepth 100000
theorem tidyTry : TidyF Tryd.prog := tidyF_of (by kernel_rfl)
end Go.Lite

namespace Go.Lite
open Go Go.Proofs
set_option linter.unusedVariables false
set_option linter.unusedSimpArgs false
set_option maxRecDepth 100000
theorem ent15 : Entered Tryd.prog 15 := ⟨_, Tryd.func15, by kernel_rfl, by kernel_rfl⟩
theorem ent31 : Entered Tryd.prog 31 := ⟨_, Tryd.func31, by kernel_rfl, by kernel_rfl⟩
theorem ent23 : Entered Tryd.prog 23 := ⟨_, Tryd.func23, by kernel_rfl, by kernel_rfl⟩
theorem ent24 : Entered Tryd.prog 24 := ⟨_, Tryd.func24, by kernel_rfl, by kernel_rfl⟩
theorem ent51 : Entered Tryd.prog 51 := ⟨_, Tryd.func51, by kernel_rfl, by kernel_rfl⟩
theorem cuts31 : CutsP Tryd.prog 31 0 := ⟨ent31, fun s sep m w hs hm => Tryd.strings_Cut s sep m w hs hm⟩
theorem splits15 : SplitsP Tryd.prog 15 0 := ⟨ent15, 9, fun s sep m w hs hm h1 => Tryd.strings_Split s sep m w hs hm h1⟩
theorem itoas23 : ItoasP Tryd.prog 23 := ⟨ent23, fun i w hi => Tryd.strconv_Itoa_small i hi w⟩
theorem joins24 : JoinsP Tryd.prog 24 := ⟨ent24, fun a c sep w => Tryd.strings_Join_none a c sep w, fun bk o c xs sep w hcells hbk hN hcap hlen => Tryd.strings_Join bk o c xs sep w hcells hbk hN hcap hlen⟩
theorem atois51 : AtoisP Tryd.prog 51 := ⟨ent51, 5, fun s n w hl h => Tryd.strconv_Atoi s n hl h w⟩
theorem primsO_hh : PrimsOOK Tryd.prog hh.ownF hh.primO := by
  intro g q sp h hsp
  simp only [hh, h0] at h
  cases hg : Nat.beq g 19 with
  | true =>
    rw [hg] at h
    simp only [cond_true, Option.some.injEq] at h
    subst h
    have : g = 19 := Nat.eq_of_beq_eq_true hg
    subst this
    have : sp = ⟨[1, 0, 0], 0, [some 0]⟩ := by
      have h1 : hh.ownF 19 = some ⟨[1, 0, 0], 0, [some 0]⟩ := by kernel_rfl
      rw [h1] at hsp; cases hsp; rfl
    subst this
    intro cp _ os r hq X B w K m vs hS hd hs hx
    exact insert_ok ins19 cp os r hq X B w K m vs hS hd hs hx
  | false =>
    rw [hg] at h
    simp at h
theorem s33' : SlTy Tryd.prog 33 90 3 16 := .of (by kernel_rfl) (by kernel_rfl) (by kernel_rfl) (by kernel_rfl) (by kernel_rfl) (by kernel_rfl)
namespace Cl
def ownT : Tr (List (Nat × Nat)) := (.node 13 [(10, 18)] (.node 8 [(10, 1000), (10, 0)] (.node 7 [(4, 4)] (.node 6 [(3, 0)] .nil .nil) .nil) (.node 9 [(4, 0)] .nil .nil)) (.node 30 [(65, 781)] (.node 20 [(7, 1000), (7, 0)] .nil .nil) (.node 44 [(5, 3)] .nil .nil)))
def liveT : Tr (List (Nat × List Nat)) := (.node 30 [(11, [0, 1, 2, 3, 9, 10])] (.node 13 [(9, [0, 3, 6, 10, 48, 49, 50])] (.node 8 [(27, [4, 10, 11, 13, 14, 16, 17, 18]), (19, [4, 10, 11, 13, 14, 16, 17]), (16, [4, 10, 11, 13, 14, 16]), (12, [4, 10, 11]), (5, [4, 5])] (.node 6 [(3, [0, 3, 4])] (.node 5 [(7, [1, 2, 5, 35, 36])] .nil .nil) (.node 7 [(18, [9, 10, 12, 13, 38, 39, 40]), (15, [9, 10, 38, 39, 40]), (5, [4, 19, 20, 21])] .nil .nil)) (.node 10 [(8, [0, 4, 5]), (4, [0, 4])] (.node 9 [(7, [0, 4, 5, 6]), (5, [0, 4, 5])] .nil .nil) (.node 11 [(4, [0, 1, 5])] .nil .nil))) (.node 24 [(22, [1, 8, 63, 64, 65]), (12, [0, 1, 5, 39, 40, 41])] (.node 20 [(3, [0, 1, 5, 6])] (.node 18 [(3, [0, 1, 6, 7, 8])] .nil .nil) (.node 22 [(2, [0, 5, 6, 7])] .nil .nil)) (.node 26 [(2, [0, 3])] (.node 25 [(2, [0, 3])] .nil .nil) (.node 29 [(4, [0, 1, 5])] .nil .nil)))) (.node 68 [(1, [0, 1, 4])] (.node 58 [(2, [2, 4])] (.node 45 [(6, [0, 1, 6, 7])] (.node 37 [(3, [0, 3, 4])] .nil .nil) (.node 46 [(6, [0, 1, 5])] .nil .nil)) (.node 63 [(10, [5, 6, 47, 48, 49])] (.node 61 [(15, [0, 1, 5, 6, 7, 8, 9, 10])] .nil .nil) (.node 65 [(1, [0, 2, 3])] .nil .nil))) (.node 89 [(8, [4, 6, 7, 8]), (3, [0, 4, 5])] (.node 76 [(11, [0, 1, 5, 6, 7, 8, 10]), (5, [0, 1, 5, 6, 7, 8, 9])] (.node 69 [(11, [0, 1, 3, 4, 10, 11, 12, 13, 14, 15, 16]), (18, [0, 1, 3, 4, 10, 11, 12, 13, 17])] .nil .nil) (.node 77 [(2, [1, 2, 10])] .nil .nil)) (.node 96 [(10, [0, 3, 4, 5])] (.node 90 [(36, [1, 8, 9, 10, 11, 12, 13, 99, 100, 101])] .nil .nil) .nil))))
def shutT : Tr (List (Nat × List Nat)) := (.node 30 [(18, [9])] .nil .nil)
def sharedT : Tr Bool := .nil
def methT : Tr (Nat × List Bool) := .nil
def ownFT : Tr OwnSp := .nil
def inlT : Tr Bool := .nil
def joinTab : Tr (List (Nat × Join)) := .nil
def h0 : Hints := { own := fun f t => (ownT.get? f).bind fun l => pairFind l t, live := fun f i => ((liveT.get? f).bind fun l => pairFind l i).getD [], join := fun f i => (joinTab.get? f).bind fun l => pairFind l i, shared := fun f => (sharedT.get? f).getD false, stil := fun f i => ((shutT.get? f).bind fun l => pairFind l i).getD [], meth := fun f => methT.get? f, inl := fun f => (inlT.get? f).getD false, primS := fun f => none, primM := fun g => none, ownF := fun f => ownFT.get? f, primO := fun g => none }
def hh : Hints := { h0 with prim := fun f => none }
noncomputable def d44_0 (C : Kallee) (L : Nat)  (v0 : PV) : Option PV := (ob (binPV Tryd.prog .eql 33 (.tmp 3) (.const (.slice none 0 0)) v0 (.sc (.slice none 0 0))) fun v102 => (cb v102 (some (.sc (.slice none 0 0))) (oxs (buildXs Tryd.prog 33 3 0 []) fun x103 => (oxs (appendTo Tryd.prog 33 33 3 x103 v0) fun x104 => (some (.list 3 false x104))))))
theorem e44_0 (C : Kallee) (L : Nat) (v0 : PV) : execR Tryd.prog C h0 L 44 (cAt (bodyOf Tryd.f44) []) (Env.ofArgs [(.pv v0)] 0 .nil) [] (endP Tryd.prog Tryd.f44) = d44_0 C L v0 := by kernel_rfl
theorem r44 (C : Kallee) (L : Nat) (v0 : PV) : bodyPR Tryd.prog C h0 L 44 [v0] = d44_0 C L v0 := Eq.trans (bodyPR_eq (c := cAt (bodyOf Tryd.f44) []) [v0] Tryd.func44 (by kernel_rfl) (by kernel_rfl)) (e44_0 C L v0)
end Cl
noncomputable abbrev kz : Kallee := ⟨callP Tryd.prog Cl.h0 1 1, callS Tryd.prog Cl.h0 1 1, callM Tryd.prog Cl.h0 1 1, callO Tryd.prog Cl.h0 1 1, Cl.h0.calmB, Cl.h0.primS⟩
theorem kz_ok : KOK Tryd.prog kz := call_sound tidyTry (fun g q h => by simp [Cl.h0] at h) (fun g q h => by simp [Cl.h0] at h) (fun g q h => by simp [Cl.h0] at h) (fun g q sp h => by simp [Cl.h0] at h) 1
theorem kz_is : KIs Tryd.prog Cl.h0 1 kz := kis Tryd.prog Cl.h0 1 0
theorem nil33 : buildXs Tryd.prog 33 3 0 [] = some [] := by kernel_rfl
theorem eqn33 (x y : Operand) (c : Bool) (a : PV) (xs : List PV) : binPV Tryd.prog .eql 33 x y (.list 3 c (a :: xs)) (.sc (.slice none 0 0)) = some (.sc (.bool false)) := s33'.eqNil
theorem clone44 : PureOK Tryd.prog fun g args => if g = 44 then cloneQ 3 args else none := by
  refine clone_ok (C := kz) (h := Cl.h0) (L := 1) tidyTry kz_ok (fun c x xs hl => ?_) ?_ fun a c => ?_
  · refine bodyPR_imp kz_is ?_
    rw [Cl.r44]
    have h := s33'.appTo s33' (d := .list 3 c (x :: xs)) (xs := []) (ys := x :: xs) .list (by simp at hl ⊢; omega)
    simp only [Cl.d44_0, eqn33, ob_some, cb_bool, Bool.false_eq_true, if_false, nil33, oxs_some, h, List.nil_append]
  · refine bodyPR_imp kz_is ?_
    rw [Cl.r44]; kernel_rfl
  · refine bodyPR_imp kz_is ?_
    rw [Cl.r44]; kernel_rfl
theorem prims_step {P : Program} {q : FuncId → Option (List PV → Option PV)} {k : FuncId} {Q : List PV → Option PV} (hk : PureOK P fun g args => if g = k then Q args else none) (hr : PrimsOK P q) : PrimsOK P fun f => bif Nat.beq f k then some Q else q f := by
  intro g Q' h
  simp only at h
  cases hg : Nat.beq g k with
  | false => rw [hg] at h; exact hr g Q' h
  | true =>
    rw [hg] at h
    simp only [cond_true, Option.some.injEq] at h
    subst h
    have : g = k := Nat.eq_of_beq_eq_true hg
    subst this
    exact hk
theorem prims_hh : PrimsOK Tryd.prog hh.prim :=
  prims_step clone44 (prims_step (split_ok splits15 (by decide)) (prims_step (cut_ok cuts31 (by decide)) (prims_step (itoa_ok itoas23) (prims_step (join_ok joins24) (prims_step (atoi_ok atois51) fun g q h => by cases h)))))
theorem primsS_hh : PrimsSOK Tryd.prog hh.primS := fun g q h => by simp [hh, h0] at h
theorem primsM_hh : PrimsMOK Tryd.prog hh.primM := fun g q h => by simp [hh, h0] at h
theorem gl_of {W : World} (h2 : ∀ (i : Nat) v, ((globs.lookup 2).getD [])[i]? = some v → W.cell? ⟨2, i, none⟩ = some v)
    (h3 : ∀ (i : Nat) v, ((globs.lookup 3).getD [])[i]? = some v → W.cell? ⟨3, i, none⟩ = some v) (h1 : ∃ n, W.cell? ⟨0, 0, none⟩ = some (.int .i64 n)) : Gl W.heap.size W := by
  have hs : ∀ g i v, W.cell? ⟨g, i, none⟩ = some v → g < W.heap.size := fun g i v h => by
    unfold World.cell? at h
    rcases Nat.lt_or_ge g W.heap.size with h' | h'
    · exact h'
    · rw [Array.getElem?_eq_none h'] at h; simp at h
  refine ⟨fun g vs hg => ?_, fun g hg => ?_⟩
  · have hk : g = 2 ∨ g = 3 := by
      by_cases a5 : g = 2
      · exact .inl a5
      by_cases a6 : g = 3
      · exact .inr a6
      · simp [globs, List.lookup, a5, a6, beq_eq_false_iff_ne.2 a5, beq_eq_false_iff_ne.2 a6] at hg
    rcases hk with rfl | rfl
    · rw [hg] at h2
      have hne : 0 < vs.length := by simp [globs, List.lookup] at hg; subst hg; decide +kernel
      exact ⟨hs _ _ _ (h2 0 vs[0] (by simp)), h2⟩
    · rw [hg] at h3
      have hne : 0 < vs.length := by simp [globs, List.lookup] at hg; subst hg; decide +kernel
      exact ⟨hs _ _ _ (h3 0 vs[0] (by simp)), h3⟩
  · simp only [globInts, List.mem_singleton] at hg; subst hg
    obtain ⟨n, hn⟩ := h1
    exact ⟨hs _ _ _ hn, n, hn⟩
end Go.Lite
