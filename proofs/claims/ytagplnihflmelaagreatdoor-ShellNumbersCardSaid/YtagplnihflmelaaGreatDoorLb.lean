import Derived.Test.YtagplnihflmelaaGreatDoorLa
import Derived.Laws.MakeOwn
import Derived.Laws.Append
import Derived.Laws.AppendOwn
set_option linter.unusedVariables false
set_option linter.unusedSimpArgs false

namespace Go.Lite
open Go
open Go.RowKit (Below)

theorem firm_rel {B : Nat} {X : Nat} {w : World} {K : Keep} {m : Map} {S : Store} (hS : SR X B w K m S) :
    ∀ (n : Nat) (v : AV) (d : PV) (vv : Value), firm S n v = some d → VR X w K m v vv → PVR X w K d vv := by
  intro n
  induction n with
  | zero => intro v d vv h; simp [firm] at h
  | succ n ih =>
    have many : ∀ {cs : List AV} {ds : List PV}, cs.mapM (firm S n) = some ds → ∀ {us : Array Value}, (∀ (i : Nat) (c : AV) (v : Value), cs[i]? = some c → us[i]? = some v → VR X w K m c v) →
        ds.length = cs.length ∧ ∀ (i : Nat) (c : PV) (v : Value), ds[i]? = some c → us[i]? = some v → PVR X w K c v := by
      intro cs ds h us hx
      obtain ⟨h1, h2, h3⟩ := optM_get h
      refine ⟨h1, fun i c v hc hv => ?_⟩
      obtain ⟨x, hx1, hx2⟩ := h3 i c hc
      exact ih x c v hx2 (hx i x v hx1 hv)
    intro v d vv h hv
    cases v with
    | pv d' => simp only [firm, Option.some.injEq] at h; subst h; exact hv.pv_inv
    | ptr id i off => simp [firm] at h
    | arr id =>
      simp only [firm] at h
      cases ho : S[id]? with
      | none => simp [ho] at h
      | some ob =>
        cases ob with
        | arr lay excl xs =>
          cases excl <;> simp only [ho, Option.some.injEq, reduceCtorEq] at h
          subst h
          cases hv with
          | arr hm =>
            have := (hS.ob _ _ _ ho hm).listV
            simp only [Bool.false_eq_true, if_false] at this
            exact this.pvr (clip := false) (by simp)
        | _ => simp [ho] at h
    | agg cs =>
      simp only [firm, Option.map_eq_some_iff] at h
      obtain ⟨ds, h, rfl⟩ := h
      cases hv with
      | agg hs hx => obtain ⟨h1, h2⟩ := many h hx; exact .agg (by omega) h2
    | tup cs =>
      simp only [firm, Option.map_eq_some_iff] at h
      obtain ⟨ds, h, rfl⟩ := h
      cases hv with
      | tup hs hx => obtain ⟨h1, h2⟩ := many h hx; exact .tup (by omega) h2
    | clo f as bs =>
      simp only [firm, Option.bind_eq_bind, Option.bind_eq_some_iff, Option.pure_def, Option.some.injEq] at h
      obtain ⟨da, ha, db, hb, rfl⟩ := h
      cases hv with
      | clo h1 h2 hx hy =>
        obtain ⟨g1, g2⟩ := many ha hx
        obtain ⟨g3, g4⟩ := many hb hy
        exact .clo (by omega) (by omega) g2 g4
    | mp id => simp [firm] at h
    | sub id lo k => simp [firm] at h
    | dead => simp [firm] at h

/-- operands that are made firm -/
theorem firmPairs_rel {B : Nat} {X : Nat} {w : World} {K : Keep} {m : Map} {S : Store} {e : Env} {a : Act} {ps : Array (Nat × Operand)} {ds : List (Nat × PV)} (hS : SR X B w K m S)
    (hE : ∀ x ∈ (ps.toList.map (·.2)), VR X w K m (opnd e x) (a.eval x)) (h : (ps.toList.mapM fun (i, x) => (firm S deep (opnd e x)).map fun d => (i, d)) = some ds) :
    ds.length = (ps.map fun (i, x) => (i, a.eval x)).size ∧
    ∀ (k : Nat) p q, ds[k]? = some p → (ps.map fun (i, x) => (i, a.eval x))[k]? = some q → p.1 = q.1 ∧ PVR X w K p.2 q.2 := by
  obtain ⟨h1, h2, h3⟩ := optM_get h
  refine ⟨by simpa using h1, fun k p q hp hq => ?_⟩
  obtain ⟨x, hx1, hx2⟩ := h3 k p hp
  obtain ⟨i, x⟩ := x
  simp only [Option.map_eq_some_iff] at hx2
  obtain ⟨d, hd, rfl⟩ := hx2
  simp only [Array.getElem?_map, Option.map_eq_some_iff] at hq
  obtain ⟨y, hy, rfl⟩ := hq
  simp only [Array.getElem?_toList] at hx1
  rw [hx1] at hy; simp only [Option.some.injEq] at hy; subst hy
  refine ⟨rfl, firm_rel hS deep _ _ _ hd (hE x (List.mem_map.2 ⟨(i, x), by simpa using Array.mem_of_getElem? hx1, rfl⟩))⟩

/-- scalars -/
theorem scalars_rel {X : Nat} {w : World} {K : Keep} {m : Map} {e : Env} {a : Act} {xs : Array Operand} {vs : List Value} (hE : ∀ x ∈ xs, VR X w K m (opnd e x) (a.eval x))
    (h : (xs.toList.map (opnd e)).mapM AV.scalar? = some vs) : xs.map a.eval = vs.toArray := by
  obtain ⟨h1, h2, h3⟩ := optM_get h
  apply Array.ext
  · simp at h1; simp [h1]
  · intro i hi1 hi2
    simp only [Array.size_map] at hi1
    have hx : xs[i]? = some xs[i] := Array.getElem?_eq_getElem hi1
    obtain ⟨v, hv1, hv2⟩ := h2 i (opnd e xs[i]) (by simp [hx])
    have := hE xs[i] (Array.getElem_mem hi1)
    cases hd : opnd e xs[i] with
    | pv d =>
      rw [hd] at hv1 this
      simp only [AV.scalar?] at hv1
      cases d <;> simp only [PV.scalar?, Option.some.injEq, reduceCtorEq] at hv1
      subst hv1
      simp only [Array.getElem_map, List.getElem_toArray]
      simp only [List.size_toArray] at hi2
      rw [List.getElem?_eq_getElem hi2] at hv2
      simp only [Option.some.injEq] at hv2
      rw [hv2]
      generalize a.eval xs[i] = u at this
      cases this.pv_inv; rfl
    | _ => rw [hd] at hv1; simp [AV.scalar?] at hv1

/-! # conversions -/
theorem bytes_fold (ns : List Int) (s : ByteArray) : ns.foldl (fun r n => r.push (UInt8.ofNat n.toNat)) s = ⟨s.data ++ (ns.map fun n => UInt8.ofNat n.toNat).toArray⟩ := by
  induction ns generalizing s with
  | nil => simp
  | cons n ns ih =>
    simp only [List.foldl_cons, ih]
    congr 1
    simp [ByteArray.push]

theorem convertPV_rel {P : Program} {B : Nat} {X : Nat} {w : World} {K : Keep} {m : Map} {S : Store} {s d : TypeId} {x : AV} {xv : Value} {r : PV} (hS : SR X B w K m S)
    (h : convertPV P S s d x = some r) (hx : VR X w K m x xv) : ∃ rv, (convert s d xv).run P w = .ok rv w ∧ PVR X w K r rv := by
  unfold convertPV at h
  split at h
  · rename_i v
    simp only [Option.map_eq_some_iff] at h
    obtain ⟨rv, h, rfl⟩ := h
    cases hx.pv_inv
    exact ⟨rv, pureRun_run h w, .sc rv⟩
  · split at h
    · rename_i el xs hu1 hu2 hel
      split at h
      · rename_i hu3
        simp only [Option.map_eq_some_iff] at h
        obtain ⟨bs, hbs, rfl⟩ := h
        obtain ⟨a, len, cap, rfl, hlist⟩ := elems_rel hS hel hx
        obtain ⟨b1, b2, b3⟩ := optM_get hbs
        rw [run_convert_bytes_string w s d el a len cap hu1 hu3 hu2]
        rcases hlist with ⟨rfl, rfl, rfl⟩ | ⟨b, off, cvs, rfl, h1, h2, h3, h4, h5⟩
        · simp at hbs; subst hbs
          exact ⟨.string .empty, by cases a <;> simp [Conv.bytesToString, loadCells, loadCellsFrom], .sc _⟩
        · have hcv : ∃ ns : List Int, cvs = ns.map (Value.int .u8) ∧ bs = ns.map fun n => UInt8.ofNat n.toNat := by
            have : ∀ (i : Nat) (hi : i < cvs.length), ∃ n : Int, cvs[i] = .int .u8 n ∧ bs[i]? = some (UInt8.ofNat n.toNat) := by
              intro i hi
              have hx : xs[i]? = some (xs[i]'(by omega)) := List.getElem?_eq_getElem (by omega)
              obtain ⟨y, hy1, hy2⟩ := b2 i _ hx
              have := h4 i _ cvs[i] hx (List.getElem?_eq_getElem hi)
              generalize hc : xs[i]'(by omega) = c at *
              cases c with
              | sc v =>
                cases v with
                | int k n =>
                  cases k <;> simp [byte?] at hy1
                  subst hy1
                  cases hcc : cvs[i] <;> rw [hcc] at this <;> cases this
                  exact ⟨n, rfl, hy2⟩
                | _ => simp [byte?] at hy1
              | _ => simp [byte?] at hy1
            refine ⟨cvs.map fun v => match v with | .int _ n => n | _ => 0, ?_, ?_⟩
            · apply List.ext_getElem
              · simp
              · intro i hi1 hi2
                obtain ⟨n, hn, _⟩ := this i hi1
                simp [hn]
            · apply List.ext_getElem?
              intro i
              by_cases hi : i < cvs.length
              · obtain ⟨n, hn, hb⟩ := this i hi
                rw [hb]; simp [List.getElem?_eq_getElem hi, hn]
              · rw [List.getElem?_eq_none (by omega)]
                simp [List.getElem?_eq_none (Nat.le_of_not_lt hi)]
          obtain ⟨ns, rfl, rfl⟩ := hcv
          refine ⟨_, run_bytesToString w ⟨b, off, none⟩ len cap ns ?_, ?_⟩
          · have hl : len = (ns.map (Value.int .u8)).length := by omega
            rw [hl]
            exact run_loadCells_list w _ _ fun j v hj => by
              have := (h5 j v hj).2 0 v (by simp [cellsL])
              rw [add_none]
              simpa [width] using this
          · rw [bytes_fold]
            simp only [ByteArray.empty]
            have : ((ByteArray.emptyWithCapacity 0).data ++ (ns.map fun n => UInt8.ofNat n.toNat).toArray) = (ns.map fun n => UInt8.ofNat n.toNat).toArray := by
              simp [ByteArray.emptyWithCapacity]; rfl
            rw [this]; exact .sc _
      · simp at h
    · simp at h

/-! # beside nil -/
theorem equal_run {P : Program} {t : TypeId} {d : TypeDesc} {u v : Value} (hu : P.underlying t = some d) (w : World)
    (h : (∃ e a l c, d = .slice e ∧ u = .slice (some a) l c ∧ v = .slice none 0 0) ∨ (∃ e a, d = .pointer e ∧ u = .pointer (some a) ∧ v = .pointer none) ∨ ((∃ p q r f x y, d = .func p q r ∧ u = .func f x y ∧ v = .nilFunc) ∨ (∃ k e b, d = .map k e ∧ u = .map (some b) ∧ v = .map none))) :
    (Op.equal t u v).run P w = .ok false w := by
  have key : ∀ n, (Op.equalIn (n + 1) t u v).run P w = .ok false w := by
    intro n
    rcases h with ⟨e, a, l, c, rfl, rfl, rfl⟩ | ⟨e, a, rfl, rfl, rfl⟩ | ⟨p, q, r, f, x, y, rfl, rfl, rfl⟩ | ⟨p, q, r, rfl, rfl, rfl⟩ <;> simp [Op.equalIn, run_underlying' hu]
  exact key 9999

theorem nilCmpPV_run {P : Program} {X : Nat} {w : World} {K : Keep} {op : BinOp} {t : TypeId} {x y : Operand} {a b r : PV} {u v : Value} (h : nilCmpPV P op t a b = some r) (ha : PVR X w K a u) (hb : PVR X w K b v) :
    ∃ rv, (do eqGuard op t x y u v; binOp op t u v : Sem Value).run P w = .ok rv w ∧ r = .sc rv := by
  have fin : ∀ {d}, P.underlying t = some d → (∃ e a l c, d = .slice e ∧ u = .slice (some a) l c ∧ v = .slice none 0 0) ∨ (∃ e a, d = .pointer e ∧ u = .pointer (some a) ∧ v = .pointer none) ∨ ((∃ p q r f x y, d = .func p q r ∧ u = .func f x y ∧ v = .nilFunc) ∨ (∃ k e b, d = .map k e ∧ u = .map (some b) ∧ v = .map none)) →
      (do eqGuard .eql t x y u v; binOp .eql t u v : Sem Value).run P w = .ok (.bool false) w ∧ (do eqGuard .neq t x y u v; binOp .neq t u v : Sem Value).run P w = .ok (.bool true) w := by
    intro d hu hh
    have he := equal_run hu w hh
    rcases hh with ⟨e, a, l, c, rfl, rfl, rfl⟩ | ⟨e, a, rfl, rfl, rfl⟩ | ⟨p, q, r, f, x', y', rfl, rfl, rfl⟩ | ⟨p, q, r, rfl, rfl, rfl⟩ <;> exact ⟨by simp [eqGuard, binOp, he], by simp [eqGuard, binOp, he]⟩
  have sl : ∀ {e}, P.underlying t = some (.slice e) → (∃ lay c z zs, a = .list lay c (z :: zs)) → b = .sc (.slice none 0 0) → (∃ e' a' l c, TypeDesc.slice e = .slice e' ∧ u = .slice (some a') l c ∧ v = .slice none 0 0) := by
    rintro e hu ⟨lay, c, z, zs, rfl⟩ rfl
    cases hb
    cases ha with
    | list cvs hl hc hcl hs hx hr => exact ⟨_, _, _, _, rfl, rfl, rfl⟩
  unfold nilCmpPV at h
  split at h
  · split at h <;> simp only [Option.some.injEq, reduceCtorEq] at h <;> subst h
    · rename_i hu; exact ⟨_, (fin hu (.inl (sl hu ⟨_, _, _, _, rfl⟩ rfl))).1, rfl⟩
    · rename_i hu; cases hb; cases ha; exact ⟨_, (fin hu (.inr (.inl ⟨_, _, rfl, rfl, rfl⟩))).1, rfl⟩
    · rename_i hu; cases hb; cases ha; exact ⟨_, (fin hu (.inr (.inr (.inl ⟨_, _, _, _, _, _, rfl, rfl, rfl⟩)))).1, rfl⟩
  · split at h <;> simp only [Option.some.injEq, reduceCtorEq] at h <;> subst h
    · rename_i hu; exact ⟨_, (fin hu (.inl (sl hu ⟨_, _, _, _, rfl⟩ rfl))).2, rfl⟩
    · rename_i hu; cases hb; cases ha; exact ⟨_, (fin hu (.inr (.inl ⟨_, _, rfl, rfl, rfl⟩))).2, rfl⟩
    · rename_i hu; cases hb; cases ha; exact ⟨_, (fin hu (.inr (.inr (.inl ⟨_, _, _, _, _, _, rfl, rfl, rfl⟩)))).2, rfl⟩
  · simp at h

theorem nilCmp_run {P : Program} {X : Nat} {w : World} {K : Keep} {m : Map} {op : BinOp} {t : TypeId} {x y : Operand} {a b : AV} {r : PV} {u v : Value} (h : nilCmp P op t a b = some r) (ha : VR X w K m a u) (hb : VR X w K m b v) :
    ∃ rv, (do eqGuard op t x y u v; binOp op t u v : Sem Value).run P w = .ok rv w ∧ r = .sc rv := by
  have fin : ∀ {d}, P.underlying t = some d → (∃ e a l c, d = .slice e ∧ u = .slice (some a) l c ∧ v = .slice none 0 0) ∨ (∃ e a, d = .pointer e ∧ u = .pointer (some a) ∧ v = .pointer none) ∨ ((∃ p q r f x y, d = .func p q r ∧ u = .func f x y ∧ v = .nilFunc) ∨ (∃ k e b, d = .map k e ∧ u = .map (some b) ∧ v = .map none)) →
      (do eqGuard .eql t x y u v; binOp .eql t u v : Sem Value).run P w = .ok (.bool false) w ∧ (do eqGuard .neq t x y u v; binOp .neq t u v : Sem Value).run P w = .ok (.bool true) w := by
    intro d hu hh
    have he := equal_run hu w hh
    rcases hh with ⟨e, a, l, c, rfl, rfl, rfl⟩ | ⟨e, a, rfl, rfl, rfl⟩ | ⟨p, q, r, f, x', y', rfl, rfl, rfl⟩ | ⟨p, q, r, rfl, rfl, rfl⟩ <;> exact ⟨by simp [eqGuard, binOp, he], by simp [eqGuard, binOp, he]⟩
  unfold nilCmp at h
  split at h
  · exact nilCmpPV_run h ha.pv_inv hb.pv_inv
  · cases hb.pv_inv
    cases ha
    split at h <;> simp only [Option.some.injEq, reduceCtorEq] at h <;> subst h
    · exact ⟨_, (fin ‹P.underlying t = _› (.inr (.inl ⟨_, _, rfl, rfl, rfl⟩))).1, rfl⟩
    · exact ⟨_, (fin ‹P.underlying t = _› (.inr (.inl ⟨_, _, rfl, rfl, rfl⟩))).2, rfl⟩
  · cases hb.pv_inv
    cases ha
    split at h <;> simp only [Option.some.injEq, reduceCtorEq] at h <;> subst h
    · exact ⟨_, (fin ‹P.underlying t = _› (.inr (.inr (.inl ⟨_, _, _, _, _, _, rfl, rfl, rfl⟩)))).1, rfl⟩
    · exact ⟨_, (fin ‹P.underlying t = _› (.inr (.inr (.inl ⟨_, _, _, _, _, _, rfl, rfl, rfl⟩)))).2, rfl⟩
  · cases hb.pv_inv
    cases ha
    split at h <;> simp only [Option.some.injEq, reduceCtorEq] at h <;> subst h
    · exact ⟨_, (fin ‹P.underlying t = _› (.inr (.inr (.inr ⟨_, _, _, rfl, rfl, rfl⟩)))).1, rfl⟩
    · exact ⟨_, (fin ‹P.underlying t = _› (.inr (.inr (.inr ⟨_, _, _, rfl, rfl, rfl⟩)))).2, rfl⟩
  · simp at h

/-! # maps -/
/-- where a key stands -/
def posM (n : Int) : List (Int × PV) → Option Nat
  | [] => none
  | (k, _) :: r => if k == n then some 0 else (posM n r).map (· + 1)

theorem posM_find (n : Int) : ∀ (es : List (Int × PV)), findM n es = (posM n es).bind fun j => (es[j]?).map (·.2) := by
  intro es
  induction es with
  | nil => rfl
  | cons p es ih =>
    obtain ⟨k, d⟩ := p
    simp only [findM, posM]
    cases h : k == n with
    | true => simp
    | false =>
      simp only [cond_false, ih, Bool.false_eq_true, if_false]
      cases posM n es <;> simp
theorem posM_upd (n : Int) (d : PV) : ∀ (es : List (Int × PV)), updM n d es = match posM n es with | some j => es.set j (n, d) | none => es ++ [(n, d)] := by
  intro es
  induction es with
  | nil => rfl
  | cons p es ih =>
    obtain ⟨k, c⟩ := p
    simp only [updM, posM]
    cases h : k == n with
    | true => simp
    | false =>
      simp only [cond_false, ih, Bool.false_eq_true, if_false]
      cases posM n es <;> simp
theorem posM_del (n : Int) : ∀ (es : List (Int × PV)), delM n es = match posM n es with | some j => es.eraseIdx j | none => es := by
  intro es
  induction es with
  | nil => rfl
  | cons p es ih =>
    obtain ⟨k, c⟩ := p
    simp only [delM, posM]
    cases h : k == n with
    | true => simp
    | false =>
      simp only [cond_false, ih, Bool.false_eq_true, if_false]
      cases posM n es <;> simp
theorem posM_lt {n : Int} : ∀ {es : List (Int × PV)} {j : Nat}, posM n es = some j → ∃ d, es[j]? = some (n, d) := by
  intro es
  induction es with
  | nil => intro j h; simp [posM] at h
  | cons p es ih =>
    obtain ⟨k, c⟩ := p
    intro j h
    simp only [posM] at h
    split at h
    · rename_i hk
      simp only [Option.some.injEq] at h; subst h
      exact ⟨c, by simpa using hk⟩
    · simp only [Option.map_eq_some_iff] at h
      obtain ⟨j', h, rfl⟩ := h
      simpa using ih h
theorem posM_none {n : Int} : ∀ {es : List (Int × PV)}, posM n es = none → ∀ p ∈ es, p.1 ≠ n := by
  intro es
  induction es with
  | nil => intro _ p hp; simp at hp
  | cons p es ih =>
    obtain ⟨k, c⟩ := p
    intro h q hq
    simp only [posM] at h
    split at h
    · simp at h
    · rename_i hk
      simp only [Option.map_eq_none_iff] at h
      simp only [List.mem_cons] at hq
      rcases hq with rfl | hq
      · simpa using hk
      · exact ih h q hq

theorem findNow_rel (n : Int) : ∀ (es : List (Int × PV)) (l : List MapEntry) (i : Nat), l.length = es.length → (∀ (j : Nat) (p : Int × PV) (en : MapEntry), es[j]? = some p → l[j]? = some en → en.key = .int .i64 p.1) →
    Instr.findNow (.int .i64) (.int .i64 n) l i = some ((posM n es).bind fun j => (l[j]?).map fun en => (i + j, en.val)) := by
  intro es
  induction es with
  | nil => intro l i hl _; cases l with | nil => rfl | cons => simp at hl
  | cons p es ih =>
    obtain ⟨k, c⟩ := p
    intro l i hl hx
    cases l with
    | nil => simp at hl
    | cons en l =>
      have hk := hx 0 (k, c) en rfl rfl
      simp only [Instr.findNow, hk, Instr.sameNow, if_true, posM]
      have hih := ih l (i + 1) (by simpa using hl) fun j p en h1 h2 => hx (j + 1) p en (by simpa using h1) (by simpa using h2)
      by_cases h : k = n
      · subst h; simp
      · have h1 : (n == k) = false := by simpa using fun h' => h h'.symm
        have h2 : (k == n) = false := by simpa using h
        simp only [h1, h2, hih, Bool.false_eq_true, if_false]
        cases posM n es with
        | none => simp
        | some j => simp [Nat.add_comm, Nat.add_left_comm]

theorem findKey_run {P : Program} {kt : TypeId} (hk : P.underlying kt = some (.int .i64)) {es : List (Int × PV)} {ents : Array MapEntry} (hs : ents.size = es.length)
    (hx : ∀ (i : Nat) (p : Int × PV) (en : MapEntry), es[i]? = some p → ents[i]? = some en → en.key = .int .i64 p.1) (n : Int) (w : World) :
    (Instr.findKey kt (.int .i64 n) ents.toList).run P w = .ok ((posM n es).bind fun j => (ents[j]?).map fun en => (j, en.val)) w := by
  have h := findNow_rel n es ents.toList 0 (by simpa using hs) fun j p en h1 h2 => hx j p en h1 (by simpa using h2)
  unfold Instr.findKey
  simp only [Sem.run_bind, run_underlying' hk, Result.andThen_ok, h]
  simp

theorem checkKey_run {P : Program} {kt : TypeId} (hk : P.underlying kt = some (.int .i64)) (e : Bool) (n : Int) (w : World) : (Instr.checkKey e 10000 kt (.int .i64 n)).run P w = .ok () w :=
  Go.MapKept.run_checkKey (k := .int .i64 n) hk (show IntKind.i64 = IntKind.i64 from rfl) e 9999

theorem intM_some {P : Program} {t et : TypeId} (h : intM P t = some et) : ∃ kt, P.underlying t = some (.map kt et) ∧ P.underlying kt = some (.int .i64) := by
  unfold intM at h
  split at h
  · rename_i k e hu
    split at h
    · rename_i hk; simp only [Option.some.injEq] at h; subst h; exact ⟨k, hu, hk⟩
    · simp at h
  · simp at h
theorem key_rel {X : Nat} {w : World} {K : Keep} {k : PV} {n : Int} {v : Value} (h : key? k = some n) (hk : PVR X w K k v) : v = .int .i64 n := by
  unfold key? at h
  split at h
  · simp only [Option.some.injEq] at h; subst h; cases hk; rfl
  · simp at h

theorem mapOf_rel {B : Nat} {X : Nat} {w : World} {K : Keep} {m : Map} {S : Store} {x : AV} {xv : Value} {es : List (Int × PV)} (hS : SR X B w K m S) (h : mapOf? S x = some es) (hx : VR X w K m x xv) :
    ∃ (b clock : Nat) (ents : Array MapEntry), xv = .map (some b) ∧ w.heap[b]? = some (.map ents clock) ∧ ents.size = es.length ∧
      (∀ (i : Nat) (p : Int × PV) (en : MapEntry), es[i]? = some p → ents[i]? = some en → en.key = .int .i64 p.1 ∧ PVR X w K p.2 en.val) ∧ Go.MapKept.Stamped ents clock := by
  unfold mapOf? at h
  split at h
  · rename_i id
    split at h
    · rename_i es' ho
      simp only [Option.some.injEq] at h; subst h
      cases hx with
      | mp hm hla =>
        cases hS.ob _ _ _ ho hm with
        | map ha ho' hb hs hx' hst hk =>
          rw [hla] at ha; simp only [Option.some.injEq, Addr.mk.injEq] at ha; obtain ⟨rfl, -⟩ := ha
          exact ⟨_, _, _, rfl, hb, hs, hx', hst⟩
    · simp at h
  · simp at h

theorem lookPV_rel {P : Program} {B : Nat} {X : Nat} {w : World} {K : Keep} {m : Map} {S : Store} {t : TypeId} {ok : Bool} {x : AV} {k r : PV} {es : List (Int × PV)} {xv kv : Value} (hS : SR X B w K m S)
    (hm : mapOf? S x = some es) (h : lookPV P t ok es k = some r) (hx : VR X w K m x xv) (hk : PVR X w K k kv) : ∃ rv, (Instr.lookup t xv kv ok).run P w = .ok rv w ∧ PVR X w K r rv := by
  obtain ⟨b, clock, ents, rfl, hb, hs, hes, hst⟩ := mapOf_rel hS hm hx
  unfold lookPV at h
  split at h
  · rename_i et het
    split at h
    · rename_i z n hz hn
      simp only [Option.some.injEq] at h; subst h
      obtain ⟨kt, hu, hkt⟩ := intM_some het
      have := key_rel hn hk; subst this
      obtain ⟨i, zv, hi, hzv, rfl⟩ := zeroPV_some hz
      have tup : ∀ {d : PV} {v : Value} {q : Bool}, PVR X w K d v → PVR X w K (.tup [d, .sc (.bool q)]) (.tuple #[v, .bool q]) := fun {d v q} hd => .tup (by rfl) fun i c u h1 h2 => by
        match i with
        | 0 => simp at h1 h2; subst h1; subst h2; exact hd
        | 1 => simp at h1 h2; subst h1; subst h2; exact .sc _
        | i + 2 => simp at h1
      have hf := findKey_run hkt hs (fun i p en h1 h2 => (hes i p en h1 h2).1) n w
      unfold Instr.lookup
      simp only [Sem.run_bind, run_underlying' hu, Result.andThen_ok, Go.MapKept.run_getObj_map hb, Sem.run_pure, checkKey_run hkt, hf]
      unfold lookT
      rw [posM_find]
      cases hp : posM n es with
      | none =>
        simp only [Option.bind_none, Sem.run_bind, run_zeroValue' hi hzv, Result.andThen_ok, Sem.run_pure]
        cases ok
        · exact ⟨zv, by simp, ofValue_rel w K zv⟩
        · exact ⟨.tuple #[zv, .bool false], by simp, tup (ofValue_rel w K zv)⟩
      | some j =>
        obtain ⟨d, hd⟩ := posM_lt hp
        have hjl : j < es.length := by
          rcases Nat.lt_or_ge j es.length with h' | h'
          · exact h'
          · simp [List.getElem?_eq_none h'] at hd
        have he : ents[j]? = some ents[j] := Array.getElem?_eq_getElem (by omega)
        simp only [Option.bind_some, hd, he, Option.map_some]
        obtain ⟨_, hv⟩ := hes j _ _ hd he
        cases ok
        · exact ⟨ents[j].val, by simp, hv⟩
        · exact ⟨.tuple #[ents[j].val, .bool true], by simp, tup hv⟩
    · simp at h
  · simp at h

/-- a place that stays -/
theorem boxPV_rel {P : Program} {X : Nat} {w : World} {K : Keep} {t : TypeId} {d r : PV} {v : Value} (h : boxPV P t d = some r) (hd : PVR X w K d v) :
    ∃ rv w' K', (Instr.box t v).run P w = .ok rv w' ∧ PVR X w' K' r rv ∧ Ext w K w' K' := by
  unfold boxPV at h
  split at h
  · rename_i lay hl
    split at h
    · rename_i hlay
      simp only [Option.some.injEq] at h; subst h
      obtain ⟨h1, h2, h3, h4⟩ := PV.hasLay_rel hlay hd
      have hext : Ext w K (w.alloc (.cells v.cells t)) (fun b i => K b i ∨ b = w.heap.size) := Ext.alloc _
      refine ⟨.pointer (some ⟨w.heap.size, 0, none⟩), _, _, ?_, .ro (hd.ext hext) ⟨h1, fun j u hj => ⟨.inl (.inr rfl), ?_⟩⟩, hext⟩
      · unfold Instr.box
        simp [newVar, newRow, run_newObj]
      · rw [← h2] at hj
        simp only [Nat.zero_add, World.cell?_alloc_new, hj]
    · simp at h
  · simp at h

/-! # the operations that come to pure values -/
theorem intPV_rel {X : Nat} {w : World} {K : Keep} {d : PV} {v : Value} {n : Int} (h : intPV? d = some n) (hx : PVR X w K d v) : ∃ k, v = .int k n := by
  cases d with
  | sc u => cases hx; cases v <;> simp [intPV?] at h; subst h; exact ⟨_, rfl⟩
  | _ => simp [intPV?] at h
theorem makeLs_rel {P : Program} {X : Nat} {w : World} {K : Keep} {t : TypeId} {a b r : PV} {av bv : Value} (h : makeLs P t a b = some r) (ha : PVR X w K a av) (hb : PVR X w K b bv) :
    ∃ rv w' K', (Instr.makeSlice t av bv).run P w = .ok rv w' ∧ PVR X w' K' r rv ∧ Ext w K w' K' := by
  unfold makeLs at h
  split at h
  case h_2 => simp at h
  rename_i el hu
  split at h
  case h_2 => simp at h
  rename_i lay hlay
  simp only [Option.map_eq_some_iff] at h
  obtain ⟨xs, h, rfl⟩ := h
  unfold makeXs at h
  simp only [hu] at h
  split at h
  case h_2 => simp at h
  rename_i lay' z i lv cv hlay' hz hi hl hc
  rw [hlay] at hlay'; simp only [Option.some.injEq] at hlay'; subst hlay'
  split at h
  case isFalse => simp at h
  rename_i hcond
  obtain ⟨h0, h1, hbb, h62, hzl, hw⟩ := hcond
  simp only [Option.some.injEq] at h; subst h
  obtain ⟨kl, rfl⟩ := intPV_rel hl ha
  obtain ⟨kc, rfl⟩ := intPV_rel hc hb
  obtain ⟨ti, zv, hti, hzv, rfl⟩ := zeroPV_some hz
  rw [hi] at hti; simp only [Option.some.injEq] at hti; subst hti
  obtain ⟨d', i', hd', hi', hsz, hagg⟩ := layOf_some hlay
  rw [hi] at hi'; simp only [Option.some.injEq] at hi'; subst hi'
  have hrun := run_make (P := P) w t el i zv hu hi hzv kl kc lv cv h0 h1 (by omega) (by omega)
  have hcells : CellsOf X w K lay (List.replicate cv.toNat (PV.ofValue zv)) (madeCells zv.cells (cv.toNat * i.size)) := by
    rw [hsz]; exact CellsOf.replicate hzl (ofValue_rel w K zv)
  obtain ⟨hcs, cvs, hcl, hcx⟩ := hcells
  simp only [List.length_replicate] at hcs hcl
  have hext : Ext w K (w.alloc (.cells (madeCells zv.cells (cv.toNat * i.size)) el)) (fun b i => K b i ∨ b = w.heap.size) := Ext.alloc _
  have hlc : lv.toNat ≤ cv.toNat := by omega
  refine ⟨_, _, _, hrun, ?_, hext⟩
  refine .list (cvs.take lv.toNat) (by simp) hlc (by simp) (by simp [hcl]; omega) (fun k x cv' hx hcv => ?_) (fun k cv' hcv => ?_)
  · rw [List.getElem?_take] at hcv
    split at hcv
    · rename_i hk
      have hx' : (List.replicate cv.toNat (PV.ofValue zv))[k]? = some x := by
        simp only [List.getElem?_replicate] at hx ⊢
        rw [if_pos (show k < cv.toNat by omega)]
        rw [if_pos hk] at hx
        exact hx
      exact (hcx k x cv' hx' hcv).1.ext hext
    · cases hcv
  · rw [List.getElem?_take] at hcv
    split at hcv
    · rename_i hk
      have hx' : (List.replicate cv.toNat (PV.ofValue zv))[k]? = some (PV.ofValue zv) := by
        rw [List.getElem?_replicate, if_pos (by omega)]
      obtain ⟨g1, g2, g3⟩ := hcx k _ cv' hx' hcv
      refine ⟨g2, fun j v hj => ⟨.inr rfl, ?_⟩⟩
      have hjw : j < width lay := by
        rw [← g2.size]
        rcases Nat.lt_or_ge j (cellsL lay cv').size with h' | h'
        · exact h'
        · simp [Array.getElem?_eq_none h'] at hj
      have := g3 j hjw
      rw [hj] at this
      simp only [Nat.zero_add]
      simp [World.cell?_alloc_new, this]
    · cases hcv
theorem opVP_sound {P : Program} {B : Nat} {X : Nat} {w : World} {K : Keep} {m : Map} {S : Store} {e : Env} {a : Act} {o : Oper} {r : PV} (hS : SR X B w K m S) (hE : OpsR X w K m e a o.op)
    (h : opVP P e S o = some r) : ∃ v w' K', (execOp a.eval o).run P w = .ok (.value v) w' ∧ PVR X w' K' r v ∧ Ext w K w' K' := by
  obtain ⟨dst, op, type, pos, after, guard⟩ := o
  have fin : ∀ {s : Sem Value} {rv : Value} {w' : World}, s.run P w = .ok rv w' → (do pure (Next.value (← s)) : Sem Next).run P w = .ok (.value rv) w' := by
    intro s rv w' h; simp [h]
  cases op <;> simp only [opVP] at h <;> (try (simp at h; done))
  case binOp op t x y ty =>
    have hx := hE x (by simp [Op.operands])
    have hy := hE y (by simp [Op.operands])
    split at h
    · rename_i d hb
      simp only [Option.some.injEq] at h; subst h
      unfold binAV at hb
      split at hb
      · rename_i u v hu hv
        split at hb
        · rename_i p q hp hq
          simp only [Option.map_eq_some_iff] at hb
          obtain ⟨rv, hrun, hd⟩ := hb
          simp only [AV.pv.injEq] at hd; subst hd
          rw [hu] at hx; rw [hv] at hy
          have e1 := plain_rel hp hx.pv_inv
          have e2 := plain_rel hq hy.pv_inv
          refine ⟨rv, w, K, fin ?_, .sc rv, Ext.refl _ _⟩
          rw [e1, e2]
          exact pureRun_run hrun w
        · simp at hb
      · simp at hb
    · obtain ⟨rv, hrun, rfl⟩ := nilCmp_run (x := x) (y := y) h hx hy
      exact ⟨rv, w, K, fin hrun, .sc rv, Ext.refl _ _⟩
  case unOp op t x =>
    have hx := hE x (by simp [Op.operands])
    generalize hv : a.eval x = xv at hx
    split at h
    · rename_i v he
      rw [he] at hx
      simp only [Option.map_eq_some_iff] at h
      obtain ⟨rv, hrun, rfl⟩ := h
      cases hx.pv_inv
      exact ⟨rv, w, K, fin (by rw [hv]; exact pureRun_run hrun w), .sc rv, Ext.refl _ _⟩
    · simp at h
  case convert s d x =>
    obtain ⟨rv, g1, g2⟩ := convertPV_rel hS h (hE x (by simp [Op.operands]))
    exact ⟨rv, w, K, fin g1, g2, Ext.refl _ _⟩
  case slice t x lo hi mx =>
    split at h
    · rename_i d hd
      simp only [Option.some.injEq] at h; subst h
      obtain ⟨rv, g1, g2⟩ := sliceAV_rel (lv := lo.map a.eval) (hv := hi.map a.eval) (mv := mx.map a.eval) hS hd (hE x (by simp [Op.operands]))
        (fun y u h1 h2 => by
          cases lo with
          | none => simp at h1
          | some z => simp only [Option.map_some, Option.some.injEq] at h1 h2; subst h1; subst h2; exact hE z (by simp [Op.operands]))
        (fun y u h1 h2 => by
          cases hi with
          | none => simp at h1
          | some z => simp only [Option.map_some, Option.some.injEq] at h1 h2; subst h1; subst h2; exact hE z (by simp [Op.operands]))
        (fun y u h1 h2 => by
          cases mx with
          | none => simp at h1
          | some z => simp only [Option.map_some, Option.some.injEq] at h1 h2; subst h1; subst h2; exact hE z (by simp [Op.operands]))
        (by simp) (by simp) (by simp)
      exact ⟨rv, w, K, fin g1, g2.pv_inv, Ext.refl _ _⟩
    · simp at h
  case index t x i =>
    have hx := hE x (by simp [Op.operands])
    have hi := hE i (by simp [Op.operands])
    generalize hv : a.eval x = xv at hx
    generalize hw : a.eval i = iv at hi
    split at h
    · rename_i s k n e1 e2
      rw [e1] at hx; rw [e2] at hi
      simp only [Option.map_eq_some_iff] at h
      obtain ⟨rv, hrun, rfl⟩ := h
      cases hx.pv_inv
      cases hi.pv_inv
      exact ⟨rv, w, K, fin (by rw [hv, hw]; exact pureRun_run hrun w), .sc rv, Ext.refl _ _⟩
    · simp at h
  case buildSlice t n ps =>
    split at h
    · rename_i ds hds
      obtain ⟨h1, h2⟩ := firmPairs_rel hS (fun x hx => hE x (by simpa [Op.operands] using hx)) hds
      obtain ⟨rv, w', g1, g2, g3, _⟩ := buildSliceAV_rel (w := w) (K := K) h h1 h2
      exact ⟨rv, w', _, fin g1, g2, g3⟩
    · simp at h
  case makeSlice t l c =>
    have hl := hE l (by simp [Op.operands])
    have hc := hE c (by simp [Op.operands])
    split at h
    · rename_i a b h1 h2
      rw [h1] at hl; rw [h2] at hc
      obtain ⟨rv, w', K', g1, g2, g3⟩ := makeLs_rel h hl.pv_inv hc.pv_inv
      exact ⟨rv, w', K', fin g1, g2, g3⟩
    · simp at h
  case box t x =>
    have hx := hE x (by simp [Op.operands])
    split at h
    · rename_i d hd
      rw [hd] at hx
      obtain ⟨rv, w', K', g1, g2, g3⟩ := boxPV_rel h hx.pv_inv
      exact ⟨rv, w', K', fin g1, g2, g3⟩
    · simp at h
  case lookup t mo k ok =>
    have hm := hE mo (by simp [Op.operands])
    have hk := hE k (by simp [Op.operands])
    split at h
    · rename_i es d h1 h2
      rw [h2] at hk
      obtain ⟨rv, g1, g2⟩ := lookPV_rel hS h1 h hm hk.pv_inv
      exact ⟨rv, w, K, fin g1, g2, Ext.refl _ _⟩
    · simp at h
  case call c =>
    obtain ⟨callee, args, argTypes⟩ := c
    have hA : ∀ x ∈ args, VR X w K m (opnd e x) (a.eval x) := fun x hx => hE x (by simp [Op.operands, Call.operands, hx])
    cases callee with
    | value f => simp at h
    | invoke r n => simp at h
    | builtin b =>
      have fin2 : ∀ {rv : Value} {w' : World}, (∀ consts, (builtin b argTypes type consts (args.map a.eval)).run P w = .ok (.value rv) w') →
          (execOp a.eval { dst := dst, op := .call ⟨.builtin b, args, argTypes⟩, type := type, pos := pos, after := after, guard := guard }).run P w = .ok (.value rv) w' := by
        intro rv w' h
        simp [execOp, resolve, invoke, h]
      cases b <;> simp only at h <;> (try (simp at h; done))
      case len =>
        split at h
        · rename_i t x ht hx
          simp only [Option.map_eq_some_iff] at h
          obtain ⟨n, hn, rfl⟩ := h
          have ht' : argTypes = #[t] := by apply Array.ext'; simpa using ht
          have hx' : args = #[x] := by apply Array.ext'; simpa using hx
          subst ht'; subst hx'
          refine ⟨goInt n, w, K, fin2 fun consts => ?_, .sc _, Ext.refl _ _⟩
          have := lenAV_rel hS hn (hA x (by simp))
          unfold builtin
          simp only [Sem.run_bind, List.map_toArray, List.map_cons, List.map_nil]
          rw [show Builtin.len_ #[t] type #[a.eval x] = Builtin.len_ #[t] 0 #[a.eval x] from rfl, this]
          rfl
        · simp at h
      case max =>
        simp only [Option.bind_eq_some_iff, Option.map_eq_some_iff] at h
        obtain ⟨vs, hvs, rv, hrun, rfl⟩ := h
        refine ⟨rv, w, K, fin2 fun consts => ?_, .sc _, Ext.refl _ _⟩
        unfold builtin
        simp only [Sem.run_bind, scalars_rel hA hvs]
        rw [show Builtin.max_ argTypes type vs.toArray = Builtin.max_ #[] 0 vs.toArray from rfl, pureRun_run hrun w]
        rfl
      case min =>
        simp only [Option.bind_eq_some_iff, Option.map_eq_some_iff] at h
        obtain ⟨vs, hvs, rv, hrun, rfl⟩ := h
        refine ⟨rv, w, K, fin2 fun consts => ?_, .sc _, Ext.refl _ _⟩
        unfold builtin
        simp only [Sem.run_bind, scalars_rel hA hvs]
        rw [show Builtin.min_ argTypes type vs.toArray = Builtin.min_ #[] 0 vs.toArray from rfl, pureRun_run hrun w]
        rfl

end Go.Lite

namespace Go.Lite
open Go
open Go.RowKit (Below)

/-! # new objects -/
theorem heap_alloc_new (w : World) (o : Obj) : (w.alloc o).heap[w.heap.size]? = some o := by
  show (w.heap.push o)[w.heap.size]? = some o
  simp
theorem ObR.mapMono {X : Nat} {w : World} {K : Keep} {m m' : Map} {o : Ob} {loc : Loc} (h : ObR X w K m o loc) (hm : ∀ id loc, m id = some loc → m' id = some loc) : ObR X w K m' o loc :=
  h.ext (Ext.refl w K) hm

/-- What making an object comes to. -/
structure NewR (X : Nat) (w : World) (K : Keep) (m : Map) (w' : World) (K' : Keep) (n : Nat) (r : AV) (ob : Ob) (v : Value) (loc : Loc) : Prop where
  ext : Ext w K w' K'
  val : ∀ m' : Map, (∀ id l, m id = some l → m' id = some l) → m' n = some loc → VR X w' K' m' r v
  ob : ObR X w' K' m ob loc
  mine : ∀ b, loc.block? = some b → w.heap.size ≤ b ∧ b < w'.heap.size

theorem ownOb_rel {X : Nat} {w w' : World} {K K' : Keep} {m : Map} {lay n : Nat} {v : AV} {vv : Value} {ob : Ob} (hext : Ext w K w' K') (h : ownOb lay v = some ob) (hv : VR X w' K' m v vv) :
    ∃ loc, NewR X w K m w' K' n (.arr n) ob vv loc := by
  unfold ownOb at h
  split at h
  · simp only [Option.some.injEq] at h; subst h
    cases hv.pv_inv
    exact ⟨⟨none, 0, 0, width lay, false⟩, hext, fun m' _ h => .arr h, .nilArr rfl rfl rfl rfl, by simp [Loc.block?]⟩
  · rename_i lay' xs
    split at h
    · rename_i he; subst he
      simp only [Option.some.injEq] at h; subst h
      obtain ⟨a, len, cap, rfl, hlist, hclip⟩ := hv.pv_inv.listV
      have hc := hclip rfl
      refine ⟨⟨a, len, cap, width lay, false⟩, hext, fun m' _ h => .arr h, ?_, by simp [Loc.block?]⟩
      rcases hlist with ⟨rfl, rfl, rfl⟩ | ⟨b, off, cvs, rfl, h1, h2, h3, h4, h5⟩
      · exact .nilArr rfl rfl rfl rfl
      · exact .arr cvs rfl rfl h1 h2 h3 h4 (by simpa using h5) (by simp) fun _ => ⟨rfl, hc⟩
    · simp at h
  · simp at h

theorem ownOb'_rel {X : Nat} {w w' : World} {K K' : Keep} {m : Map} {lay n : Nat} {v : AV} {vv : Value} {ob : Ob} (hext : Ext w K w' K') (h : ownOb' lay v = some ob) (hv : VR X w' K' m v vv) :
    ∃ loc, NewR X w K m w' K' n (.arr n) ob vv loc := by
  unfold ownOb' at h
  split at h
  · split at h
    · generalize lay - 1000 = l at h
      simp only [Option.some.injEq] at h; subst h
      cases hv.pv_inv
      exact ⟨⟨none, 0, 0, width l, false⟩, hext, fun m' _ h => .arr h, .nilArr rfl rfl rfl rfl, by simp [Loc.block?]⟩
    · cases h
  · exact ownOb_rel hext h hv
theorem unfrozen_alloc (w : World) (cs : Array Value) (t : TypeId) : Unfrozen (w.alloc (.cells cs t)) w.heap.size :=
  ⟨fun o ho => (by rw [World.frozen?_alloc_new] at ho; cases ho), fun cs' ty fr hb => (by
    rw [heap_alloc_new] at hb
    simp only [Option.some.injEq, Obj.cells.injEq] at hb
    obtain ⟨_, _, rfl⟩ := hb
    exact Nat.le_refl _)⟩

theorem unfrozenX_alloc (e : Bool) (w : World) (cs : Array Value) (t : TypeId) : UnfrozenX e (w.alloc (.cells cs t)) w.heap.size :=
  ⟨unfrozen_alloc w cs t, fun _ o => World.frozen?_alloc_new _ _ _ _⟩

/-- a new variable -/
theorem newVar_rel {X : Nat} {w : World} {K : Keep} {m : Map} {lay n : Nat} {t : TypeId} {v : AV} {vv : Value} (hkeep : ∀ b o, K b o → b < w.heap.size) (hlay : v.hasLay lay = true) (hv : VR X w K m v vv) :
    NewR X w K m (w.alloc (.cells vv.cells t)) K n (.ptr n 0 0) (.var lay v) (.pointer (some ⟨w.heap.size, 0, none⟩)) ⟨some ⟨w.heap.size, 0, none⟩, 1, 1, width lay, true⟩ := by
  obtain ⟨h1, h2, h3, h4⟩ := AV.hasLay_rel hlay hv
  have hext : Ext w K (w.alloc (.cells vv.cells t)) K := Ext.alloc' _
  refine ⟨hext, fun m' _ h => ?_, ?_, ?_⟩
  · have := VR.ptr (X := X) (w := w.alloc (.cells vv.cells t)) (K := K) (i := 0) (off := 0) h rfl
    simpa using this
  · refine .var (hv.ext hext) h1 rfl rfl rfl (b := w.heap.size) (ty := t) (fr := (0, 0)) ?_ ?_ ?_
    · rw [← h2]; exact heap_alloc_new _ _
    · exact unfrozen_alloc _ _ _
    · intro o hK; exact absurd (hkeep _ _ hK) (by simp)
  · intro b hb; simp [Loc.block?] at hb; subst hb; simp

theorem opN_sound {P : Program} {B : Nat} {X : Nat} {w : World} {K : Keep} {m : Map} {S : Store} {e : Env} {a : Act} {o : Oper} {hint : Option Nat} {n : Nat} {r : AV} {ob : Ob} (hS : SR X B w K m S) (hE : OpsR X w K m e a o.op)
    (h : opN P hint n e S o = some (r, ob)) : ∃ v w' K' loc, (execOp a.eval o).run P w = .ok (.value v) w' ∧ NewR X w K m w' K' n r ob v loc := by
  obtain ⟨dst, op, type, pos, after, guard⟩ := o
  have fin : ∀ {s : Sem Value} {rv : Value} {w' : World}, s.run P w = .ok rv w' → (do pure (Next.value (← s)) : Sem Next).run P w = .ok (.value rv) w' := by
    intro s rv w' h; simp [h]
  cases op <;> simp only [opN] at h <;> (try (simp at h; done))
  case move x =>
    simp only [Option.map_eq_some_iff, Option.bind_eq_some_iff, Prod.mk.injEq] at h
    obtain ⟨ob', ⟨lay, _, hob⟩, rfl, rfl⟩ := h
    obtain ⟨loc, g⟩ := ownOb'_rel (n := n) (Ext.refl w K) hob (hE x (by simp [Op.operands]))
    exact ⟨_, _, _, loc, by simp [execOp], g⟩
  case assign x =>
    simp only [Option.map_eq_some_iff, Option.bind_eq_some_iff, Prod.mk.injEq] at h
    obtain ⟨ob', ⟨lay, _, hob⟩, rfl, rfl⟩ := h
    obtain ⟨loc, g⟩ := ownOb'_rel (n := n) (Ext.refl w K) hob (hE x (by simp [Op.operands]))
    exact ⟨_, _, _, loc, by simp [execOp], g⟩
  case load t x =>
    simp only [Option.bind_eq_some_iff] at h
    obtain ⟨lv, hl, lay, _, h⟩ := h
    obtain ⟨vv, hrun, hv⟩ := loadAV_rel hS hl (hE x (by simp [Op.operands]))
    refine ⟨vv, w, K, ?_⟩
    have key : ∃ loc, NewR X w K m w K n r ob vv loc := by
      split at h
      · rename_i id
        simp only [Option.some.injEq, Prod.mk.injEq] at h
        obtain ⟨rfl, rfl⟩ := h
        exact ⟨⟨none, 0, 0, 0, false⟩, Ext.refl w K, fun m' hm _ => hv.mono (fun _ _ _ _ h => h) (Sub.refl _) hm, .gone, by simp [Loc.block?]⟩
      · simp only [Option.map_eq_some_iff, Prod.mk.injEq] at h
        obtain ⟨ob', hob, rfl, rfl⟩ := h
        exact ownOb'_rel (n := n) (Ext.refl w K) hob hv
    obtain ⟨loc, g⟩ := key
    exact ⟨loc, by simp only [execOp]; exact fin hrun, g⟩
  case slice t x lo hi mx =>
    split at h
    · rename_i d l hh mm h1 h2 h3 h4
      simp only [Option.map_eq_some_iff, Prod.mk.injEq] at h
      generalize codeOf hint = lay0 at h
      obtain ⟨xs, h, rfl, rfl⟩ := h
      have hx := hE x (by simp [Op.operands])
      rw [h1] at hx
      have zo : ∀ {q : Option Operand} {l : Option PV}, optPV? (q.map (opnd e)) = some l → (∀ z, q = some z → VR X w K m (opnd e z) (a.eval z)) → ∀ b k, zeroO b l = true → (b = true → k = 0) → OptV (q.map a.eval) k 0 := by
        intro q l hq hz b k h hb
        cases q with
        | none => simp [optPV?] at hq; subst hq; exact .inl ⟨rfl, by simp only [zeroO] at h; exact (hb h).symm⟩
        | some z =>
          simp only [Option.map_some] at hq
          cases ho : opnd e z <;> rw [ho] at hq <;> simp [optPV?] at hq
          subst hq
          rename_i dd
          simp only [zeroO, beq_iff_eq] at h
          have hv := hz z rfl
          rw [ho] at hv
          cases dd with
          | sc v =>
            cases v <;> simp [intPV?] at h
            subst h
            have := hv.pv_inv
            generalize hvv : a.eval z = vv at this
            cases this
            exact .inr ⟨_, by rw [Option.map_some, hvv]⟩
          | _ => simp [intPV?] at h
      obtain ⟨rfl, q, hrun⟩ := emptyXs_rel h hx.pv_inv (zo h2 fun z hz => hE z (by subst hz; simp [Op.operands])) (zo h3 fun z hz => hE z (by subst hz; simp [Op.operands])) (zo h4 fun z hz => hE z (by subst hz; simp [Op.operands]))
      exact ⟨.slice q 0 0, w, K, ⟨q, 0, 0, width lay0, false⟩, fin hrun, Ext.refl w K, fun m' _ h => .arr h, .nilArr rfl rfl rfl rfl, fun b hb => by simp [Loc.block?] at hb⟩
    · simp at h
  case buildSlice t len ps =>
    split at h
    · rename_i ds hds
      split at h
      · rename_i hcode
        simp only [Option.map_eq_some_iff, Prod.mk.injEq] at h
        generalize codeOf hint = lay0 at h
        obtain ⟨xs, hxs, rfl, rfl⟩ := h
        obtain ⟨h1, h2⟩ := firmPairs_rel hS (fun x hx => hE x (by simpa [Op.operands] using hx)) hds
        obtain ⟨el, rv, hrun, ⟨hcs, cvs, hcl, hcx⟩, hxl⟩ := buildXs_rel (w := w) (K := K) hxs h1 h2
        have hext : Ext w K (w.alloc (.cells rv el)) K := Ext.alloc' _
        refine ⟨_, _, K, ⟨some ⟨w.heap.size, 0, none⟩, len, len, width lay0, true⟩, fin hrun, hext, fun m' _ h => .arr h, ?_, ?_⟩
        · refine .arr (b := w.heap.size) (off := 0) cvs rfl rfl hxl.symm (Nat.le_refl _) hcl (fun i x cv hx hcv => (hcx i x cv hx hcv).1.ext hext) (fun i cv hcv => ?_) (fun _ => ⟨⟨_, el, (0, 0), heap_alloc_new _ _, by simp only [Nat.zero_add]; rw [hcs, hxl]; exact Nat.le_refl _⟩, unfrozenX_alloc _ _ _ _, fun o hK => absurd (hS.keep _ _ hK) (by simp)⟩) (by simp)
          have hlt : i < xs.length := by
            rcases Nat.lt_or_ge i xs.length with h' | h'
            · exact h'
            · rw [List.getElem?_eq_none (by omega)] at hcv; simp at hcv
          obtain ⟨g1, g2, g3⟩ := hcx i _ cv (List.getElem?_eq_getElem hlt) hcv
          refine ⟨g2, fun j v hj => ⟨by simp, ?_⟩⟩
          have hjw : j < width lay0 := by
            rw [← g2.size]
            rcases Nat.lt_or_ge j (cellsL lay0 cv).size with h' | h'
            · exact h'
            · simp [Array.getElem?_eq_none h'] at hj
          have := g3 j hjw
          rw [hj] at this
          simp only [Nat.zero_add]
          simp [World.cell?_alloc_new, this]
        · intro b hb; simp [Loc.block?] at hb; subst hb; simp
      simp only [Option.map_eq_some_iff, Option.bind_eq_some_iff, Prod.mk.injEq] at h
      obtain ⟨d, hd, ob', ⟨lay, _, hob⟩, rfl, rfl⟩ := h
      obtain ⟨h1, h2⟩ := firmPairs_rel hS (fun x hx => hE x (by simpa [Op.operands] using hx)) hds
      obtain ⟨rv, w', g1, g2, g3, _⟩ := buildSliceAV_rel (w := w) (K := K) hd h1 h2
      obtain ⟨loc, g⟩ := ownOb_rel (m := m) (n := n) g3 hob (.pv g2)
      exact ⟨rv, w', _, loc, fin g1, g⟩
    · simp at h
  case alloc t =>
    split at h
    · rename_i lay z hl hz
      split at h
      · rename_i hlay
        simp only [Option.some.injEq, Prod.mk.injEq] at h
        obtain ⟨rfl, rfl⟩ := h
        obtain ⟨i, zv, hi, hzv, rfl⟩ := zeroPV_some hz
        have g := newVar_rel (X := X) (m := m) (n := n) (t := t) hS.keep (v := .pv (PV.ofValue zv)) hlay (.pv (ofValue_rel w K zv))
        refine ⟨_, _, _, _, fin ?_, g⟩
        unfold Instr.alloc
        simp [run_zeroValue' hi hzv, newVar, newRow, run_newObj]
      · simp at h
    · simp at h
  case box t x =>
    split at h
    · rename_i lay hl
      split at h
      · rename_i hlay
        simp only [Option.some.injEq, Prod.mk.injEq] at h
        obtain ⟨rfl, rfl⟩ := h
        have g := newVar_rel (X := X) (m := m) (n := n) (t := t) hS.keep hlay (hE x (by simp [Op.operands]))
        refine ⟨_, _, _, _, fin ?_, g⟩
        unfold Instr.box
        simp [newVar, newRow, run_newObj]
      · simp at h
    · simp at h
  case makeSlice t l c =>
    split at h
    case h_2 => simp at h
    rename_i el hu
    split at h
    case h_2 => simp at h
    rename_i lay z i lv cv hlay hz hi hl hc
    split at h
    case isFalse => simp at h
    rename_i hcond
    obtain ⟨h0, h1, hb, h62, hzl, hw⟩ := hcond
    simp only [Option.some.injEq, Prod.mk.injEq] at h
    obtain ⟨rfl, rfl⟩ := h
    obtain ⟨kl, el'⟩ := asInt_rel hl (hE l (by simp [Op.operands]))
    obtain ⟨kc, ec'⟩ := asInt_rel hc (hE c (by simp [Op.operands]))
    obtain ⟨ti, zv, hti, hzv, rfl⟩ := zeroPV_some hz
    rw [hi] at hti; simp only [Option.some.injEq] at hti; subst hti
    obtain ⟨d', i', hd', hi', hsz, hagg⟩ := layOf_some hlay
    rw [hi] at hi'; simp only [Option.some.injEq] at hi'; subst hi'
    have hrun := run_make (P := P) w t el i zv hu hi hzv kl kc lv cv h0 h1 (by omega) (by omega)
    have hcells : CellsOf X w K lay (List.replicate cv.toNat (PV.ofValue zv)) (madeCells zv.cells (cv.toNat * i.size)) := by
      rw [hsz]; exact CellsOf.replicate hzl (ofValue_rel w K zv)
    obtain ⟨hcs, cvs, hcl, hcx⟩ := hcells
    simp only [List.length_replicate] at hcs hcl
    have hext : Ext w K (w.alloc (.cells (madeCells zv.cells (cv.toNat * i.size)) el)) K := Ext.alloc' _
    have hlc : lv.toNat ≤ cv.toNat := by omega
    refine ⟨_, _, K, ⟨some ⟨w.heap.size, 0, none⟩, lv.toNat, cv.toNat, width lay, true⟩, by simp only [execOp, el', ec']; exact fin hrun, hext, fun m' _ h => .arr h, ?_, ?_⟩
    · refine .arr (b := w.heap.size) (off := 0) (cvs.take lv.toNat) rfl rfl (by simp) hlc (by simp [hcl]; omega) (fun k x cv' hx hcv => ?_) (fun k cv' hcv => ?_) (fun _ => ⟨⟨_, el, (0, 0), heap_alloc_new _ _, by simp only [Nat.zero_add]; rw [hcs]; exact Nat.le_refl _⟩, ?_, fun o hK => absurd (hS.keep _ _ hK) (by simp)⟩) (by simp)
      · rw [List.getElem?_take] at hcv
        split at hcv
        · rename_i hk
          have hx' : (List.replicate cv.toNat (PV.ofValue zv))[k]? = some x := by
            simp only [List.getElem?_replicate] at hx ⊢
            rw [if_pos (show k < cv.toNat by omega)]
            rw [if_pos hk] at hx
            exact hx
          exact (hcx k x cv' hx' hcv).1.ext hext
        · cases hcv
      · rw [List.getElem?_take] at hcv
        split at hcv
        · rename_i hk
          have hx' : (List.replicate cv.toNat (PV.ofValue zv))[k]? = some (PV.ofValue zv) := by
            rw [List.getElem?_replicate, if_pos (by omega)]
          obtain ⟨g1, g2, g3⟩ := hcx k _ cv' hx' hcv
          refine ⟨g2, fun j v hj => ⟨by simp, ?_⟩⟩
          have hjw : j < width lay := by
            rw [← g2.size]
            rcases Nat.lt_or_ge j (cellsL lay cv').size with h' | h'
            · exact h'
            · simp [Array.getElem?_eq_none h'] at hj
          have := g3 j hjw
          rw [hj] at this
          simp only [Nat.zero_add]
          simp [World.cell?_alloc_new, this]
        · cases hcv
      · exact unfrozenX_alloc _ _ _ _
    · intro b hb; simp [Loc.block?] at hb; subst hb; simp
  case makeMap t r =>
    split at h
    · rename_i hr
      cases r with
      | some _ => simp at hr
      | none =>
        simp only [Option.some.injEq, Prod.mk.injEq] at h
        obtain ⟨rfl, rfl⟩ := h
        have hext : Ext w K (w.alloc (.map #[] 0)) K := Ext.alloc' _
        refine ⟨.map (some w.heap.size), w.alloc (.map #[] 0), K, ⟨some ⟨w.heap.size, 0, none⟩, 1, 1, 0, true⟩, fin ?_, hext, fun m' _ h => .mp h rfl, ?_, ?_⟩
        · simp [Instr.makeMap, run_newObj]
        · exact .map rfl rfl (b := w.heap.size) (heap_alloc_new _ _) rfl (fun i p en h1 => by simp at h1) (by simp [Go.MapKept.Stamped]) fun o hK => absurd (hS.keep _ _ hK) (by simp)
        · intro b hb; simp [Loc.block?] at hb; subst hb; simp
    · simp at h
  case range t x =>
    have hx := hE x (by simp [Op.operands])
    generalize hv : a.eval x = xv at hx
    split at h
    · rename_i s hu he
      rw [he] at hx
      simp only [Option.some.injEq, Prod.mk.injEq] at h
      obtain ⟨rfl, rfl⟩ := h
      cases hx.pv_inv
      have hext : Ext w K (w.alloc (.stringIter s 0)) K := Ext.alloc' _
      refine ⟨.pointer (some ⟨w.heap.size, 0, none⟩), w.alloc (.stringIter s 0), K, ⟨some ⟨w.heap.size, 0, none⟩, 1, 1, 0, true⟩, fin ?_, hext, fun m' _ h => ?_, ?_, ?_⟩
      · rw [hv]; unfold Instr.range
        simp [run_underlying' hu, run_newObj]
      · have := VR.ptr (X := X) (w := w.alloc (.stringIter s 0)) (K := K) (i := 0) (off := 0) h rfl
        simpa using this
      · exact .sit rfl rfl (b := w.heap.size) (heap_alloc_new _ _) fun o hK => absurd (hS.keep _ _ hK) (by simp)
      · intro b hb; simp [Loc.block?] at hb; subst hb; simp
    · simp at h

/-! # one block written -/
/-- The world w' is w but for block b. -/
structure Upd (b : Nat) (w w' : World) : Prop where
  os : w'.os = w.os
  tape : w'.tape = w.tape
  output : w'.output = w.output
  size : w'.heap.size = w.heap.size
  block : ∀ k, k ≠ b → w'.heap[k]? = w.heap[k]?

theorem Upd.refl (b : Nat) (w : World) : Upd b w w := ⟨rfl, rfl, rfl, rfl, fun _ _ => rfl⟩
theorem Upd.trans {b : Nat} {w w' w'' : World} (h : Upd b w w') (h' : Upd b w' w'') : Upd b w w'' :=
  ⟨h'.os.trans h.os, h'.tape.trans h.tape, h'.output.trans h.output, h'.size.trans h.size, fun k hk => (h'.block k hk).trans (h.block k hk)⟩
theorem Upd.below {b B : Nat} {w w' : World} (h : Upd b w w') (hB : B ≤ b) : Below B w w' := ⟨h.os, h.tape, h.output, Nat.le_of_eq h.size.symm, fun k hk => h.block k (by omega)⟩
theorem Upd.frm' {b : Nat} {w w' : World} {K K' : Keep} {m m' : Map} {id : Nat} {loc : Loc} (h : Upd b w w') (hm : m id = some loc) (hb : loc.block? = some b) (ho : ∀ b, Mine m' b → Reach w m b)
    (hk : ∀ b' o, K' b' o → K b' o ∨ b' = b) : Frm w K m w' K' m' :=
  ⟨Nat.le_of_eq h.size.symm, fun k hk => h.block k fun e => hk (.inr ⟨id, loc, hm, by rw [e]; exact hb⟩), ho, fun b' o x => (hk b' o x).imp (fun x => x) fun e => .inr ⟨id, loc, hm, by rw [e]; exact hb⟩⟩
theorem Upd.frm {b : Nat} {w w' : World} {K : Keep} {m : Map} {id : Nat} {loc : Loc} (h : Upd b w w') (hm : m id = some loc) (hb : loc.block? = some b) : Frm w K m w' K m :=
  h.frm' hm hb (fun _ x => .inr x) fun _ _ x => .inl x
theorem Upd.setCell (w : World) (b o : Nat) (v : Value) : Upd b w (w.setCell ⟨b, o, none⟩ v) where
  os := rfl
  tape := rfl
  output := rfl
  size := by simp
  block k hk := Go.RowKit.Below.heap_setCell w ⟨b, o, none⟩ v k hk

theorem run_storeCells_block {P : Program} {b off : Nat} {ty : TypeId} {fr : Nat × Nat} : ∀ (vs : List Value) (i : Nat) (w : World) (cs : Array Value),
    w.heap[b]? = some (.cells cs ty fr) → off + i + vs.length ≤ cs.size → Unfrozen w b → (∀ v ∈ vs, v.oneCell' = true) →
    ∃ w' cs', (storeCells ⟨b, off, none⟩ vs i).run P w = .ok () w' ∧ w'.heap[b]? = some (.cells cs' ty fr) ∧ Upd b w w' ∧ Unfrozen w' b ∧ cs'.size = cs.size ∧
      ∀ k, cs'[k]? = if off + i ≤ k ∧ k < off + i + vs.length then vs[k - (off + i)]? else cs[k]? := by
  intro vs
  induction vs with
  | nil =>
    intro i w cs hb _ hu _
    exact ⟨w, cs, by simp [storeCells], hb, Upd.refl _ _, hu, rfl, fun k => by simp; intros; omega⟩
  | cons v vs ih =>
    intro i w cs hb hsz hu hv
    simp only [List.length_cons] at hsz
    have hcell : w.cell? ⟨b, off + i, none⟩ = some (cs[off + i]'(by omega)) := by simp [World.cell?, hb]
    have hnf : w.frozen? ⟨b, off + i, none⟩ = false := by
      cases hf : w.frozen? ⟨b, off + i, none⟩ with
      | false => rfl
      | true => have := hu.1 _ hf; rw [hcell] at this; simp at this
    have hb' : (w.setCell ⟨b, off + i, none⟩ v).heap[b]? = some (.cells (cs.setIfInBounds (off + i) v) ty fr) := by
      simp [World.setCell, Array.getElem?_modify, hb]
    have hu' : Unfrozen (w.setCell ⟨b, off + i, none⟩ v) b := by
      refine ⟨fun o ho => ?_, fun cs2 ty2 fr2 hb2 => by rw [hb'] at hb2; simp only [Option.some.injEq, Obj.cells.injEq] at hb2; obtain ⟨_, _, rfl⟩ := hb2; exact hu.2 _ _ _ hb⟩
      rw [World.frozen?_setCell] at ho
      have := hu.1 o ho
      simp only [World.cell?, hb'] at *
      simp only [hb] at this
      simp only [Option.isSome_none, Bool.false_eq_true, if_false] at this ⊢
      rw [Array.getElem?_eq_none_iff] at this ⊢
      simpa using this
    obtain ⟨w', cs', g1, g2, g3, g4, g5, g6⟩ := ih (i + 1) _ _ hb' (by simp; omega) hu' (fun v hv' => hv v (by simp [hv']))
    refine ⟨w', cs', ?_, g2, (Upd.setCell w b (off + i) v).trans g3, g4, by rw [g5]; simp, fun k => ?_⟩
    · simp only [storeCells, Sem.run_bind, add_none, run_store P w _ v _ (hv v (by simp)), hcell, hnf, Bool.false_eq_true, if_false, Result.andThen_ok]
      exact g1
    · rw [g6 k]
      simp only [List.length_cons]
      by_cases h1 : k = off + i
      · subst h1
        rw [if_neg (by omega), if_pos (by omega)]
        simp only [Array.getElem?_setIfInBounds, if_true]
        rw [if_pos (by omega)]; simp
      · by_cases h2 : off + (i + 1) ≤ k ∧ k < off + (i + 1) + vs.length
        · rw [if_pos h2, if_pos (by omega)]
          have : k - (off + i) = (k - (off + (i + 1))) + 1 := by omega
          rw [this]; simp
        · rw [if_neg h2, if_neg (by omega), Array.getElem?_setIfInBounds, if_neg (by omega)]

/-- Of an object whose own block is another one nothing turns. -/
theorem ObR.upd {X : Nat} {w w' : World} {K : Keep} {m : Map} {b : Nat} (h : Upd b w w') (hp : Pres X w K w') {o : Ob} {loc : Loc} (hne : loc.block? ≠ some b)
    (ho : ObR X w K m o loc) : ObR X w' K m o loc := by
  have hv : ∀ {d : AV} {v : Value}, VR X w K m d v → VR X w' K m d v := fun hv => hv.mono hp (Sub.refl _) fun _ _ x => x
  have hd : ∀ {d : PV} {v : Value}, PVR X w K d v → PVR X w' K d v := fun hv => hv.mono hp (Sub.refl _)
  cases ho with
  | var hv' hl ha hz ho hb hf hk =>
    rename_i cv b' ty fr
    have hbb : b' ≠ b := by intro hc; subst hc; exact hne (by simp [Loc.block?, ho, ha])
    exact .var (hv hv') hl ha hz ho ((h.block _ hbb).trans hb) (hf.ext (h.block _ hbb)) hk
  | arr cvs ha hz hl hc hs hx hr ho hn =>
    rename_i lay excl xs b' off
    refine .arr cvs ha hz hl hc hs (fun i x cv h1 h2 => hd (hx i x cv h1 h2)) (fun i cv h1 => ?_) (fun hown => ?_) hn
    · obtain ⟨hl, hr⟩ := hr i cv h1
      refine ⟨hl, fun j v hj => ?_⟩
      obtain ⟨a, c⟩ := hr j v hj
      refine ⟨a, ?_⟩
      cases hown : loc.own with
      | true =>
        have hbb : b' ≠ b := by intro hc; subst hc; exact hne (by simp [Loc.block?, hown, ha])
        rw [cell?_of_heap (h.block _ hbb)]; exact c
      | false =>
        have he := (hn hown).1
        subst he
        exact hp _ _ _ (.inl (by simpa using a)) c
    · obtain ⟨⟨cs, ty, fr, hb, a⟩, c, d⟩ := ho hown
      have hbb : b' ≠ b := by intro hc; subst hc; exact hne (by simp [Loc.block?, hown, ha])
      exact ⟨⟨cs, ty, fr, (h.block _ hbb).trans hb, a⟩, c.ext (h.block _ hbb), d⟩
  | nilArr hz hl hc ho => exact .nilArr hz hl hc ho
  | sit ha ho hb hk =>
    rename_i s pos b'
    have hbb : b' ≠ b := by intro hc; subst hc; exact hne (by simp [Loc.block?, ho, ha])
    exact .sit ha ho ((h.block _ hbb).trans hb) hk
  | map ha ho hb hs hx hst hk =>
    rename_i es b' clock ents
    have hbb : b' ≠ b := by intro hc; subst hc; exact hne (by simp [Loc.block?, ho, ha])
    exact .map ha ho ((h.block _ hbb).trans hb) hs (fun i p en h1 h2 => let ⟨a, c⟩ := hx i p en h1 h2; ⟨a, hd c⟩) hst hk
  | gone => exact .gone

/-- One object is changed, in its own block. -/
theorem SR.upd {X B : Nat} {w w' : World} {K : Keep} {m : Map} {S : Store} {id b : Nat} {ob : Ob} {loc : Loc} (hS : SR X B w K m S) (hm : m id = some loc) (hb : loc.block? = some b)
    (h : Upd b w w') (hp : Pres X w K w') (hob : ObR X w' K m ob loc) : SR X B w' K m (S.set id ob) where
  ob i o l h1 h2 := by
    rw [List.getElem?_set] at h1
    split at h1
    · rename_i he; subst he
      rw [hm] at h2; simp only [Option.some.injEq] at h2; subst h2
      split at h1
      · simp only [Option.some.injEq] at h1; subst h1; exact hob
      · simp at h1
    · rename_i hne
      exact (hS.ob i o l h1 h2).upd h hp fun hc => hne (hS.sep id i loc l b hm h2 hb hc)
  sep := hS.sep
  mine i l b' h1 h2 := by rw [h.size]; exact hS.mine i l b' h1 h2
  keep b' o hK := by rw [h.size]; exact hS.keep b' o hK
  size := by rw [h.size]; exact hS.size
  low := hS.low.blocks fun b' hb' => h.block b' (by have := (hS.mine id loc b hm hb).1; omega)

end Go.Lite

namespace Go.Lite
open Go
open Go.RowKit (Below)

theorem AV.sized_rel {X : Nat} {w : World} {K : Keep} {m : Map} {l0 : Nat} {c : AV} {cv : Value} (h0 : l0 ≠ 0) (h : c.sized l0 = true) (hl : Lay l0 cv) (hc : VR X w K m c cv) :
    Lay l0 cv ∧ cv.cells = cellsL l0 cv ∧ c.cells.length = width l0 ∧ ∀ (i : Nat) (d : AV) (v : Value), c.cells[i]? = some d → (cv.cells)[i]? = some v → VR X w K m d v := by
  cases c with
  | pv d => exact AV.hasLay_rel (by simpa [AV.sized, AV.hasLay] using h) hc
  | agg cs =>
    simp only [AV.sized, beq_iff_eq] at h
    cases hc with
    | agg hs hx => exact ⟨hl, by simp [cellsL, h0], by simp [AV.cells, h, width], fun i d v h1 h2 => hx i d v h1 h2⟩
  | _ => simp [AV.sized] at h
/-- A variable, or a part of it, is written: the world then, and what the variable then is. -/
theorem put_rel {P : Program} {X : Nat} {w : World} {K : Keep} {m : Map} {b o0 l0 off lay : Nat} {t : TypeId} {c x z : AV} {cv xv : Value} {cs : Array Value} {ty : TypeId} {fr : Nat × Nat}
    (hl : layOf P t = some lay) (h : c.put l0 off lay x = some z) (hc : VR X w K m c cv) (hx : VR X w K m x xv) (hrow : Row w (fun _ _ => True) b o0 l0 cv)
    (hb : w.heap[b]? = some (.cells cs ty fr)) (hfit : o0 + width l0 ≤ cs.size) (hu : Unfrozen w b) (hk : ∀ o, ¬ K b o) (hXb : X ≤ b) :
    ∃ w' cs' zv, (Instr.storeAt t (.pointer (some ⟨b, o0 + off, none⟩)) xv).run P w = .ok () w' ∧ w'.heap[b]? = some (.cells cs' ty fr) ∧ Upd b w w' ∧ Unfrozen w' b ∧ cs'.size = cs.size ∧
      Pres X w K w' ∧ VR X w' K m z zv ∧ Lay l0 zv ∧ (∀ j v, (cellsL l0 zv)[j]? = some v → cs'[o0 + j]? = some v) ∧ (∀ k, (k < o0 ∨ o0 + width l0 ≤ k) → cs'[k]? = cs[k]?) := by
  obtain ⟨hlay, hcells⟩ := hrow
  have hcs : ∀ j v, (cellsL l0 cv)[j]? = some v → cs[o0 + j]? = some v := fun j v hj => by
    have := (hcells j v hj).2
    simpa [World.cell?, hb] using this
  unfold AV.put at h
  split at h
  · simp at h
  · rename_i hchk
    simp only [Bool.not_eq_false] at hchk
    have hxl := hchk
    obtain ⟨x1, x2, x3, x4⟩ := AV.hasLay_rel hxl hx
    have hsz : xv.cells.size = width lay := by rw [x2]; exact x1.size
    obtain ⟨d, i, hd, hi, hisz, hagg⟩ := layOf_some hl
    have hone : ∀ v ∈ xv.cells.toList, v.oneCell' = true := by
      intro v hv
      obtain ⟨k, hk, hkv⟩ := List.getElem_of_mem hv
      exact x1.2 k v (by rw [← x2]; simpa using List.getElem?_eq_some_iff.2 ⟨hk, hkv⟩)
    -- the store itself
    have hwhere : off + width lay ≤ width l0 := by
      split at h
      · rename_i h0; obtain ⟨rfl, rfl⟩ := h0; omega
      · split at h
        · simp at h
        · rename_i h1
          simp only [not_or, Bool.not_eq_false] at h1
          simp only [Option.map_eq_some_iff] at h
          obtain ⟨r, hr, _⟩ := h
          obtain ⟨s1, s2, s3⟩ := splice_get hr
          obtain ⟨c1, c2, c3, c4⟩ := AV.sized_rel h1.1 h1.2 hlay hc
          omega
    obtain ⟨w', cs', g1, g2, g3, g4, g5, g6⟩ := run_storeCells_block (P := P) (b := b) (off := o0 + off) xv.cells.toList 0 w cs hb (by simp; omega) hu hone
    have hpres : Pres X w K w' := fun b' o v hK hcell => by
      by_cases hbb : b' = b
      · subst hbb; exact hK.elim (fun h => absurd h (hk o)) fun h => by omega
      · rw [cell?_of_heap (g3.block _ hbb)]; exact hcell
    have hvr : ∀ {d : AV} {v : Value}, VR X w K m d v → VR X w' K m d v := fun hv => hv.mono hpres (Sub.refl _) fun _ _ x => x
    have hrun : (Instr.storeAt t (.pointer (some ⟨b, o0 + off, none⟩)) xv).run P w = .ok () w' := by
      unfold Instr.storeAt storeVar
      simp only [Instr.sureAddr, Sem.run_bind, Sem.run_pure, Result.andThen_ok, run_sizeOf' hi]
      rw [if_neg (by omega)]
      exact g1
    have hget : ∀ k, cs'[k]? = if o0 + off ≤ k ∧ k < o0 + off + width lay then xv.cells[k - (o0 + off)]? else cs[k]? := fun k => by
      rw [g6 k]; simp [hsz]
    have hout : ∀ k, (k < o0 ∨ o0 + width l0 ≤ k) → cs'[k]? = cs[k]? := fun k hk => by rw [hget, if_neg (by omega)]
    split at h
    · rename_i h0; obtain ⟨rfl, rfl⟩ := h0
      simp only [Option.some.injEq] at h; subst h
      refine ⟨w', cs', xv, hrun, g2, g3, g4, g5, hpres, hvr hx, x1, fun j v hj => ?_, hout⟩
      rw [← x2] at hj
      have hjl : j < width l0 := by
        rcases Nat.lt_or_ge j xv.cells.size with h' | h'
        · omega
        · simp [Array.getElem?_eq_none h'] at hj
      rw [hget, if_pos (by omega)]
      rw [show o0 + j - (o0 + 0) = j by omega]; exact hj
    · split at h
      · simp at h
      · rename_i h1
        simp only [not_or, Bool.not_eq_false] at h1
        simp only [Option.map_eq_some_iff] at h
        obtain ⟨r, hr, rfl⟩ := h
        obtain ⟨s1, s2, s3⟩ := splice_get hr
        obtain ⟨c1, c2, c3, c4⟩ := AV.sized_rel h1.1 h1.2 hlay hc
        rcases hlay.1 with h0 | ⟨vs, rfl, hvs⟩
        · exact absurd h0 h1.1
        · have hcl : cellsL l0 (.agg vs) = vs := by simp [cellsL, h1.1, Value.cells]
          have hvs' : vs.size = width l0 := by rw [← hcl]; exact hlay.size
          have hsp : ∃ us, splice vs.toList off xv.cells.toList = some us := by
            unfold splice
            rw [if_pos (by simp; omega)]; exact ⟨_, rfl⟩
          obtain ⟨us, hus⟩ := hsp
          obtain ⟨u1, u2, u3⟩ := splice_get hus
          refine ⟨w', cs', .agg us.toArray, hrun, g2, g3, g4, g5, hpres, mkAgg_rel (by simp at u2; simp; omega) fun k c' v hc' hv' => ?_,  ⟨.inr ⟨us.toArray, rfl, by simp at u2; simp; omega⟩, fun j v hj => ?_⟩, fun j v hj => ?_, hout⟩
          · rw [s3] at hc'
            simp only [List.getElem?_toArray] at hv'
            rw [u3] at hv'
            simp only [Array.length_toList] at hv'
            by_cases hk' : off ≤ k ∧ k < off + width lay
            · rw [if_pos (by omega)] at hc'; rw [if_pos (by omega)] at hv'
              exact hvr (x4 _ c' v hc' (by simpa using hv'))
            · rw [if_neg (by omega)] at hc'; rw [if_neg (by omega)] at hv'
              exact hvr (c4 _ c' v hc' (by rw [c2, hcl]; simpa using hv'))
          · simp only [cellsL, h1.1, if_false, Value.cells, List.getElem?_toArray] at hj
            rw [u3] at hj
            split at hj
            · exact hone v (List.mem_of_getElem? hj)
            · exact hlay.2 j v (by rw [hcl]; simpa using hj)
          · simp only [cellsL, h1.1, if_false, Value.cells, List.getElem?_toArray] at hj
            rw [u3] at hj
            simp only [Array.length_toList] at hj
            rw [hget]
            by_cases hk' : off ≤ j ∧ j < off + width lay
            · rw [if_pos (by omega)] at hj; rw [if_pos (by omega)]
              rw [show o0 + j - (o0 + off) = j - off by omega]; simpa using hj
            · rw [if_neg (by omega)] at hj; rw [if_neg (by omega)]
              exact hcs j v (by rw [hcl]; simpa using hj)

/-- What changing an object comes to. -/
structure MutR (X B : Nat) (w : World) (K : Keep) (m : Map) (S : Store) (w' : World) (r : AV) (S' : Store) (v : Value) : Prop where
  below : Below B w w'
  pres : Pres X w K w'
  val : VR X w' K m r v
  sr : SR X B w' K m S'
  len : S'.length = S.length
  frm : Frm w K m w' K m

theorem pure_some {z : AV} {d : PV} (h : z.pure? = some d) : z = .pv d := by
  cases z <;> simp [AV.pure?] at h
  subst h; rfl

theorem storeAV_rel {P : Program} {B : Nat} {X : Nat} {w : World} {K : Keep} {m : Map} {S S' : Store} {t : TypeId} {a x : AV} {av xv : Value} (hS : SR X B w K m S)
    (h : storeAV P S t a x = some S') (ha : VR X w K m a av) (hx : VR X w K m x xv) :
    ∃ w', (Instr.storeAt t av xv).run P w = .ok () w' ∧ Below B w w' ∧ Pres X w K w' ∧ SR X B w' K m S' ∧ S'.length = S.length ∧ Frm w K m w' K m := by
  unfold storeAV at h
  cases hl : layOf P t with
  | none => simp [hl] at h
  | some lay =>
    simp only [hl] at h
    cases a with
    | ptr id i off =>
      simp only at h
      cases ho : S[id]? with
      | none => simp [ho] at h
      | some ob =>
        simp only [ho] at h
        cases ha with
        | ptr hm hla =>
          rename_i b o loc
          have hob := hS.ob id ob loc ho hm
          cases ob with
          | var l0 v =>
            simp only at h
            split at h
            · rename_i hi0; subst hi0
              simp only [Option.map_eq_some_iff] at h
              obtain ⟨z, hz, rfl⟩ := h
              cases hob with
              | var hv hlay ha' hsz hown hb hf hk =>
                rename_i cv b' ty fr
                rw [hla] at ha'; simp only [Option.some.injEq, Addr.mk.injEq] at ha'; obtain ⟨rfl, rfl, _⟩ := ha'
                have hblk : loc.block? = some b := by simp [Loc.block?, hown, hla]
                have hrow : Row w (fun _ _ => True) b 0 l0 cv := ⟨hlay, fun j u hj => ⟨trivial, by simp [World.cell?, hb, hj]⟩⟩
                obtain ⟨w', cs', zv, g1, g2, g3, g4, g5, g6, g7, g8, g9, g10⟩ := put_rel hl hz hv hx hrow hb (by rw [hlay.size]; omega) hf hk (Nat.le_trans hS.low.1 (hS.mine id loc b hm hblk).1)
                simp only [Nat.zero_add, Nat.zero_mul] at g1 g9 ⊢
                have hcs : cs' = cellsL l0 zv := by
                  apply Array.ext
                  · rw [g5, hlay.size, g8.size]
                  · intro k h1 h2
                    have := g9 k _ (Array.getElem?_eq_getElem h2)
                    rw [Array.getElem?_eq_getElem h1] at this
                    simpa using this
                subst hcs
                refine ⟨w', g1, g3.below (hS.mine id loc b hm hblk).1, g6, hS.upd hm hblk g3 g6 (.var g7 g8 hla hsz hown g2 g4 hk), by simp, g3.frm hm hblk⟩
            · simp at h
          | arr l0 excl xs =>
            cases excl with
            | false => simp at h
            | true =>
              simp only [Option.bind_eq_some_iff, Option.map_eq_some_iff] at h
              obtain ⟨y, hy, z, hz, d, hd, rfl⟩ := h
              have hzd := pure_some hd; subst hzd
              cases hob with
              | nilArr => simp at hy
              | arr cvs ha' hsz hlen hcap hs hx' hr hown' hn =>
                rename_i b' o'
                rw [hla] at ha'; simp only [Option.some.injEq, Addr.mk.injEq] at ha'; obtain ⟨rfl, rfl, _⟩ := ha'
                have hown : loc.own = true := by
                  cases hc : loc.own with
                  | true => rfl
                  | false => have := (hn hc).1; simp at this
                obtain ⟨⟨cs, ty, fr, hb, hfit⟩, hf, hk⟩ := hown' hown
                have hk' : ∀ o, ¬ K b o := fun o hK => by have := (hk o hK).1; simp at this
                have hblk : loc.block? = some b := by simp [Loc.block?, hown, hla]
                have hlt : i < xs.length := by
                  rcases Nat.lt_or_ge i xs.length with h' | h'
                  · exact h'
                  · simp [List.getElem?_eq_none h'] at hy
                have hcv : cvs[i]? = some cvs[i] := List.getElem?_eq_getElem (by omega)
                have hmul : i * width l0 + width l0 ≤ loc.cap * width l0 := by
                  have := Nat.mul_le_mul_right (width l0) (show i + 1 ≤ loc.cap by omega)
                  rw [Nat.add_mul] at this; omega
                obtain ⟨w', cs', zv, g1, g2, g3, g4, g5, g6, g7, g8, g9, g10⟩ := put_rel hl hz (.pv (hx' i y _ hy hcv)) hx (by simpa using hr i _ hcv) hb (by omega) hf.1 hk' (Nat.le_trans hS.low.1 (hS.mine id loc b hm hblk).1)
                rw [← hsz] at g1
                refine ⟨w', g1, g3.below (hS.mine id loc b hm hblk).1, g6, hS.upd hm hblk g3 g6 (.arr (cvs.set i zv) hla hsz (by simpa using hlen) hcap (by simp [hs]) (fun k x cv h1 h2 => ?_) (fun k cv h1 => ?_) (fun _ => ⟨⟨cs', ty, fr, g2, by omega⟩, hf.turn hb g2 g4, fun o hK => absurd hK (hk' o)⟩) (fun hc => by simp [hown] at hc)), by simp, g3.frm hm hblk⟩
                · by_cases hki : k = i
                  · subst hki
                    rw [List.getElem?_set_self (by omega)] at h1 h2
                    simp only [Option.some.injEq] at h1 h2; subst h1; subst h2
                    exact g7.pv_inv
                  · rw [List.getElem?_set_ne (Ne.symm hki)] at h1 h2
                    exact (hx' k x cv h1 h2).mono g6 (Sub.refl _)
                · by_cases hki : k = i
                  · subst hki
                    rw [List.getElem?_set_self (by omega)] at h1
                    simp only [Option.some.injEq] at h1; subst h1
                    exact ⟨g8, fun j v hj => ⟨by simp, by simp [World.cell?, g2, g9 j v hj]⟩⟩
                  · rw [List.getElem?_set_ne (Ne.symm hki)] at h1
                    obtain ⟨q1, q2⟩ := hr k cv h1
                    refine ⟨q1, fun j v hj => ⟨by simp, ?_⟩⟩
                    have hjw : j < width l0 := by
                      rw [← q1.size]
                      rcases Nat.lt_or_ge j (cellsL l0 cv).size with h' | h'
                      · exact h'
                      · simp [Array.getElem?_eq_none h'] at hj
                    have hq := (q2 j v hj).2
                    simp only [World.cell?, hb] at hq
                    simp only [World.cell?, g2]
                    simp only [Option.isSome_none, Bool.false_eq_true, if_false] at hq ⊢
                    rw [g10]
                    · exact hq
                    · rcases Nat.lt_or_gt_of_ne hki with hlt' | hlt'
                      · have := Nat.mul_le_mul_right (width l0) (show k + 1 ≤ i by omega)
                        rw [Nat.add_mul] at this; left; omega
                      · have := Nat.mul_le_mul_right (width l0) (show i + 1 ≤ k by omega)
                        rw [Nat.add_mul] at this; right; omega
          | _ => simp at h
    | _ => simp at h

/-- a map's block is laid anew -/
theorem mapTurn_rel {P : Program} {B : Nat} {X : Nat} {w : World} {K : Keep} {m : Map} {S : Store} {id b clock clock' : Nat} {loc : Loc} {ents ents' : Array MapEntry} {es es' : List (Int × PV)} (hS : SR X B w K m S)
    (hm : m id = some loc) (hla : loc.a = some ⟨b, 0, none⟩) (ho : S[id]? = some (.map es)) (hs : ents'.size = es'.length)
    (hx : ∀ (i : Nat) (p : Int × PV) (en : MapEntry), es'[i]? = some p → ents'[i]? = some en → en.key = .int .i64 p.1 ∧ PVR X w K p.2 en.val) (hst : Go.MapKept.Stamped ents' clock') (hb : w.heap[b]? = some (.map ents clock)) :
    ∃ w', (setObj b (.map ents' clock')).run P w = .ok () w' ∧ MutR X B w K m S w' (.pv (.tup [])) (S.set id (.map es')) undef := by
  cases hS.ob id _ loc ho hm with
  | map ha hown hb0 hs0 hx0 hst0 hk =>
    rw [hla] at ha; simp only [Option.some.injEq, Addr.mk.injEq] at ha; obtain ⟨rfl, -⟩ := ha
    have hblk : loc.block? = some b := by simp [Loc.block?, hown, hla]
    have hupd : Upd b w { w with heap := w.heap.setIfInBounds b (.map ents' clock') } :=
      ⟨rfl, rfl, rfl, by simp, fun k hk => by simp [Ne.symm hk]⟩
    have hpres : Pres X w K { w with heap := w.heap.setIfInBounds b (.map ents' clock') } := fun b' o v hK hcell => by
      by_cases hbb : b' = b
      · subst hbb; exact hK.elim (fun h => absurd h (hk o)) fun h => by have := hS.low.1; have := (hS.mine id loc b' hm hblk).1; omega
      · rw [cell?_of_heap (hupd.block _ hbb)]; exact hcell
    refine ⟨_, Go.MapKept.run_setObj_map _ hb, hupd.below (hS.mine id loc b hm hblk).1, hpres, .pv (.tup (by rfl) (by simp)), hS.upd hm hblk hupd hpres (.map hla hown (b := b) (ents := ents') (clock := clock') (by
      simp [lt_of_block hb]) hs (fun i p en h1 h2 => let ⟨a, c⟩ := hx i p en h1 h2; ⟨a, c.mono hpres (Sub.refl _)⟩) hst hk), by simp, hupd.frm hm hblk⟩

theorem lt_len {α : Type} {l : List α} {i : Nat} {x : α} (h : l[i]? = some x) : i < l.length := by
  rcases Nat.lt_or_ge i l.length with h' | h'
  · exact h'
  · simp [List.getElem?_eq_none h'] at h

theorem updPV_rel {P : Program} {B : Nat} {X : Nat} {w : World} {K : Keep} {m : Map} {S : Store} {t : TypeId} {id : Nat} {k d : PV} {es es' : List (Int × PV)} {xv kv dv : Value} (hS : SR X B w K m S)
    (ho : S[id]? = some (.map es)) (h : updPV P t es k d = some es') (hx : VR X w K m (.mp id) xv) (hk : PVR X w K k kv) (hd : PVR X w K d dv) :
    ∃ w', (Instr.mapUpdate t xv kv dv).run P w = .ok () w' ∧ MutR X B w K m S w' (.pv (.tup [])) (S.set id (.map es')) undef := by
  unfold updPV at h
  split at h
  · rename_i et n het hn
    simp only [Option.some.injEq] at h; subst h
    obtain ⟨kt, hu, hkt⟩ := intM_some het
    have := key_rel hn hk; subst this
    cases hx with
    | mp hm hla =>
      rename_i b loc
      cases hS.ob _ _ _ ho hm with
      | map ha ho' hb hs hes hst hkk =>
        rename_i b' clock ents
        rw [hla] at ha; simp only [Option.some.injEq, Addr.mk.injEq] at ha; obtain ⟨rfl, -⟩ := ha
        have hf := findKey_run hkt hs (fun i p en h1 h2 => (hes i p en h1 h2).1) n w
        unfold Instr.mapUpdate
        simp only [Sem.run_bind, run_underlying' hu, Result.andThen_ok, Go.MapKept.run_getObj_map hb, checkKey_run hkt, hf]
        rw [posM_upd]
        cases hp : posM n es with
        | none =>
          simp only [Option.bind_none]
          refine mapTurn_rel hS hm hla ho (by simp [hs]) (fun i p en h1 h2 => ?_) (Go.MapKept.stamped_push hst fun x hx hkey => ?_) hb
          · by_cases hi : i < es.length
            · rw [List.getElem?_append_left hi] at h1
              rw [Array.getElem?_push, if_neg (by omega)] at h2
              exact hes i p en h1 h2
            · have hie : i = es.length := by have := lt_len h1; simp at this; omega
              subst hie
              rw [Array.getElem?_push, if_pos hs.symm] at h2
              simp at h1 h2; subst h1; subst h2
              exact ⟨rfl, hd⟩
          · obtain ⟨j, hj, hje⟩ := List.getElem_of_mem hx
            have hj' : j < es.length := by simp at hj; omega
            have := (hes j _ x (List.getElem?_eq_getElem hj') (by rw [← Array.getElem?_toList, List.getElem?_eq_getElem hj, hje])).1
            rw [this] at hkey
            simp only [Value.int.injEq, true_and] at hkey
            exact posM_none hp _ (List.getElem_mem hj') hkey
        | some j =>
          obtain ⟨d0, hd0⟩ := posM_lt hp
          have hjl := lt_len hd0
          have he : ents[j]? = some ents[j] := Array.getElem?_eq_getElem (by omega)
          obtain ⟨hkey, _⟩ := hes j _ _ hd0 he
          have hstay : (Instr.keyThatStays (.int .i64 n) (.int .i64 n)).run P w = .ok (.int .i64 n) w := by
            unfold Instr.keyThatStays
            have : Instr.sameBits 10000 (.int .i64 n) (.int .i64 n) = true := by simp [Instr.sameBits]
            simp [this]
          simp only [Option.bind_some, he, Option.map_some, Sem.run_bind, Option.getD_some, hkey, hstay, Result.andThen_ok]
          refine mapTurn_rel hS hm hla ho (by simp [hs]) (fun i p en h1 h2 => ?_) (Go.MapKept.stamped_modify hst j _ (fun _ _ => rfl) fun e _ hej => ?_) hb
          · rw [Array.getElem?_modify] at h2
            by_cases hi : j = i
            · subst hi
              rw [List.getElem?_set_self hjl] at h1
              simp only [Option.some.injEq] at h1; subst h1
              simp only [if_true, he, Option.map_some, Option.some.injEq] at h2; subst h2
              exact ⟨rfl, hd⟩
            · rw [List.getElem?_set_ne hi] at h1
              rw [if_neg hi] at h2
              exact hes i p en h1 h2
          · rw [he] at hej; simp only [Option.some.injEq] at hej; subst hej; exact hkey.symm
  · simp at h

theorem delPV_rel {P : Program} {B : Nat} {X : Nat} {w : World} {K : Keep} {m : Map} {S : Store} {t t2 ty : TypeId} {id : Nat} {k : PV} {es es' : List (Int × PV)} {xv kv : Value} (hS : SR X B w K m S)
    (ho : S[id]? = some (.map es)) (h : delPV P t es k = some es') (hx : VR X w K m (.mp id) xv) (hk : PVR X w K k kv) :
    ∃ w', (Builtin.delete_ #[t, t2] ty #[xv, kv]).run P w = .ok undef w' ∧ MutR X B w K m S w' (.pv (.tup [])) (S.set id (.map es')) undef := by
  unfold delPV at h
  split at h
  · rename_i et n het hn
    simp only [Option.some.injEq] at h; subst h
    obtain ⟨kt, hu, hkt⟩ := intM_some het
    have := key_rel hn hk; subst this
    cases hx with
    | mp hm hla =>
      rename_i b loc
      cases hS.ob _ _ _ ho hm with
      | map ha ho' hb hs hes hst hkk =>
        rename_i b' clock ents
        rw [hla] at ha; simp only [Option.some.injEq, Addr.mk.injEq] at ha; obtain ⟨rfl, -⟩ := ha
        have hf := findKey_run hkt hs (fun i p en h1 h2 => (hes i p en h1 h2).1) n w
        rw [posM_del]
        cases hp : posM n es with
        | none =>
          obtain ⟨w', g1, g2⟩ := mapTurn_rel (P := P) hS hm hla ho hs hes hst hb
          refine ⟨w', ?_, g2⟩
          rw [hp] at hf
          simp only [Option.bind_none] at hf
          simp [Builtin.delete_, run_underlying' hu, Go.MapKept.run_getObj_map hb, checkKey_run hkt, hf, g1]
          rfl
        | some j =>
          obtain ⟨d0, hd0⟩ := posM_lt hp
          have hjl := lt_len hd0
          have he : ents[j]? = some ents[j] := Array.getElem?_eq_getElem (by omega)
          rw [hp] at hf
          simp only [Option.bind_some, he, Option.map_some] at hf
          have hto : (ents.eraseIdxIfInBounds j).toList = ents.toList.eraseIdx j := by
            unfold Array.eraseIdxIfInBounds
            rw [dif_pos (by omega)]
            simp
          have hget : ∀ i, (ents.eraseIdxIfInBounds j)[i]? = if i < j then ents[i]? else ents[i + 1]? := fun i => by
            rw [← Array.getElem?_toList, hto, List.getElem?_eraseIdx]
            simp
          obtain ⟨w', g1, g2⟩ := mapTurn_rel (P := P) (es' := es.eraseIdx j) (ents' := ents.eraseIdxIfInBounds j) hS hm hla ho (by
            have h9 : (ents.eraseIdxIfInBounds j).toList.length = (ents.toList.eraseIdx j).length := congrArg List.length hto
            rw [Array.length_toList, List.length_eraseIdx, Array.length_toList] at h9
            rw [h9, List.length_eraseIdx, hs]) (fun i p en h1 h2 => by
            rw [List.getElem?_eraseIdx] at h1
            rw [hget] at h2
            split at h1
            · rename_i hi; rw [if_pos hi] at h2; exact hes _ p en h1 h2
            · rename_i hi; rw [if_neg hi] at h2; exact hes _ p en h1 h2) (Go.MapKept.stamped_erase hst j) hb
          refine ⟨w', ?_, g2⟩
          simp [Builtin.delete_, run_underlying' hu, Go.MapKept.run_getObj_map hb, checkKey_run hkt, hf, g1]
          rfl
  · simp at h

/-! # clear -/
theorem clearArr_rel {P : Program} {X B : Nat} {w : World} {K : Keep} {m : Map} {S : Store} {t ty : TypeId} {id lay lo n cap : Nat} {xs ys : List PV} {a : Option Addr} {loc : Loc} (hS : SR X B w K m S) (hm : m id = some loc)
    (ho : S[id]? = some (.arr lay true xs)) (hc : clearXs P t lay lo n xs = some ys) (ha : n ≠ 0 → ∃ b o, loc.a = some ⟨b, o, none⟩ ∧ a = some ⟨b, o + lo * loc.sz, none⟩) :
    ∃ w', (Builtin.clear_ #[t] ty #[.slice a n cap]).run P w = .ok (.tuple #[]) w' ∧ MutR X B w K m S w' (.pv (.tup [])) (S.set id (.arr lay true ys)) (.tuple #[]) := by
  unfold clearXs at hc
  split at hc
  case h_2 => cases hc
  rename_i el hu
  split at hc
  case h_2 => cases hc
  rename_i lay' z hlay hz
  split at hc
  case isFalse => cases hc
  rename_i hcond
  obtain ⟨rfl, hzl, hw0, hle⟩ := hcond
  simp only [Option.some.injEq] at hc; subst hc
  obtain ⟨ti, zv, hti, hzv, rfl⟩ := zeroPV_some hz
  by_cases hn : n = 0
  · subst hn
    have hxs : zeroed xs lo 0 (PV.ofValue zv) = xs := by simp [zeroed]
    refine ⟨w, ?_, Below.refl _ _, fun _ _ _ _ h => h, .pv (.tup (by rfl) (by simp)), ?_, by simp, Frm.refl _ _ _⟩
    · cases a <;> simp [Builtin.clear_, run_underlying' hu]
    · rw [hxs]
      have : S.set id (.arr lay true xs) = S := by
        apply List.ext_getElem?
        intro k
        by_cases hk : id = k
        · subst hk; rw [List.getElem?_set_self (lt_len ho), ho]
        · rw [List.getElem?_set_ne hk]
      rw [this]; exact hS
  · obtain ⟨b, o, hla, rfl⟩ := ha hn
    cases hS.ob id _ loc ho hm with
    | nilArr hz hl hc ho' => simp at hle; omega
    | arr cvs ha' hsz hlen hcap hs hx' hr hown' hnn =>
      rename_i b' o'
      rw [hla] at ha'; simp only [Option.some.injEq, Addr.mk.injEq] at ha'; obtain ⟨rfl, rfl, _⟩ := ha'
      have hown : loc.own = true := by
        cases hc : loc.own with
        | true => rfl
        | false => have := (hnn hc).1; simp at this
      obtain ⟨⟨cs, tyb, fr, hb, hfit⟩, hf, hk⟩ := hown' hown
      have hk' : ∀ o, ¬ K b o := fun o hK => by have := (hk o hK).1; simp at this
      have hblk : loc.block? = some b := by simp [Loc.block?, hown, hla]
      have hcells : CellsOf X w K lay (List.replicate n (PV.ofValue zv)) ((Array.range (n * width lay)).map (zv.cells[· % zv.cells.size]!)) := CellsOf.replicate hzl (ofValue_rel w K zv)
      obtain ⟨z1, z2, z3, z4⟩ := PV.hasLay_rel hzl (ofValue_rel (X := X) w K zv)
      have hzs : zv.cells.size = width lay := by rw [z2]; exact z1.size
      have hzc : Builtin.zeroCells zv.cells n = (Array.range (n * width lay)).map (zv.cells[· % zv.cells.size]!) := by unfold Builtin.zeroCells; rw [hzs]
      generalize hZ : (Array.range (n * width lay)).map (zv.cells[· % zv.cells.size]!) = Z at hcells hzc
      obtain ⟨hZs, zcv, hzl2, hzx⟩ := hcells
      simp only [List.length_replicate] at hZs hzl2
      have hone : ∀ v ∈ Z.toList, v.oneCell' = true := by
        intro v hv
        obtain ⟨k, hk1, hk2⟩ := List.getElem_of_mem hv
        have hkl : k < n * width lay := by simpa [hZs] using hk1
        have hi : k / width lay < n := Nat.div_lt_of_lt_mul (by rw [Nat.mul_comm]; exact hkl)
        have hj : k % width lay < width lay := Nat.mod_lt _ hw0
        obtain ⟨g1, g2, g3⟩ := hzx (k / width lay) _ _ (by rw [List.getElem?_replicate, if_pos hi]) (List.getElem?_eq_getElem (by omega))
        have := g3 _ hj
        rw [show k / width lay * width lay + k % width lay = k by rw [Nat.mul_comm]; exact Nat.div_add_mod k _] at this
        refine g2.2 (k % width lay) v ?_
        rw [← this, ← hk2]; simp at hk1 ⊢
      have hmul : lo * width lay + n * width lay ≤ loc.cap * width lay := by
        have := Nat.mul_le_mul_right (width lay) (show lo + n ≤ loc.cap by omega)
        rw [Nat.add_mul] at this; exact this
      have hZlen : Z.toList.length = n * width lay := by simpa using hZs
      obtain ⟨w', cs', g1, g2, g3, g4, g5, g6⟩ := run_storeCells_block (P := P) (b := b) (off := o + lo * width lay) Z.toList 0 w cs hb (by rw [hZlen]; omega) hf.1 hone
      have hBb : B ≤ b := (hS.mine id loc b hm hblk).1
      have hpres : Pres X w K w' := fun b2 o2 v hK hcell => by
        by_cases hbb : b2 = b
        · subst hbb; exact hK.elim (fun h => absurd h (hk' o2)) fun h => by have := hS.low.1; omega
        · rw [cell?_of_heap (g3.block _ hbb)]; exact hcell
      refine ⟨w', ?_, g3.below hBb, hpres, .pv (.tup (by rfl) (by simp)), ?_, by simp, g3.frm hm hblk⟩
      · cases n with
        | zero => exact absurd rfl hn
        | succ n =>
          simp only [Builtin.clear_, run_underlying' hu]
          simp [run_underlying' hu, run_zeroValue' hti hzv, hzc, hsz]
          rw [g1]; rfl
      · have hlz : (zeroed xs lo n (PV.ofValue zv)).length = xs.length := by simp [zeroed]; omega
        have hzx2 : ∀ k, (zeroed xs lo n (PV.ofValue zv))[k]? = if lo ≤ k ∧ k < lo + n then some (PV.ofValue zv) else xs[k]? := fun k => by
          unfold zeroed
          by_cases h1 : k < lo
          · rw [if_neg (by omega), List.getElem?_append_left (by simp; omega), List.getElem?_take, if_pos h1]
          · rw [List.getElem?_append_right (by simp; omega)]
            have hl1 : (xs.take lo).length = lo := by simp; omega
            rw [hl1]
            by_cases h2 : k < lo + n
            · rw [if_pos (by omega), List.getElem?_append_left (by simp; omega), List.getElem?_replicate, if_pos (by omega)]
            · rw [if_neg (by omega), List.getElem?_append_right (by simp; omega), List.getElem?_drop]
              congr 1; simp; omega
        have hcv2 : ∀ k, (cvs.take lo ++ (zcv ++ cvs.drop (lo + n)))[k]? = if lo ≤ k ∧ k < lo + n then zcv[k - lo]? else cvs[k]? := fun k => by
          have hl1 : (cvs.take lo).length = lo := by simp; omega
          by_cases h1 : k < lo
          · rw [if_neg (by omega), List.getElem?_append_left (by omega), List.getElem?_take, if_pos h1]
          · rw [List.getElem?_append_right (by omega), hl1]
            by_cases h2 : k < lo + n
            · rw [if_pos (by omega), List.getElem?_append_left (by omega)]
            · rw [if_neg (by omega), List.getElem?_append_right (by omega), List.getElem?_drop]
              congr 1; omega
        refine hS.upd hm hblk g3 hpres (.arr (cvs.take lo ++ (zcv ++ cvs.drop (lo + n))) hla hsz (by rw [hlz]; exact hlen) hcap (by rw [hlz]; simp; omega) (fun k x cv h1 h2 => ?_) (fun k cv h1 => ?_) (fun _ => ⟨⟨cs', tyb, fr, g2, by omega⟩, hf.turn hb g2 g4, fun o hK => absurd hK (hk' o)⟩) (fun hc => by simp [hown] at hc))
        · rw [hzx2] at h1; rw [hcv2] at h2
          by_cases hk2 : lo ≤ k ∧ k < lo + n
          · rw [if_pos hk2] at h1 h2
            exact (hzx (k - lo) x cv (by rw [List.getElem?_replicate, if_pos (by omega)]; exact h1) h2).1.mono hpres (Sub.refl _)
          · rw [if_neg hk2] at h1 h2
            exact (hx' k x cv h1 h2).mono hpres (Sub.refl _)
        · rw [hcv2] at h1
          by_cases hk2 : lo ≤ k ∧ k < lo + n
          · rw [if_pos hk2] at h1
            obtain ⟨q1, q2, q3⟩ := hzx (k - lo) _ cv (by rw [List.getElem?_replicate, if_pos (show k - lo < n by omega)]) h1
            refine ⟨q2, fun j v hj => ⟨by simp, ?_⟩⟩
            have hjw : j < width lay := by
              rw [← q2.size]
              rcases Nat.lt_or_ge j (cellsL lay cv).size with h' | h'
              · exact h'
              · simp [Array.getElem?_eq_none h'] at hj
            have e1 : (k - lo) * width lay + j < n * width lay := by
              have := Nat.mul_le_mul_right (width lay) (show k - lo + 1 ≤ n by omega)
              rw [Nat.add_mul] at this; omega
            have e2 : k * width lay = lo * width lay + (k - lo) * width lay := by rw [← Nat.add_mul]; congr 1; omega
            simp only [World.cell?, g2, Option.isSome_none, Bool.false_eq_true, if_false]
            rw [g6, if_pos (by rw [hZlen]; omega)]
            rw [show o + k * width lay + j - (o + lo * width lay + 0) = (k - lo) * width lay + j by omega]
            simp only [Array.getElem?_toList]
            rw [q3 j hjw, hj]
          · rw [if_neg hk2] at h1
            obtain ⟨q1, q2⟩ := hr k cv h1
            refine ⟨q1, fun j v hj => ⟨by simp, ?_⟩⟩
            have hjw : j < width lay := by
              rw [← q1.size]
              rcases Nat.lt_or_ge j (cellsL lay cv).size with h' | h'
              · exact h'
              · simp [Array.getElem?_eq_none h'] at hj
            have hq := (q2 j v hj).2
            simp only [World.cell?, hb] at hq
            simp only [World.cell?, g2]
            simp only [Option.isSome_none, Bool.false_eq_true, if_false] at hq ⊢
            rw [g6, if_neg]
            · exact hq
            · rw [hZlen]
              rcases Nat.lt_or_ge k lo with h' | h'
              · have := Nat.mul_le_mul_right (width lay) (show k + 1 ≤ lo by omega)
                rw [Nat.add_mul] at this; omega
              · have := Nat.mul_le_mul_right (width lay) (show lo + n ≤ k by omega)
                rw [Nat.add_mul] at this; omega
theorem clearAV_rel {P : Program} {X B : Nat} {w : World} {K : Keep} {m : Map} {S S' : Store} {t ty : TypeId} {x r : AV} {xv : Value} (hS : SR X B w K m S) (h : clearAV P S t x = some (r, S')) (hx : VR X w K m x xv) :
    ∃ w', (Builtin.clear_ #[t] ty #[xv]).run P w = .ok (.tuple #[]) w' ∧ MutR X B w K m S w' r S' (.tuple #[]) := by
  unfold clearAV at h
  split at h
  · rename_i id
    split at h
    · rename_i l0 xs ho
      simp only [Option.map_eq_some_iff, Prod.mk.injEq] at h
      obtain ⟨ys, hc, rfl, rfl⟩ := h
      cases hx with
      | arr hm =>
        rename_i loc
        have hlen : loc.len = xs.length := by cases hS.ob _ _ _ ho hm with | arr cvs ha hz hl hc hs hx' hr ho' hn => exact hl | nilArr hz hl hc ho' => simpa using hl
        rw [hlen]
        refine clearArr_rel hS hm ho hc fun hn => ?_
        cases hS.ob _ _ _ ho hm with
        | arr cvs ha hz hl hc hs hx' hr ho' hn => exact ⟨_, _, ha, by simp [ha]⟩
        | nilArr hz hl hc ho' => simp at hn
    · cases h
  · rename_i id lo n
    split at h
    · rename_i l0 xs ho
      simp only [Option.map_eq_some_iff, Prod.mk.injEq] at h
      obtain ⟨ys, hc, rfl, rfl⟩ := h
      cases hx with
      | sub hm hn hcap hlen ha => exact clearArr_rel hS hm ho hc fun hne => ha (by omega)
    · cases h
  · cases h

theorem opM_sound {P : Program} {B : Nat} {X : Nat} {w : World} {K : Keep} {m : Map} {S S' : Store} {e : Env} {a : Act} {o : Oper} {r : AV} (hS : SR X B w K m S) (hE : OpsR X w K m e a o.op)
    (h : opM P e S o = some (r, S')) : ∃ v w', ((execOp a.eval o).run P w = .ok (.value v) w' ∨ ((execOp a.eval o).run P w = .ok .skip w' ∧ v = undef)) ∧ MutR X B w K m S w' r S' v := by
  obtain ⟨dst, op, type, pos, after, guard⟩ := o
  cases op <;> simp only [opM] at h <;> (try (simp at h; done))
  case store t x y =>
    simp only [Option.map_eq_some_iff, Prod.mk.injEq] at h
    obtain ⟨S'', h, rfl, rfl⟩ := h
    obtain ⟨w', g1, g2, g3, g4, g5, g6⟩ := storeAV_rel hS h (hE x (by simp [Op.operands])) (hE y (by simp [Op.operands]))
    exact ⟨undef, w', .inr ⟨by simp [execOp, g1], rfl⟩, g2, g3, .pv (.tup (by rfl) (by simp)), g4, g5, g6⟩
  case mapUpdate t mo k x =>
    have hm := hE mo (by simp [Op.operands])
    have hk := hE k (by simp [Op.operands])
    have hx := hE x (by simp [Op.operands])
    split at h
    · rename_i id k' d' e1 e2 e3
      rw [e1] at hm; rw [e2] at hk; rw [e3] at hx
      split at h
      · rename_i es ho
        simp only [Option.map_eq_some_iff, Prod.mk.injEq] at h
        obtain ⟨es', h, rfl, rfl⟩ := h
        obtain ⟨w', g1, g2⟩ := updPV_rel hS ho h hm hk.pv_inv hx.pv_inv
        exact ⟨undef, w', .inr ⟨by simp [execOp, g1], rfl⟩, g2⟩
      · simp at h
    · simp at h
  case call c =>
    obtain ⟨callee, args, argTypes⟩ := c
    simp only at h
    split at h
    · rename_i t t2 mo k ht hargs
      have ht' : argTypes = #[t, t2] := by apply Array.ext'; simpa using ht
      have hx' : args = #[mo, k] := by apply Array.ext'; simpa using hargs
      subst ht'; subst hx'
      have hm := hE mo (by simp [Op.operands, Call.operands])
      have hk := hE k (by simp [Op.operands, Call.operands])
      split at h
      · rename_i id k' e1 e2
        rw [e1] at hm; rw [e2] at hk
        split at h
        · rename_i es ho
          simp only [Option.map_eq_some_iff, Prod.mk.injEq] at h
          obtain ⟨es', h, rfl, rfl⟩ := h
          obtain ⟨w', g1, g2⟩ := delPV_rel (t2 := t2) (ty := type) hS ho h hm hk.pv_inv
          refine ⟨undef, w', .inl ?_, g2⟩
          simp [execOp, resolve, invoke, builtin, g1]
        · simp at h
      · simp at h
    · rename_i t x ht hargs
      have ht' : argTypes = #[t] := by apply Array.ext'; simpa using ht
      have hx' : args = #[x] := by apply Array.ext'; simpa using hargs
      subst ht'; subst hx'
      obtain ⟨w', g1, g2⟩ := clearAV_rel (ty := type) hS h (hE x (by simp [Op.operands, Call.operands]))
      exact ⟨_, w', .inl (by simp [execOp, resolve, invoke, builtin, g1]), g2⟩
    · simp at h
  case next it isString =>
    cases isString <;> simp only [reduceCtorEq] at h
    have hit := hE it (by simp [Op.operands])
    generalize hv : a.eval it = iv at hit
    split at h
    · rename_i id he
      rw [he] at hit
      split at h
      · rename_i s pos' ho
        cases hit with
        | ptr hm hla =>
          rename_i b o loc
          cases hS.ob id _ loc ho hm with
          | sit ha hown hb hk =>
            rename_i b'
            rw [hla] at ha; simp only [Option.some.injEq, Addr.mk.injEq] at ha; obtain ⟨rfl, rfl, _⟩ := ha
            have hblk : loc.block? = some b := by simp [Loc.block?, hown, hla]
            split at h
            · rename_i hlt
              simp only [Option.some.injEq, Prod.mk.injEq] at h
              obtain ⟨rfl, rfl⟩ := h
              have hupd : Upd b w { w with heap := w.heap.setIfInBounds b (.stringIter s (pos' + (Utf8.decode s pos').2)) } :=
                ⟨rfl, rfl, rfl, by simp, fun k hk => by simp [Ne.symm hk]⟩
              have hpres : Pres X w K { w with heap := w.heap.setIfInBounds b (.stringIter s (pos' + (Utf8.decode s pos').2)) } := fun b' o v hK hcell => by
                by_cases hbb : b' = b
                · subst hbb; exact hK.elim (fun h => absurd h (hk o)) fun h => by have := hS.low.1; have := (hS.mine id loc b' hm hblk).1; omega
                · rw [cell?_of_heap (hupd.block _ hbb)]; exact hcell
              refine ⟨.tuple #[.bool true, goInt pos', .int .i32 (Utf8.decode s pos').1], _, .inl ?_, hupd.below (hS.mine id loc b hm hblk).1, hpres, ?_, hS.upd hm hblk hupd hpres (.sit hla hown (b := b) (by
                simp [lt_of_block hb]) hk), by simp, hupd.frm hm hblk⟩
              · simp only [execOp, hv, Nat.zero_mul, Nat.add_zero]
                unfold Instr.next
                simp [getObj, Sem.run, hb, hlt, setObj]
              · refine .pv (.tup (by rfl) fun i c v h1 h2 => ?_)
                match i with
                | 0 => simp at h1 h2; subst h1; subst h2; exact .sc _
                | 1 => simp at h1 h2; subst h1; subst h2; exact .sc _
                | 2 => simp at h1 h2; subst h1; subst h2; exact .sc _
                | i + 3 => simp at h1
            · rename_i hge
              simp only [Option.some.injEq, Prod.mk.injEq] at h
              obtain ⟨rfl, rfl⟩ := h
              refine ⟨.tuple #[.bool false], w, .inl ?_, Below.refl _ _, fun _ _ _ _ h => h, ?_, hS, rfl, Frm.refl _ _ _⟩
              · simp only [execOp, hv, Nat.zero_mul, Nat.add_zero]
                unfold Instr.next
                simp [getObj, Sem.run, hb, hge]
              · refine .pv (.tup (by rfl) fun i c v h1 h2 => ?_)
                match i with
                | 0 => simp at h1 h2; subst h1; subst h2; exact .sc _
                | i + 1 => simp at h1
      · simp at h
    · simp at h

end Go.Lite

namespace Go.Lite
open Go
open Go.RowKit (Below)

/-! # append -/
/-- the cells that a list of values takes -/
def flat (lay : Nat) (cvs : List Value) : List Value := cvs.flatMap fun cv => (cellsL lay cv).toList

theorem flat_length {lay : Nat} {cvs : List Value} (h : ∀ (i : Nat) (cv : Value), cvs[i]? = some cv → (cellsL lay cv).size = width lay) : (flat lay cvs).length = cvs.length * width lay := by
  induction cvs with
  | nil => simp [flat]
  | cons c cs ih =>
    have h0 := h 0 c rfl
    have := ih fun i cv hi => h (i + 1) cv (by simpa using hi)
    simp only [flat, List.flatMap_cons, List.length_append, Array.length_toList, List.length_cons] at *
    rw [h0, this, Nat.add_mul]; omega

theorem flat_get {lay : Nat} {cvs : List Value} (h : ∀ (i : Nat) (cv : Value), cvs[i]? = some cv → (cellsL lay cv).size = width lay) :
    ∀ (i j : Nat) (cv : Value), cvs[i]? = some cv → j < width lay → (flat lay cvs)[i * width lay + j]? = (cellsL lay cv)[j]? := by
  induction cvs with
  | nil => intro i j cv hi; simp at hi
  | cons c cs ih =>
    intro i j cv hi hj
    have h0 := h 0 c rfl
    have ih' := ih fun i cv hi => h (i + 1) cv (by simpa using hi)
    simp only [flat, List.flatMap_cons] at *
    cases i with
    | zero =>
      simp at hi; subst hi
      rw [List.getElem?_append_left (by simp; omega)]
      simp
    | succ i =>
      simp only [List.getElem?_cons_succ] at hi
      rw [List.getElem?_append_right (by simp [Nat.add_mul]; omega)]
      simp only [Array.length_toList, h0]
      rw [show (i + 1) * width lay + j - width lay = i * width lay + j by rw [Nat.add_mul]; omega]
      exact ih' i j cv hi hj

/-- every cell of the flat list is one of a value's -/
theorem flat_inv {lay : Nat} {cvs : List Value} (h : ∀ (i : Nat) (cv : Value), cvs[i]? = some cv → (cellsL lay cv).size = width lay) (hw : 0 < width lay) {k : Nat} {v : Value}
    (hk : (flat lay cvs)[k]? = some v) : ∃ i j cv, cvs[i]? = some cv ∧ j < width lay ∧ k = i * width lay + j ∧ (cellsL lay cv)[j]? = some v := by
  have hlt : k < cvs.length * width lay := by
    rw [← flat_length h]
    rcases Nat.lt_or_ge k (flat lay cvs).length with h' | h'
    · exact h'
    · simp [List.getElem?_eq_none h'] at hk
  have hi : k / width lay < cvs.length := by rw [Nat.div_lt_iff_lt_mul hw]; exact hlt
  have hj : k % width lay < width lay := Nat.mod_lt _ hw
  refine ⟨k / width lay, k % width lay, cvs[k / width lay], List.getElem?_eq_getElem hi, hj, ?_, ?_⟩
  · have := Nat.div_add_mod k (width lay); rw [Nat.mul_comm] at this; omega
  · rw [← flat_get h _ _ _ (List.getElem?_eq_getElem hi) hj]
    have := Nat.div_add_mod k (width lay)
    rw [Nat.mul_comm, this]; exact hk

/-- the cells of a slice, read -/
theorem firstCells_run {P : Program} {X : Nat} {w : World} {K KR : Keep} {lay : Nat} {xs : List PV} {a : Option Addr} {len cap : Nat} (hw : 0 < width lay) (h : ListV X w K KR lay xs a len cap) :
    ∃ cvs : List Value, cvs.length = xs.length ∧ (∀ (i : Nat) (x : PV) (cv : Value), xs[i]? = some x → cvs[i]? = some cv → PVR X w K x cv) ∧ (∀ (i : Nat) (cv : Value), cvs[i]? = some cv → Lay lay cv) ∧
      (Builtin.firstCells (width lay) xs.length (.slice a len cap)).run P w = .ok (flat lay cvs).toArray w := by
  rcases h with ⟨rfl, rfl, rfl⟩ | ⟨b, off, cvs, rfl, h1, h2, h3, h4, h5⟩
  · exact ⟨[], rfl, by simp, by simp, by cases a <;> simp [Builtin.firstCells, flat, loadCells, loadCellsFrom]⟩
  · have hsz : ∀ (i : Nat) (cv : Value), cvs[i]? = some cv → (cellsL lay cv).size = width lay := fun i cv hi => (h5 i cv hi).1.size
    refine ⟨cvs, h3, h4, fun i cv hi => (h5 i cv hi).1, ?_⟩
    exact run_firstCells_some w (width lay) xs.length ⟨b, off, none⟩ len cap (flat lay cvs) (by rw [flat_length hsz, h3]) fun k v hk => by
      obtain ⟨i, j, cv, hi, hj, rfl, hv⟩ := flat_inv hsz hw hk
      rw [add_none]
      have := ((h5 i cv hi).2 j v hv).2
      rw [show off + (i * width lay + j) = off + i * width lay + j by omega]
      exact this

/-- an append that must grow -/
theorem append_grow {P : Program} {w : World} {t tx el ex ty : TypeId} {i : TypeInfo} {z : Value} {base xa : Option Addr} {sLen sCap n c : Nat} {olds news : Array Value}
    (ht : P.underlying t = some (.slice el)) (hx : P.underlying tx = some (.slice ex)) (hi : P.info? el = some i) (hz : i.zero = some z)
    (hfo : (Builtin.firstCells i.size sLen (.slice base sLen sCap)).run P w.drew = .ok olds w.drew) (hf : (Builtin.firstCells i.size n (.slice xa n c)).run P w.drew = .ok news w.drew)
    (hg : sCap < sLen + n) (hb : 0 < i.bytes) (hfit : (sLen + n) * i.bytes ≤ 140737488355328) :
    (Builtin.append_ #[t, tx] ty #[.slice base sLen sCap, .slice xa n c]).run P w =
      .ok (.slice (some ⟨w.heap.size, 0, none⟩) (sLen + n) (grownCap w (sLen + n) sCap el))
        (w.drew.alloc (.cells (olds ++ news ++ Builtin.zeroCells z.cells (grownCap w (sLen + n) sCap el - (sLen + n))) el)) := by
  have hn : ¬ (sLen + n ≤ sCap) := by omega
  have h48 := growslice_fits hg hfit
  have h48' : ¬ (281474976710656 < Builtin.nextslicecap (sLen + n) sCap * i.bytes) := by omega
  have hb' : ¬ i.bytes = 0 := by omega
  simp [Builtin.append_, run_underlying ht, run_underlying hx, sizeOf, typeInfo, zeroValue, hi, hz, Builtin.lenOf, hn, hb', h48', Question.forced, hf, hfo, newRow, grownCap]

/-- an append for which there is room -/
theorem append_room {P : Program} {w w' : World} {t tx el ex ty : TypeId} {i : TypeInfo} {base xa : Option Addr} {sLen sCap n c : Nat} {news : Array Value}
    (ht : P.underlying t = some (.slice el)) (hx : P.underlying tx = some (.slice ex)) (hi : P.info? el = some i)
    (hf : (Builtin.firstCells i.size n (.slice xa n c)).run P w = .ok news w) (hroom : sLen + n ≤ sCap)
    (hst : ∀ a, base = some a → (storeCells (a.add (sLen * i.size)) news.toList).run P w = .ok () w') (hno : base = none → w' = w) :
    (Builtin.append_ #[t, tx] ty #[.slice base sLen sCap, .slice xa n c]).run P w = .ok (.slice base (sLen + n) sCap) w' := by
  cases base with
  | none =>
    have := hno rfl; subst this
    simp [Builtin.append_, run_underlying ht, run_underlying hx, sizeOf, typeInfo, hi, Builtin.lenOf, hroom, hf]
  | some a =>
    have := hst a rfl
    simp [Builtin.append_, run_underlying ht, run_underlying hx, sizeOf, typeInfo, hi, Builtin.lenOf, hroom, hf, this]

end Go.Lite

namespace Go.Lite
open Go
open Go.RowKit (Below)

theorem ListV.ext {X : Nat} {w w' : World} {K K' KR : Keep} {lay : Nat} {xs : List PV} {a : Option Addr} {len cap : Nat} (h : Ext w K w' K') (hl : ListV X w K KR lay xs a len cap) :
    ListV X w' K' KR lay xs a len cap := by
  rcases hl with h' | ⟨b, off, cvs, h0, h1, h2, h3, h4, h5⟩
  · exact .inl h'
  · exact .inr ⟨b, off, cvs, h0, h1, h2, h3, fun i x cv hx hc => (h4 i x cv hx hc).ext h, fun i cv hc => ⟨(h5 i cv hc).1, fun j v hj => by
      obtain ⟨g1, g2⟩ := (h5 i cv hc).2 j v hj
      exact ⟨g1, by rw [cell?_of_heap (h.below.block _ (lt_of_cell g2))]; exact g2⟩⟩⟩

/-! # an array moves: its other handles are struck -/
theorem VR.loose {X : Nat} {w : World} {K : Keep} {m m' : Map} {k : Nat} (hm : ∀ id, id ≠ k → ∀ loc, m id = some loc → m' id = some loc)
    {d : AV} {v : Value} (h : VR X w K m d v) (hf : d.free k = true) : VR X w K m' d v := by
  have all : ∀ {cs : List AV}, AV.freeAll k cs = true → ∀ (i : Nat) (c : AV), cs[i]? = some c → c.free k = true := by
    intro cs
    induction cs with
    | nil => intro _ i c h; simp at h
    | cons a cs ih =>
      intro h i c hc
      simp only [AV.freeAll, Bool.and_eq_true] at h
      cases i with
      | zero => simp at hc; subst hc; exact h.1
      | succ i => exact ih h.2 i c (by simpa using hc)
  induction h with
  | pv h => exact .pv h
  | ptr h ha =>
    rename_i id i off b o loc
    simp only [AV.free, bne_iff_ne, ne_eq] at hf
    exact .ptr (hm id hf _ h) ha
  | arr h =>
    rename_i id loc
    simp only [AV.free, bne_iff_ne, ne_eq] at hf
    exact .arr (hm id hf _ h)
  | mp h ha =>
    rename_i id b loc
    simp only [AV.free, bne_iff_ne, ne_eq] at hf
    exact .mp (hm id hf _ h) ha
  | sub h hn hcap hlen ha =>
    rename_i id lo n cap a loc
    simp only [AV.free, bne_iff_ne, ne_eq] at hf
    exact .sub (hm id hf _ h) hn hcap hlen ha
  | agg hs hx ih => exact .agg hs fun i c v h1 h2 => ih i c v h1 h2 (all (by simpa [AV.free] using hf) i c h1)
  | tup hs hx ih => exact .tup hs fun i c v h1 h2 => ih i c v h1 h2 (all (by simpa [AV.free] using hf) i c h1)
  | clo ha hb hx hy ih1 ih2 =>
    simp only [AV.free, Bool.and_eq_true] at hf
    exact .clo ha hb (fun i c v h1 h2 => ih1 i c v h1 h2 (all hf.1 i c h1)) fun i c v h1 h2 => ih2 i c v h1 h2 (all hf.2 i c h1)
  | dead v => exact .dead v


theorem VR.looseO {X : Nat} {w : World} {K : Keep} {m m' : Map} {g : Option Nat} (hm : ∀ id, g ≠ some id → ∀ loc, m id = some loc → m' id = some loc) {d : AV} {v : Value} (h : VR X w K m d v) :
    VR X w K m' (d.looseO g) v := by
  cases g with
  | none => exact h.mono (fun _ _ _ _ h => h) (Sub.refl _) fun id loc => hm id (by simp) loc
  | some k =>
    simp only [AV.looseO, AV.loose]
    split
    · rename_i hf; exact h.loose (fun id hne loc => hm id (by simpa using Ne.symm hne) loc) hf
    · split
      · cases h with
        | agg hs hx =>
          refine .agg (by simpa using hs) fun i c v h1 h2 => ?_
          simp only [List.getElem?_map, Option.map_eq_some_iff] at h1
          obtain ⟨c, h1, rfl⟩ := h1
          unfold AV.looseC
          split
          · rename_i hf; exact (hx i c v h1 h2).loose (fun id hne loc => hm id (by simpa using Ne.symm hne) loc) hf
          · exact .dead _
      · exact .dead _

theorem looseO_dead (g : Option Nat) : AV.dead.looseO g = .dead := by cases g <;> simp [AV.looseO, AV.loose]

theorem ObR.looseO {X : Nat} {w : World} {K : Keep} {m m' : Map} {g : Option Nat} (hm : ∀ id, g ≠ some id → ∀ loc, m id = some loc → m' id = some loc) {o : Ob} {loc : Loc} (h : ObR X w K m o loc) :
    ObR X w K m' (o.mapV (AV.looseO g)) loc := by
  cases h with
  | var hv hl ha hz ho hb hf hk => exact .var (hv.looseO hm) hl ha hz ho hb hf hk
  | arr cvs ha hz hl hc hs hx hr ho hn => exact .arr cvs ha hz hl hc hs hx hr ho hn
  | nilArr hz hl hc ho => exact .nilArr hz hl hc ho
  | sit ha ho hb hk => exact .sit ha ho hb hk
  | map ha ho hb hs hx hst hk => exact .map ha ho hb hs hx hst hk
  | gone => exact .gone

theorem SR.looseO {X B : Nat} {w : World} {K : Keep} {m : Map} {S : Store} (g : Option Nat) (hS : SR X B w K m S) : SR X B w K m (S.map (Ob.mapV (AV.looseO g))) where
  ob id o loc h1 h2 := by
    simp only [List.getElem?_map, Option.map_eq_some_iff] at h1
    obtain ⟨o', h1, rfl⟩ := h1
    exact (hS.ob id o' loc h1 h2).looseO fun _ _ _ h => h
  sep := hS.sep
  mine := hS.mine
  keep := hS.keep
  size := hS.size
  low := hS.low

/-- how long an array is -/
def alen (S : Store) (id : Nat) : Option Nat := match S[id]? with
  | some (.arr _ _ xs) => some xs.length
  | _ => none
/-- is it a map? -/
def Ob.isMap : Ob → Bool
  | .map _ => true
  | _ => false
def mapAt (S : Store) (id : Nat) : Bool := match S[id]? with
  | some o => o.isMap
  | none => false
theorem mapAt_set {S : Store} {id : Nat} {o o' : Ob} (h : S[id]? = some o) (hk : o'.isMap = o.isMap) (k : Nat) : mapAt (S.set id o') k = mapAt S k := by
  unfold mapAt
  by_cases hi : id = k
  · subst hi
    have hlt : id < S.length := by
      rcases Nat.lt_or_ge id S.length with h' | h'
      · exact h'
      · simp [List.getElem?_eq_none h'] at h
    rw [List.getElem?_set_self hlt, h]; exact hk
  · rw [List.getElem?_set_ne hi]
theorem mapAt_map (S : Store) (f : AV → AV) (id : Nat) : mapAt (S.map (Ob.mapV f)) id = mapAt S id := by
  unfold mapAt
  simp only [List.getElem?_map]
  cases S[id]? with
  | none => rfl
  | some o => cases o <;> rfl
theorem mapAt_app {S : Store} {T : Store} {id : Nat} (h : id < S.length) : mapAt (S ++ T) id = mapAt S id := by unfold mapAt; rw [List.getElem?_append_left h]
/-- Objects stay; an array that has not grown lies where it lay. -/
structure Evo (S S' : Store) (m m' : Map) : Prop where
  len : S.length ≤ S'.length
  arr : ∀ id n, id < S.length → alen S id = some n → ∃ n', alen S' id = some n' ∧ n ≤ n' ∧ (n = n' → m' id = m id)
  oth : ∀ id, id < S.length → alen S id = none → alen S' id = none ∧ (mapAt S id = true ∨ m' id = m id)
  kind : ∀ id, id < S.length → mapAt S' id = mapAt S id

theorem Evo.refl (S : Store) (m : Map) : Evo S S m m := ⟨Nat.le_refl _, fun _ n _ h => ⟨n, h, Nat.le_refl _, fun _ => rfl⟩, fun _ _ h => ⟨h, .inr rfl⟩, fun _ _ => rfl⟩
theorem Evo.trans {S S' S'' : Store} {m m' m'' : Map} (h : Evo S S' m m') (h' : Evo S' S'' m' m'') : Evo S S'' m m'' where
  len := Nat.le_trans h.len h'.len
  arr id n hid hn := by
    obtain ⟨n', h1, h2, h3⟩ := h.arr id n hid hn
    obtain ⟨n'', h4, h5, h6⟩ := h'.arr id n' (Nat.lt_of_lt_of_le hid h.len) h1
    exact ⟨n'', h4, Nat.le_trans h2 h5, fun e => by rw [h6 (by omega), h3 (by omega)]⟩
  oth id hid hn := by
    obtain ⟨h1, h2⟩ := h.oth id hid hn
    obtain ⟨h3, h4⟩ := h'.oth id (Nat.lt_of_lt_of_le hid h.len) h1
    refine ⟨h3, ?_⟩
    rcases h2 with h2 | h2
    · exact .inl h2
    · rcases h4 with h4 | h4
      · exact .inl (by rw [← h.kind id hid]; exact h4)
      · exact .inr (h4.trans h2)
  kind id hid := (h'.kind id (Nat.lt_of_lt_of_le hid h.len)).trans (h.kind id hid)
theorem alen_map (S : Store) (f : AV → AV) (id : Nat) : alen (S.map (Ob.mapV f)) id = alen S id := by
  unfold alen
  simp only [List.getElem?_map]
  cases S[id]? with
  | none => rfl
  | some o => cases o <;> rfl
theorem Evo.mapV {S S' : Store} {m m' : Map} (f : AV → AV) (h : Evo S S' m m') : Evo S (S'.map (Ob.mapV f)) m m' where
  len := by simpa using h.len
  arr id n hid hn := by rw [alen_map]; exact h.arr id n hid hn
  oth id hid hn := by rw [alen_map]; exact h.oth id hid hn
  kind id hid := by rw [mapAt_map]; exact h.kind id hid

/-- What an append comes to. -/
structure AppR (X B : Nat) (w : World) (K : Keep) (m : Map) (S : Store) (w' : World) (K' : Keep) (m' : Map) (r : AV) (S' : Store) (g : Option Nat) (v : Value) : Prop where
  below : Below B w w'
  pres : Pres X w K w'
  sub : Sub K K'
  knew : ∀ b o, K' b o → K b o ∨ B ≤ b
  val : VR X w' K' m' r v
  sr : SR X B w' K' m' (S'.map (Ob.mapV (AV.looseO g)))
  evo : Evo S S' m m'
  same : ∀ id, g ≠ some id → ∀ loc, m id = some loc → m' id = some loc
  dom : ∀ id, S.length ≤ id → m' id = m id
  len : S'.length = S.length
  frm : Frm w K m w' K' m'

theorem drew_ext {w : World} {K : Keep} : Ext w K w.drew K := Ext.drew

/-- the cells of a list, behind one another in one block -/
theorem rows_of_flat {w : World} {KR : Keep} {b off lay : Nat} {cs : Array Value} {ty : TypeId} {fr : Nat × Nat} {cvs : List Value} (hb : w.heap[b]? = some (.cells cs ty fr))
    (hlay : ∀ (i : Nat) (cv : Value), cvs[i]? = some cv → Lay lay cv) (hcs : ∀ (k : Nat) (v : Value), (flat lay cvs)[k]? = some v → cs[off + k]? = some v)
    (hk : ∀ (i j : Nat), i < cvs.length → j < width lay → KR b (off + i * width lay + j)) :
    ∀ (i : Nat) (cv : Value), cvs[i]? = some cv → Row w KR b (off + i * width lay) lay cv := by
  intro i cv hi
  have hsz : ∀ (i : Nat) (cv : Value), cvs[i]? = some cv → (cellsL lay cv).size = width lay := fun i cv hi => (hlay i cv hi).size
  have hilt : i < cvs.length := by
    rcases Nat.lt_or_ge i cvs.length with h' | h'
    · exact h'
    · simp [List.getElem?_eq_none h'] at hi
  refine ⟨hlay i cv hi, fun j v hj => ?_⟩
  have hjw : j < width lay := by
    rw [← hsz i cv hi]
    rcases Nat.lt_or_ge j (cellsL lay cv).size with h' | h'
    · exact h'
    · simp [Array.getElem?_eq_none h'] at hj
  refine ⟨hk i j hilt hjw, ?_⟩
  have := hcs (i * width lay + j) v (by rw [flat_get hsz i j cv hi hjw]; exact hj)
  simp only [World.cell?, hb]
  rw [show off + i * width lay + j = off + (i * width lay + j) by omega]
  simpa using this

theorem flat_append (lay : Nat) (a b : List Value) : flat lay (a ++ b) = flat lay a ++ flat lay b := by simp [flat]

end Go.Lite

namespace Go.Lite
open Go
open Go.RowKit (Below)

/-- what a list that has grown into a new block is -/
theorem append_new {P : Program} {X : Nat} {w : World} {K KR KR' : Keep} {t tx el ex ty : TypeId} {i : TypeInfo} {lay : Nat} {z : PV} {xs ys : List PV} {base xa : Option Addr} {sLen sCap n c : Nat}
    (ht : P.underlying t = some (.slice el)) (hx : P.underlying tx = some (.slice ex)) (hl : layOf P el = some lay) (hi : P.info? el = some i) (hz : zeroPV P el = some z) (hzl : z.hasLay lay = true)
    (hw : 0 < width lay) (hb : 0 < i.bytes) (ho : ListV X w K KR lay xs base sLen sCap) (hn : ListV X w K KR' lay ys xa n c) (hg : sCap < sLen + n) (hfit : (xs.length + ys.length) * i.bytes ≤ appendRoom) :
    ∃ (w' : World) (cap' : Nat) (cs : Array Value) (cvs : List Value), (Builtin.append_ #[t, tx] ty #[.slice base sLen sCap, .slice xa n c]).run P w = .ok (.slice (some ⟨w.heap.size, 0, none⟩) (xs.length + ys.length) cap') w' ∧
      w' = w.drew.alloc (.cells cs el) ∧ xs.length + ys.length ≤ cap' ∧ cap' * width lay ≤ cs.size ∧ cvs.length = xs.length + ys.length ∧
      (∀ (i : Nat) (x : PV) (cv : Value), (xs ++ ys)[i]? = some x → cvs[i]? = some cv → PVR X w K x cv) ∧ (∀ (i : Nat) (cv : Value), cvs[i]? = some cv → Lay lay cv) ∧
      (∀ (k : Nat) (v : Value), (flat lay cvs)[k]? = some v → cs[k]? = some v) := by
  obtain ⟨d, i', hd, hi', hsz, hagg⟩ := layOf_some hl
  rw [hi] at hi'; simp only [Option.some.injEq] at hi'; subst hi'
  obtain ⟨zi, zv, hzi, hzv, rfl⟩ := zeroPV_some hz
  rw [hi] at hzi; simp only [Option.some.injEq] at hzi; subst hzi
  obtain ⟨z1, z2, z3, z4⟩ := PV.hasLay_rel hzl (ofValue_rel (X := X) w K zv)
  obtain ⟨hlo, hco⟩ := ho.length
  obtain ⟨hln, hcn⟩ := hn.length
  subst hlo; subst hln
  obtain ⟨co, o1, o2, o3, o4⟩ := firstCells_run (P := P) hw (ho.ext (drew_ext (w := w) (K := K)))
  obtain ⟨cn, n1, n2, n3, n4⟩ := firstCells_run (P := P) hw (hn.ext (drew_ext (w := w) (K := K)))
  rw [← hsz] at o4 n4
  have hrun := append_grow (ty := ty) ht hx hi hzv o4 n4 hg hb hfit
  have hge := grownCap_ge w (xs.length + ys.length) sCap el
  have hso : ∀ (i : Nat) (cv : Value), co[i]? = some cv → (cellsL lay cv).size = width lay := fun i cv h => (o3 i cv h).size
  have hsn : ∀ (i : Nat) (cv : Value), cn[i]? = some cv → (cellsL lay cv).size = width lay := fun i cv h => (n3 i cv h).size
  have back : ∀ {d : PV} {v : Value}, PVR X w.drew K d v → PVR X w K d v := fun h => h.mono (show Pres X w.drew K w from fun _ _ _ _ h => h) (Sub.refl _)
  refine ⟨_, _, _, co ++ cn, hrun, rfl, hge, ?_, by simp [o1, n1], fun k x cv h1 h2 => ?_, fun k cv h => ?_, fun k v hk => ?_⟩
  · simp only [Array.size_append, List.size_toArray, flat_length hso, flat_length hsn, size_zeroCells, z2, z1.size, o1, n1]
    rw [← Nat.add_mul, ← Nat.add_mul]
    apply Nat.mul_le_mul_right
    omega
  · by_cases hk : k < xs.length
    · rw [List.getElem?_append_left hk] at h1
      rw [List.getElem?_append_left (by omega)] at h2
      exact back (o2 k x cv h1 h2)
    · rw [List.getElem?_append_right (by omega)] at h1
      rw [List.getElem?_append_right (by omega), o1] at h2
      exact back (n2 _ x cv h1 h2)
  · by_cases hk : k < co.length
    · rw [List.getElem?_append_left hk] at h; exact o3 k cv h
    · rw [List.getElem?_append_right (by omega)] at h; exact n3 _ cv h
  · rw [flat_append] at hk
    have hlt : k < (flat lay co ++ flat lay cn).length := by
      rcases Nat.lt_or_ge k (flat lay co ++ flat lay cn).length with h' | h'
      · exact h'
      · simp [List.getElem?_eq_none h'] at hk
    rw [Array.getElem?_append, if_pos (by simpa using hlt), Array.getElem?_append]
    split
    · rename_i h; rw [List.getElem?_append_left (by simpa using h)] at hk; simpa using hk
    · rename_i h; simp only [List.size_toArray, Nat.not_lt] at h
      rw [List.getElem?_append_right h] at hk
      simpa using hk

/-- the new block's world -/
theorem append_ext {w : World} {K : Keep} (o : Obj) (q : Nat → Prop) : Ext w K (w.drew.alloc o) (fun b i => K b i ∨ (b = w.heap.size ∧ q i)) where
  below := ((Below.refl _ _).drew).alloc (Nat.le_refl _) o
  sub _ _ h := .inl h
  new b i h := h.imp id fun h => ⟨by omega, by simp; omega⟩

theorem heap_alloc_drew (w : World) (o : Obj) : (w.drew.alloc o).heap[w.heap.size]? = some o := heap_alloc_new w.drew o

theorem unfrozen_new (w : World) (cs : Array Value) (t : TypeId) : Unfrozen (w.drew.alloc (.cells cs t)) w.heap.size := by
  exact unfrozen_alloc w.drew cs t

/-- the appended list, where nobody appends any more -/
theorem append_new_pvr {X : Nat} {w : World} {K : Keep} {lay : Nat} {zs : List PV} {cs : Array Value} {cvs : List Value} {el : TypeId} {cap : Nat} (hc : zs.length ≤ cap) (hl : cvs.length = zs.length)
    (hx : ∀ (i : Nat) (x : PV) (cv : Value), zs[i]? = some x → cvs[i]? = some cv → PVR X w K x cv) (hlay : ∀ (i : Nat) (cv : Value), cvs[i]? = some cv → Lay lay cv)
    (hcs : ∀ (k : Nat) (v : Value), (flat lay cvs)[k]? = some v → cs[k]? = some v) :
    PVR X (w.drew.alloc (.cells cs el)) (fun b i => K b i ∨ (b = w.heap.size ∧ True)) (.list lay false zs) (.slice (some ⟨w.heap.size, 0, none⟩) zs.length cap) := by
  have hext : Ext w K (w.drew.alloc (.cells cs el)) (fun b i => K b i ∨ (b = w.heap.size ∧ True)) := append_ext _ _
  exact .list cvs rfl hc (by simp) hl (fun i x cv h1 h2 => (hx i x cv h1 h2).ext hext)
    (rows_of_flat (heap_alloc_drew w _) hlay (by simpa using hcs) fun i j _ _ => .inr ⟨rfl, trivial⟩)

theorem map_looseO_none (S : Store) : S.map (Ob.mapV (AV.looseO none)) = S := by
  have : Ob.mapV (AV.looseO none) = id := by
    funext o; cases o <;> simp [Ob.mapV, AV.looseO]
  rw [this]; simp

theorem appendAV_rel {P : Program} {X B : Nat} {w : World} {K : Keep} {m : Map} {S S' : Store} {t tx ty : TypeId} {s x r : AV} {sv xv : Value} {g : Option Nat} (hS : SR X B w K m S)
    (h : appendAV P S t tx s x = some (r, S', g)) (hs : VR X w K m s sv) (hx : VR X w K m x xv) :
    ∃ v w' K' m', (Builtin.append_ #[t, tx] ty #[sv, xv]).run P w = .ok v w' ∧ AppR X B w K m S w' K' m' r S' g v := by
  unfold appendAV at h
  split at h
  case h_2 => simp at h
  rename_i el ex hu hux
  split at h
  case h_2 => simp at h
  rename_i lay i z hl hi hz
  split at h
  case isFalse => simp at h
  rename_i hcond
  obtain ⟨hw, hb, hzl⟩ := hcond
  obtain ⟨d0, i0, hd0, hi0, hsz, hagg⟩ := layOf_some hl
  rw [hi] at hi0; simp only [Option.some.injEq] at hi0; subst hi0
  -- nothing happens
  have idle : ∀ {r' : AV} {v : Value} {g' : Option Nat}, VR X w K m r' v → AppR X B w K m S w K m r' S g' v := fun {r' v g'} hv =>
    ⟨Below.refl _ _, fun _ _ _ _ h => h, Sub.refl _, fun _ _ h => .inl h, hv, hS.looseO g', Evo.refl _ _, fun _ _ _ h => h, fun _ _ => rfl, rfl, Frm.refl _ _ _⟩
  have room0 : ∀ {base xa : Option Addr} {sLen sCap c : Nat}, sLen ≤ sCap → (Builtin.firstCells i.size 0 (.slice xa 0 c)).run P w = .ok #[] w →
      (Builtin.append_ #[t, tx] ty #[.slice base sLen sCap, .slice xa 0 c]).run P w = .ok (.slice base sLen sCap) w := by
    intro base xa sLen sCap c hc hf
    have := append_room (w' := w) (ty := ty) (base := base) (sLen := sLen) (sCap := sCap) hu hux hi hf (by omega) (fun a _ => by simp [storeCells]) (fun _ => rfl)
    simpa using this
  have grow : ∀ {xs ys : List PV} {base xa : Option Addr} {sLen sCap n c : Nat} {KR KR' : Keep}, ListV X w K KR lay xs base sLen sCap → ListV X w K KR' lay ys xa n c → sCap < sLen + n →
      (xs.length + ys.length) * i.bytes ≤ appendRoom → ∃ v w' K' m', (Builtin.append_ #[t, tx] ty #[.slice base sLen sCap, .slice xa n c]).run P w = .ok v w' ∧ AppR X B w K m S w' K' m' (.pv (.list lay false (xs ++ ys))) S none v := by
    intro xs ys base xa sLen sCap n c KR KR' h1 h2 h3 h4
    obtain ⟨w', cap', cs, cvs, e1, rfl, e3, e4, e5, e6, e7, e8⟩ := append_new (ty := ty) hu hux hl hi hz hzl hw hb h1 h2 h3 h4
    have hext : Ext w K (w.drew.alloc (.cells cs el)) (fun b i => K b i ∨ (b = w.heap.size ∧ True)) := append_ext _ _
    refine ⟨_, _, _, m, e1, hext.below.mono hS.size, hext.pres, hext.sub, fun b o hK => hK.imp (fun h => h) fun h => by have := hS.size; omega, .pv ?_, ?_, Evo.refl _ _, fun _ _ _ h => h, fun _ _ => rfl, rfl, hext.frm m⟩
    · have := append_new_pvr (el := el) (cap := cap') (by simpa using e3) (by simpa using e5) e6 e7 e8
      simpa using this
    · rw [map_looseO_none]; exact hS.ext hext
  split at h
  · rename_i lx ys hel
    split at h
    case isFalse => simp at h
    rename_i hle; subst hle
    obtain ⟨xa, n, c, rfl, hnew⟩ := elems_rel hS hel hx
    obtain ⟨hn, hc⟩ := hnew.length
    subst hn
    obtain ⟨cn, n1, n2, n3, n4⟩ := firstCells_run (P := P) hw hnew
    rw [← hsz] at n4
    have f0 : ys = [] → (Builtin.firstCells i.size 0 (.slice xa 0 c)).run P w = .ok #[] w := by
      intro h0; subst h0
      have : cn = [] := List.eq_nil_of_length_eq_zero (by simpa using n1)
      subst this
      simpa [flat] using n4
    split at h
    · -- an array of the call's own
      rename_i id
      split at h
      case h_2 => simp at h
      rename_i l0 excl xs ho
      split at h
      case isFalse => simp at h
      rename_i hcond2
      obtain ⟨rfl, hroom, hfree⟩ := hcond2
      simp only [Option.some.injEq, Prod.mk.injEq] at h
      obtain ⟨rfl, rfl, rfl⟩ := h
      cases hs with
      | arr hm =>
        rename_i loc
        have hob := hS.ob id _ loc ho hm
        have hold := hob.listV
        obtain ⟨hlo, hco⟩ := hold.length
        by_cases hy : ys = []
        · subst hy
          refine ⟨_, w, K, m, by simpa using room0 (base := loc.a) (by simpa using hco) (f0 rfl), ?_⟩
          have hset : S.set id (.arr lay excl (xs ++ [])) = S := by
            rw [List.append_nil]
            apply List.ext_getElem?
            intro k
            rw [List.getElem?_set]
            split
            · rename_i hk; subst hk
              split
              · exact ho.symm
              · rename_i hge; rw [List.getElem?_eq_none (by omega)]
            · rfl
          rw [hset]
          exact idle (.arr hm)
        · have hpos : 0 < ys.length := List.length_pos_iff.2 hy
          by_cases hcap : loc.cap < loc.len + ys.length
          · -- it moves
            obtain ⟨w', cap', cs, cvs, e1, rfl, e3, e4, e5, e6, e7, e8⟩ := append_new (ty := ty) hu hux hl hi hz hzl hw hb hold hnew hcap hroom
            have hext : Ext w K (w.drew.alloc (.cells cs el)) (fun b o => K b o ∨ (b = w.heap.size ∧ (excl = false ∧ o < (xs.length + ys.length) * width lay))) := append_ext _ _
            let loc' : Loc := ⟨some ⟨w.heap.size, 0, none⟩, xs.length + ys.length, cap', width lay, true⟩
            let m' : Map := fun k => if k = id then some loc' else m k
            have hsame : ∀ k, some id ≠ some k → ∀ l, m k = some l → m' k = some l := fun k hk l hl => by
              simp only [m']; rw [if_neg (by simpa using Ne.symm hk)]; exact hl
            have hb' := heap_alloc_drew w (.cells cs el)
            have hevo : Evo S (S.set id (.arr lay excl (xs ++ ys))) m m' := by
              refine ⟨by simp, fun k n hk hn => ?_, fun k hk hn => ?_, fun k _ => mapAt_set ho (by rfl) k⟩
              · by_cases hki : k = id
                · subst hki
                  have : n = xs.length := by simp only [alen, ho, Option.some.injEq] at hn; exact hn.symm
                  exact ⟨xs.length + ys.length, by simp [alen, hk], by omega, by omega⟩
                · refine ⟨n, ?_, Nat.le_refl _, fun _ => by simp only [m']; rw [if_neg hki]⟩
                  simp only [alen, List.getElem?_set_ne (Ne.symm hki)] at hn ⊢; exact hn
              · have hki : k ≠ id := by intro hc; subst hc; simp [alen, ho] at hn
                refine ⟨?_, .inr (by simp only [m']; rw [if_neg hki])⟩
                simp only [alen, List.getElem?_set_ne (Ne.symm hki)] at hn ⊢; exact hn
            have hidlt : id < S.length := by
              rcases Nat.lt_or_ge id S.length with h' | h'
              · exact h'
              · simp [List.getElem?_eq_none h'] at ho
            refine ⟨_, _, _, m', e1, hext.below.mono hS.size, hext.pres, hext.sub, fun b o hK => hK.imp (fun h => h) fun h => by have := hS.size; omega, ?_, ?_, hevo, hsame, fun k hk => by simp only [m']; rw [if_neg (by omega)], by simp, hext.frm' fun b1 ⟨k, l, hk, hl⟩ => ?_⟩
            rotate_left 2
            · simp only [m'] at hk
              split at hk
              · simp only [Option.some.injEq] at hk; subst hk
                simp [Loc.block?, loc'] at hl; exact .inl (by omega)
              · exact .inr ⟨k, l, hk, hl⟩
            · exact .arr (loc := loc') (by simp [m'])
            · have hnewOb : ObR X (w.drew.alloc (.cells cs el)) (fun b o => K b o ∨ (b = w.heap.size ∧ (excl = false ∧ o < (xs.length + ys.length) * width lay))) m' (.arr lay excl (xs ++ ys)) loc' := by
                refine .arr (b := w.heap.size) (off := 0) cvs rfl rfl (by simp [loc']) e3 (by simpa using e5) (fun i x cv h1 h2 => (e6 i x cv h1 h2).ext hext) ?_ (fun _ => ⟨⟨cs, el, (0, 0), hb', by simpa using e4⟩, ⟨unfrozen_new w cs el, fun _ o => World.frozen?_alloc_new w.drew _ _ _⟩, fun o hK => ?_⟩) (by simp [loc'])
                · refine rows_of_flat hb' e7 (by simpa using e8) fun i j hi hj => ?_
                  split
                  · trivial
                  · rename_i he
                    refine .inr ⟨rfl, by simpa using he, ?_⟩
                    have := Nat.mul_le_mul_right (width lay) (show i + 1 ≤ xs.length + ys.length by omega)
                    rw [Nat.add_mul] at this; omega
                · rcases hK with hK | ⟨_, h1, h2⟩
                  · exact absurd (hS.keep _ _ hK) (by simp)
                  · exact ⟨h1, by simpa using h2⟩
              refine ⟨fun k o l h1 h2 => ?_, fun k k' l l' b h1 h2 h3 h4 => ?_, fun k l b h1 h2 => ?_, fun b o hK => ?_, ?_, (hS.ext hext).low⟩
              · simp only [List.getElem?_map, Option.map_eq_some_iff] at h1
                obtain ⟨o', h1, rfl⟩ := h1
                rw [List.getElem?_set] at h1
                split at h1
                · rename_i hk; subst hk
                  try rw [if_pos hidlt] at h1
                  simp only [Option.some.injEq] at h1; subst h1
                  simp only [m', if_true, Option.some.injEq] at h2; subst h2
                  exact hnewOb
                · rename_i hk
                  simp only [m'] at h2; rw [if_neg (Ne.symm hk)] at h2
                  exact ((hS.ob k o' l h1 h2).ext hext fun _ _ h => h).looseO hsame
              · simp only [m'] at h1 h2
                have fresh : ∀ {k l b}, m k = some l → l.block? = some b → b < w.heap.size := fun h h' => (hS.mine _ _ _ h h').2
                split at h1
                · rename_i hk; subst hk
                  split at h2
                  · rename_i hk'; exact hk'.symm
                  · simp only [Option.some.injEq] at h1; subst h1
                    simp [Loc.block?, loc'] at h3; subst h3
                    exact absurd (fresh h2 h4) (by omega)
                · split at h2
                  · simp only [Option.some.injEq] at h2; subst h2
                    simp [Loc.block?, loc'] at h4; subst h4
                    exact absurd (fresh h1 h3) (by omega)
                  · exact hS.sep k k' l l' b h1 h2 h3 h4
              · simp only [m'] at h1
                split at h1
                · simp only [Option.some.injEq] at h1; subst h1
                  simp [Loc.block?, loc'] at h2; subst h2
                  exact ⟨hS.size, by simp⟩
                · obtain ⟨a, c⟩ := hS.mine k l b h1 h2
                  exact ⟨a, Nat.lt_of_lt_of_le c hext.below.size⟩
              · rcases hK with hK | ⟨rfl, _⟩
                · exact Nat.lt_of_lt_of_le (hS.keep _ _ hK) hext.below.size
                · simp
              · exact Nat.le_trans hS.size hext.below.size
          · -- there is room
            cases hob with
            | nilArr hz' hl' hc' ho' => omega
            | arr cvs ha hz' hl' hc' hs' hx' hr ho' hn' =>
              rename_i b off
              have hown : loc.own = true := by
                cases hc : loc.own with
                | true => rfl
                | false => have := (hn' hc).2; omega
              obtain ⟨⟨cs, ty', fr, hb', hfit⟩, hu', hk'⟩ := ho' hown
              have hblk : loc.block? = some b := by simp [Loc.block?, hown, ha]
              obtain ⟨hBb, hblt⟩ := hS.mine id loc b hm hblk
              have hsn : ∀ (i : Nat) (cv : Value), cn[i]? = some cv → (cellsL lay cv).size = width lay := fun i cv h => (n3 i cv h).size
              have hmul : off + loc.len * width lay + (flat lay cn).length ≤ cs.size := by
                rw [flat_length hsn, n1]
                have := Nat.mul_le_mul_right (width lay) (show loc.len + ys.length ≤ loc.cap by omega)
                rw [Nat.add_mul] at this; omega
              have hone : ∀ v ∈ flat lay cn, v.oneCell' = true := by
                intro v hv
                obtain ⟨k, hk, hkv⟩ := List.getElem_of_mem hv
                obtain ⟨i1, j1, cv, g1, g2, g3, g4⟩ := flat_inv hsn hw (List.getElem?_eq_some_iff.2 ⟨hk, hkv⟩)
                exact (n3 i1 cv g1).2 j1 v g4
              obtain ⟨w', cs', e1, e2, e3, e4, e5, e6⟩ := run_storeCells_block (P := P) (b := b) (off := off + loc.len * width lay) (flat lay cn) 0 w cs hb' (by omega) hu'.1 hone
              have hold' : ∀ k, k < off + loc.len * width lay → cs'[k]? = cs[k]? := fun k hk => by rw [e6, if_neg (by omega)]
              have hpres : Pres X w K w' := fun b1 o v hK hcell => by
                by_cases hbb : b1 = b
                · subst hbb
                  rcases hK with hK | hK
                  · have := (hk' o hK).2
                    simp only [World.cell?, hb'] at hcell
                    simp only [World.cell?, e2]
                    simp only [Option.isSome_none, Bool.false_eq_true, if_false] at hcell ⊢
                    rw [hold' o this]; exact hcell
                  · have := hS.low.1; omega
                · rw [cell?_of_heap (e3.block _ hbb)]; exact hcell
              let K' : Keep := fun b1 o => K b1 o ∨ (b1 = b ∧ (excl = false ∧ o < off + (loc.len + ys.length) * width lay))
              have hsub : Sub K K' := fun _ _ h => .inl h
              let loc' : Loc := ⟨loc.a, loc.len + ys.length, loc.cap, loc.sz, true⟩
              let m' : Map := fun k => if k = id then some loc' else m k
              have hsame : ∀ k, some id ≠ some k → ∀ l, m k = some l → m' k = some l := fun k hk l hl => by
                simp only [m']; rw [if_neg (by simpa using Ne.symm hk)]; exact hl
              have hidlt : id < S.length := by
                rcases Nat.lt_or_ge id S.length with h' | h'
                · exact h'
                · simp [List.getElem?_eq_none h'] at ho
              have hevo : Evo S (S.set id (.arr lay excl (xs ++ ys))) m m' := by
                refine ⟨by simp, fun k n hk hn => ?_, fun k hk hn => ?_, fun k _ => mapAt_set ho (by rfl) k⟩
                · by_cases hki : k = id
                  · subst hki
                    have : n = xs.length := by simp only [alen, ho, Option.some.injEq] at hn; exact hn.symm
                    exact ⟨xs.length + ys.length, by simp [alen, hk], by omega, by omega⟩
                  · refine ⟨n, ?_, Nat.le_refl _, fun _ => by simp only [m']; rw [if_neg hki]⟩
                    simp only [alen, List.getElem?_set_ne (Ne.symm hki)] at hn ⊢; exact hn
                · have hki : k ≠ id := by intro hc; subst hc; simp [alen, ho] at hn
                  refine ⟨?_, .inr (by simp only [m']; rw [if_neg hki])⟩
                  simp only [alen, List.getElem?_set_ne (Ne.symm hki)] at hn ⊢; exact hn
              have hblk' : loc'.block? = some b := by simp [Loc.block?, loc', ha]
              have up : ∀ {d : PV} {v : Value}, PVR X w K d v → PVR X w' K' d v := fun h => h.mono hpres hsub
              have hmul2 : loc.len * width lay + ys.length * width lay = (loc.len + ys.length) * width lay := by rw [Nat.add_mul]
              refine ⟨.slice loc.a (loc.len + ys.length) loc.cap, w', K', m', ?_, e3.below hBb, hpres, hsub, fun b1 o hK => hK.imp (fun h => h) fun h => by omega, ?_, ?_, hevo, hsame, fun k hk => by simp only [m']; rw [if_neg (by omega)], by simp, e3.frm' hm hblk (fun b1 ⟨k, l, hk, hl⟩ => ?_) fun b1 o hK => hK.imp (fun h => h) fun h => h.1⟩
              rotate_left 3
              · simp only [m'] at hk
                split at hk
                · simp only [Option.some.injEq] at hk; subst hk
                  rw [hblk'] at hl; simp only [Option.some.injEq] at hl; subst hl
                  exact .inr ⟨id, loc, hm, hblk⟩
                · exact .inr ⟨k, l, hk, hl⟩
              · refine append_room hu hux hi n4 (by omega) (fun a haa => ?_) (fun hno => by rw [ha] at hno; simp at hno)
                rw [ha] at haa; simp only [Option.some.injEq] at haa; subst haa
                rw [add_none, hsz]; exact e1
              · exact .arr (loc := loc') (by simp [m'])
              · have hnewOb : ObR X w' K' m' (.arr lay excl (xs ++ ys)) loc' := by
                  refine .arr (b := b) (off := off) (cvs ++ cn) ha hz' (by simp [loc', hl']) (by simp only [loc']; omega) (by simp [hs', n1]) (fun i x cv h1 h2 => ?_) (fun i cv h1 => ?_) (fun _ => ⟨⟨cs', ty', fr, e2, by simp only [loc']; omega⟩, hu'.turn hb' e2 e4, fun o hK => ?_⟩) (by simp [loc'])
                  · by_cases hi' : i < xs.length
                    · rw [List.getElem?_append_left hi'] at h1
                      rw [List.getElem?_append_left (by omega)] at h2
                      exact up (hx' i x cv h1 h2)
                    · rw [List.getElem?_append_right (by omega)] at h1
                      rw [List.getElem?_append_right (by omega), hs'] at h2
                      exact up (n2 _ x cv h1 h2)
                  · by_cases hi' : i < cvs.length
                    · rw [List.getElem?_append_left hi'] at h1
                      obtain ⟨q1, q2⟩ := hr i cv h1
                      refine ⟨q1, fun j v hj => ?_⟩
                      obtain ⟨q3, q4⟩ := q2 j v hj
                      have hjw : j < width lay := by
                        rw [← q1.size]
                        rcases Nat.lt_or_ge j (cellsL lay cv).size with h' | h'
                        · exact h'
                        · simp [Array.getElem?_eq_none h'] at hj
                      have hpos' : off + i * width lay + j < off + loc.len * width lay := by
                        have := Nat.mul_le_mul_right (width lay) (show i + 1 ≤ loc.len by omega)
                        rw [Nat.add_mul] at this; omega
                      refine ⟨?_, ?_⟩
                      · split
                        · trivial
                        · rename_i he; simp only [he] at q3; exact .inl (by simpa using q3)
                      · simp only [World.cell?, hb'] at q4
                        simp only [World.cell?, e2]
                        simp only [Option.isSome_none, Bool.false_eq_true, if_false] at q4 ⊢
                        rw [hold' _ hpos']; exact q4
                    · rw [List.getElem?_append_right (by omega)] at h1
                      have hil : i - cvs.length < cn.length := by
                        rcases Nat.lt_or_ge (i - cvs.length) cn.length with h' | h'
                        · exact h'
                        · simp [List.getElem?_eq_none h'] at h1
                      have hle : cvs.length * width lay ≤ i * width lay := Nat.mul_le_mul_right _ (by omega)
                      have key := rows_of_flat (w := w') (KR := if excl = true then fun _ _ => True else K') (b := b) (off := off + loc.len * width lay) (lay := lay) (cvs := cn) e2 n3 (fun k v hk => by
                          have hkl : k < (flat lay cn).length := by
                            rcases Nat.lt_or_ge k (flat lay cn).length with h' | h'
                            · exact h'
                            · simp [List.getElem?_eq_none h'] at hk
                          rw [e6, if_pos (by omega)]
                          rw [show off + loc.len * width lay + k - (off + loc.len * width lay + 0) = k by omega]; exact hk)
                        (fun i2 j2 hi2 hj2 => by
                          split
                          · trivial
                          · rename_i he
                            refine .inr ⟨rfl, by simpa using he, ?_⟩
                            have := Nat.mul_le_mul_right (width lay) (show i2 + 1 ≤ ys.length by omega)
                            rw [Nat.add_mul] at this; omega) (i - cvs.length) cv h1
                      rw [show off + loc.len * width lay + (i - cvs.length) * width lay = off + i * width lay by
                        rw [Nat.sub_mul, hl', ← hs']; omega] at key
                      exact key
                  · rcases hK with hK | ⟨_, h1, h2⟩
                    · obtain ⟨q1, q2⟩ := hk' o hK
                      exact ⟨q1, by simp only [loc']; omega⟩
                    · exact ⟨h1, by simpa [loc'] using h2⟩
                refine ⟨fun k o l h1 h2 => ?_, fun k k' l l' b1 h1 h2 h3 h4 => ?_, fun k l b1 h1 h2 => ?_, fun b1 o hK => ?_, ?_, hS.low.blocks fun b' hb' => e3.block b' (by omega)⟩
                · simp only [List.getElem?_map, Option.map_eq_some_iff] at h1
                  obtain ⟨o', h1, rfl⟩ := h1
                  rw [List.getElem?_set] at h1
                  split at h1
                  · rename_i hk; subst hk
                    try rw [if_pos hidlt] at h1
                    simp only [Option.some.injEq] at h1; subst h1
                    simp only [m', if_true, Option.some.injEq] at h2; subst h2
                    exact hnewOb
                  · rename_i hk
                    simp only [m'] at h2; rw [if_neg (Ne.symm hk)] at h2
                    have hob' := (hS.ob k o' l h1 h2).upd e3 hpres fun hc => hk (hS.sep id k loc l b hm h2 hblk hc)
                    have hob'' : ObR X w' K' m o' l := by
                      cases hob' with
                      | var hv hl ha hz ho hb hf hkk =>
                        rename_i cv b2 ty2 fr2
                        refine .var (hv.mono (fun _ _ _ _ h => h) hsub fun _ _ h => h) hl ha hz ho hb hf fun o hK => hK.elim (hkk o) fun h => hk (hS.sep id k loc l b hm h2 hblk (by simp [Loc.block?, ho, ha, h.1]))
                      | arr cvs2 ha2 hz2 hl2 hc2 hs2 hx2 hr2 ho2 hn2 =>
                        refine .arr cvs2 ha2 hz2 hl2 hc2 hs2 (fun i x cv h1 h2 => (hx2 i x cv h1 h2).sub hsub) (fun i cv h1 => ?_) (fun hown2 => ?_) hn2
                        · split
                          · rename_i he; have := hr2 i cv h1; simp only [he, if_true] at this; exact this
                          · rename_i he; have := hr2 i cv h1; simp only [he] at this; exact this.weaken (by simpa using hsub)
                        · obtain ⟨q1, q2, q3⟩ := ho2 hown2
                          exact ⟨q1, q2, fun o hK => hK.elim (q3 o) fun h => absurd (hS.sep id k loc l b hm h2 hblk (by simp [Loc.block?, hown2, ha2, h.1])) hk⟩
                      | nilArr hz hl hc ho => exact .nilArr hz hl hc ho
                      | sit ha2 ho2 hb2 hkk =>
                        exact .sit ha2 ho2 hb2 fun o hK => hK.elim (hkk o) fun h => hk (hS.sep id k loc l b hm h2 hblk (by simp [Loc.block?, ho2, ha2, h.1]))
                      | map ha2 ho2 hb2 hs2 hx2 hst2 hkk =>
                        exact .map ha2 ho2 hb2 hs2 (fun i p en h1 h2 => let ⟨q1, q2⟩ := hx2 i p en h1 h2; ⟨q1, q2.sub hsub⟩) hst2 fun o hK => hK.elim (hkk o) fun h => hk (hS.sep id k loc l b hm h2 hblk (by simp [Loc.block?, ho2, ha2, h.1]))
                      | gone => exact .gone
                    exact hob''.looseO hsame
                · simp only [m'] at h1 h2
                  split at h1
                  · rename_i hk; subst hk
                    split at h2
                    · rename_i hk'; exact hk'.symm
                    · simp only [Option.some.injEq] at h1; subst h1
                      rw [hblk'] at h3; simp only [Option.some.injEq] at h3; subst h3
                      exact hS.sep _ _ _ _ _ hm h2 hblk h4
                  · split at h2
                    · rename_i hk'; subst hk'
                      simp only [Option.some.injEq] at h2; subst h2
                      rw [hblk'] at h4; simp only [Option.some.injEq] at h4; subst h4
                      exact hS.sep _ _ _ _ _ h1 hm h3 hblk
                    · exact hS.sep k k' l l' b1 h1 h2 h3 h4
                · simp only [m'] at h1
                  split at h1
                  · simp only [Option.some.injEq] at h1; subst h1
                    rw [hblk'] at h2; simp only [Option.some.injEq] at h2; subst h2
                    exact ⟨hBb, by rw [e3.size]; exact hblt⟩
                  · rw [e3.size]; exact hS.mine k l b1 h1 h2
                · rw [e3.size]
                  rcases hK with hK | ⟨rfl, _⟩
                  · exact hS.keep _ _ hK
                  · exact hblt
                · rw [e3.size]; exact hS.size
    · -- nil
      split at h
      case isFalse => simp at h
      rename_i hroom
      simp only [Option.some.injEq, Prod.mk.injEq] at h
      obtain ⟨rfl, rfl, rfl⟩ := h
      have hsv : sv = .slice none 0 0 := by cases hs.pv_inv; rfl
      subst hsv
      have hnil : ListV X w K K lay [] none 0 0 := .inl ⟨rfl, rfl, rfl⟩
      by_cases hy : ys = []
      · subst hy
        exact ⟨_, w, K, m, by simpa using room0 (base := none) (sLen := 0) (sCap := 0) (by omega) (f0 rfl), idle (.pv .empty)⟩
      · have hpos : 0 < ys.length := List.length_pos_iff.2 hy
        have := grow hnil hnew (by omega) (by simpa using hroom)
        simpa using this
    · -- a written list
      rename_i l0 xs
      split at h
      case isFalse => simp at h
      rename_i hcond2
      obtain ⟨rfl, hroom⟩ := hcond2
      simp only [Option.some.injEq, Prod.mk.injEq] at h
      obtain ⟨rfl, rfl, rfl⟩ := h
      obtain ⟨a, len, cap, rfl, hold, hclip⟩ := hs.pv_inv.listV
      have hcl := hclip rfl
      obtain ⟨hlo, hco⟩ := hold.length
      by_cases hy : ys = []
      · subst hy
        refine ⟨_, w, K, m, by simpa using room0 (base := a) (by omega) (f0 rfl), idle (.pv ?_)⟩
        simpa using hold.pvr (clip := true) fun _ => hcl
      · have hpos : 0 < ys.length := List.length_pos_iff.2 hy
        have := grow hold hnew (by omega) hroom
        have he : ys.isEmpty = false := by cases ys <;> simp_all
        rw [he]; exact this
    · simp at h
  · -- nothing is appended
    split at h
    case h_3 => simp at h
    case h_2 =>
      rename_i a0 c0 he0
      have hxv : xv = .slice (some a0) 0 c0 := by cases hx.pv_inv; rfl
      subst hxv
      have f0 : (Builtin.firstCells i.size 0 (.slice (some a0) 0 c0)).run P w = .ok #[] w := by simp [Builtin.firstCells, loadCells, loadCellsFrom]
      split at h
      · rename_i id
        split at h
        case h_2 => simp at h
        rename_i l0 excl xs ho
        split at h
        case isFalse => simp at h
        simp only [Option.some.injEq, Prod.mk.injEq] at h
        obtain ⟨rfl, rfl, rfl⟩ := h
        cases hs with
        | arr hm =>
          exact ⟨_, w, K, m, room0 (hS.ob _ _ _ ho hm).listV.length.2 f0, idle (.arr hm)⟩
      · simp at h
    have hxv : xv = .slice none 0 0 := by cases hx.pv_inv; rfl
    subst hxv
    have f0 : (Builtin.firstCells i.size 0 (.slice none 0 0)).run P w = .ok #[] w := by simp [Builtin.firstCells]
    split at h
    · rename_i id
      split at h
      case h_2 => simp at h
      rename_i l0 excl xs ho
      split at h
      case isFalse => simp at h
      simp only [Option.some.injEq, Prod.mk.injEq] at h
      obtain ⟨rfl, rfl, rfl⟩ := h
      cases hs with
      | arr hm =>
        exact ⟨_, w, K, m, room0 (hS.ob _ _ _ ho hm).listV.length.2 f0, idle (.arr hm)⟩
    · simp only [Option.some.injEq, Prod.mk.injEq] at h
      obtain ⟨rfl, rfl, rfl⟩ := h
      have hsv : sv = .slice none 0 0 := by cases hs.pv_inv; rfl
      subst hsv
      exact ⟨_, w, K, m, room0 (Nat.le_refl _) f0, idle hs⟩
    · simp only [Option.some.injEq, Prod.mk.injEq] at h
      obtain ⟨rfl, rfl, rfl⟩ := h
      obtain ⟨a, len, cap, rfl, hold, hclip⟩ := hs.pv_inv.listV
      exact ⟨_, w, K, m, room0 hold.length.2 f0, idle hs⟩
    · simp at h

/-! # arrays that are written no more -/
theorem SR.shut {X B : Nat} {w : World} {K : Keep} {m : Map} {S : Store} {id lay : Nat} {xs : List PV} (h : SR X B w K m S) (hs : S[id]? = some (.arr lay true xs)) :
    ∃ K', Sub K K' ∧ (∀ b o, K' b o → K b o ∨ (B ≤ b ∧ Mine m b)) ∧ SR X B w K' m (S.set id (.arr lay false xs)) := by
  have hidlt : id < S.length := by
    rcases Nat.lt_or_ge id S.length with h' | h'
    · exact h'
    · simp [List.getElem?_eq_none h'] at hs
  cases hm : m id with
  | none =>
    refine ⟨K, Sub.refl K, fun _ _ q => .inl q, ⟨fun k o loc h1 h2 => ?_, h.sep, h.mine, h.keep, h.size, h.low⟩⟩
    rw [List.getElem?_set] at h1
    split at h1
    · rename_i hk; subst hk; rw [hm] at h2; simp at h2
    · exact h.ob k o loc h1 h2
  | some loc =>
    have hob := h.ob id _ loc hs hm
    generalize hex : (true : Bool) = ex at hob
    cases hob with
    | nilArr hz hl hc ho =>
      refine ⟨K, Sub.refl K, fun _ _ q => .inl q, ⟨fun k o loc' h1 h2 => ?_, h.sep, h.mine, h.keep, h.size, h.low⟩⟩
      rw [List.getElem?_set] at h1
      split at h1
      · rename_i hk; subst hk
        try rw [if_pos hidlt] at h1
        simp only [Option.some.injEq] at h1; subst h1
        rw [hm] at h2; simp only [Option.some.injEq] at h2; subst h2
        exact .nilArr hz hl hc ho
      · exact h.ob k o loc' h1 h2
    | arr cvs ha hz hl hc hs' hx hr ho hn =>
      rename_i b off
      subst hex
      have hown : loc.own = true := by
        cases hc' : loc.own with
        | true => rfl
        | false => have := (hn hc').1; simp at this
      have hblk : loc.block? = some b := by simp [Loc.block?, hown, ha]
      obtain ⟨hBb, hblt⟩ := h.mine id loc b hm hblk
      obtain ⟨hcells, hu, hk⟩ := ho hown
      have hnoK : ∀ o, ¬ K b o := fun o hK => by have := (hk o hK).1; simp at this
      let K' : Keep := fun b' o => K b' o ∨ (b' = b ∧ o < off + loc.len * width lay)
      have hsub : Sub K K' := fun _ _ hK => .inl hK
      refine ⟨K', hsub, fun b' o q => q.elim .inl fun q => .inr ⟨by rw [q.1]; exact hBb, id, loc, hm, by rw [q.1]; exact hblk⟩, ⟨fun k o loc' h1 h2 => ?_, h.sep, h.mine, fun b' o q => q.elim (h.keep b' o) fun q => by rw [q.1]; exact hblt, h.size, h.low⟩⟩
      rw [List.getElem?_set] at h1
      split at h1
      · rename_i hk'; subst hk'
        try rw [if_pos hidlt] at h1
        simp only [Option.some.injEq] at h1; subst h1
        rw [hm] at h2; simp only [Option.some.injEq] at h2; subst h2
        refine .arr cvs ha hz hl hc hs' (fun i x cv g1 g2 => (hx i x cv g1 g2).sub hsub) (fun i cv hi => ?_) (fun _ => ⟨hcells, .weak hu.1, fun o q => q.elim (fun q => absurd q (hnoK o)) fun q => ⟨rfl, q.2⟩⟩) (fun hf => by rw [hown] at hf; cases hf)
        have hrow := hr i cv hi
        simp only [if_true] at hrow
        simp only [Bool.false_eq_true, if_false]
        have hilt : i < cvs.length := by
          rcases Nat.lt_or_ge i cvs.length with h' | h'
          · exact h'
          · simp [List.getElem?_eq_none h'] at hi
        refine ⟨hrow.1, fun j v hj => ⟨.inr ⟨rfl, ?_⟩, (hrow.2 j v hj).2⟩⟩
        have hjw : j < width lay := by
          rw [← hrow.1.size]
          rcases Nat.lt_or_ge j (cellsL lay cv).size with h' | h'
          · exact h'
          · simp [Array.getElem?_eq_none h'] at hj
        have hle : (i + 1) * width lay ≤ loc.len * width lay := Nat.mul_le_mul_right _ (by omega)
        rw [Nat.add_mul] at hle
        omega
      · rename_i hk'
        have hob' := h.ob k o loc' h1 h2
        have hnb : ∀ {b2}, loc'.block? = some b2 → b2 ≠ b := fun hb2 hh => hk' (h.sep id k loc loc' b hm h2 hblk (by rw [← hh]; exact hb2))
        cases hob' with
        | var hv hl2 ha2 hz2 ho2 hb2 hf2 hkk =>
          refine .var (hv.mono (fun _ _ _ _ q => q) hsub fun _ _ q => q) hl2 ha2 hz2 ho2 hb2 hf2 fun o q => q.elim (hkk o) fun q => hnb (by simp [Loc.block?, ho2, ha2]) q.1
        | arr cvs2 ha2 hz2 hl2 hc2 hs2 hx2 hr2 ho2 hn2 =>
          refine .arr cvs2 ha2 hz2 hl2 hc2 hs2 (fun i x cv g1 g2 => (hx2 i x cv g1 g2).sub hsub) (fun i cv g1 => ?_) (fun hown2 => ?_) hn2
          · split
            · rename_i he; have := hr2 i cv g1; simp only [he, if_true] at this; exact this
            · rename_i he; have := hr2 i cv g1; simp only [he] at this; exact this.weaken (by simpa using hsub)
          · obtain ⟨q1, q2, q3⟩ := ho2 hown2
            exact ⟨q1, q2, fun o q => q.elim (q3 o) fun q => absurd q.1 (hnb (by simp [Loc.block?, hown2, ha2]))⟩
        | nilArr hz hl hc ho => exact .nilArr hz hl hc ho
        | sit ha2 ho2 hb2 hkk => exact .sit ha2 ho2 hb2 fun o q => q.elim (hkk o) fun q => hnb (by simp [Loc.block?, ho2, ha2]) q.1
        | map ha2 ho2 hb2 hs2 hx2 hst2 hkk => exact .map ha2 ho2 hb2 hs2 (fun i p en h1 h2 => let ⟨q1, q2⟩ := hx2 i p en h1 h2; ⟨q1, q2.sub hsub⟩) hst2 fun o q => q.elim (hkk o) fun q => hnb (by simp [Loc.block?, ho2, ha2]) q.1
        | gone => exact .gone

theorem seal_alen {S : Store} {id lay : Nat} {xs : List PV} (hs : S[id]? = some (.arr lay true xs)) (k : Nat) : alen (S.set id (.arr lay false xs)) k = alen S k := by
  have hidlt : id < S.length := by
    rcases Nat.lt_or_ge id S.length with h' | h'
    · exact h'
    · simp [List.getElem?_eq_none h'] at hs
  by_cases hk : id = k
  · subst hk
    simp only [alen, hs, List.getElem?_set_self hidlt]
  · simp only [alen, List.getElem?_set_ne hk]


theorem markable_some {P : Program} {s d : TypeId} {xs : List PV} (h : markable P s d xs = true) : s = d ∧ xs ≠ [] ∧ ∃ e, P.underlying s = some (.slice e) ∧ P.underlying e = some (.int .u8) := by
  unfold markable at h
  split at h
  · rename_i e hu
    split at h
    · rename_i hu2
      simp only [Bool.and_eq_true, beq_iff_eq, Bool.not_eq_true', List.isEmpty_eq_false_iff] at h
      exact ⟨h.1, h.2, e, hu, hu2⟩
    · simp at h
  · simp at h

/-- a constant's bytes: the row is marked -/
theorem mark_rel {P : Program} {X B : Nat} {w : World} {K : Keep} {m : Map} {S : Store} {s d : TypeId} {id l0 : Nat} {xs : List PV} {xv : Value} (hS : SR X B w K m S) (hs : S[id]? = some (.arr l0 true xs))
    (hm : markable P s d xs = true) (hx : VR X w K m (.arr id) xv) :
    ∃ w' K', (convert s d xv).run P w = .ok xv w' ∧ AppR X B w K m S w' K' m (.arr id) (S.set id (.arr l0 false xs)) (some id) xv := by
  obtain ⟨rfl, hne, e, hu, hu2⟩ := markable_some hm
  cases hx with
  | arr hmi =>
    rename_i loc
    have hidlt : id < S.length := by
      rcases Nat.lt_or_ge id S.length with h' | h'
      · exact h'
      · simp [List.getElem?_eq_none h'] at hs
    have hob := hS.ob id _ loc hs hmi
    generalize hex : (true : Bool) = ex at hob
    cases hob with
    | nilArr => exact absurd rfl hne
    | arr cvs ha hz hl hc hs' hxx hr ho hn =>
      rename_i b off
      subst hex
      have hown : loc.own = true := by
        cases hc' : loc.own with
        | true => rfl
        | false => have := (hn hc').1; simp at this
      have hblk : loc.block? = some b := by simp [Loc.block?, hown, ha]
      obtain ⟨⟨cs, ty, fr, hb, hfit⟩, hu0, hk⟩ := ho hown
      have hnoK : ∀ o, ¬ K b o := fun o hK => by have := (hk o hK).1; simp at this
      obtain ⟨hBb, hblt⟩ := hS.mine id loc b hmi hblk
      obtain ⟨lo, hi⟩ := fr
      let fr' : Nat × Nat := if lo == hi then (cs.size, cs.size + 1) else (min lo cs.size, max hi (cs.size + 1))
      let w' : World := w.freeze ⟨b, cs.size, none⟩ 1
      have hb' : w'.heap[b]? = some (.cells cs ty fr') := by
        simp only [w', World.freeze]
        rw [if_neg (by decide)]
        simp only [Array.getElem?_modify, hb, if_true, Option.map_some]
        rfl
      have hupd : Upd b w w' := by
        refine ⟨?_, ?_, ?_, ?_, fun k hk => ?_⟩ <;> simp only [w', World.freeze] <;> rw [if_neg (by decide)]
        · simp
        · simp only [Array.getElem?_modify]; rw [if_neg (Ne.symm hk)]
      have hcell : ∀ b' o, w'.cell? ⟨b', o, none⟩ = w.cell? ⟨b', o, none⟩ := fun b' o => by
        by_cases hbb : b' = b
        · subst hbb; simp [World.cell?, hb, hb']
        · exact cell?_of_heap (hupd.block _ hbb) o
      have hpres : ∀ K, Pres X w K w' := fun K b' o v _ hc => by rw [hcell]; exact hc
      have hunf : Unfrozen w' b := by
        refine ⟨fun o hfo => ?_, fun cs2 ty2 fr2 hb2 => ?_⟩
        · have hle := hu0.1.2 _ _ _ hb
          simp only at hle
          have hcn : cs.size ≤ o → w'.cell? ⟨b, o, none⟩ = none := fun h => by simp [World.cell?, hb', Array.getElem?_eq_none h]
          apply hcn
          simp only [World.frozen?, hb', fr'] at hfo
          by_cases he : lo = hi
          · simp [he] at hfo; omega
          · have hlo : cs.size ≤ lo := by
              have h1 : w.frozen? ⟨b, lo, none⟩ = true := by simp [World.frozen?, hb]; omega
              have h2 := hu0.1.1 lo h1
              simp only [World.cell?, hb] at h2
              simpa using h2
            have he' : (lo == hi) = false := by simpa using he
            simp only [he', Bool.false_eq_true, if_false, Bool.and_eq_true, decide_eq_true_eq] at hfo
            omega
        · rw [hb'] at hb2
          simp only [Option.some.injEq, Obj.cells.injEq] at hb2
          obtain ⟨_, _, rfl⟩ := hb2
          have hle := hu0.1.2 _ _ _ hb
          simp only at hle
          simp only [fr']
          split <;> simp <;> omega
      obtain ⟨K', hsub, hnew, hS1⟩ := hS.shut hs
      have hS2 : SR X B w' K' m (S.set id (.arr l0 false xs)) := by
        have hs1 : (S.set id (.arr l0 false xs))[id]? = some (.arr l0 false xs) := List.getElem?_set_self hidlt
        have hob1 := hS1.ob id _ loc hs1 hmi
        have hob2 : ObR X w' K' m (.arr l0 false xs) loc := by
          generalize hex : (false : Bool) = ex at hob1
          cases hob1 with
          | nilArr => exact absurd rfl hne
          | arr cvs2 ha2 hz2 hl2 hc2 hs2 hx2 hr2 ho2 hn2 =>
            rename_i b2 off2
            rw [ha] at ha2; simp only [Option.some.injEq, Addr.mk.injEq, and_true] at ha2; obtain ⟨rfl, rfl⟩ := ha2
            obtain ⟨_, _, hk2⟩ := ho2 hown
            refine .arr cvs2 ha hz2 hl2 hc2 hs2 (fun i x cv h1 h2 => (hx2 i x cv h1 h2).mono (hpres K') (Sub.refl _)) (fun i cv hi => ?_) (fun _ => ⟨⟨cs, ty, fr', hb', hfit⟩, by subst hex; exact .weak hunf, hk2⟩) hn2
            obtain ⟨q1, q2⟩ := hr2 i cv hi
            exact ⟨q1, fun j v hj => let ⟨p1, p2⟩ := q2 j v hj; ⟨p1, by rw [hcell]; exact p2⟩⟩
        have := hS1.upd hmi hblk hupd (hpres K') hob2
        rwa [List.set_set] at this
      refine ⟨w', K', ?_, hupd.below hBb, fun b' o v hK hc => (by rw [hcell]; exact hc), hsub, fun b o h => (hnew b o h).imp (fun x => x) And.left, .arr hmi, hS2.looseO _, ⟨by simp, fun k n hk hn' => ⟨n, by rw [seal_alen hs]; exact hn', Nat.le_refl _, fun _ => rfl⟩, fun k hk hn' => ⟨by rw [seal_alen hs]; exact hn', .inr rfl⟩, fun k _ => mapAt_set hs (by rfl) k⟩, fun _ _ _ h => h, fun _ _ => rfl, by simp, ⟨Nat.le_of_eq hupd.size.symm, fun k hk => hupd.block k fun e => hk (.inr ⟨id, loc, hmi, by rw [e]; exact hblk⟩), fun _ x => .inr x, fun b o x => (hnew b o x).imp (fun x => x) fun x => .inr x.2⟩⟩
      have hsh : w.shape? b = some (ty, cs.size) := by simp [World.shape?, hb]
      rw [ha]
      simp [convert, run_underlying' hu, run_underlying' hu2, markStringish, hsh]
      rfl

end Go.Lite

namespace Go.Lite
open Go
open Go.RowKit (Below)

/-! # the state of a running call -/
structure Inv (X B : Nat) (w : World) (K : Keep) (m : Map) (e : Env) (S : Store) (a : Act) : Prop where
  er : ER X w K m e a.tmps
  sr : SR X B w K m S
  dom : ∀ id, S.length ≤ id → m id = none
  nod : a.defers = []

/-- What has happened between two moments of a call. -/
structure Fr (X B : Nat) (w : World) (K : Keep) (S : Store) (m : Map) (w' : World) (K' : Keep) (S' : Store) (m' : Map) : Prop where
  below : Below B w w'
  pres : Pres X w K w'
  sub : Sub K K'
  knew : ∀ b o, K' b o → K b o ∨ B ≤ b
  evo : Evo S S' m m'
  frm : Frm w K m w' K' m'

theorem Fr.refl (X B : Nat) (w : World) (K : Keep) (S : Store) (m : Map) : Fr X B w K S m w K S m :=
  ⟨Below.refl _ _, fun _ _ _ _ h => h, Sub.refl _, fun _ _ h => .inl h, Evo.refl _ _, Frm.refl _ _ _⟩
theorem Fr.trans {X B : Nat} {w w' w'' : World} {K K' K'' : Keep} {S S' S'' : Store} {m m' m'' : Map} (h : Fr X B w K S m w' K' S' m') (h' : Fr X B w' K' S' m' w'' K'' S'' m'') :
    Fr X B w K S m w'' K'' S'' m'' :=
  ⟨h.below.trans h'.below, fun b o v hK hc => h'.pres b o v (h.sub.kx X b o hK) (h.pres b o v hK hc), h.sub.trans h'.sub,
    fun b o hK => (h'.knew b o hK).elim (fun x => h.knew b o x) .inr, h.evo.trans h'.evo, h.frm.trans h'.frm⟩
theorem Ext.fr {X B : Nat} {w w' : World} {K K' : Keep} {S : Store} {m : Map} (hB : B ≤ w.heap.size) (h : Ext w K w' K') : Fr X B w K S m w' K' S m :=
  ⟨h.below.mono hB, h.pres, h.sub, fun b o hK => (h.new b o hK).imp (fun h => h) fun h => Nat.le_trans hB h.1, Evo.refl _ _, h.frm m⟩

/-! # slots -/
theorem getD_set (a : Array Value) (d t : Nat) (v : Value) : (a.setIfInBounds d v).getD t undef = if d = t ∧ d < a.size then v else a.getD t undef := by
  simp only [Array.getD_eq_getD_getElem?, Array.getElem?_setIfInBounds]
  by_cases h : d = t
  · subst h
    by_cases h2 : d < a.size
    · simp [h2]
    · simp [h2]
  · simp [h]

/-- every slot that is written is there -/
def Fits (a : Act) (dst : Option Tmp) : Prop := ∀ d, dst = some d → d < a.tmps.size

theorem ER.put {X : Nat} {w : World} {K : Keep} {m : Map} {e : Env} {a : Act} {dst : Option Tmp} {r : AV} {v : Value} (h : ER X w K m e a.tmps) (hv : VR X w K m r v) (hd : Fits a dst) :
    ER X w K m (e.put dst r) (a.put dst v).tmps := by
  intro t
  rw [Env.get_put]
  cases dst with
  | none => simpa [Act.put] using h t
  | some d =>
    simp only [Act.put, getD_set, Option.some.injEq]
    by_cases ht : d = t
    · subst ht; simp [hd d rfl]; exact hv
    · simpa [ht] using h t

theorem ER.mono {X : Nat} {w w' : World} {K K' : Keep} {m m' : Map} {e : Env} {t : Array Value} (hp : Pres X w K w') (hk : Sub K K') (hm : ∀ id loc, m id = some loc → m' id = some loc)
    (h : ER X w K m e t) : ER X w' K' m' e t := fun i => (h i).mono hp hk hm

/-! # guards -/
theorem guardAV_rel {X : Nat} {w : World} {K : Keep} {m : Map} {e : Env} {a : Act} {ops : Array Oper} {j : Nat} {want g : Bool} (he : ∀ t, (ops[j]?).bind (·.dst) = some t → VR X w K m (e.get t) (a.tmps.getD t undef)) (h : guardAV ops e j want = some g) :
    (yielded ops a.tmps j == some want) = g := by
  unfold guardAV at h
  unfold yielded
  cases hd : (ops[j]?).bind (·.dst) with
  | none => simp only [hd] at h; simp at h; subst h; simp
  | some t =>
    simp only [hd] at h
    have hv := he t hd
    simp only [Option.bind_some]
    split at h
    case h_2 => simp at h
    rename_i d he'
    rw [he'] at hv
    unfold guardPV at h
    split at h
    · rename_i b
      simp only [Option.some.injEq] at h; subst h
      have : a.tmps[t]? = some (.bool b) := by
        rw [Array.getD_eq_getD_getElem?] at hv
        cases ht : a.tmps[t]? with
        | none => rw [ht] at hv; simp only [Option.getD_none] at hv; cases hv.pv_inv
        | some u => rw [ht] at hv; simp only [Option.getD_some] at hv; cases hv.pv_inv; rfl
      simp [this]
    · simp only [Option.some.injEq] at h; subst h
      rw [Array.getD_eq_getD_getElem?] at hv
      cases ht : a.tmps[t]? with
      | none => simp
      | some u =>
        rw [ht] at hv
        simp only [Option.getD_some] at hv
        cases hv.pv_inv with
        | tup hs hx => simp
    · simp at h

theorem guarded_rel {α : Type} {X : Nat} {w : World} {K : Keep} {m : Map} {e : Env} {a : Act} {ops : Array Oper} {o : Oper} {x : Option α} {d r : α} (he : ∀ t ∈ o.looksAt ops, VR X w K m (e.get t) (a.tmps.getD t undef))
    (h : guarded ops e o x d = some r) : (Region.wanted o (yielded ops a.tmps) = true ∧ x = some r) ∨ (Region.wanted o (yielded ops a.tmps) = false ∧ r = d) := by
  unfold guarded at h
  unfold Region.wanted
  split at h
  · rename_i hg; left; simp [hg, h]
  · rename_i j want hg
    simp only [hg]
    cases hga : guardAV ops e j want with
    | none => simp [hga] at h
    | some g =>
      simp only [hga] at h
      rw [guardAV_rel (fun t ht => he t (by simp [Oper.looksAt, hg, ht])) hga]
      cases g with
      | true => left; simpa using h
      | false => right; simp at h; exact ⟨rfl, h.symm⟩

/-! # calls -/
/-- the function can be entered -/
def Entered (P : Program) (g : FuncId) : Prop := ∃ fn, P.funcs[g]? = some fn ∧ fn.body.isSome = true ∧ (fn.name == "runtime.NumGoroutine") = false

/-- A call: of a function with a body, or of one that the model answers itself. -/
def CallsF (P : Program) (g : FuncId) (vs : Array Value) (w : World) (R : Value → World → Prop) : Prop :=
  (Entered P g ∧ Calls P g vs w fun e w' => ∃ v, e = .returned v ∧ R v w') ∨ (∃ v w', (callFunc g vs).run P w = .ok (.value v) w' ∧ R v w')

theorem CallsF.mono {P : Program} {g : FuncId} {vs : Array Value} {w : World} {R R' : Value → World → Prop} (h : CallsF P g vs w R) (hr : ∀ v w', R v w' → R' v w') : CallsF P g vs w R' := by
  rcases h with ⟨h1, h2⟩ | ⟨v, w', h1, h2⟩
  · exact .inl ⟨h1, h2.mono fun e w' ⟨v, he, hR⟩ => ⟨v, he, hr v w' hR⟩⟩
  · exact .inr ⟨v, w', h1, hr v w' h2⟩

/-- What is to be known of the calls of pure functions. -/
def PureOK (P : Program) (f : FuncId → List PV → Option PV) : Prop :=
  ∀ g args r, f g args = some r → ∀ (X : Nat) (w : World) (K : Keep) (vs : Array Value), Lo X w.heap.size w → (∀ b o, K b o → b < w.heap.size) → vs.size = args.length →
    (∀ (i : Nat) (c : PV) (v : Value), args[i]? = some c → vs[i]? = some v → PVR X w K c v) →
    CallsF P g vs w fun v w' => Ext w K w' (fun b i => K b i ∨ (w.heap.size ≤ b ∧ b < w'.heap.size)) ∧ PVR X w' (fun b i => K b i ∨ (w.heap.size ≤ b ∧ b < w'.heap.size)) r v

/-- where a calm call leaves objects: where they were, but for maps -/
def CalmM (lv : Lv) (S : Store) (m m' : Map) : Prop := match lv with
  | .stale => True
  | .calm => ∀ id loc, isMapAt S id = false → m id = some loc → m' id = some loc
  | .free l => ∀ id loc, id ∉ l → m id = some loc → m' id = some loc
theorem CalmM.same (lv : Lv) (S : Store) (m : Map) : CalmM lv S m m := by cases lv <;> simp [CalmM]
def SharedOK (P : Program) (calm : FuncId → List AV → Lv) (f : FuncId → List AV → Store → Option (AV × Store)) : Prop :=
  ∀ g args S r S', f g args S = some (r, S') → ∀ (X B : Nat) (w : World) (K : Keep) (m : Map) (vs : Array Value), SR X B w K m S → (∀ id, S.length ≤ id → m id = none) → vs.size = args.length →
    (∀ (i : Nat) (c : AV) (v : Value), args[i]? = some c → vs[i]? = some v → VR X w K m c v) →
    CallsF P g vs w fun v w' => ∃ K' m', Fr X B w K S m w' K' S' m' ∧ SR X B w' K' m' S' ∧ (∀ id, S'.length ≤ id → m' id = none) ∧ VR X w' K' m' r v ∧ CalmM (calm g args) S m m'

/-- calls that look at the objects, and leave them -/
def ReadOK (P : Program) (f : FuncId → Option (List AV → Store → Option PV)) : Prop :=
  ∀ g q, f g = some q → ∀ args S d, q args S = some d → ∀ (X B : Nat) (w : World) (K : Keep) (m : Map) (vs : Array Value), SR X B w K m S → vs.size = args.length →
    (∀ (i : Nat) (c : AV) (v : Value), args[i]? = some c → vs[i]? = some v → VR X w K m c v) →
    CallsF P g vs w fun v w' => ∃ K', Ext w K w' K' ∧ PVR X w' K' d v

structure KOK (P : Program) (C : Kallee) : Prop where
  pure : PureOK P C.pure
  shared : SharedOK P C.calm C.shared
  read : ReadOK P C.read

theorem roFree_rel {X X' : Nat} {w : World} {K : Keep} {d : PV} {v : Value} (h : PVR X w K d v) (ht : d.roFree = true) : PVR X' w K d v := by
  have all : ∀ {cs : List PV}, PV.roFreeAll cs = true → ∀ (i : Nat) (c : PV), cs[i]? = some c → c.roFree = true := by
    intro cs
    induction cs with
    | nil => intro _ i c h; simp at h
    | cons a cs ih =>
      intro h i c hc
      simp only [PV.roFreeAll, Bool.and_eq_true] at h
      cases i with
      | zero => simp at hc; subst hc; exact h.1
      | succ i => exact ih h.2 i c (by simpa using hc)
  induction h with
  | sc v => exact .sc v
  | list cvs hl hc hcl hs hx hr ih => exact .list cvs hl hc hcl hs (fun i x cv h1 h2 => ih i x cv h1 h2 (all (by simpa [PV.roFree] using ht) i x h1)) hr
  | empty => exact .empty
  | ro hc hr ih => simp [PV.roFree] at ht
  | agg hs hx ih => exact .agg hs fun i c v h1 h2 => ih i c v h1 h2 (all (by simpa [PV.roFree] using ht) i c h1)
  | tup hs hx ih => exact .tup hs fun i c v h1 h2 => ih i c v h1 h2 (all (by simpa [PV.roFree] using ht) i c h1)
  | clo ha hb hx hy ih1 ih2 =>
    simp only [PV.roFree, Bool.and_eq_true] at ht
    exact .clo ha hb (fun i c v h1 h2 => ih1 i c v h1 h2 (all ht.1 i c h1)) fun i c v h1 h2 => ih2 i c v h1 h2 (all ht.2 i c h1)
  | ifc h ih => exact .ifc (ih (by simpa [PV.roFree] using ht))

theorem tame_rel {X X' : Nat} {w : World} {K K' : Keep} {d : PV} {v : Value} (h : PVR X w K d v) (ht : d.tame = true) : PVR X' w K' d v := by
  have all : ∀ {cs : List PV}, PV.tameAll cs = true → ∀ (i : Nat) (c : PV), cs[i]? = some c → c.tame = true := by
    intro cs
    induction cs with
    | nil => intro _ i c h; simp at h
    | cons a cs ih =>
      intro h i c hc
      simp only [PV.tameAll, Bool.and_eq_true] at h
      cases i with
      | zero => simp at hc; subst hc; exact h.1
      | succ i => exact ih h.2 i c (by simpa using hc)
  induction h with
  | sc v => exact .sc v
  | list cvs hl hc hcl hs hx hr ih => simp [PV.tame] at ht
  | empty => simp [PV.tame] at ht
  | ro => simp [PV.tame] at ht
  | agg hs hx ih => exact .agg hs fun i c v h1 h2 => ih i c v h1 h2 (all (by simpa [PV.tame] using ht) i c h1)
  | tup hs hx ih => exact .tup hs fun i c v h1 h2 => ih i c v h1 h2 (all (by simpa [PV.tame] using ht) i c h1)
  | clo ha hb hx hy ih1 ih2 =>
    simp only [PV.tame, Bool.and_eq_true] at ht
    exact .clo ha hb (fun i c v h1 h2 => ih1 i c v h1 h2 (all ht.1 i c h1)) fun i c v h1 h2 => ih2 i c v h1 h2 (all ht.2 i c h1)
  | ifc h ih => exact .ifc (ih (by simpa [PV.tame] using ht))

/-! # results of objects -/
theorem clearXs_len {P : Program} {t : TypeId} {lay lo n : Nat} {xs ys : List PV} (h : clearXs P t lay lo n xs = some ys) : ys.length = xs.length := by
  unfold clearXs at h
  split at h
  · split at h
    · split at h
      · rename_i hc
        simp only [Option.some.injEq] at h; subst h
        simp [zeroed]; omega
      · cases h
    · cases h
  · cases h
theorem opM_alen {P : Program} {e : Env} {S S' : Store} {o : Oper} {r : AV} (h : opM P e S o = some (r, S')) : ∀ id, alen S' id = alen S id := by
  have setSame : ∀ {id : Nat} {o o' : Ob}, S[id]? = some o → ((∀ l x xs, o ≠ .arr l x xs) ∧ (∀ l x xs, o' ≠ .arr l x xs)) ∨ (∃ l x xs l' x' xs', o = .arr l x xs ∧ o' = .arr l' x' xs' ∧ xs.length = xs'.length) →
      ∀ k, alen (S.set id o') k = alen S k := by
    intro id o o' ho hc k
    unfold alen
    by_cases hk : k = id
    · subst hk
      have hlt : k < S.length := by
        rcases Nat.lt_or_ge k S.length with h' | h'
        · exact h'
        · simp [List.getElem?_eq_none h'] at ho
      rw [List.getElem?_set_self hlt, ho]
      rcases hc with ⟨h1, h2⟩ | ⟨l, x, xs, l', x', xs', rfl, rfl, hl⟩
      · cases o <;> cases o' <;> simp_all
      · simp [hl]
    · rw [List.getElem?_set_ne (Ne.symm hk)]
  obtain ⟨dst, op, type, pos, after, guard⟩ := o
  cases op <;> simp only [opM] at h <;> (try (simp at h; done))
  case store t x y =>
    simp only [Option.map_eq_some_iff, Prod.mk.injEq] at h
    obtain ⟨S'', h, rfl, rfl⟩ := h
    unfold storeAV at h
    split at h
    · rename_i lay id i off hl ha
      split at h
      · rename_i l0 v ho
        split at h
        · simp only [Option.map_eq_some_iff] at h
          obtain ⟨z, _, rfl⟩ := h
          exact setSame ho (.inl ⟨by simp, by simp⟩)
        · simp at h
      · rename_i l0 xs ho
        simp only [Option.bind_eq_some_iff, Option.map_eq_some_iff] at h
        obtain ⟨y, hy, z, hz, d, hd, rfl⟩ := h
        exact setSame ho (.inr ⟨_, _, _, _, _, _, rfl, rfl, by simp⟩)
      · simp at h
    · simp at h
  case mapUpdate t mo k x =>
    split at h
    · split at h
      · rename_i ho
        simp only [Option.map_eq_some_iff, Prod.mk.injEq] at h
        obtain ⟨es', _, _, rfl⟩ := h
        exact setSame ho (.inl ⟨by simp, by simp⟩)
      · simp at h
    · simp at h
  case call c =>
    split at h
    · split at h
      · split at h
        · rename_i ho
          simp only [Option.map_eq_some_iff, Prod.mk.injEq] at h
          obtain ⟨es', _, _, rfl⟩ := h
          exact setSame ho (.inl ⟨by simp, by simp⟩)
        · simp at h
      · simp at h
    · unfold clearAV at h
      split at h
      · split at h
        · rename_i ho
          simp only [Option.map_eq_some_iff, Prod.mk.injEq] at h
          obtain ⟨ys, hc, _, rfl⟩ := h
          exact setSame ho (.inr ⟨_, _, _, _, _, _, rfl, rfl, (clearXs_len hc).symm⟩)
        · cases h
      · split at h
        · rename_i ho
          simp only [Option.map_eq_some_iff, Prod.mk.injEq] at h
          obtain ⟨ys, hc, _, rfl⟩ := h
          exact setSame ho (.inr ⟨_, _, _, _, _, _, rfl, rfl, (clearXs_len hc).symm⟩)
        · cases h
      · cases h
    · simp at h
  case next it isString =>
    cases isString <;> simp only [reduceCtorEq] at h
    split at h
    · rename_i id he
      split at h
      · rename_i s pos' ho
        split at h
        · simp only [Option.some.injEq, Prod.mk.injEq] at h
          obtain ⟨_, rfl⟩ := h
          exact setSame ho (.inl ⟨by simp, by simp⟩)
        · simp only [Option.some.injEq, Prod.mk.injEq] at h
          obtain ⟨_, rfl⟩ := h
          exact fun _ => rfl
      · simp at h
    · simp at h

theorem opM_mapAt {P : Program} {e : Env} {S S' : Store} {o : Oper} {r : AV} (h : opM P e S o = some (r, S')) : ∀ id, mapAt S' id = mapAt S id := by
  have setSame : ∀ {id : Nat} {o o' : Ob}, S[id]? = some o → o'.isMap = o.isMap → ∀ k, mapAt (S.set id o') k = mapAt S k := fun h1 h2 k => mapAt_set h1 h2 k
  obtain ⟨dst, op, type, pos, after, guard⟩ := o
  cases op <;> simp only [opM] at h <;> (try (simp at h; done))
  case store t x y =>
    simp only [Option.map_eq_some_iff, Prod.mk.injEq] at h
    obtain ⟨S'', h, rfl, rfl⟩ := h
    unfold storeAV at h
    split at h
    · rename_i lay id i off hl ha
      split at h
      · rename_i l0 v ho
        split at h
        · simp only [Option.map_eq_some_iff] at h
          obtain ⟨z, _, rfl⟩ := h
          exact setSame ho (by rfl)
        · simp at h
      · rename_i l0 xs ho
        simp only [Option.bind_eq_some_iff, Option.map_eq_some_iff] at h
        obtain ⟨y, hy, z, hz, d, hd, rfl⟩ := h
        exact setSame ho (by rfl)
      · simp at h
    · simp at h
  case mapUpdate t mo k x =>
    split at h
    · split at h
      · rename_i ho
        simp only [Option.map_eq_some_iff, Prod.mk.injEq] at h
        obtain ⟨es', _, _, rfl⟩ := h
        exact setSame ho (by rfl)
      · simp at h
    · simp at h
  case call c =>
    split at h
    · split at h
      · split at h
        · rename_i ho
          simp only [Option.map_eq_some_iff, Prod.mk.injEq] at h
          obtain ⟨es', _, _, rfl⟩ := h
          exact setSame ho (by rfl)
        · simp at h
      · simp at h
    · unfold clearAV at h
      split at h
      · split at h
        · rename_i ho
          simp only [Option.map_eq_some_iff, Prod.mk.injEq] at h
          obtain ⟨ys, hc, _, rfl⟩ := h
          exact setSame ho (by rfl)
        · cases h
      · split at h
        · rename_i ho
          simp only [Option.map_eq_some_iff, Prod.mk.injEq] at h
          obtain ⟨ys, hc, _, rfl⟩ := h
          exact setSame ho (by rfl)
        · cases h
      · cases h
    · simp at h
  case next it isString =>
    cases isString <;> simp only [reduceCtorEq] at h
    split at h
    · rename_i id he
      split at h
      · rename_i s pos' ho
        split at h
        · simp only [Option.some.injEq, Prod.mk.injEq] at h
          obtain ⟨_, rfl⟩ := h
          exact setSame ho (by rfl)
        · simp only [Option.some.injEq, Prod.mk.injEq] at h
          obtain ⟨_, rfl⟩ := h
          exact fun _ => rfl
      · simp at h
    · simp at h

theorem Evo.of_alen {S S' : Store} {m : Map} (hl : S'.length = S.length) (h : ∀ id, alen S' id = alen S id) (hk : ∀ id, mapAt S' id = mapAt S id) : Evo S S' m m :=
  ⟨by omega, fun id n _ hn => ⟨n, by rw [h]; exact hn, Nat.le_refl _, fun _ => rfl⟩, fun id _ hn => ⟨by rw [h]; exact hn, .inr rfl⟩, fun id _ => hk id⟩

theorem opA_sound {P : Program} {X B : Nat} {w : World} {K : Keep} {m : Map} {S S' : Store} {e : Env} {a : Act} {o : Oper} {r : AV} {g : Option Nat} (hS : SR X B w K m S) (hE : OpsR X w K m e a o.op)
    (hk : (∃ c, o.op = .call c ∧ (∃ q, c.callee = .builtin q ∧ (match q with | .append => True | _ => False))) ∨ ∃ s d x, o.op = .convert s d x) (h : opA P e S o = some (r, S', g)) :
    ∃ v w' K' m', (execOp a.eval o).run P w = .ok (.value v) w' ∧ AppR X B w K m S w' K' m' r S' g v := by
  obtain ⟨dst, op, type, pos, after, guard⟩ := o
  rcases hk with ⟨⟨callee, args, argTypes⟩, rfl, q, hq, hq'⟩ | ⟨s, d, x, rfl⟩
  rotate_left
  · simp only [opA] at h
    have hx := hE x (by simp [Op.operands])
    split at h
    · rename_i id he
      rw [he] at hx
      split at h
      · rename_i l0 xs hs
        split at h
        · rename_i hm
          simp only [Option.some.injEq, Prod.mk.injEq] at h
          obtain ⟨rfl, rfl, rfl⟩ := h
          obtain ⟨w', K', g1, g2⟩ := mark_rel hS hs hm hx
          exact ⟨_, w', K', m, by simp [execOp, g1], g2⟩
        · simp at h
      · simp at h
    · simp at h
  simp only at hq; subst hq
  cases q <;> simp only at hq'
  simp only [opA] at h
  split at h
  · rename_i t tx s x ht hx
    have ht' : argTypes = #[t, tx] := by apply Array.ext'; simpa using ht
    have hx' : args = #[s, x] := by apply Array.ext'; simpa using hx
    subst ht'; subst hx'
    obtain ⟨v, w', K', m', g1, g2⟩ := appendAV_rel (ty := type) hS h (hE s (by simp [Op.operands, Call.operands])) (hE x (by simp [Op.operands, Call.operands]))
    refine ⟨v, w', K', m', ?_, g2⟩
    simp [execOp, resolve, invoke, builtin, g1]
  · simp at h

theorem kindOf_app {hint : Option Nat} {o : Oper} (h : kindOf hint o = .app) : (∃ c, o.op = .call c ∧ (∃ q, c.callee = .builtin q ∧ (match q with | .append => True | _ => False))) ∨ (∃ s d x, o.op = .convert s d x) ∨ ∃ t, o.op = .alloc t := by
  obtain ⟨dst, op, type, pos, after, guard⟩ := o
  unfold kindOf at h
  cases op
  case convert s d x => exact .inr (.inl ⟨s, d, x, rfl⟩)
  case alloc t => exact .inr (.inr ⟨t, rfl⟩)
  case call c =>
    refine .inl ⟨c, rfl, ?_⟩
    obtain ⟨callee, args, argTypes⟩ := c
    cases callee with
    | value f => simp at h
    | invoke f n => simp at h
    | builtin q => cases q <;> simp at h; exact ⟨_, rfl, trivial⟩
  case makeFunc f x y => cases f <;> simp at h
  case next it b => cases b <;> simp at h
  case slice t x lo hi mx =>
    simp only at h
    split at h
    · cases h
    · split at h <;> cases h
  all_goals (simp at h)
  all_goals (split at h <;> simp at h)

end Go.Lite

namespace Go.Lite
open Go
open Go.RowKit (Below)

/-! # stores that grow -/
/-- what stands in the one stands in the other -/
def SLe (S S' : Store) : Prop := ∀ (id : Nat) (ob : Ob), S[id]? = some ob → S'[id]? = some ob

theorem SLe.refl (S : Store) : SLe S S := fun _ _ h => h
theorem SLe.trans {S S' S'' : Store} (h : SLe S S') (h' : SLe S' S'') : SLe S S'' := fun id ob x => h' id ob (h id ob x)
theorem SLe.app (S T : Store) : SLe S (S ++ T) := fun id ob h => by
  rw [List.getElem?_append_left]; · exact h
  · rcases Nat.lt_or_ge id S.length with h' | h'
    · exact h'
    · simp [List.getElem?_eq_none h'] at h

theorem mapM_mono {α β : Type} {f g : α → Option β} (hfg : ∀ x y, f x = some y → g x = some y) : ∀ {xs : List α} {ys : List β}, xs.mapM f = some ys → xs.mapM g = some ys := by
  intro xs
  induction xs with
  | nil => intro ys h; simpa using h
  | cons x xs ih =>
    intro ys h
    simp only [List.mapM_cons, Option.pure_def, Option.bind_eq_bind, Option.bind_eq_some_iff] at h ⊢
    obtain ⟨y, hy, zs, hz, h⟩ := h
    exact ⟨y, hfg _ _ hy, zs, ih hz, h⟩

theorem firm_mono {S S' : Store} (hM : SLe S S') : ∀ {n : Nat} {v : AV} {d : PV}, firm S n v = some d → firm S' n v = some d := by
  intro n
  induction n with
  | zero => intro v d h; simp [firm] at h
  | succ n ih =>
    intro v d h
    cases v with
    | pv d' => simpa [firm] using h
    | arr id =>
      simp only [firm] at h ⊢
      split at h
      · rename_i lay xs hs; rw [hM _ _ hs]; exact h
      · simp at h
    | agg cs =>
      simp only [firm, Option.map_eq_some_iff] at h ⊢
      obtain ⟨ds, h1, h2⟩ := h
      exact ⟨ds, mapM_mono (fun _ _ => ih) h1, h2⟩
    | tup cs =>
      simp only [firm, Option.map_eq_some_iff] at h ⊢
      obtain ⟨ds, h1, h2⟩ := h
      exact ⟨ds, mapM_mono (fun _ _ => ih) h1, h2⟩
    | clo f a b =>
      simp only [firm, Option.pure_def, Option.bind_eq_bind, Option.bind_eq_some_iff] at h ⊢
      obtain ⟨x, h1, y, h2, h3⟩ := h
      exact ⟨x, mapM_mono (fun _ _ => ih) h1, y, mapM_mono (fun _ _ => ih) h2, h3⟩
    | ptr id i off => simp [firm] at h
    | mp id => simp [firm] at h
    | sub id lo k => simp [firm] at h
    | dead => simp [firm] at h

theorem freeze_mono {S S' : Store} (hM : SLe S S') : ∀ {n : Nat} {v : AV} {d : PV}, freeze S n v = some d → freeze S' n v = some d := by
  intro n
  induction n with
  | zero => intro v d h; simp [freeze] at h
  | succ n ih =>
    intro v d h
    cases v with
    | pv d' => simpa [freeze] using h
    | ptr id i off =>
      cases i with
      | succ i => simp [freeze] at h
      | zero =>
        cases off with
        | succ off => simp [freeze] at h
        | zero =>
          simp only [freeze] at h ⊢
          split at h
          · rename_i lay v hs
            rw [hM _ _ hs]
            simp only [Option.map_eq_some_iff] at h ⊢
            obtain ⟨d', h1, h2⟩ := h
            exact ⟨d', ih h1, h2⟩
          · simp at h
    | arr id =>
      simp only [freeze] at h ⊢
      split at h
      · rename_i lay ex xs hs; rw [hM _ _ hs]; exact h
      · simp at h
    | agg cs =>
      simp only [freeze, Option.map_eq_some_iff] at h ⊢
      obtain ⟨ds, h1, h2⟩ := h
      exact ⟨ds, mapM_mono (fun _ _ => ih) h1, h2⟩
    | tup cs =>
      simp only [freeze, Option.map_eq_some_iff] at h ⊢
      obtain ⟨ds, h1, h2⟩ := h
      exact ⟨ds, mapM_mono (fun _ _ => ih) h1, h2⟩
    | clo f a b =>
      simp only [freeze, Option.pure_def, Option.bind_eq_bind, Option.bind_eq_some_iff] at h ⊢
      obtain ⟨x, h1, y, h2, h3⟩ := h
      exact ⟨x, mapM_mono (fun _ _ => ih) h1, y, mapM_mono (fun _ _ => ih) h2, h3⟩
    | mp id => simp [freeze] at h
    | sub id lo k =>
      simp only [freeze, subPV] at h ⊢
      split at h
      · rename_i lay xs hs; rw [hM _ _ hs]; exact h
      · simp at h
    | dead => simp [freeze] at h

theorem freezeV_mono {S S' : Store} (hM : SLe S S') : ∀ {n : Nat} {v : AV} {d : PV}, freezeV S n v = some d → freezeV S' n v = some d := by
  intro n
  induction n with
  | zero => intro v d h; simp [freezeV] at h
  | succ n ih =>
    intro v d h
    cases v with
    | pv d' => simpa [freezeV] using h
    | ptr id i off =>
      cases i with
      | succ i => simp [freezeV] at h
      | zero =>
        cases off with
        | succ off => simp [freezeV] at h
        | zero =>
          simp only [freezeV] at h ⊢
          split at h
          · rename_i lay v hs
            rw [hM _ _ hs]
            simp only [Option.map_eq_some_iff] at h ⊢
            obtain ⟨d', h1, h2⟩ := h
            exact ⟨d', ih h1, h2⟩
          · simp at h
    | arr id =>
      simp only [freezeV] at h ⊢
      split at h
      · rename_i lay xs hs; rw [hM _ _ hs]; exact h
      · simp at h
    | agg cs =>
      simp only [freezeV, Option.map_eq_some_iff] at h ⊢
      obtain ⟨ds, h1, h2⟩ := h
      exact ⟨ds, mapM_mono (fun _ _ => ih) h1, h2⟩
    | tup cs =>
      simp only [freezeV, Option.map_eq_some_iff] at h ⊢
      obtain ⟨ds, h1, h2⟩ := h
      exact ⟨ds, mapM_mono (fun _ _ => ih) h1, h2⟩
    | clo f a b =>
      simp only [freezeV, Option.pure_def, Option.bind_eq_bind, Option.bind_eq_some_iff] at h ⊢
      obtain ⟨x, h1, y, h2, h3⟩ := h
      exact ⟨x, mapM_mono (fun _ _ => ih) h1, y, mapM_mono (fun _ _ => ih) h2, h3⟩
    | mp id => simp [freezeV] at h
    | sub id lo k => simp [freezeV] at h
    | dead => simp [freezeV] at h

theorem callFunc_enter {P : Program} {g : FuncId} {vs : Array Value} {w : World} (h : Entered P g) : (callFunc g vs).run P w = .ok (.enter g vs) w := by
  obtain ⟨fn, h1, h2, h3⟩ := h
  have h3' : ¬ (fn.name = "runtime.NumGoroutine") := by simpa using h3
  obtain ⟨c, hc⟩ := Option.isSome_iff_exists.mp h2
  unfold callFunc
  simp [h1, h3', hc]

theorem wp_of_callsF {P : Program} {o : Oper} {a : Act} {w : World} {g : FuncId} {vs : Array Value} {R : Value → World → Prop} {next : Act → World → Prop} {Q : Exit → Act → World → Prop}
    (he : (execOp a.eval o).run P w = (callFunc g vs).run P w) (h : CallsF P g vs w R) (hn : ∀ v w', R v w' → next (a.put o.dst v) w') : o.wp P a w next Q := by
  unfold Oper.wp
  rw [he]
  rcases h with ⟨h1, h2⟩ | ⟨v, w', h1, h2⟩
  · rw [callFunc_enter h1]
    exact h2.mono fun e w' ⟨v, hv, hR⟩ => by subst hv; exact hn v w' hR
  · rw [h1]; exact hn v w' h2

/-- the model's own call of a closure -/
theorem exec_call_clo {P : Program} {w : World} {a : Act} {o : Oper} {c : Call} {f : Operand} {g : FuncId} {va vb : Array Value} (ho : o.op = .call c) (hc : c.callee = .value f) (hf : a.eval f = .func (.func g) va vb) :
    (execOp a.eval o).run P w = (callFunc g (va ++ c.args.map a.eval ++ vb)).run P w := by
  obtain ⟨dst, op, type, pos, after, guard⟩ := o
  simp only at ho; subst ho
  obtain ⟨callee, args, argTypes⟩ := c
  simp only at hc; subst hc
  simp [execOp, resolve, Deferred.ofValue, hf, invoke]

theorem args_rel {X : Nat} {w : World} {K : Keep} {m : Map} {e : Env} {a : Act} {S : Store} {F : Store → Nat → AV → Option PV} {X' : Nat} {K' : Keep} {n : Nat} {xs : Array Operand} {ds : List PV}
    (hF : ∀ v d vv, F S n v = some d → VR X w K m v vv → PVR X' w K' d vv) (hE : ∀ x ∈ xs, VR X w K m (opnd e x) (a.eval x)) (h : (xs.toList.map (opnd e)).mapM (F S n) = some ds) :
    (xs.map a.eval).size = ds.length ∧ ∀ (i : Nat) (c : PV) (v : Value), ds[i]? = some c → (xs.map a.eval)[i]? = some v → PVR X' w K' c v := by
  obtain ⟨h1, h2, h3⟩ := optM_get h
  refine ⟨by simp at h1; simp [h1], fun i c v hc hv => ?_⟩
  obtain ⟨y, hy, hy2⟩ := h3 i c hc
  simp only [List.getElem?_map, Array.getElem?_toList, Option.map_eq_some_iff, Array.getElem?_map] at hy hv
  obtain ⟨x, hx, rfl⟩ := hy
  obtain ⟨x', hx', rfl⟩ := hv
  rw [hx] at hx'; simp only [Option.some.injEq] at hx'; subst hx'
  exact hF _ _ _ hy2 (hE x (Array.mem_of_getElem? hx))

theorem append3_get {α β : Type} {R : α → β → Prop} {xs ys zs : List α} {us vs ws : Array β} (h1 : us.size = xs.length) (h2 : vs.size = ys.length) (h3 : ws.size = zs.length)
    (r1 : ∀ (i : Nat) c v, xs[i]? = some c → us[i]? = some v → R c v) (r2 : ∀ (i : Nat) c v, ys[i]? = some c → vs[i]? = some v → R c v) (r3 : ∀ (i : Nat) c v, zs[i]? = some c → ws[i]? = some v → R c v) :
    (us ++ vs ++ ws).size = (xs ++ ys ++ zs).length ∧ ∀ (i : Nat) c v, (xs ++ ys ++ zs)[i]? = some c → (us ++ vs ++ ws)[i]? = some v → R c v := by
  refine ⟨by simp [h1, h2, h3], fun i c v hc hv => ?_⟩
  by_cases a1 : i < xs.length
  · rw [List.getElem?_append_left (by simp; omega), List.getElem?_append_left a1] at hc
    rw [Array.getElem?_append, if_pos (by simp; omega), Array.getElem?_append, if_pos (by omega)] at hv
    exact r1 i c v hc hv
  · by_cases a2 : i < xs.length + ys.length
    · rw [List.getElem?_append_left (by simp; omega), List.getElem?_append_right (by omega)] at hc
      rw [Array.getElem?_append, if_pos (by simp; omega), Array.getElem?_append, if_neg (by omega), h1] at hv
      exact r2 _ c v hc hv
    · rw [List.getElem?_append_right (by simp; omega)] at hc
      rw [Array.getElem?_append, if_neg (by simp; omega)] at hv
      simp only [List.length_append] at hc
      simp only [Array.size_append, h1, h2] at hv
      exact r3 _ c v hc hv

theorem callD_sound {P : Program} {cp : FuncId → List PV → Option PV} (hC : PureOK P cp) {X X' : Nat} {w : World} {K K' : Keep} {d : PV} {as : List PV} {strict : Nat} {r : PV} {fv : Value} {vs : Array Value}
    (hk : ∀ b o, K' b o → b < w.heap.size) (hX2 : Lo X' w.heap.size w) (hd : PVR X' w K' d fv) (has : vs.size = as.length ∧ ∀ (i : Nat) (c : PV) (v : Value), as[i]? = some c → vs[i]? = some v → PVR X' w K' c v)
    (hst : strict = 0 → X' = X ∧ K' = K) (hst1 : strict = 1 → K' = K) (hr : callD cp d as strict = some r) :
    ∃ g va vb, fv = .func (.func g) va vb ∧ CallsF P g (va ++ vs ++ vb) w fun v w' => Ext w K w' (fun b i => K b i ∨ (w.heap.size ≤ b ∧ b < w'.heap.size)) ∧ PVR X w' (fun b i => K b i ∨ (w.heap.size ≤ b ∧ b < w'.heap.size)) r v := by
  unfold callD at hr
  split at hr
  case h_2 => simp at hr
  rename_i g fa fb
  have key : cp g (fa ++ as ++ fb) = some r ∧ okAns strict r = true := by
    unfold okK at hr
    split at hr
    · exact ⟨hr, rfl⟩
    · split at hr
      · rename_i s r' hc
        unfold ckB at hr
        split at hr
        · rename_i hok; simp only [Option.some.injEq] at hr; subst hr; exact ⟨hc, hok⟩
        · cases hr
      · cases hr
  obtain ⟨hcall, hcond⟩ := key
  cases hd with
  | clo q1 q2 q3 q4 =>
    rename_i va vb
    refine ⟨g, va, vb, rfl, ?_⟩
    obtain ⟨e1, e2⟩ := append3_get (R := PVR X' w K') q1 has.1 q2 q3 has.2 q4
    refine (hC g _ r hcall X' w K' _ hX2 hk e1 e2).mono fun v w' hg => ⟨⟨hg.1.below, fun _ _ h => .inl h, fun _ _ h => h⟩, ?_⟩
    match strict, hst, hst1, hcond with
    | 0, hst, _, _ => obtain ⟨h1, h2⟩ := hst rfl; subst h1; subst h2; exact hg.2
    | 1, _, hst1, hcond => have := hst1 rfl; subst this; exact roFree_rel hg.2 hcond
    | s + 2, _, _, hcond => exact tame_rel hg.2 hcond

/-- A pure call. -/
theorem opC_pure {P : Program} {cp : FuncId → List PV → Option PV} (hC : PureOK P cp) {shared : FuncId → Bool} {X B : Nat} {w : World} {K : Keep} {m : Map} {e : Env} {S0 S : Store} (hM : SLe S0 S) {a : Act} {o : Oper} {d : PV} {as : List PV} {strict : Nat} {r : PV}
    (hS : SR X B w K m S) (hE : OpsR X w K m e a o.op) (h : opC shared e S0 o = some (.inl (d, as, strict))) (hr : callD cp d as strict = some r) :
    ∃ g vs, (execOp a.eval o).run P w = (callFunc g vs).run P w ∧
      CallsF P g vs w fun v w' => Ext w K w' (fun b i => K b i ∨ (w.heap.size ≤ b ∧ b < w'.heap.size)) ∧ PVR X w' (fun b i => K b i ∨ (w.heap.size ≤ b ∧ b < w'.heap.size)) r v := by
  have hX : Lo X w.heap.size w := hS.low.le hS.size
  have hX' : Lo w.heap.size w.heap.size w := hX.up hX.1 (Nat.le_refl _)
  unfold opC at h
  generalize deep = n at h
  split at h
  case h_2 => simp at h
  rename_i c hop
  split at h
  case h_2 => simp at h
  rename_i f hcallee
  rw [hop] at hE
  have hf := hE f (by simp [Op.operands, Call.operands, hcallee])
  have ha : ∀ x ∈ c.args, VR X w K m (opnd e x) (a.eval x) := fun x hx => hE x (by simp [Op.operands, Call.operands, hx])
  split at h
  · simp at h
  · split at h
    · rename_i d' as' h1 h2
      simp only [Option.some.injEq, Sum.inl.injEq, Prod.mk.injEq] at h
      obtain ⟨rfl, rfl, rfl⟩ := h
      obtain ⟨g, va, vb, g1, g2⟩ := callD_sound (X := X) (X' := X) (K' := K) hC hS.keep hX (firm_rel hS n _ _ _ (firm_mono hM h1) hf) (args_rel (F := firm) (X' := X) (fun v d vv => firm_rel hS n v d vv) ha (mapM_mono (fun _ _ => firm_mono hM) h2)) (fun _ => ⟨rfl, rfl⟩) (fun _ => rfl) hr
      exact ⟨g, _, exec_call_clo hop hcallee g1, g2⟩
    · split at h
      · rename_i d' as' h1 h2
        simp only [Option.some.injEq, Sum.inl.injEq, Prod.mk.injEq] at h
        obtain ⟨rfl, rfl, rfl⟩ := h
        obtain ⟨g, va, vb, g1, g2⟩ := callD_sound (X := X) (X' := w.heap.size) (K' := K) hC hS.keep hX' (freezeV_rel hS n _ _ _ (freezeV_mono hM h1) hf) (args_rel (F := freezeV) (X' := w.heap.size) (fun v d vv => freezeV_rel hS n v d vv) ha (mapM_mono (fun _ _ => freezeV_mono hM) h2)) (by simp) (fun _ => rfl) hr
        exact ⟨g, _, exec_call_clo hop hcallee g1, g2⟩
      · split at h
        · rename_i d' as' h1 h2
          simp only [Option.some.injEq, Sum.inl.injEq, Prod.mk.injEq] at h
          obtain ⟨rfl, rfl, rfl⟩ := h
          obtain ⟨g, va, vb, g1, g2⟩ := callD_sound (X := X) (X' := w.heap.size) (K' := fun b _ => b < w.heap.size) hC (fun _ _ h => h) hX' (freeze_rel hS n _ _ _ (freeze_mono hM h1) hf) (args_rel (F := freeze) (X' := w.heap.size) (fun v d vv => freeze_rel hS n v d vv) ha (mapM_mono (fun _ _ => freeze_mono hM) h2)) (by simp) (by simp) hr
          exact ⟨g, _, exec_call_clo hop hcallee g1, g2⟩
        · simp at h

/-- A call that is handed the objects: what is called, with what. -/
theorem opC_inr {P : Program} {shared : FuncId → Bool} {X : Nat} {w : World} {K : Keep} {m : Map} {e : Env} {S : Store} {a : Act} {o : Oper} {g : FuncId} {as : List AV}
    (hE : OpsR X w K m e a o.op) (h : opC shared e S o = some (.inr (g, as))) :
    ∃ vs : Array Value, (execOp a.eval o).run P w = (callFunc g vs).run P w ∧ vs.size = as.length ∧ (∀ (i : Nat) (c : AV) (v : Value), as[i]? = some c → vs[i]? = some v → VR X w K m c v) := by
  unfold opC at h
  generalize deep = n at h
  split at h
  case h_2 => simp at h
  rename_i c hop
  split at h
  case h_2 => simp at h
  rename_i f hcallee
  rw [hop] at hE
  have hf := hE f (by simp [Op.operands, Call.operands, hcallee])
  have ha : ∀ x ∈ c.args, VR X w K m (opnd e x) (a.eval x) := fun x hx => hE x (by simp [Op.operands, Call.operands, hx])
  obtain ⟨ma1, ma2⟩ := map_rel (w := w) (K := K) (m := m) (e := e) (a := a) (xs := c.args) ha
  split at h
  · rename_i p hp
    simp only [Option.some.injEq, Sum.inr.injEq] at h; subst h
    generalize hfv : a.eval f = fv at hf
    split at hp
    · rename_i g' fa fb _ he
      rw [he] at hf
      split at hp
      · simp only [Option.some.injEq, Prod.mk.injEq] at hp
        obtain ⟨rfl, rfl⟩ := hp
        cases hf.pv_inv with
        | clo q1 q2 q3 q4 =>
          rename_i va vb
          refine ⟨va ++ c.args.map a.eval ++ vb, exec_call_clo hop hcallee hfv, ?_⟩
          exact append3_get (R := VR X w K m) (xs := fa.map .pv) (zs := fb.map .pv) (by simpa using q1) ma1 (by simpa using q2) (fun i c v h1 h2 => by
              simp only [List.getElem?_map, Option.map_eq_some_iff] at h1
              obtain ⟨c', h1, rfl⟩ := h1; exact .pv (q3 i c' v h1 h2)) ma2 (fun i c v h1 h2 => by
              simp only [List.getElem?_map, Option.map_eq_some_iff] at h1
              obtain ⟨c', h1, rfl⟩ := h1; exact .pv (q4 i c' v h1 h2))
      · simp at hp
    · rename_i g' fa fb he
      rw [he] at hf
      split at hp
      · simp only [Option.some.injEq, Prod.mk.injEq] at hp
        obtain ⟨rfl, rfl⟩ := hp
        cases hf with
        | clo q1 q2 q3 q4 =>
          rename_i va vb
          refine ⟨va ++ c.args.map a.eval ++ vb, exec_call_clo hop hcallee hfv, ?_⟩
          exact append3_get (R := VR X w K m) q1 ma1 q2 q3 ma2 q4
      · simp at hp
    · simp at hp
  · split at h
    · simp at h
    · split at h
      · simp at h
      · split at h <;> simp at h

theorem opC_shared {P : Program} {cs : FuncId → List AV → Store → Option (AV × Store)} {calm : FuncId → List AV → Lv} (hC : SharedOK P calm cs) {shared : FuncId → Bool} {X B : Nat} {w : World} {K : Keep} {m : Map} {e : Env} {S S' : Store} {a : Act} {o : Oper} {g : FuncId} {as : List AV} {r : AV}
    (hS : SR X B w K m S) (hd : ∀ id, S.length ≤ id → m id = none) (hE : OpsR X w K m e a o.op) (h : opC shared e S o = some (.inr (g, as))) (hr : cs g as S = some (r, S')) :
    ∃ vs, (execOp a.eval o).run P w = (callFunc g vs).run P w ∧
      CallsF P g vs w fun v w' => ∃ K' m', Fr X B w K S m w' K' S' m' ∧ SR X B w' K' m' S' ∧ (∀ id, S'.length ≤ id → m' id = none) ∧ VR X w' K' m' r v ∧ CalmM (calm g as) S m m' := by
  obtain ⟨vs, h1, h2, h3⟩ := opC_inr (P := P) hE h
  exact ⟨vs, h1, hC _ _ S r S' hr X B w K m _ hS hd h2 h3⟩
theorem SR.less {X B : Nat} {w : World} {K : Keep} {m : Map} {S0 S : Store} (hM : SLe S0 S) (h : SR X B w K m S) : SR X B w K m S0 :=
  ⟨fun id o loc h1 h2 => h.ob id o loc (hM id o h1) h2, h.sep, h.mine, h.keep, h.size, h.low⟩
theorem opC_read {P : Program} {rd : FuncId → Option (List AV → Store → Option PV)} (hC : ReadOK P rd) {shared : FuncId → Bool} {X B : Nat} {w : World} {K : Keep} {m : Map} {e : Env} {S0 S : Store} {a : Act} {o : Oper} {g : FuncId} {as : List AV} {q : List AV → Store → Option PV} {d : PV}
    (hM : SLe S0 S) (hS : SR X B w K m S) (hE : OpsR X w K m e a o.op) (h : opC shared e S0 o = some (.inr (g, as))) (hq : rd g = some q) (hr : q as S0 = some d) :
    ∃ vs, (execOp a.eval o).run P w = (callFunc g vs).run P w ∧ CallsF P g vs w fun v w' => ∃ K', Ext w K w' K' ∧ PVR X w' K' d v := by
  obtain ⟨vs, h1, h2, h3⟩ := opC_inr (P := P) hE h
  exact ⟨vs, h1, hC g q hq _ S0 d hr X B w K m _ (hS.less hM) h2 h3⟩

/-- what a shared call leaves of the caller's values -/
theorem VR.fits {X : Nat} {w w' : World} {K K' : Keep} {S S' : Store} {m m' : Map} (hp : Pres X w K w') (hk : Sub K K') (hd : ∀ id, S.length ≤ id → m id = none) (he : Evo S S' m m') {d : AV} {v : Value}
    (h : VR X w K m d v) (hf : d.fits S S' = true) : VR X w' K' m' d v := by
  have all : ∀ {cs : List AV}, AV.fitsAll S S' cs = true → ∀ (i : Nat) (c : AV), cs[i]? = some c → c.fits S S' = true := by
    intro cs
    induction cs with
    | nil => intro _ i c h; simp at h
    | cons a cs ih =>
      intro h i c hc
      simp only [AV.fitsAll, Bool.and_eq_true] at h
      cases i with
      | zero => simp at hc; subst hc; exact h.1
      | succ i => exact ih h.2 i c (by simpa using hc)
  have lt : ∀ {id loc}, m id = some loc → id < S.length := fun {id loc} h => by
    rcases Nat.lt_or_ge id S.length with h' | h'
    · exact h'
    · rw [hd id h'] at h; simp at h
  induction h with
  | pv h => exact .pv (h.mono hp hk)
  | ptr h ha =>
    rename_i id i off b o loc
    have hlt := lt h
    have hm : m' id = m id := by
      simp only [AV.fits] at hf
      cases hn : alen S id with
      | none =>
        rcases (he.oth id hlt hn).2 with h5 | h5
        · simp only [mapAt] at h5
          split at h5
          · rename_i ob hob
            cases ob <;> simp only [Ob.isMap, Bool.false_eq_true] at h5
            rw [hob] at hf; simp at hf
          · cases h5
        · exact h5
      | some n =>
        obtain ⟨n', h1, h2, h3⟩ := he.arr id n hlt hn
        apply h3
        unfold alen at hn h1
        split at hn
        · rename_i l x xs hs
          simp only [Option.some.injEq] at hn
          split at h1
          · rename_i l' x' xs' hs'
            simp only [Option.some.injEq] at h1
            rw [hs, hs'] at hf
            simp only [beq_iff_eq] at hf
            omega
          · simp at h1
        · simp at hn
    exact .ptr (hm.trans h) ha
  | arr h =>
    rename_i id loc
    have hlt := lt h
    have hm : m' id = m id := by
      simp only [AV.fits] at hf
      split at hf
      · rename_i l x xs l' x' xs' hs hs'
        obtain ⟨n', h1, h2, h3⟩ := he.arr id xs.length hlt (by simp [alen, hs])
        simp only [alen, hs', Option.some.injEq] at h1
        simp only [beq_iff_eq] at hf
        exact h3 (by omega)
      · simp at hf
    exact .arr (hm.trans h)
  | mp h ha => simp [AV.fits] at hf
  | sub h hn hcap hlen ha =>
    rename_i id lo n cap a loc
    have hlt := lt h
    have hm : m' id = m id := by
      simp only [AV.fits] at hf
      split at hf
      · rename_i l x xs l' x' xs' hs hs'
        obtain ⟨n', h1, h2, h3⟩ := he.arr id xs.length hlt (by simp [alen, hs])
        simp only [alen, hs', Option.some.injEq] at h1
        simp only [beq_iff_eq] at hf
        exact h3 (by omega)
      · simp at hf
    exact .sub (hm.trans h) hn hcap hlen ha
  | agg hs hx ih => exact .agg hs fun i c v h1 h2 => ih i c v h1 h2 (all (by simpa [AV.fits] using hf) i c h1)
  | tup hs hx ih => exact .tup hs fun i c v h1 h2 => ih i c v h1 h2 (all (by simpa [AV.fits] using hf) i c h1)
  | clo ha hb hx hy ih1 ih2 =>
    simp only [AV.fits, Bool.and_eq_true] at hf
    exact .clo ha hb (fun i c v h1 h2 => ih1 i c v h1 h2 (all hf.1 i c h1)) fun i c v h1 h2 => ih2 i c v h1 h2 (all hf.2 i c h1)
  | dead v => exact .dead v

theorem VR.stale {X : Nat} {w w' : World} {K K' : Keep} {S S' : Store} {m m' : Map} (hp : Pres X w K w') (hk : Sub K K') (hd : ∀ id, S.length ≤ id → m id = none) (he : Evo S S' m m') {d : AV} {v : Value}
    (h : VR X w K m d v) : VR X w' K' m' (d.stale S S') v := by
  unfold AV.stale
  split
  · rename_i hf; exact h.fits hp hk hd he hf
  · exact .dead v

theorem VR.calm {X : Nat} {w w' : World} {K K' : Keep} {S : Store} {m m' : Map} (hp : Pres X w K w') (hk : Sub K K') (hm : ∀ id loc, isMapAt S id = false → m id = some loc → m' id = some loc) {d : AV} {v : Value}
    (h : VR X w K m d v) (hf : d.calmB S = true) : VR X w' K' m' d v := by
  have all : ∀ {cs : List AV}, AV.calmAll S cs = true → ∀ (i : Nat) (c : AV), cs[i]? = some c → c.calmB S = true := by
    intro cs
    induction cs with
    | nil => intro _ i c h; simp at h
    | cons a cs ih =>
      intro h i c hc
      simp only [AV.calmAll, Bool.and_eq_true] at h
      cases i with
      | zero => simp at hc; subst hc; exact h.1
      | succ i => exact ih h.2 i c (by simpa using hc)
  induction h with
  | pv h => exact .pv (h.mono hp hk)
  | ptr h ha => exact .ptr (hm _ _ (by simpa [AV.calmB] using hf) h) ha
  | arr h => exact .arr (hm _ _ (by simpa [AV.calmB] using hf) h)
  | mp h ha => simp [AV.calmB] at hf
  | sub h hn hcap hlen ha => exact .sub (hm _ _ (by simpa [AV.calmB] using hf) h) hn hcap hlen ha
  | agg hs hx ih => exact .agg hs fun i c v h1 h2 => ih i c v h1 h2 (all (by simpa [AV.calmB] using hf) i c h1)
  | tup hs hx ih => exact .tup hs fun i c v h1 h2 => ih i c v h1 h2 (all (by simpa [AV.calmB] using hf) i c h1)
  | clo ha hb hx hy ih1 ih2 =>
    simp only [AV.calmB, Bool.and_eq_true] at hf
    exact .clo ha hb (fun i c v h1 h2 => ih1 i c v h1 h2 (all hf.1 i c h1)) fun i c v h1 h2 => ih2 i c v h1 h2 (all hf.2 i c h1)
  | dead v => exact .dead v
theorem VR.looseL {X : Nat} {w : World} {K : Keep} : ∀ (mv : List Nat) {m m' : Map} {d : AV} {v : Value}, (∀ id loc, id ∉ mv → m id = some loc → m' id = some loc) → VR X w K m d v → VR X w K m' (looseL mv d) v := by
  intro mv
  induction mv with
  | nil => intro m m' d v hm h; exact h.mono (fun _ _ _ _ h => h) (Sub.refl _) fun id loc => hm id loc (by simp)
  | cons k mv ih =>
    intro m m' d v hm h
    show VR X w K m' (Go.Lite.looseL mv (d.loose k)) v
    refine ih (m := fun i => if i = k then none else m i) (fun id loc hid hl => ?_) (VR.looseO (g := some k) (fun id hne loc hl => ?_) h)
    · split at hl
      · cases hl
      · rename_i hne; exact hm id loc (by simp [hne, hid]) hl
    · have : id ≠ k := fun e => hne (by rw [e])
      simp [this, hl]
theorem VR.staleK {X : Nat} {w w' : World} {K K' : Keep} {S S' : Store} {m m' : Map} {c : Lv} (hp : Pres X w K w') (hk : Sub K K') (hd : ∀ id, S.length ≤ id → m id = none) (he : Evo S S' m m') (hc : CalmM c S m m') {d : AV} {v : Value}
    (h : VR X w K m d v) : VR X w' K' m' (Go.Lite.staleK c S S' d) v := by
  cases c with
  | stale => exact h.stale hp hk hd he
  | calm =>
    simp only [Go.Lite.staleK]
    split
    · rename_i hf; exact h.calm hp hk hc hf
    · exact .dead v
  | free l => exact VR.looseL l hc (h.mono hp hk fun _ _ h => h)
theorem looseL_dead : ∀ l : List Nat, looseL l .dead = .dead
  | [] => rfl
  | k :: r => by simp only [looseL, AV.loose, AV.free, if_true]; exact looseL_dead r
theorem stale_dead (S S' : Store) : AV.dead.stale S S' = .dead := by simp [AV.stale, AV.fits]
theorem staleK_dead (c : Lv) (S S' : Store) : staleK c S S' .dead = .dead := by cases c <;> simp [staleK, AV.stale, AV.fits, AV.calmB, looseL_dead]

end Go.Lite

namespace Go.Lite
open Go
open Go.RowKit (Below)

/-! # an append that touches nobody's memory -/
theorem appendPV_rel {P : Program} {X B : Nat} {w : World} {K : Keep} {m : Map} {S : Store} {t tx ty : TypeId} {s d r : PV} {sv xv : Value} (hS : SR X B w K m S)
    (h : appendPV P t tx s d = some r) (hs : VR X w K m (.pv s) sv) (hx : VR X w K m (.pv d) xv) :
    ∃ v w' K', (Builtin.append_ #[t, tx] ty #[sv, xv]).run P w = .ok v w' ∧ PVR X w' K' r v ∧ Ext w K w' K' := by
  unfold appendPV at h
  split at h
  case h_2 => simp at h
  rename_i el ex hu hux
  split at h
  case h_2 => simp at h
  rename_i lay i z hl hi hz
  split at h
  case isFalse => simp at h
  rename_i hcond
  obtain ⟨hw, hb, hzl⟩ := hcond
  obtain ⟨d0, i0, hd0, hi0, hsz, hagg⟩ := layOf_some hl
  rw [hi] at hi0; simp only [Option.some.injEq] at hi0; subst hi0
  have room0 : ∀ {base xa : Option Addr} {sLen sCap c : Nat}, sLen ≤ sCap → (Builtin.firstCells i.size 0 (.slice xa 0 c)).run P w = .ok #[] w →
      (Builtin.append_ #[t, tx] ty #[.slice base sLen sCap, .slice xa 0 c]).run P w = .ok (.slice base sLen sCap) w := by
    intro base xa sLen sCap c hc hf
    have := append_room (w' := w) (ty := ty) (base := base) (sLen := sLen) (sCap := sCap) hu hux hi hf (by omega) (fun a _ => by simp [storeCells]) (fun _ => rfl)
    simpa using this
  have grow : ∀ {xs ys : List PV} {base xa : Option Addr} {sLen sCap n c : Nat} {KR KR' : Keep}, ListV X w K KR lay xs base sLen sCap → ListV X w K KR' lay ys xa n c → sCap < sLen + n →
      (xs.length + ys.length) * i.bytes ≤ appendRoom → ∃ v w' K', (Builtin.append_ #[t, tx] ty #[.slice base sLen sCap, .slice xa n c]).run P w = .ok v w' ∧ PVR X w' K' (.list lay false (xs ++ ys)) v ∧ Ext w K w' K' := by
    intro xs ys base xa sLen sCap n c KR KR' h1 h2 h3 h4
    obtain ⟨w', cap', cs, cvs, e1, rfl, e3, e4, e5, e6, e7, e8⟩ := append_new (ty := ty) hu hux hl hi hz hzl hw hb h1 h2 h3 h4
    have hext : Ext w K (w.drew.alloc (.cells cs el)) (fun b i => K b i ∨ (b = w.heap.size ∧ True)) := append_ext _ _
    refine ⟨_, _, _, e1, ?_, hext⟩
    have := append_new_pvr (el := el) (cap := cap') (by simpa using e3) (by simpa using e5) e6 e7 e8
    simpa using this
  split at h
  · rename_i lx clx ys
    split at h
    case isFalse => simp at h
    rename_i hle; subst hle
    obtain ⟨xa, n, c, rfl, hnew⟩ := elems_rel (x := .pv (.list lay clx ys)) hS rfl hx
    obtain ⟨hn, hc⟩ := hnew.length
    subst hn
    obtain ⟨cn, n1, n2, n3, n4⟩ := firstCells_run (P := P) hw hnew
    rw [← hsz] at n4
    have f0 : ys = [] → (Builtin.firstCells i.size 0 (.slice xa 0 c)).run P w = .ok #[] w := by
      intro h0; subst h0
      have : cn = [] := List.eq_nil_of_length_eq_zero (by simpa using n1)
      subst this
      simpa [flat] using n4
    split at h
    · split at h
      case isFalse => simp at h
      rename_i hroom
      simp only [Option.some.injEq] at h
      subst h
      have hsv : sv = .slice none 0 0 := by cases hs.pv_inv; rfl
      subst hsv
      have hnil : ListV X w K K lay [] none 0 0 := .inl ⟨rfl, rfl, rfl⟩
      by_cases hy : ys = []
      · subst hy
        exact ⟨_, w, K, by simpa using room0 (base := none) (sLen := 0) (sCap := 0) (by omega) (f0 rfl), .empty, Ext.refl _ _⟩
      · have hpos : 0 < ys.length := List.length_pos_iff.2 hy
        have := grow hnil hnew (by omega) (by simpa using hroom)
        simpa using this
    · rename_i l0 xs
      split at h
      case isFalse => simp at h
      rename_i hcond2
      obtain ⟨rfl, hroom⟩ := hcond2
      simp only [Option.some.injEq] at h
      subst h
      obtain ⟨a, len, cap, rfl, hold, hclip⟩ := hs.pv_inv.listV
      have hcl := hclip rfl
      obtain ⟨hlo, hco⟩ := hold.length
      by_cases hy : ys = []
      · subst hy
        refine ⟨_, w, K, by simpa using room0 (base := a) (by omega) (f0 rfl), ?_, Ext.refl _ _⟩
        simpa using hold.pvr (clip := true) fun _ => hcl
      · have hpos : 0 < ys.length := List.length_pos_iff.2 hy
        have := grow hold hnew (by omega) hroom
        have he : ys.isEmpty = false := by cases ys <;> simp_all
        rw [he]; exact this
    · simp at h
  · have hxv : xv = .slice none 0 0 := by cases hx.pv_inv; rfl
    subst hxv
    have f0 : (Builtin.firstCells i.size 0 (.slice none 0 0)).run P w = .ok #[] w := by simp [Builtin.firstCells]
    split at h
    · simp only [Option.some.injEq] at h
      subst h
      have hsv : sv = .slice none 0 0 := by cases hs.pv_inv; rfl
      subst hsv
      exact ⟨_, w, K, room0 (Nat.le_refl _) f0, hs.pv_inv, Ext.refl _ _⟩
    · simp only [Option.some.injEq] at h
      subst h
      obtain ⟨a, len, cap, rfl, hold, hclip⟩ := hs.pv_inv.listV
      exact ⟨_, w, K, room0 hold.length.2 f0, hs.pv_inv, Ext.refl _ _⟩
    · simp at h
  · simp at h

theorem opAP_sound {P : Program} {X B : Nat} {w : World} {K : Keep} {m : Map} {S : Store} {e : Env} {a : Act} {o : Oper} {r : PV} (hS : SR X B w K m S) (hE : OpsR X w K m e a o.op)
    (hk : ∃ c, o.op = .call c ∧ (∃ q, c.callee = .builtin q ∧ (match q with | .append => True | _ => False))) (h : opAP P e o = some r) :
    ∃ v w' K', (execOp a.eval o).run P w = .ok (.value v) w' ∧ PVR X w' K' r v ∧ Ext w K w' K' := by
  obtain ⟨dst, op, type, pos, after, guard⟩ := o
  obtain ⟨⟨callee, args, argTypes⟩, rfl, q, hq, hq'⟩ := hk
  simp only at hq; subst hq
  cases q <;> simp only at hq'
  simp only [opAP] at h
  split at h
  · rename_i t tx s x ht hx
    have ht' : argTypes = #[t, tx] := by apply Array.ext'; simpa using ht
    have hx' : args = #[s, x] := by apply Array.ext'; simpa using hx
    subst ht'; subst hx'
    have h1 := hE s (by simp [Op.operands, Call.operands])
    have h2 := hE x (by simp [Op.operands, Call.operands])
    split at h
    · rename_i s' d' hs hd
      rw [hs] at h1; rw [hd] at h2
      obtain ⟨v, w', K', g1, g2, g3⟩ := appendPV_rel (ty := type) hS h h1 h2
      refine ⟨v, w', K', ?_, g2, g3⟩
      simp [execOp, resolve, invoke, builtin, g1]
    · simp at h
  · simp at h

theorem kindOf_appP {hint : Option Nat} {o : Oper} (h : kindOf hint o = .appP) : ∃ c, o.op = .call c ∧ (∃ q, c.callee = .builtin q ∧ (match q with | .append => True | _ => False)) := by
  obtain ⟨dst, op, type, pos, after, guard⟩ := o
  unfold kindOf at h
  cases op
  case call c =>
    refine ⟨c, rfl, ?_⟩
    obtain ⟨callee, args, argTypes⟩ := c
    cases callee with
    | value f => simp at h
    | invoke f n => simp at h
    | builtin q => cases q <;> simp at h; exact ⟨_, rfl, trivial⟩
  case makeFunc f x y => cases f <;> simp at h
  case next it b => cases b <;> simp at h
  case slice t x lo hi mx =>
    simp only at h
    split at h
    · cases h
    · split at h <;> cases h
  all_goals (simp at h)
  all_goals (split at h <;> simp at h)
end Go.Lite
