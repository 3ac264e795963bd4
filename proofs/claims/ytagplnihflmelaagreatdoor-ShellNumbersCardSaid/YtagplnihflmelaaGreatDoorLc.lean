import Derived.Test.YtagplnihflmelaaGreatDoorLb
import Derived.LoopN
import Derived.Scope
set_option linter.unusedVariables false
set_option linter.unusedSimpArgs false

namespace Go.Lite
open Go
open Go.RowKit (Below)

/-! # operations at stores that grow -/
theorem loadAV_mono {P : Program} {S S' : Store} (hM : SLe S S') {t : TypeId} {a r : AV} (h : loadAV P S t a = some r) : loadAV P S' t a = some r := by
  unfold loadAV at h ⊢
  split at h
  · exact h
  · rename_i lay id i off hl
    split at h
    · rename_i l0 v hs; rw [hM _ _ hs]; exact h
    · rename_i l0 x xs hs; rw [hM _ _ hs]; exact h
    · simp at h
  · simp at h

theorem elems_mono {S S' : Store} (hM : SLe S S') {a : AV} {r : Nat × List PV} (h : elems? S a = some r) : elems? S' a = some r := by
  unfold elems? at h ⊢
  split at h
  · exact h
  · split at h
    · rename_i hs; rw [hM _ _ hs]; exact h
    · simp at h
  · simp at h

theorem indexAddrAV_mono {P : Program} {S S' : Store} (hM : SLe S S') {t : TypeId} {x r : AV} {i : Int} (h : indexAddrAV P S t x i = some r) : indexAddrAV P S' t x i = some r := by
  unfold indexAddrAV at h ⊢
  split at h
  · split at h
    · exact h
    · split at h
      · rename_i hs; rw [hM _ _ hs]; exact h
      · simp at h
    · split at h
      · rename_i hs; rw [hM _ _ hs]; exact h
      · simp at h
    · simp at h
  · exact h
  · simp at h
theorem ownPart_mono {S S' : Store} (hM : SLe S S') {x : AV} {r : Nat × Nat × Nat × Nat} (h : ownPart S x = some r) : ownPart S' x = some r := by
  unfold ownPart at h ⊢
  split at h
  · split at h
    · rename_i hs; rw [hM _ _ hs]; exact h
    · simp at h
  · split at h
    · rename_i hs; rw [hM _ _ hs]; exact h
    · simp at h
  · simp at h
theorem subAV_mono {P : Program} {S S' : Store} (hM : SLe S S') {t : TypeId} {x r : AV} {lo hi : Option AV} (h : subAV P S t x lo hi = some r) : subAV P S' t x lo hi = some r := by
  unfold subAV at h ⊢
  split at h
  · split at h
    · rename_i hl hp; simp only [hl, ownPart_mono hM hp]; exact h
    · simp at h
  · simp at h

theorem sliceAV_mono {P : Program} {S S' : Store} (hM : SLe S S') {t : TypeId} {x r : AV} {lo hi mx : Option AV} (h : sliceAV P S t x lo hi mx = some r) : sliceAV P S' t x lo hi mx = some r := by
  unfold sliceAV at h ⊢
  split at h
  · exact h
  · split at h
    · exact h
    · split at h
      · rename_i hs; rw [hM _ _ hs]; exact h
      · simp at h
    · simp at h
  · simp at h

theorem lenAV_mono {P : Program} {S S' : Store} (hM : SLe S S') {t : TypeId} {x : AV} {n : Int} (h : lenAV P S t x = some n) : lenAV P S' t x = some n := by
  unfold lenAV at h ⊢
  split at h
  · exact h
  · split at h
    · exact h
    · exact h
    · split at h
      · rename_i hs; rw [hM _ _ hs]; exact h
      · simp at h
    · exact h
    · simp at h
  · split at h
    · split at h
      · rename_i hs; rw [hM _ _ hs]; exact h
      · simp at h
    · simp at h
  · simp at h

theorem mapOf_mono {S S' : Store} (hM : SLe S S') {x : AV} {es : List (Int × PV)} (h : mapOf? S x = some es) : mapOf? S' x = some es := by
  unfold mapOf? at h ⊢
  split at h
  · split at h
    · rename_i hs; rw [hM _ _ hs]; exact h
    · simp at h
  · simp at h

theorem convertPV_mono {P : Program} {S S' : Store} (hM : SLe S S') {s d : TypeId} {x : AV} {r : PV} (h : convertPV P S s d x = some r) : convertPV P S' s d x = some r := by
  unfold convertPV at h ⊢
  split at h
  · exact h
  · split at h
    · rename_i h1 h2 h3
      rw [elems_mono hM h3]
      simp only [h1, h2]
      exact h
    · simp at h

theorem opV_mono {P : Program} {S S' : Store} (hM : SLe S S') {e : Env} {o : Oper} {r : AV} (h : opV P e S o = some r) : opV P e S' o = some r := by
  obtain ⟨dst, op, type, pos, after, guard⟩ := o
  cases op <;> simp only [opV] at h ⊢ <;> (first | exact h | skip)
  case load t a => exact loadAV_mono hM h
  case makeFunc f _ _ => cases f <;> exact h
  case slice t x lo hi mx =>
    cases mx with
    | none => exact subAV_mono hM h
    | some m => exact h
  case indexAddr t x i =>
    simp only [Option.bind_eq_some_iff] at h ⊢
    obtain ⟨n, h1, h2⟩ := h
    exact ⟨n, h1, indexAddrAV_mono hM h2⟩

theorem pairs_mono {S S' : Store} (hM : SLe S S') {e : Env} {n : Nat} {ps : List (Nat × Operand)} {qs : List (Nat × PV)}
    (h : (ps.mapM fun (i, x) => (firm S n (opnd e x)).map fun d => (i, d)) = some qs) : (ps.mapM fun (i, x) => (firm S' n (opnd e x)).map fun d => (i, d)) = some qs :=
  mapM_mono (fun p q hp => by
    obtain ⟨i, x⟩ := p
    simp only [Option.map_eq_some_iff] at hp ⊢
    obtain ⟨d, h1, h2⟩ := hp
    exact ⟨d, firm_mono hM h1, h2⟩) h

theorem opVP_mono {P : Program} {S S' : Store} (hM : SLe S S') {e : Env} {o : Oper} {r : PV} (h : opVP P e S o = some r) : opVP P e S' o = some r := by
  obtain ⟨dst, op, type, pos, after, guard⟩ := o
  cases op <;> simp only [opVP] at h ⊢ <;> (first | exact h | skip)
  case buildSlice t n ps =>
    split at h
    · rename_i qs hq; rw [pairs_mono hM hq]; exact h
    · simp at h
  case convert s d x => exact convertPV_mono hM h
  case lookup t mo k ok =>
    split at h
    · rename_i h1 h2; rw [mapOf_mono hM h1, h2]; exact h
    · simp at h
  case slice t x lo hi mx =>
    split at h
    · rename_i d hd; rw [sliceAV_mono hM hd]; exact h
    · simp at h
  case call c =>
    obtain ⟨callee, args, argTypes⟩ := c
    cases callee with
    | value f => exact h
    | invoke f n => exact h
    | builtin q =>
      cases q <;> simp only at h ⊢ <;> (first | exact h | skip)
      split at h
      · simp only [Option.map_eq_some_iff] at h ⊢
        obtain ⟨n, h1, h2⟩ := h
        exact ⟨n, lenAV_mono hM h1, h2⟩
      · simp at h

theorem opN_mono {P : Program} {hint : Option Nat} {n : Nat} {S S' : Store} (hM : SLe S S') {e : Env} {o : Oper} {r : AV × Ob} (h : opN P hint n e S o = some r) : opN P hint n e S' o = some r := by
  obtain ⟨dst, op, type, pos, after, guard⟩ := o
  cases op <;> simp only [opN] at h ⊢ <;> (first | exact h | skip)
  case buildSlice t len ps =>
    split at h
    · rename_i qs hq; rw [pairs_mono hM hq]; exact h
    · simp at h
  case load t x =>
    simp only [Option.bind_eq_some_iff] at h ⊢
    obtain ⟨lv, hl, h⟩ := h
    exact ⟨lv, loadAV_mono hM hl, h⟩

/-! # what an operation looks at -/
def Looks (X : Nat) (w : World) (K : Keep) (m : Map) (e : Env) (a : Act) (ops : Array Oper) (o : Oper) : Prop := ∀ t ∈ o.looksAt ops, VR X w K m (e.get t) (a.tmps.getD t undef)

theorem ER.looks {X : Nat} {w : World} {K : Keep} {m : Map} {e : Env} {a : Act} (h : ER X w K m e a.tmps) (ops : Array Oper) (o : Oper) : Looks X w K m e a ops o := fun t _ => h t
theorem Looks.ops {X : Nat} {w : World} {K : Keep} {m : Map} {e : Env} {a : Act} {ops : Array Oper} {o : Oper} (hG : Gl X w) (h : Looks X w K m e a ops o) : OpsR X w K m e a o.op := fun x hx =>
  opnd_rel hG fun t ht => h t (by
    subst ht
    exact List.mem_append_left _ (List.mem_filterMap.2 ⟨.tmp t, by simpa using hx, rfl⟩))

/-- what asks memory, and leaves the objects as they are -/
def evQ (P : Program) (C : Kallee) (hint : Tmp → Option Nat) (shared : FuncId → Bool) (ops : Array Oper) (e : Env) (S : Store) (o : Oper) : Option AV :=
  match kindOf (o.dst.bind hint) o with
  | .valP => guarded ops e o ((opVP P e S o).map AV.pv) undefA
  | .val => guarded ops e o (opV P e S o) undefA
  | .appP => guarded ops e o ((opAP P e o).map AV.pv) undefA
  | .call => match opC (shAt (o.dst.bind hint) shared) e S o with
    | some (.inl (d, as, strict)) => guarded ops e o ((callD C.pure d as strict).map AV.pv) undefA
    | some (.inr (g, as)) => (match C.read g with
      | some q => guarded ops e o ((q as S).map AV.pv) undefA
      | none => none)
    | none => none
  | _ => none

section
variable {P : Program} {C : Kallee} {hint : Tmp → Option Nat} {shared : FuncId → Bool} {ops : Array Oper} {Q : Exit → Act → World → Prop}

theorem wpOp_wanted {i : Nat} {o : Oper} {a : Act} {w : World} {next : Act → World → Prop} (hi : ops[i]? = some o) (hw : Region.wanted o (yielded ops a.tmps) = true) (h : o.wp P a w next Q) :
    wpOp P ops Q i next a w := by
  unfold wpOp; simp only [hi, hw, if_true]; exact .inl h
theorem wpOp_not {i : Nat} {o : Oper} {a : Act} {w : World} {next : Act → World → Prop} (hi : ops[i]? = some o) (hw : Region.wanted o (yielded ops a.tmps) = false) (h : next (a.put o.dst undef) w) :
    wpOp P ops Q i next a w := by
  unfold wpOp; simp only [hi, hw, Bool.false_eq_true, if_false]; exact h
theorem wp_value {o : Oper} {a : Act} {w w' : World} {v : Value} {next : Act → World → Prop} (h : (execOp a.eval o).run P w = .ok (.value v) w') (hn : next (a.put o.dst v) w') : o.wp P a w next Q := by
  unfold Oper.wp; rw [h]; exact hn
theorem wp_skip' {o : Oper} {a : Act} {w w' : World} {next : Act → World → Prop} (h : (execOp a.eval o).run P w = .ok .skip w') (hn : next (a.put o.dst undef) w') : o.wp P a w next Q := by
  unfold Oper.wp; rw [h]; exact hn
theorem undefA_rel {X : Nat} {w : World} {K : Keep} {m : Map} : VR X w K m undefA undef := .pv (.tup (by rfl) (by simp))

theorem evQ_run (hC : KOK P C) {X B : Nat} {w : World} {K : Keep} {m : Map} {e : Env} {S0 S : Store} {a : Act} {i : Nat} {o : Oper} {r : AV} (hM : SLe S0 S) (hi : ops[i]? = some o) (hS : SR X B w K m S)
    (hL : Looks X w K m e a ops o) (h : evQ P C hint shared ops e S0 o = some r) {next : Act → World → Prop} (hn : ∀ v w' K', Ext w K w' K' → VR X w' K' m r v → next (a.put o.dst v) w') : wpOp P ops Q i next a w := by
  unfold evQ at h
  split at h
  · rcases guarded_rel hL h with ⟨h1, h2⟩ | ⟨h1, rfl⟩
    · simp only [Option.map_eq_some_iff] at h2
      obtain ⟨d, hd, rfl⟩ := h2
      obtain ⟨v, w', K', g1, g2, g3⟩ := opVP_sound hS (hL.ops hS.low.2) (opVP_mono hM hd)
      exact wpOp_wanted hi h1 (wp_value g1 (hn v w' K' g3 (.pv g2)))
    · exact wpOp_not hi h1 (hn _ w K (Ext.refl w K) undefA_rel)
  · rcases guarded_rel hL h with ⟨h1, h2⟩ | ⟨h1, rfl⟩
    · obtain ⟨v, g1, g2⟩ := opV_sound hS (hL.ops hS.low.2) (opV_mono hM h2)
      exact wpOp_wanted hi h1 (wp_value g1 (hn v w K (Ext.refl w K) g2))
    · exact wpOp_not hi h1 (hn _ w K (Ext.refl w K) undefA_rel)
  · rename_i hk
    rcases guarded_rel hL h with ⟨h1, h2⟩ | ⟨h1, rfl⟩
    · simp only [Option.map_eq_some_iff] at h2
      obtain ⟨d, hd, rfl⟩ := h2
      obtain ⟨v, w', K', g1, g2, g3⟩ := opAP_sound hS (hL.ops hS.low.2) (kindOf_appP hk) hd
      exact wpOp_wanted hi h1 (wp_value g1 (hn v w' K' g3 (.pv g2)))
    · exact wpOp_not hi h1 (hn _ w K (Ext.refl w K) undefA_rel)
  · split at h
    · rename_i d as strict hc
      rcases guarded_rel hL h with ⟨h1, h2⟩ | ⟨h1, rfl⟩
      · simp only [Option.map_eq_some_iff] at h2
        obtain ⟨r', hr, rfl⟩ := h2
        obtain ⟨g, vs, g1, g2⟩ := opC_pure hC.pure hM hS (hL.ops hS.low.2) hc hr
        exact wpOp_wanted hi h1 (wp_of_callsF g1 g2 fun v w' hR => hn v w' _ hR.1 (.pv hR.2))
      · exact wpOp_not hi h1 (hn _ w K (Ext.refl w K) undefA_rel)
    · rename_i g as hc
      split at h
      · rename_i q hq
        rcases guarded_rel hL h with ⟨h1, h2⟩ | ⟨h1, rfl⟩
        · simp only [Option.map_eq_some_iff] at h2
          obtain ⟨d, hr, rfl⟩ := h2
          obtain ⟨vs, g1, g2⟩ := opC_read hC.read hM hS (hL.ops hS.low.2) hc hq hr
          exact wpOp_wanted hi h1 (wp_of_callsF g1 g2 fun v w' ⟨K', e1, e2⟩ => hn v w' K' e1 (.pv e2))
        · exact wpOp_not hi h1 (hn _ w K (Ext.refl w K) undefA_rel)
      · simp at h
    · simp at h
  · simp at h

theorem new_run {X B : Nat} {w : World} {K : Keep} {m : Map} {e : Env} {S0 S : Store} {a : Act} {i n : Nat} {o : Oper} {r : AV} {ob : Ob} {hh : Option Nat} (hM : SLe S0 S) (hi : ops[i]? = some o) (hS : SR X B w K m S)
    (hL : Looks X w K m e a ops o) (h : guarded ops e o (opN P hh n e S0 o) (undefA, .gone) = some (r, ob)) {next : Act → World → Prop}
    (hn : ∀ v w' K' loc, NewR X w K m w' K' n r ob v loc → next (a.put o.dst v) w') (hu : r = undefA → next (a.put o.dst undef) w) : wpOp P ops Q i next a w := by
  rcases guarded_rel hL h with ⟨h1, h2⟩ | ⟨h1, h2⟩
  · obtain ⟨v, w', K', loc, g1, g2⟩ := opN_sound hS (hL.ops hS.low.2) (opN_mono hM h2)
    exact wpOp_wanted hi h1 (wp_value g1 (hn v w' K' loc g2))
  · simp only [Prod.mk.injEq] at h2
    exact wpOp_not hi h1 (hu h2.1)

/-! # the state goes on -/
theorem put_defers' (a : Act) (dst : Option Tmp) (v : Value) : (a.put dst v).defers = a.defers := by cases dst <;> rfl
theorem put_size (a : Act) (dst : Option Tmp) (v : Value) : (a.put dst v).tmps.size = a.tmps.size := by cases dst <;> simp [Act.put]
theorem put_other (a : Act) (dst : Option Tmp) (v : Value) (t : Tmp) (h : dst ≠ some t) : (a.put dst v).tmps.getD t undef = a.tmps.getD t undef := by
  cases dst with
  | none => rfl
  | some d => simp only [Act.put, getD_set]; rw [if_neg]; intro hh; exact h (by rw [hh.1])

theorem SR.pad {X B : Nat} {w : World} {K : Keep} {m : Map} {S : Store} (T : Store) (h : SR X B w K m S) (hd : ∀ id, S.length ≤ id → m id = none) : SR X B w K m (S ++ T) where
  ob id o loc ho hm := by
    have : id < S.length := by
      rcases Nat.lt_or_ge id S.length with h' | h'
      · exact h'
      · rw [hd id h'] at hm; simp at hm
    rw [List.getElem?_append_left this] at ho
    exact h.ob id o loc ho hm
  sep := h.sep
  mine := h.mine
  keep := h.keep
  size := h.size
  low := h.low

theorem SR.new {X B : Nat} {w w' : World} {K K' : Keep} {m : Map} {S : Store} {n : Nat} {r : AV} {ob : Ob} {v : Value} {loc : Loc} (h : SR X B w K m S) (hn : S[n]? = some ob) (hm : m n = none)
    (hN : NewR X w K m w' K' n r ob v loc) : SR X B w' K' (fun id => if id = n then some loc else m id) S := by
  have hE := h.ext hN.ext
  have hmm : ∀ id l, m id = some l → (if id = n then some loc else m id) = some l := fun id l hl => by
    by_cases hid : id = n
    · subst hid; rw [hm] at hl; simp at hl
    · simp [hid, hl]
  refine ⟨fun id o l ho hl => ?_, fun id id' l l' b hl hl' hb hb' => ?_, fun id l b hl hb => ?_, hE.keep, hE.size, hE.low⟩
  · by_cases hid : id = n
    · subst hid
      simp only [if_true, Option.some.injEq] at hl; subst hl
      rw [hn] at ho; simp only [Option.some.injEq] at ho; subst ho
      exact hN.ob.mapMono hmm
    · simp only [hid, if_false] at hl
      exact (hE.ob id o l ho hl).mapMono hmm
  · by_cases hid : id = n <;> by_cases hid' : id' = n <;> simp only [hid, hid', if_true, if_false, Option.some.injEq] at hl hl'
    · rw [hid, hid']
    · subst hl
      have h1 := hN.mine b hb
      have h2 := h.mine id' l' b hl' hb'
      omega
    · subst hl'
      have h1 := hN.mine b hb'
      have h2 := h.mine id l b hl hb
      omega
    · exact h.sep id id' l l' b hl hl' hb hb'
  · by_cases hid : id = n
    · simp only [hid, if_true, Option.some.injEq] at hl; subst hl
      have h1 := hN.mine b hb
      have h2 := h.size
      exact ⟨by omega, h1.2⟩
    · simp only [hid, if_false] at hl
      exact hE.mine id l b hl hb

/-- What some code has left alone. -/
structure Kept (W : List Tmp) (a a' : Act) : Prop where
  size : a'.tmps.size = a.tmps.size
  same : ∀ t, t ∉ W → a'.tmps.getD t undef = a.tmps.getD t undef
theorem Kept.refl (W : List Tmp) (a : Act) : Kept W a a := ⟨rfl, fun _ _ => rfl⟩
theorem Kept.trans {W : List Tmp} {a a' a'' : Act} (h : Kept W a a') (h' : Kept W a' a'') : Kept W a a'' := ⟨h'.size.trans h.size, fun t ht => (h'.same t ht).trans (h.same t ht)⟩
theorem Kept.mono {W W' : List Tmp} {a a' : Act} (h : Kept W a a') (hW : ∀ t ∈ W, t ∈ W') : Kept W' a a' := ⟨h.size, fun t ht => h.same t fun hh => ht (hW t hh)⟩
theorem Kept.put {W : List Tmp} (a : Act) (dst : Option Tmp) (v : Value) (h : ∀ d, dst = some d → d ∈ W) : Kept W a (a.put dst v) :=
  ⟨put_size a dst v, fun t ht => put_other a dst v t fun hd => ht (h t hd)⟩
theorem Kept.fits {W : List Tmp} {a a' : Act} (h : Kept W a a') {dst : Option Tmp} (hf : Fits a dst) : Fits a' dst := fun d hd => by rw [h.size]; exact hf d hd
end

end Go.Lite

namespace Go.Lite
open Go

theorem go_opt {R : Type} {o : Out} {F : AV → Option R} {x : R} (h : o.go F = some x) : ∃ v, o.opt = some v ∧ F v = some x := by
  cases o with
  | p y => cases y with
    | none => simp [Out.go] at h
    | some d => exact ⟨_, rfl, h⟩
  | a y => cases y with
    | none => simp [Out.go] at h
    | some d => exact ⟨_, rfl, h⟩
  | n y id => cases y with
    | none => simp [Out.go] at h
    | some d => exact ⟨_, rfl, h⟩
  | s y id => cases y with
    | none => simp [Out.go] at h
    | some d => exact ⟨_, rfl, h⟩

theorem guard_opt {ops : Array Oper} {e : Env} {op : Oper} {o : Out} {v : AV} (h : (o.guard ops e op).opt = some v) : guarded ops e op o.opt undefA = some v := by
  unfold Out.guard at h
  unfold guarded
  cases hg : op.guard with
  | none => simpa [hg] using h
  | some g =>
    obtain ⟨j, w⟩ := g
    simp only [hg] at h
    cases hga : guardAV ops e j w with
    | none => cases o <;> simp [hga, guardP, Out.opt] at h
    | some b =>
      simp only
      cases b with
      | true => cases o <;> simpa [hga, guardP, Out.opt] using h
      | false => cases o <;> simpa [hga, guardP, Out.opt, undefA] using h

theorem guarded_mono {α : Type} {ops : Array Oper} {e : Env} {o : Oper} {A B : Option α} {d v : α} (h : guarded ops e o A d = some v) (hAB : ∀ r, A = some r → B = some r) : guarded ops e o B d = some v := by
  unfold guarded at h ⊢
  split at h
  · rename_i hg; exact hAB _ h
  · rename_i j w hg
    split at h
    · rename_i g hga
      (try simp only [hga])
      cases g with
      | true => exact hAB _ h
      | false => exact h
    · simp at h

theorem int_pv (d : PV) : asInt? (.pv d) = intPV? d := by
  cases d with
  | sc v => cases v <;> rfl
  | _ => rfl

theorem optPV_some {o : Option AV} {l : Option PV} (h : optPV? o = some l) : o = l.map .pv := by
  cases o with
  | none => simp [optPV?] at h; subst h; rfl
  | some v => cases v <;> simp [optPV?] at h; subst h; rfl

theorem optInt_pv (d : Int) (l : Option PV) : optInt d (l.map .pv) = optIntPV d l := by
  cases l with
  | none => rfl
  | some v => simp [optInt, optIntPV, int_pv]

theorem sliceMx_pv (clip : Bool) (lay : Nat) (xs : List PV) (l h : Int) (hi mx : Option PV) : sliceMx clip lay xs l h (hi.map .pv) (mx.map .pv) = (sliceMxPV clip lay xs l h hi mx).map .pv := by
  cases mx with
  | none => rfl
  | some m =>
    simp only [sliceMx, sliceMxPV, Option.map_some, Option.isNone_map]
    cases hi with
    | none => rfl
    | some h' =>
      simp only [Option.isNone_some, Bool.false_eq_true, if_false, int_pv]
      cases intPV? m <;> rfl

theorem slicePVd_imp {P : Program} {S : Store} {t : TypeId} {d : PV} {lo hi mx : Option PV} {r : PV} (h : slicePVd P t d lo hi mx = some r) : sliceAV P S t (.pv d) (lo.map .pv) (hi.map .pv) (mx.map .pv) = some (.pv r) := by
  unfold slicePVd at h
  unfold sliceAV
  split at h
  · rename_i hu
    (try simp only [hu])
    split at h
    · simp only [Option.map_none, optInt_pv]
      split at h
      · rename_i l' h' h1 h2
        (try simp only [h1, h2])
        split at h
        · rename_i hc; simp only [Option.some.injEq] at h; subst h; simp [hc]
        · simp at h
      · simp at h
    · simp at h
  · rename_i el hu
    (try simp only [hu])
    split at h
    · rename_i lay l0 clip xs hl
      (try simp only [hl])
      split at h
      · rename_i he
        simp only [he, if_true, optInt_pv]
        split at h
        · rename_i l' h' h1 h2
          (try simp only [sliceMx_pv])
          simp only [he] at h
          rw [h]; rfl
        · simp at h
      · simp at h
    · simp at h
  · simp at h

theorem lenPV_imp {P : Program} {S : Store} {t : TypeId} {d : PV} {n : Int} (h : lenPV P t d = some n) : lenAV P S t (.pv d) = some n := by
  unfold lenPV at h
  unfold lenAV
  split at h
  · rename_i hu; (try simp only [hu])
    split at h
    · exact h
    · simp at h
  · rename_i hu; (try simp only [hu])
    split at h
    · exact h
    · exact h
    · simp at h
  · simp at h

theorem convPV_imp {P : Program} {S : Store} {s d : TypeId} {v r : PV} (h : convPV P s d v = some r) : convertPV P S s d (.pv v) = some r := by
  unfold convPV at h
  split at h
  · exact h
  · split at h
    · rename_i e h1 h2
      simp only [convertPV, h1, h2, elems?]
      exact h
    · simp at h
  · simp at h

theorem pvs_some : ∀ {l : List AV} {ds : List PV}, pvs? l = some ds → l = ds.map .pv := by
  intro l
  induction l with
  | nil => intro ds h; simp [pvs?] at h; subst h; rfl
  | cons a l ih =>
    intro ds h
    cases a <;> simp only [pvs?, reduceCtorEq] at h
    split at h
    · rename_i ds' h'
      simp only [Option.some.injEq] at h; subst h
      rw [ih h']; rfl
    · simp at h

theorem mapM_scalar (ds : List PV) : (ds.map AV.pv).mapM AV.scalar? = ds.mapM PV.scalar? := by
  induction ds with
  | nil => rfl
  | cons d ds ih => simp only [List.map_cons, List.mapM_cons, ih]; rfl

theorem binPV_imp {P : Program} {op : BinOp} {t : TypeId} {x y : Operand} {a b r : PV} (h : binPV P op t x y a b = some r) :
    (match binAV P op t x y (.pv a) (.pv b) with | some (.pv d) => some d | _ => nilCmp P op t (.pv a) (.pv b)) = some r := by
  unfold binPV at h
  unfold binAV
  cases h1 : a.plain? with
  | none => simp only [h1] at h ⊢; exact h
  | some u =>
    cases h2 : b.plain? with
    | none => simp only [h1, h2] at h ⊢; exact h
    | some v =>
      simp only [h1, h2, Option.map_eq_some_iff] at h ⊢
      obtain ⟨z, hz, rfl⟩ := h
      simp [hz]

theorem opVPN_imp {P : Program} {e : Env} {S : Store} {o : Oper} {d : PV} (h : opVPN P e S o = some d) : opVP P e S o = some d := by
  obtain ⟨dst, op, type, pos, after, guard⟩ := o
  cases op <;> simp only [opVPN] at h <;> simp only [opVP] <;> (first | (simp at h; done) | skip)
  case binOp op t x y _ =>
    split at h
    · rename_i a b h1 h2; rw [h1, h2]; exact binPV_imp h
    · have hn : binAV P op t x y (opnd e x) (opnd e y) = none := by
        cases hx : opnd e x <;> cases hy : opnd e y <;> simp_all [binAV]
      simp only [hn]; exact h
  case unOp op t x =>
    split at h
    · rename_i d' h1
      rw [h1]
      unfold unPV at h
      split at h
      · exact h
      · simp at h
    · simp at h
  case buildSlice t n ps => exact h
  case box t x => exact h
  case makeSlice t l c => exact h
  case lookup t mo k ok => exact h
  case convert s dd x =>
    split at h
    · rename_i v h1; rw [h1]; exact convPV_imp h
    · exact h
  case slice t x lo hi mx =>
    split at h
    · rename_i d' l h' m h1 h2 h3 h4
      rw [h1, optPV_some h2, optPV_some h3, optPV_some h4, slicePVd_imp h]
    · exact h
  case index t x i =>
    split at h
    · rename_i a b h1 h2
      rw [h1, h2]
      unfold indexPV at h
      split at h
      · exact h
      · simp at h
    · simp at h
  case call c =>
    obtain ⟨callee, args, argTypes⟩ := c
    cases callee with
    | value f => simp at h
    | invoke f n => simp at h
    | builtin q =>
      cases q <;> simp only [reduceCtorEq] at h ⊢
      case len =>
        split at h
        · split at h
          · rename_i d' h1
            rw [h1]
            simp only [Option.map_eq_some_iff] at h ⊢
            obtain ⟨n, hn, rfl⟩ := h
            exact ⟨n, lenPV_imp hn, rfl⟩
          · exact h
        · simp at h
      case max =>
        split at h
        · rename_i ds hds
          rw [pvs_some hds, mapM_scalar]; exact h
        · simp at h
      case min =>
        split at h
        · rename_i ds hds
          rw [pvs_some hds, mapM_scalar]; exact h
        · simp at h

theorem at_pv (l0 off lay : Nat) (c : PV) : AV.at_ l0 off lay (.pv c) = (c.at_ l0 off lay).map .pv := by
  unfold AV.at_ PV.at_
  split
  · rfl
  · split
    · rfl
    · rfl

theorem loadO_imp {P : Program} {S : Store} {t : TypeId} {a v : AV} (h : (loadO P S t a).opt = some v) : loadAV P S t a = some v := by
  unfold loadO at h
  split at h
  · rename_i d
    simp only [Out.opt, Option.map_eq_some_iff] at h
    obtain ⟨r, h, rfl⟩ := h
    unfold loadPV at h
    split at h
    · rename_i lay l0 c hl
      simp [loadAV, hl, h]
    · simp at h
  · rename_i id i off
    split at h
    · rename_i lay hl
      split at h
      · rename_i l0 c hs
        split at h
        · rename_i hi
          subst hi
          simp only [loadAV, hl, hs, if_true]
          rw [at_pv]; exact h
        · simp [Out.opt] at h
      · rename_i l0 x xs hs
        simp only [Out.opt, Option.map_eq_some_iff, Option.bind_eq_some_iff] at h
        obtain ⟨d, ⟨y, hy, hd⟩, rfl⟩ := h
        simp [loadAV, hl, hs, hy, hd]
      · exact h
    · simp [Out.opt] at h
  · exact h

theorem indexAddrO_imp {P : Program} {S : Store} {t : TypeId} {x k v : AV} (h : (indexAddrO P S t x k).opt = some v) : ((asInt? k).bind fun n => indexAddrAV P S t x n) = some v := by
  unfold indexAddrO at h
  split at h
  · rename_i d k
    simp only [Out.opt, Option.map_eq_some_iff] at h
    obtain ⟨r, h, rfl⟩ := h
    unfold indexAddrPV at h
    split at h
    · simp at h
    · rename_i i hi
      rw [int_pv, hi]
      simp only [Option.bind_some]
      unfold indexAddrAV
      split at h
      · rename_i el hu
        (try simp only [hu])
        split at h
        · rename_i lay l0 c xs hl
          (try simp only [hl])
          split at h
          · rename_i hc
            rw [if_pos hc]
            simp only [Option.map_eq_some_iff] at h ⊢
            obtain ⟨c, hc', rfl⟩ := h
            exact ⟨c, hc', rfl⟩
          · simp at h
        · simp at h
      · rename_i n el hu
        (try simp only [hu])
        split at h
        · rename_i lay l0 c hl
          (try simp only [hl])
          split at h
          · rename_i hc
            rw [if_pos hc]
            simp only [Option.map_eq_some_iff] at h ⊢
            obtain ⟨c, hc', rfl⟩ := h
            exact ⟨c, hc', rfl⟩
          · simp at h
        · simp at h
      · simp at h
  · rename_i id k
    split at h
    · rename_i el hu
      split at h
      · rename_i lay l0 c xs hl hs
        simp only [Out.opt, Option.map_eq_some_iff] at h
        obtain ⟨i, h, rfl⟩ := h
        unfold idxArr at h
        split at h
        · rename_i n hn
          split at h
          · rename_i hc
            simp only [Option.some.injEq] at h; subst h
            rw [int_pv, hn]
            simp only [Option.bind_some, indexAddrAV, hu, hl, hs]
            rw [if_pos hc]
          · simp at h
        · simp at h
      · simp [Out.opt] at h
    · simp [Out.opt] at h
  · rename_i id lo n k
    split at h
    · rename_i el hu
      split at h
      · rename_i lay l0 c xs hl hs
        simp only [Out.opt, Option.map_eq_some_iff] at h
        obtain ⟨i, h, rfl⟩ := h
        unfold idxSub at h
        split at h
        · rename_i n' hn
          split at h
          · rename_i hc
            simp only [Option.some.injEq] at h; subst h
            rw [int_pv, hn]
            simp only [Option.bind_some, indexAddrAV, hu, hl, hs]
            rw [if_pos hc]
          · simp at h
        · simp at h
      · simp [Out.opt] at h
    · simp [Out.opt] at h
  · simpa [Out.opt] using h

theorem optInt_pv' (n : Int) (d : Option PV) : optInt n (d.map .pv) = optIntPV n d := by
  cases d with
  | none => rfl
  | some d => simp [optInt, optIntPV, int_pv]
theorem subO_imp {P : Program} {S : Store} {t : TypeId} {x v : AV} {lo hi : Option AV} (h : (subO P S t x lo hi).opt = some v) : subAV P S t x lo hi = some v := by
  unfold subO at h
  split at h
  · rename_i id l h' e1 e2
    have e1 := optPV_some e1
    have e2 := optPV_some e2
    subst e1; subst e2
    split at h
    · rename_i el l0 xs hu hs
      split at h
      · rename_i lay hl
        simp only [Out.opt, Option.map_eq_some_iff] at h
        obtain ⟨r, h, rfl⟩ := h
        split at h
        · rename_i hb
          have := Nat.eq_of_beq_eq_true hb
          subst this
          simp [subAV, hu, hl, ownPart, hs, optInt_pv', h]
        · cases h
      · simp [Out.opt] at h
    · simp [Out.opt] at h
  · rename_i id lo' n l h' e1 e2
    have e1 := optPV_some e1
    have e2 := optPV_some e2
    subst e1; subst e2
    split at h
    · rename_i el l0 xs hu hs
      split at h
      · rename_i lay hl
        simp only [Out.opt, Option.map_eq_some_iff] at h
        obtain ⟨r, ⟨r0, h, rfl⟩, rfl⟩ := h
        split at h
        · rename_i hb
          have := Nat.eq_of_beq_eq_true hb
          subst this
          simp [subAV, hu, hl, ownPart, hs, optInt_pv', h]
        · cases h
      · simp [Out.opt] at h
    · simp [Out.opt] at h
  · simpa [Out.opt] using h

theorem part_pv (off lay : Nat) (d : PV) : AV.part off lay (.pv d) = (d.part off lay).map .pv := rfl

theorem splice_map (cs : List PV) (off : Nat) (ds : List PV) : splice (cs.map AV.pv) off (ds.map AV.pv) = (splice cs off ds).map (List.map AV.pv) := by
  unfold splice
  simp only [List.length_map]
  split
  · simp
  · rfl

theorem cells_pv (d : PV) : (AV.pv d).cells = d.cells.map .pv := by
  cases d <;> rfl

theorem buildCells_map : ∀ (ps : List (Nat × PV)) (cs : List PV), buildCells (cs.map AV.pv) (ps.map fun (p : Nat × PV) => (p.1, AV.pv p.2)) = (spliceK cs ps).map (List.map AV.pv) := by
  intro ps
  induction ps with
  | nil => intro cs; rfl
  | cons p ps ih =>
    intro cs
    obtain ⟨off, v⟩ := p
    simp only [List.map_cons, buildCells, spliceK, cells_pv, splice_map]
    cases splice cs off v.cells with
    | none => rfl
    | some r => simp only [Option.map_some, Option.bind_some]; exact ih r

theorem mapM_map_opt {α β γ : Type} (f : α → β) (g : β → Option γ) : ∀ (l : List α), (l.map f).mapM g = l.mapM fun x => g (f x) := by
  intro l
  induction l with
  | nil => rfl
  | cons a l ih => simp only [List.map_cons, List.mapM_cons, ih]

theorem mapM_imp {α β γ : Type} {f : α → Option β} {g : α → Option γ} {k : β → γ} (h : ∀ x y, f x = some y → g x = some (k y)) : ∀ {l : List α} {r : List β}, l.mapM f = some r → l.mapM g = some (r.map k) := by
  intro l
  induction l with
  | nil => intro r hr; simp at hr; subst hr; rfl
  | cons a l ih =>
    intro r hr
    simp only [List.mapM_cons, Option.pure_def, Option.bind_eq_bind, Option.bind_eq_some_iff, Option.some.injEq] at hr ⊢
    obtain ⟨y, hy, ys, hys, rfl⟩ := hr
    exact ⟨k y, h a y hy, ys.map k, ih hys, rfl⟩

theorem mkAgg_pv (cs : List PV) : AV.mkAgg (cs.map .pv) = .pv (.agg cs) := by
  have : (cs.map AV.pv).mapM AV.pure? = some cs := by
    rw [mapM_map_opt]
    induction cs with
    | nil => rfl
    | cons c cs ih => simp only [List.mapM_cons, ih]; rfl
  simp [AV.mkAgg, this]

theorem buildPV_imp {P : Program} {t : TypeId} {ps : List (Nat × PV)} {r : PV} (h : buildPV P t ps = some r) : buildAV P t (ps.map fun (p : Nat × PV) => (p.1, AV.pv p.2)) = some (.pv r) := by
  unfold buildPV at h
  unfold buildAV
  split at h
  · rename_i fields z hu hz
    split at h
    · rename_i lays hlays
      split at h
      · rename_i qs hq
        rw [mapM_map_opt, mapM_imp (k := fun (p : Nat × PV) => (p.1, AV.pv p.2)) (fun x y hxy => ?_) hq]
        rotate_left
        · obtain ⟨i, v⟩ := x
          simp only at hxy ⊢
          split at hxy
          · rename_i f lay h1 h2
            split at hxy
            · rename_i hl
              simp only [Option.some.injEq] at hxy; subst hxy
              have hl' : AV.hasLay lay (AV.pv v) = true := hl
              simp only [hl', if_true]
            · simp at hxy
          · simp at hxy
        simp only [buildCells_map]
        simp only [Option.map_eq_some_iff] at h
        obtain ⟨cs, hcs, rfl⟩ := h
        simp [hcs, mkAgg_pv]
      · simp at h
    · simp at h
  · rename_i N0 el z hu hz
    split at h
    · rename_i lay hlay
      split at h
      · rename_i qs hq
        rw [mapM_map_opt, mapM_imp (k := fun (p : Nat × PV) => (p.1, AV.pv p.2)) (fun x y hxy => ?_) hq]
        rotate_left
        · obtain ⟨i, v⟩ := x
          simp only at hxy ⊢
          split at hxy
          · rename_i hl
            simp only [Option.some.injEq] at hxy; subst hxy
            have hl' : AV.hasLay lay (AV.pv v) = true := hl
            simp only [hl', if_true]
          · simp at hxy
        simp only [buildCells_map]
        simp only [Option.map_eq_some_iff] at h
        obtain ⟨cs, hcs, rfl⟩ := h
        simp [hcs, mkAgg_pv]
      · simp at h
    · simp at h
  · simp at h

theorem zip_map_pv {ps : List (Nat × Operand)} {f : Operand → AV} : ∀ {ds : List PV}, (ps.map fun (p : Nat × Operand) => f p.2) = ds.map AV.pv → (ps.map fun (p : Nat × Operand) => (p.1, f p.2)) = ((ps.map (·.1)).zip ds).map fun (p : Nat × PV) => (p.1, AV.pv p.2) := by
  induction ps with
  | nil => intro ds h; cases ds <;> simp_all
  | cons p ps ih =>
    intro ds h
    cases ds with
    | nil => simp at h
    | cons d ds =>
      simp only [List.map_cons, List.cons.injEq] at h
      simp only [List.map_cons, List.zip_cons_cons, List.cons.injEq, Prod.mk.injEq, true_and]
      exact ⟨h.1, ih h.2⟩

theorem opVO_imp {P : Program} {e : Env} {S : Store} {o : Oper} {v : AV} (h : (opVO P e S o).opt = some v) : opV P e S o = some v := by
  obtain ⟨dst, op, type, pos, after, guard⟩ := o
  cases op <;> simp only [opVO] at h <;> simp only [opV] <;> (first | (simp [Out.opt] at h; done) | skip)
  case move x =>
    split at h
    · rename_i d hd; simp [Out.opt] at h; subst h; rw [hd]
    · simpa [Out.opt] using h
  case assign x =>
    split at h
    · rename_i d hd; simp [Out.opt] at h; subst h; rw [hd]
    · simpa [Out.opt] using h
  case pick c a b =>
    have hb : ∀ {d : PV} {t : Bool}, boolPV? d = some t → d = .sc (.bool t) := by
      intro d t hd
      cases d with
      | sc v => cases v <;> simp [boolPV?] at hd; subst hd; rfl
      | _ => simp [boolPV?] at hd
    split at h
    · rename_i c' a' b' h1 h2 h3
      simp only [Out.opt, pickPV, Option.map_eq_some_iff] at h
      obtain ⟨r, h, rfl⟩ := h
      split at h
      · rename_i t ht
        simp only [Option.some.injEq] at h; subst h
        rw [h1, hb ht]
        cases t <;> simp [h2, h3]
      · simp at h
    · rename_i c' h1 h2
      simp only [Out.opt] at h
      split at h
      · rename_i t ht
        rw [‹opnd e c = _›, hb ht]; exact h
      · simp at h
    · simp [Out.opt] at h
  case build t ps =>
    split at h
    · rename_i ds hds
      simp only [Out.opt, Option.map_eq_some_iff] at h
      obtain ⟨r, h, rfl⟩ := h
      have := buildPV_imp h
      rw [← zip_map_pv (pvs_some hds)] at this
      exact this
    · simpa [Out.opt] using h
  case load t a => exact loadO_imp h
  case slice t x lo hi mx =>
    cases mx with
    | some y => simp [Out.opt] at h
    | none => exact subO_imp h
  case nilCheck x =>
    split at h
    · rename_i d hd
      simp only [Out.opt, Option.map_eq_some_iff] at h
      obtain ⟨r, h, rfl⟩ := h
      rw [hd]
      unfold nilCheckPV at h
      split at h <;> simp_all
    · rename_i hd; rw [hd]; exact h
    · rename_i hd; rw [hd]; exact h
    · simp [Out.opt] at h
  case makeFunc f first captured =>
    cases f <;> simp only [reduceCtorEq] at h ⊢ <;> (first | (simp [Out.opt] at h; done) | skip)
    cases h1 : pvs? (first.toList.map (opnd e)) with
    | none => simp only [h1, Out.opt] at h; exact h
    | some a =>
      cases h2 : pvs? (captured.toList.map (opnd e)) with
      | none => simp only [h1, h2, Out.opt] at h; exact h
      | some b =>
        simp only [h1, h2, Out.opt, Option.map_some, Option.some.injEq] at h; subst h
        have e1 : ∀ (ds : List PV), (ds.map AV.pv).mapM AV.pure? = some ds := fun ds => by
          rw [mapM_map_opt]
          induction ds with
          | nil => rfl
          | cons c cs ih => simp only [List.mapM_cons, ih]; rfl
        rw [pvs_some h1, pvs_some h2]
        simp only [mkClo, e1]
  case fieldAddr t x i =>
    split at h
    · rename_i d hd
      simp only [Out.opt, Option.map_eq_some_iff] at h
      obtain ⟨r, h, rfl⟩ := h
      rw [hd]
      unfold fieldAddrPV at h
      unfold fieldAddrAV
      split at h
      · rename_i fields hu
        (try simp only [hu])
        split at h
        · rename_i f hf
          (try simp only [hf])
          split at h
          · rename_i lay hl
            (try simp only [hl])
            split at h
            · simp at h
            · rename_i hw
              rw [if_neg hw]
              split at h
              · simp only [Option.map_eq_some_iff] at h ⊢
                obtain ⟨c, hc, rfl⟩ := h
                exact ⟨c, hc, rfl⟩
              · simp at h
          · simp at h
        · simp at h
      · simp at h
    · simpa [Out.opt] using h
  case field t x i =>
    split at h
    · rename_i d hd
      simp only [Out.opt, Option.map_eq_some_iff] at h
      obtain ⟨r, h, rfl⟩ := h
      rw [hd]
      unfold fieldPV at h
      unfold fieldAV
      split at h
      · rename_i fields hu
        (try simp only [hu])
        split at h
        · rename_i f hf
          (try simp only [hf])
          simp only [Option.bind_eq_some_iff] at h ⊢
          obtain ⟨lay, hl, h⟩ := h
          exact ⟨lay, hl, by rw [part_pv, h]; rfl⟩
        · simp at h
      · simp at h
    · simpa [Out.opt] using h
  case indexAddr t x i => exact indexAddrO_imp h
  case extract x i =>
    split at h
    · rename_i d hd
      simp only [Out.opt, Option.map_eq_some_iff] at h
      obtain ⟨r, h, rfl⟩ := h
      rw [hd]
      unfold extractPV at h
      split at h
      · simp [h]
      · simp at h
    · rename_i vs hd; rw [hd]; exact h
    · simp [Out.opt] at h
end Go.Lite

namespace Go.Lite
open Go

theorem str_pv {d : PV} {s : ByteArray} (h : strPV? d = some s) : d = .sc (.string s) := by
  cases d with
  | sc v => cases v <;> simp [strPV?] at h; subst h; rfl
  | _ => simp [strPV?] at h

theorem genN {R : Type} {X : Option (AV × Ob)} {F : AV → Ob → Option R} {x : R} (h : (OutN.gen X).go F = some x) : ∃ v ob, X = some (v, ob) ∧ F v ob = some x := by
  cases X with
  | none => simp [OutN.go] at h
  | some p => exact ⟨_, _, rfl, h⟩

theorem opNO_imp {R : Type} {P : Program} {hint : Option Nat} {n : Nat} {e : Env} {S : Store} {o : Oper} {F : AV → Ob → Option R} {x : R} (h : (opNO P hint n e S o).go F = some x) :
    ∃ v ob, opN P hint n e S o = some (v, ob) ∧ F v ob = some x := by
  obtain ⟨dst, op, type, pos, after, guard⟩ := o
  cases op <;> simp only [opNO] at h <;> (first | exact genN h | skip)
  case box t y =>
    split at h
    · rename_i lay d hl hd
      cases hc : d.hasLay lay with
      | false => simp [OutN.go, hc] at h
      | true =>
        simp only [OutN.go, hc] at h
        refine ⟨_, _, ?_, h⟩
        have : (AV.pv d).hasLay lay = true := hc
        simp [opN, hl, hd, this]
    · exact genN h
  case slice t y lo hi mx =>
    split at h
    · rename_i d l h' m h1 h2 h3 h4
      simp only [OutN.go] at h
      split at h
      · rename_i xs hxs
        refine ⟨_, _, ?_, h⟩
        simp only [opN, h1, h2, h3, h4, hxs, Option.map_some]
      · simp at h
    · simp [OutN.go] at h
  case buildSlice t len ps =>
    split at h
    · rename_i qs lay hq
      split at h
      · rename_i hcode
        simp only [OutN.go] at h
        split at h
        · rename_i xs hxs
          refine ⟨_, _, ?_, h⟩
          simp only [opN, hq, hcode, if_true, hxs, Option.map_some]
        · simp at h
      rename_i hcode
      simp only [OutN.go] at h
      split at h
      · rename_i xs hxs
        refine ⟨_, _, ?_, h⟩
        unfold buildXs at hxs
        split at hxs
        · rename_i el hu
          split at hxs
          · rename_i lay' z hl hz
            split at hxs
            · rename_i hc
              obtain ⟨rfl, c1, c2, c3, c4⟩ := hc
              have hb : buildSliceAV P t len qs = some (.list lay true xs) := by
                simp only [buildSliceAV, hu, hl, hz]
                rw [if_pos ⟨c1, c2, c3, c4⟩, hxs]; rfl
              simp only [opN, hq, hb, hcode, Bool.false_eq_true, if_false, Option.bind_some, ownOb, if_true, Option.map_some]
            · simp at hxs
          · simp at hxs
        · simp at hxs
      · simp at h
    · simp [OutN.go] at h
  case makeSlice t l c =>
    split at h
    · rename_i el hu
      split at h
      · rename_i lay a b hl ha hb
        simp only [OutN.go] at h
        split at h
        · rename_i xs hxs
          refine ⟨_, _, ?_, h⟩
          unfold makeXs at hxs
          simp only [hu] at hxs
          split at hxs
          · rename_i lay' z i lv cv g1 g2 g3 g4 g5
            rw [hl] at g1; simp only [Option.some.injEq] at g1; subst g1
            split at hxs
            · rename_i hc
              simp only [Option.some.injEq] at hxs; subst hxs
              have i1 : asInt? (.pv a) = some lv := by
                cases a with
                | sc v => cases v <;> simp_all [intPV?, asInt?]
                | _ => simp [intPV?] at g4
              have i2 : asInt? (.pv b) = some cv := by
                cases b with
                | sc v => cases v <;> simp_all [intPV?, asInt?]
                | _ => simp [intPV?] at g5
              simp only [opN, hu, hl, g2, g3, ha, hb, i1, i2]
              rw [if_pos hc]
            · simp at hxs
          · simp at hxs
        · simp at h
      · simp [OutN.go] at h
    · simp [OutN.go] at h
  case range t y =>
    split at h
    · rename_i d hu hd
      simp only [OutN.go] at h
      split at h
      · rename_i s hs
        refine ⟨_, _, ?_, h⟩
        rw [str_pv hs] at hd
        simp [opN, hu, hd]
      · simp at h
    · simp [OutN.go] at h

theorem put_pv {l0 off lay : Nat} {c : AV} {d r : PV} (h : putPV l0 off lay c d = some r) : c.put l0 off lay (.pv d) = some (.pv r) := by
  unfold putPV at h
  unfold AV.put
  have e1 : (AV.pv d).hasLay lay = d.hasLay lay := rfl
  rw [e1]
  split at h
  · simp at h
  · rename_i h1
    rw [if_neg h1]
    split at h
    · rename_i h2; rw [if_pos h2]; simp only [Option.some.injEq] at h; subst h; rfl
    · rename_i h2
      rw [if_neg h2]
      split at h
      · rename_i c
        have e2 : (AV.pv c).sized l0 = c.hasLay l0 := rfl
        rw [e2]
        split at h
        · simp at h
        · rename_i h3
          rw [if_neg h3, cells_pv, cells_pv, splice_map]
          simp only [Option.map_eq_some_iff] at h
          obtain ⟨cs, hcs, rfl⟩ := h
          simp [hcs, mkAgg_pv]
      · simp at h

theorem genM {R : Type} {S : Store} {X : Option (AV × Store)} {F : AV → Store → Option R} {x : R} (h : (OutM.gen X).go S F = some x) : ∃ v S', X = some (v, S') ∧ F v S' = some x := by
  cases X with
  | none => simp [OutM.go] at h
  | some p => exact ⟨_, _, rfl, h⟩

theorem set_same {α : Type} {l : List α} {i : Nat} {a : α} (h : l[i]? = some a) : l.set i a = l := by
  apply List.ext_getElem?
  intro j
  rw [List.getElem?_set]
  split
  · rename_i hj; subst hj
    split
    · exact h.symm
    · rename_i hlt
      rw [List.getElem?_eq_none (by omega)] at h; cases h
  · rfl

theorem opMO_imp {R : Type} {P : Program} {e : Env} {S : Store} {o : Oper} {F : AV → Store → Option R} {x : R} (h : (opMO P e S o).go S F = some x) : ∃ v S', opM P e S o = some (v, S') ∧ F v S' = some x := by
  obtain ⟨dst, op, type, pos, after, guard⟩ := o
  cases op <;> simp only [opMO] at h <;> (first | (simp [OutM.go] at h; done) | skip)
  case store t a y =>
    unfold storeO at h
    split at h
    · rename_i id i off d ha hy
      split at h
      · rename_i lay l0 cs hl hs
        split at h
        · rename_i hi; subst hi
          split at h
          · simp only [OutM.go] at h
            split at h
            · rename_i r hr
              refine ⟨_, _, ?_, h⟩
              simp [opM, storeAV, hl, ha, hs, hy, put_pv hr]
            · simp at h
          · rename_i hne
            split at h
            · rename_i hc
              obtain ⟨rfl, hoff, hl0⟩ := hc
              simp only [OutM.go] at h
              split at h
              · rename_i hck
                simp only [Bool.and_eq_true] at hck
                obtain ⟨hd, hcs⟩ := hck
                refine ⟨_, _, ?_, h⟩
                have hd' : (AV.pv d).hasLay 0 = true := hd
                have hcell : (AV.pv d).cells = [.pv d] := by
                  cases d with
                  | agg cs => simp [PV.hasLay] at hd
                  | _ => rfl
                have hsp : splice cs off [AV.pv d] = some (cs.set off (.pv d)) := by
                  unfold splice
                  rw [if_pos (by simp; omega)]
                  rw [List.set_eq_take_append_cons_drop, if_pos hoff]
                  simp
                have hput : AV.put l0 off 0 (.agg cs) (.pv d) = some (.mkAgg (cs.set off (.pv d))) := by
                  unfold AV.put
                  rw [if_neg (by simp [hd']), if_neg hne, if_neg (by simp [hl0, hcs]), hcell]
                  simp only [AV.cells, hsp, Option.map_some]
                simp [opM, storeAV, hl, ha, hs, hy, hput]
              · simp at h
            · obtain ⟨v, S', h1, h2⟩ := genM h
              exact ⟨v, S', by simpa [opM, ha, hy] using h1, h2⟩
        · simp [OutM.go] at h
      · rename_i lay l0 v _ hl hs
        split at h
        · rename_i hi; subst hi
          simp only [OutM.go] at h
          split at h
          · rename_i r hr
            refine ⟨_, _, ?_, h⟩
            simp [opM, storeAV, hl, ha, hs, hy, put_pv hr]
          · simp at h
        · simp [OutM.go] at h
      · rename_i lay l0 xs hl hs
        simp only [OutM.go] at h
        split at h
        · rename_i zs hz
          simp only [Option.bind_eq_some_iff, Option.map_eq_some_iff] at hz
          obtain ⟨z, hz, y', hy', rfl⟩ := hz
          refine ⟨_, _, ?_, h⟩
          simp [opM, storeAV, hl, ha, hs, hy, hz, put_pv hy', AV.pure?]
        · simp at h
      · simp [OutM.go] at h
    · rename_i id i off ha hnd
      generalize hy : opnd e y = yv at h
      have gen : ∀ {X : Option (AV × Store)}, (OutM.gen X).go S F = some x → X = (storeAV P S t (.ptr id i off) yv).map (fun S => (.pv (.tup []), S)) → ∃ v S', opM P e S ⟨dst, .store t a y, type, pos, after, guard⟩ = some (v, S') ∧ F v S' = some x := fun h e => by
        subst e
        obtain ⟨v, S', h1, h2⟩ := genM h
        exact ⟨v, S', by simpa [opM, ha, hy] using h1, h2⟩
      have lead : yv.lead = true → yv.cells = [yv] ∧ yv.hasLay 0 = true := fun hl => by
        cases yv <;> simp [AV.lead] at hl <;> exact ⟨rfl, rfl⟩
      split at h
      · rename_i lay l0 cs hl hs
        split at h
        · rename_i hc
          obtain ⟨hlead, rfl, rfl, hoff, hl0⟩ := hc
          obtain ⟨hcell, hlay⟩ := lead hlead
          simp only [OutM.go] at h
          split at h
          · rename_i hcs
            refine ⟨_, _, ?_, h⟩
            have hsp : splice cs off [yv] = some (cs.set off yv) := by
              unfold splice
              rw [if_pos (by simp; omega)]
              rw [List.set_eq_take_append_cons_drop, if_pos hoff]
              simp
            have hput : AV.put l0 off 0 (.agg cs) yv = some (.mkAgg (cs.set off yv)) := by
              unfold AV.put
              rw [if_neg (by simp [hlay]), if_neg (by omega), if_neg (by simp [hl0, hcs]), hcell]
              simp only [AV.cells, hsp, Option.map_some]
            simp [opM, storeAV, hl, ha, hs, hy, hput]
          · simp at h
        · exact gen h rfl
      · rename_i lay l0 d hl hs
        split at h
        · exact gen h rfl
        rename_i hl0
        split at h
        case h_2 => exact gen h rfl
        rename_i cs
        split at h
        · rename_i hc
          obtain ⟨hlead, rfl, rfl, hoff⟩ := hc
          obtain ⟨hcell, hlay⟩ := lead hlead
          simp only [OutM.go] at h
          split at h
          · rename_i hcs
            refine ⟨_, _, ?_, h⟩
            have hsp : splice (cs.map AV.pv) off [yv] = some ((cs.map AV.pv).set off yv) := by
              unfold splice
              rw [if_pos (by simp; omega)]
              rw [List.set_eq_take_append_cons_drop, if_pos (by simpa using hoff)]
              simp
            have hcs' : (AV.pv (.agg cs)).sized l0 = true := hcs
            have hput : AV.put l0 off 0 (.pv (.agg cs)) yv = some (.mkAgg ((cs.map AV.pv).set off yv)) := by
              unfold AV.put
              rw [if_neg (by simp [hlay]), if_neg (by omega), if_neg (by simp [hl0, hcs']), hcell]
              simp only [AV.cells, hsp, Option.map_some]
            simp [opM, storeAV, hl, ha, hs, hy, hput]
          · simp at h
        · exact gen h rfl
      · exact gen h rfl
    · obtain ⟨v, S', h1, h2⟩ := genM h
      exact ⟨v, S', by simpa [opM] using h1, h2⟩
  case mapUpdate t mo k y =>
    split at h
    · rename_i id k' d' e1 e2 e3
      split at h
      · rename_i es ho
        simp only [OutM.go] at h
        split at h
        · rename_i es' he
          refine ⟨_, _, ?_, h⟩
          simp [opM, e1, e2, e3, ho, he]
        · simp at h
      · simp [OutM.go] at h
    · simp [OutM.go] at h
  case call c =>
    split at h
    · rename_i t t2 mo k q1 q2 q3
      split at h
      · rename_i id k' e1 e2
        split at h
        · rename_i es ho
          simp only [OutM.go] at h
          split at h
          · rename_i es' he
            refine ⟨_, _, ?_, h⟩
            simp [opM, q1, q2, q3, e1, e2, ho, he]
          · simp at h
        · simp [OutM.go] at h
      · simp [OutM.go] at h
    · rename_i t y q1 q2 q3
      unfold clearO at h
      split at h
      · rename_i id e1
        split at h
        · rename_i l0 xs ho
          simp only [OutM.go] at h
          split at h
          · rename_i ys hy
            refine ⟨_, _, ?_, h⟩
            simp [opM, q1, q2, q3, clearAV, e1, ho, hy]
          · simp at h
        · simp [OutM.go] at h
      · rename_i id lo n e1
        split at h
        · rename_i l0 xs ho
          simp only [OutM.go] at h
          split at h
          · rename_i ys hy
            refine ⟨_, _, ?_, h⟩
            simp [opM, q1, q2, q3, clearAV, e1, ho, hy]
          · simp at h
        · simp [OutM.go] at h
      · simp [OutM.go] at h
    · simp [OutM.go] at h
  case next it isS =>
    cases isS with
    | false => simp [OutM.go] at h
    | true =>
      simp only at h
      split at h
      · rename_i id he
        split at h
        · rename_i s pos hs
          simp only [OutM.go] at h
          refine ⟨_, _, ?_, h⟩
          by_cases hp : pos < s.size
          · simp [opM, he, hs, hp, nextV, nextPos]
          · simp only [opM, he, hs, hp, if_false, nextV, nextPos, set_same hs]
        · simp [OutM.go] at h
      · simp [OutM.go] at h

theorem genA {R : Type} {S : Store} {X : Option (AV × Store × Option Nat)} {F : AV → Store → Option Nat → Option R} {x : R} (h : (OutA.gen X).go S F = some x) : ∃ v S' g, X = some (v, S', g) ∧ F v S' g = some x := by
  cases X with
  | none => simp [OutA.go] at h
  | some p => exact ⟨_, _, _, rfl, h⟩

theorem appendPV_imp {P : Program} {S : Store} {t tx : TypeId} {s d r : PV} (h : appendPV P t tx s d = some r) : appendAV P S t tx (.pv s) (.pv d) = some (.pv r, S, none) := by
  unfold appendPV at h
  unfold appendAV
  split at h
  · rename_i el ex hu hux
    split at h
    · rename_i lay i z hl hi hz
      split at h
      · rename_i hc
        rw [if_pos hc]
        split at h
        · rename_i lx c ys
          simp only [elems?]
          split at h
          · rename_i he
            rw [if_pos he]
            split at h
            · split at h
              · rename_i h1; simp only [Option.some.injEq] at h; subst h; simp [h1]
              · simp at h
            · rename_i l0 xs
              split at h
              · rename_i h1; simp only [Option.some.injEq] at h; subst h; simp [h1]
              · simp at h
            · simp at h
          · simp at h
        · simp only [elems?]
          split at h
          · simp only [Option.some.injEq] at h; subst h; rfl
          · simp only [Option.some.injEq] at h; subst h; rfl
          · simp at h
        · simp at h
      · simp at h
    · simp at h
  · simp at h

theorem appendTo_imp {P : Program} {S : Store} {t tx : TypeId} {id l0 : Nat} {excl : Bool} {xs zs : List PV} {d : PV} (hs : S[id]? = some (.arr l0 excl xs)) (h : appendTo P t tx l0 xs d = some zs) :
    appendAV P S t tx (.arr id) (.pv d) = some (.arr id, S.set id (.arr l0 excl zs), some id) := by
  unfold appendTo at h
  unfold appendAV
  split at h
  · rename_i el ex hu hux
    split at h
    · rename_i lay i z hl hi hz
      split at h
      · rename_i hc
        obtain ⟨c1, c2, c3, c4, c5⟩ := hc
        rw [if_pos ⟨c1, c2, c3⟩]
        split at h
        · rename_i ys hy
          split at h
          · rename_i hroom
            simp only [Option.some.injEq] at h; subst h
            cases d with
            | list lx c ys' =>
              simp only [elemsPV?, Option.some.injEq] at hy; subst hy
              simp only [layPV, beq_iff_eq] at c5
              subst c4; subst c5
              simp only [elems?, if_true, hs]
              rw [if_pos]
              exact ⟨trivial, hroom, rfl⟩
            | sc v =>
              cases v with
              | slice a b c =>
                cases a with
                | none =>
                  cases b with
                  | zero => cases c with
                    | zero =>
                      simp only [elemsPV?, Option.some.injEq] at hy; subst hy
                      simp only [elems?, hs, c4, if_true, List.append_nil]
                      rw [set_same hs]
                    | succ c => simp [elemsPV?] at hy
                  | succ b => simp [elemsPV?] at hy
                | some a =>
                  cases b with
                  | zero =>
                    simp only [elemsPV?, Option.some.injEq] at hy; subst hy
                    simp only [elems?, hs, c4, if_true, List.append_nil]
                    rw [set_same hs]
                  | succ b => simp [elemsPV?] at hy
              | _ => simp [elemsPV?] at hy
            | _ => simp [elemsPV?] at hy
          · simp at h
        · simp at h
      · simp at h
    · simp at h
  · simp at h

theorem opAO_imp {R : Type} {P : Program} {e : Env} {S : Store} {o : Oper} {F : AV → Store → Option Nat → Option R} {x : R} (h : (opAO P e S o).go S F = some x) : ∃ v S' g, opA P e S o = some (v, S', g) ∧ F v S' g = some x := by
  obtain ⟨dst, op, type, pos, after, guard⟩ := o
  cases op <;> simp only [opAO] at h <;> (first | (simp [OutA.go] at h; done) | skip)
  case alloc t => exact genA h
  case convert s d y =>
    split at h
    · rename_i id h1
      split at h
      · rename_i l0 xs hs
        simp only [OutA.go] at h
        split at h
        · rename_i zs hz
          refine ⟨_, _, _, ?_, h⟩
          split at hz
          · rename_i hm
            simp only [Option.some.injEq] at hz; subst hz
            simp [opA, h1, hs, hm]
          · simp at hz
        · simp at h
      · simp [OutA.go] at h
    · simp [OutA.go] at h
  case call c =>
    split at h
    · rename_i t tx s y ht hy
      unfold appendO at h
      split at h
      · rename_i sv d h1 h2
        simp only [OutA.go] at h
        split at h
        · rename_i r hr
          refine ⟨_, _, _, ?_, h⟩
          simp [opA, ht, hy, h1, h2, appendPV_imp (S := S) hr]
        · simp at h
      · rename_i id d h1 h2
        split at h
        · rename_i l0 excl xs hs
          simp only [OutA.go] at h
          split at h
          · rename_i zs hz
            refine ⟨_, _, _, ?_, h⟩
            simp [opA, ht, hy, h1, h2, appendTo_imp hs hz]
          · simp at h
        · simp [OutA.go] at h
      · obtain ⟨v, S', g, h1, h2⟩ := genA h
        exact ⟨v, S', g, by simpa [opA, ht, hy] using h1, h2⟩
    · simp [OutA.go] at h
end Go.Lite

namespace Go.Lite
open Go
open Go.RowKit (Below)

/-! # regions in the order of the text -/
/-- what writes objects -/
def evM (P : Program) (C : Kallee) (hint : Tmp → Option Nat) (shared : FuncId → Bool) (ops : Array Oper) (e : Env) (S : Store) (o : Oper) : Option (Env × Store) :=
  match kindOf (o.dst.bind hint) o with
  | .mut => (guarded ops e o (opM P e S o) (undefA, S)).map fun p => (e.put o.dst p.1, p.2)
  | .app => (guarded ops e o (opA P e S o) (undefA, S, none)).map fun p => ((e.map (AV.looseO p.2.2)).put o.dst p.1, p.2.1.map (Ob.mapV (AV.looseO p.2.2)))
  | .call => match opC (shAt (o.dst.bind hint) shared) e S o with
    | some (.inr (g, as)) => (guarded ops e o (C.shared g as S) (undefA, S)).map fun p => ((e.map (staleK (C.calm g as) S p.2)).put o.dst p.1, p.2)
    | _ => none
  | _ => none

section
variable {P : Program} {C : Kallee} {hint : Tmp → Option Nat} {shared : FuncId → Bool} {ops : Array Oper} {Q : Exit → Act → World → Prop}

theorem evalOps_cons {R : Type} {draw : Bool} {o : Oper} {rest : List Oper} {i : Nat} {e : Env} {S : Store} {k : Env → Store → Option R} {x : R} (h : evalOps P C hint shared draw ops (o :: rest) i e S k = some x) :
    (∃ v, evQ P C hint shared ops e S o = some v ∧ evalOps P C hint shared draw ops rest (i + 1) (e.put o.dst v) S k = some x) ∨
    (∃ v ob, kindOf (o.dst.bind hint) o = .new ∧ guarded ops e o (opN P (o.dst.bind hint) S.length e S o) (undefA, .gone) = some (v, ob) ∧ evalOps P C hint shared draw ops rest (i + 1) (e.put o.dst v) (S ++ [ob]) k = some x) ∨
    (∃ e' S', (draw = true → settled ops i = true ∨ (kindOf (o.dst.bind hint) o = .mut ∧ settledM hint ops i e = true)) ∧ evM P C hint shared ops e S o = some (e', S') ∧ evalOps P C hint shared draw ops rest (i + 1) e' S' k = some x) := by
  have hdr : ∀ {q : Bool}, ¬ ((draw && !q) = true) → (draw = true → q = true) := by
    intro q hq hd; subst hd; simpa using hq
  rw [evalOps] at h
  split at h
  · rename_i hk
    obtain ⟨v, hv, h⟩ := go_opt h
    refine .inl ⟨v, ?_, h⟩
    simp only [evQ, hk]
    exact guarded_mono (guard_opt hv) fun r hr => by
      simp only [Out.opt, Option.map_eq_some_iff] at hr ⊢
      obtain ⟨d, hd, rfl⟩ := hr
      exact ⟨d, opVPN_imp hd, rfl⟩
  · rename_i hk
    obtain ⟨v, hv, h⟩ := go_opt h
    refine .inl ⟨v, ?_, h⟩
    simp only [evQ, hk]
    exact guarded_mono (guard_opt hv) fun r hr => opVO_imp hr
  · rename_i hk
    split at h
    · rename_i hg
      obtain ⟨v, ob, hv, h⟩ := opNO_imp h
      exact .inr (.inl ⟨v, ob, hk, by simp [guarded, hg, hv], h⟩)
    · obtain ⟨v, ob, hv, h⟩ := genN h
      exact .inr (.inl ⟨v, ob, hk, hv, h⟩)
  · rename_i hk
    split at h
    · simp at h
    · rename_i hd
      split at h
      · rename_i hg
        obtain ⟨v, S', hv, h⟩ := opMO_imp h
        exact .inr (.inr ⟨_, _, fun q => .inr ⟨hk, hdr hd q⟩, by simp only [evM, hk, guarded, hg, hv, Option.map_some], h⟩)
      · obtain ⟨v, S', hv, h⟩ := genM h
        exact .inr (.inr ⟨_, _, fun q => .inr ⟨hk, hdr hd q⟩, by simp only [evM, hk, hv, Option.map_some], h⟩)
  · rename_i hk
    split at h
    · simp at h
    · rename_i hd
      split at h
      · rename_i hg
        obtain ⟨v, S', g, hv, h⟩ := opAO_imp h
        exact .inr (.inr ⟨_, _, fun q => .inl (hdr hd q), by simp only [evM, hk, guarded, hg, hv, Option.map_some], h⟩)
      · obtain ⟨v, S', g, hv, h⟩ := genA h
        exact .inr (.inr ⟨_, _, fun q => .inl (hdr hd q), by simp only [evM, hk, hv, Option.map_some], h⟩)
  · rename_i hk
    obtain ⟨v, hv, h⟩ := go_opt h
    refine .inl ⟨v, ?_, h⟩
    simp only [evQ, hk]
    exact guard_opt hv
  · rename_i hk
    split at h
    · rename_i d as strict hc
      obtain ⟨v, hv, h⟩ := go_opt h
      exact .inl ⟨v, by simp only [evQ, hk, hc]; exact guard_opt hv, h⟩
    · rename_i g as hc
      split at h
      · rename_i q hq
        obtain ⟨v, hv, h⟩ := go_opt h
        exact .inl ⟨v, by simp only [evQ, hk, hc, hq]; exact guard_opt hv, h⟩
      split at h
      · simp at h
      · rename_i hd
        split at h
        · rename_i v S' hv; exact .inr (.inr ⟨_, _, fun q => .inl (hdr hd q), by simp only [evM, hk, hc, hv, Option.map_some], h⟩)
        · simp at h
    · simp at h
  · simp at h

theorem Inv.quiet {X B : Nat} {w w' : World} {K K' : Keep} {m : Map} {e : Env} {S : Store} {a : Act} {dst : Option Tmp} {r : AV} {v : Value} (h : Inv X B w K m e S a) (hx : Ext w K w' K') (hv : VR X w' K' m r v) (hf : Fits a dst) :
    Inv X B w' K' m (e.put dst r) S (a.put dst v) :=
  ⟨(h.er.ext hx).put hv hf, h.sr.ext hx, h.dom, by rw [put_defers']; exact h.nod⟩

theorem Inv.new {X B : Nat} {w w' : World} {K K' : Keep} {m : Map} {e : Env} {S : Store} {a : Act} {dst : Option Tmp} {r : AV} {ob : Ob} {v : Value} {loc : Loc} (h : Inv X B w K m e S a)
    (hN : NewR X w K m w' K' S.length r ob v loc) (hf : Fits a dst) : Inv X B w' K' (fun id => if id = S.length then some loc else m id) (e.put dst r) (S ++ [ob]) (a.put dst v) := by
  have hmm : ∀ id l, m id = some l → (if id = S.length then some loc else m id) = some l := fun id l hl => by
    by_cases hid : id = S.length
    · subst hid; rw [h.dom _ (Nat.le_refl _)] at hl; simp at hl
    · simp [hid, hl]
  refine ⟨ER.put (ER.mono hN.ext.pres hN.ext.sub hmm h.er) (hN.val _ hmm (by simp)) hf, SR.new (h.sr.pad [ob] h.dom) (by simp) (h.dom _ (Nat.le_refl _)) hN, fun id hid => ?_, by rw [put_defers']; exact h.nod⟩
  simp only [List.length_append, List.length_cons, List.length_nil] at hid
  rw [if_neg (by omega)]; exact h.dom id (by omega)

theorem alen_app {S : Store} {T : Store} {id : Nat} (h : id < S.length) : alen (S ++ T) id = alen S id := by unfold alen; rw [List.getElem?_append_left h]

theorem Evo.new {S : Store} {m : Map} (T : Store) (f : Nat → Option Loc) : Evo S (S ++ T) m (fun id => if S.length ≤ id then f id else m id) :=
  ⟨by simp, fun id n hid hn => ⟨n, by rw [alen_app hid]; exact hn, Nat.le_refl _, fun _ => by simp [Nat.not_le.mpr hid]⟩, fun id hid hn => ⟨by rw [alen_app hid]; exact hn, .inr (by simp [Nat.not_le.mpr hid])⟩, fun id hid => mapAt_app hid⟩

theorem Evo.new1 {S : Store} {m : Map} (ob : Ob) (loc : Loc) : Evo S (S ++ [ob]) m (fun id => if id = S.length then some loc else m id) := by
  refine ⟨by simp, fun id n hid hn => ⟨n, by rw [alen_app hid]; exact hn, Nat.le_refl _, fun _ => ?_⟩, fun id hid hn => ⟨by rw [alen_app hid]; exact hn, .inr ?_⟩, fun id hid => mapAt_app hid⟩ <;> rw [if_neg (by omega)]

theorem NewR.frm {X : Nat} {w w' : World} {K K' : Keep} {m : Map} {n : Nat} {r : AV} {ob : Ob} {v : Value} {loc : Loc} (hN : NewR X w K m w' K' n r ob v loc) :
    Frm w K m w' K' (fun id => if id = n then some loc else m id) :=
  hN.ext.frm' fun b ⟨k, l, hk, hl⟩ => by
    simp only at hk
    split at hk
    · simp only [Option.some.injEq] at hk; subst hk; exact .inl (hN.mine b hl).1
    · exact .inr ⟨k, l, hk, hl⟩
theorem fr_new {X B : Nat} {w w' : World} {K K' : Keep} {m : Map} {S : Store} {r : AV} {ob : Ob} {v : Value} {loc : Loc} (hB : B ≤ w.heap.size)
    (hN : NewR X w K m w' K' S.length r ob v loc) : Fr X B w K S m w' K' (S ++ [ob]) (fun id => if id = S.length then some loc else m id) :=
  let h := Ext.fr (X := X) (S := S) (m := m) hB hN.ext
  ⟨h.below, h.pres, h.sub, h.knew, Evo.new1 ob loc, hN.frm⟩

theorem evM_run (hC : KOK P C) {X B : Nat} {w : World} {K : Keep} {m : Map} {e e' : Env} {S S' : Store} {a : Act} {i : Nat} {o : Oper} (hi : ops[i]? = some o) (hI : Inv X B w K m e S a) (hf : Fits a o.dst)
    (h : evM P C hint shared ops e S o = some (e', S')) {next : Act → World → Prop}
    (hn : ∀ v w' K' m', Inv X B w' K' m' e' S' (a.put o.dst v) → Fr X B w K S m w' K' S' m' → next (a.put o.dst v) w') : wpOp P ops Q i next a w := by
  have hL := hI.er.looks ops o
  have hput : ∀ {v r}, VR X w K m r v → Inv X B w K m (e.put o.dst r) S (a.put o.dst v) := fun hv => hI.quiet (Ext.refl w K) hv hf
  unfold evM at h
  split at h
  · rename_i hk
    simp only [Option.map_eq_some_iff, Prod.mk.injEq] at h
    obtain ⟨⟨r, S''⟩, h, rfl, rfl⟩ := h
    rcases guarded_rel hL h with ⟨h1, h2⟩ | ⟨h1, h2⟩
    · obtain ⟨v, w', g1, g2⟩ := opM_sound hI.sr (hL.ops hI.sr.low.2) h2
      have fin : next (a.put o.dst v) w' := hn v w' K m ⟨(ER.mono g2.pres (Sub.refl K) (fun _ _ => id) hI.er).put g2.val hf, g2.sr, fun id hid => hI.dom id (by rw [g2.len] at hid; exact hid), by rw [put_defers']; exact hI.nod⟩
        ⟨g2.below, g2.pres, Sub.refl K, fun _ _ h => .inl h, Evo.of_alen g2.len (opM_alen h2) (opM_mapAt h2), g2.frm⟩
      rcases g1 with g1 | ⟨g1, rfl⟩
      · exact wpOp_wanted hi h1 (wp_value g1 fin)
      · exact wpOp_wanted hi h1 (wp_skip' g1 fin)
    · simp only [Prod.mk.injEq] at h2
      obtain ⟨rfl, rfl⟩ := h2
      exact wpOp_not hi h1 (hn _ w K m (hput undefA_rel) (Fr.refl X B w K _ m))
  · rename_i hk
    simp only [Option.map_eq_some_iff, Prod.mk.injEq] at h
    obtain ⟨⟨r, S'', g⟩, h, rfl, rfl⟩ := h
    rcases guarded_rel hL h with ⟨h1, h2⟩ | ⟨h1, h2⟩
    · have hkk : ((∃ c, o.op = .call c ∧ (∃ q, c.callee = .builtin q ∧ (match q with | .append => True | _ => False))) ∨ ∃ s d x, o.op = .convert s d x) ∨ ∃ t, o.op = .alloc t := by
        rcases kindOf_app hk with h | h | h
        · exact .inl (.inl h)
        · exact .inl (.inr h)
        · exact .inr h
      rcases hkk with hkk | ⟨t, hq⟩
      · obtain ⟨v, w', K', m', g1, g2⟩ := opA_sound hI.sr (hL.ops hI.sr.low.2) hkk h2
        refine wpOp_wanted hi h1 (wp_value g1 (hn v w' K' m' ⟨ER.put (fun t => ?_) g2.val hf, g2.sr, fun id hid => ?_, by rw [put_defers']; exact hI.nod⟩
          ⟨g2.below, g2.pres, g2.sub, g2.knew, g2.evo.mapV _, g2.frm⟩))
        · rw [Env.get_map _ (looseO_dead g)]
          exact VR.looseO (w := w') (K := K') (fun id hid loc hl => g2.same id hid loc hl) ((hI.er t).mono g2.pres g2.sub fun _ _ => id)
        · simp only [List.length_map, g2.len] at hid; rw [g2.dom id hid]; exact hI.dom id hid
      · simp only [opA, hq] at h2
        split at h2
        case h_2 => cases h2
        rename_i el hu hl hz
        split at h2
        case h_2 => cases h2
        rename_i lay hle
        simp only [Option.some.injEq, Prod.mk.injEq] at h2
        obtain ⟨rfl, rfl, rfl⟩ := h2
        obtain ⟨i', zv, hzi, hzv, hzz⟩ := zeroPV_some hz
        have hzv' : zv = .slice none 0 0 := by
          cases zv <;> simp [PV.ofValue] at hzz
          obtain ⟨rfl, rfl, rfl⟩ := hzz; rfl
        subst hzv'
        obtain ⟨loc1, hN1⟩ := ownOb'_rel (X := X) (m := m) (n := S.length) (lay := 1000 + lay) (ob := .arr lay true []) (v := .pv (.sc (.slice none 0 0))) (vv := .slice none 0 0) (Ext.refl w K) (by simp [ownOb']) (.pv (.sc _))
        have hI1 := Inv.new (dst := none) hI hN1 (by intro d hd; cases hd)
        have hF1 := fr_new hI.sr.size hN1
        have hmm : ∀ id l, m id = some l → (if id = S.length then some loc1 else m id) = some l := fun id l hl => by
          by_cases hid : id = S.length
          · subst hid; rw [hI.dom _ (Nat.le_refl _)] at hl; simp at hl
          · simp [hid, hl]
        have hN2 := newVar_rel (X := X) (w := w) (K := K) (m := fun id => if id = S.length then some loc1 else m id) (n := (S ++ [Ob.arr lay true []]).length) (t := t) (lay := 0) (v := .arr S.length) (vv := .slice none 0 0) hI1.sr.keep (by simp [AV.hasLay, AV.isCell]) (hN1.val _ hmm (by simp))
        have hI2 := hI1.new hN2 hf
        have hF2 := fr_new hI1.sr.size hN2
        have e1 : (S ++ [Ob.arr lay true []] ++ [Ob.var 0 (AV.arr S.length)]).map (Ob.mapV (AV.looseO none)) = S ++ [Ob.arr lay true []] ++ [Ob.var 0 (AV.arr S.length)] := map_looseO_none _
        have hrun : (execOp a.eval o).run P w = .ok (.value (.pointer (some ⟨w.heap.size, 0, none⟩))) (w.alloc (.cells (Value.slice none 0 0).cells t)) := by
          simp only [execOp, hq]
          unfold Instr.alloc
          simp [run_zeroValue' hzi hzv, newVar, newRow, run_newObj]
        refine wpOp_wanted hi h1 (wp_value hrun (hn _ _ _ _ ⟨fun u => ?_, by rw [e1]; exact hI2.sr, by rw [e1]; exact hI2.dom, hI2.nod⟩ (by rw [e1]; exact hF1.trans hF2)))
        have h3 := hI2.er u
        have el : (S ++ [Ob.arr lay true []]).length = S.length + 1 := by simp
        have hp : ∀ v, a.put none v = a := fun _ => rfl
        rw [Env.get_put] at h3 ⊢
        simp only [el, hp] at h3 ⊢
        split
        · rename_i hd; rw [if_pos hd] at h3; exact h3
        · rename_i hd; rw [if_neg hd] at h3; rw [Env.get_map _ (looseO_dead none)]; exact h3
    · simp only [Prod.mk.injEq] at h2
      obtain ⟨rfl, rfl, rfl⟩ := h2
      have e1 : S''.map (Ob.mapV (AV.looseO none)) = S'' := map_looseO_none S''
      refine wpOp_not hi h1 (hn _ w K m ?_ ?_)
      · simp only [e1]
        exact ⟨ER.put (fun t => by rw [Env.get_map _ (looseO_dead none)]; exact hI.er t) undefA_rel hf, hI.sr, hI.dom, by rw [put_defers']; exact hI.nod⟩
      · simp only [e1]; exact Fr.refl X B w K _ m
  · rename_i hk
    split at h
    · rename_i g as hc
      simp only [Option.map_eq_some_iff, Prod.mk.injEq] at h
      obtain ⟨⟨r, S''⟩, h, rfl, rfl⟩ := h
      rcases guarded_rel hL h with ⟨h1, h2⟩ | ⟨h1, h2⟩
      · obtain ⟨vs, g1, g2⟩ := opC_shared hC.shared hI.sr hI.dom (hL.ops hI.sr.low.2) hc h2
        refine wpOp_wanted hi h1 (wp_of_callsF g1 g2 fun v w' ⟨K', m', hF, hS', hd', hv, hcm⟩ => ?_)
        exact hn v w' K' m' ⟨ER.put (fun t => by rw [Env.get_map _ (staleK_dead _ _ _)]; exact (hI.er t).staleK hF.pres hF.sub hI.dom hF.evo hcm) hv hf, hS', hd', by rw [put_defers']; exact hI.nod⟩ hF
      · simp only [Prod.mk.injEq] at h2
        obtain ⟨rfl, rfl⟩ := h2
        refine wpOp_not hi h1 (hn _ w K m ⟨ER.put (fun t => ?_) undefA_rel hf, hI.sr, hI.dom, by rw [put_defers']; exact hI.nod⟩ (Fr.refl X B w K _ m))
        rw [Env.get_map _ (staleK_dead _ _ _)]
        exact (hI.er t).staleK (fun _ _ _ _ h => h) (Sub.refl K) hI.dom (Evo.refl _ _) (CalmM.same _ _ _)
    · simp at h
  · simp at h

/-- what writes a place, the slots that it looks at being known -/
theorem evMut_run {X B : Nat} {w : World} {K : Keep} {m : Map} {e e' : Env} {S S' : Store} {a : Act} {i : Nat} {o : Oper} (hi : ops[i]? = some o) (hS : SR X B w K m S) (hL : Looks X w K m e a ops o)
    (hk : kindOf (o.dst.bind hint) o = .mut) (h : evM P C hint shared ops e S o = some (e', S')) {next : Act → World → Prop}
    (hn : ∀ r v w', e' = e.put o.dst r → VR X w' K m r v → SR X B w' K m S' → S'.length = S.length → Fr X B w K S m w' K S' m → next (a.put o.dst v) w') : wpOp P ops Q i next a w := by
  simp only [evM, hk, Option.map_eq_some_iff, Prod.mk.injEq] at h
  obtain ⟨⟨r, S''⟩, h, rfl, rfl⟩ := h
  rcases guarded_rel hL h with ⟨h1, h2⟩ | ⟨h1, h2⟩
  · obtain ⟨v, w', g1, g2⟩ := opM_sound hS (hL.ops hS.low.2) h2
    have fin : next (a.put o.dst v) w' := hn r v w' rfl g2.val g2.sr g2.len ⟨g2.below, g2.pres, Sub.refl K, fun _ _ h => .inl h, Evo.of_alen g2.len (opM_alen h2) (opM_mapAt h2), g2.frm⟩
    rcases g1 with g1 | ⟨g1, rfl⟩
    · exact wpOp_wanted hi h1 (wp_value g1 fin)
    · exact wpOp_wanted hi h1 (wp_skip' g1 fin)
  · simp only [Prod.mk.injEq] at h2
    obtain ⟨rfl, rfl⟩ := h2
    exact wpOp_not hi h1 (hn _ _ w rfl undefA_rel hS rfl (Fr.refl X B w K _ m))

def dsts (ops : List Oper) : List Tmp := ops.filterMap (·.dst)

theorem mem_dsts {ops : Array Oper} {i : Nat} {o : Oper} {d : Tmp} (hi : ops[i]? = some o) (hd : o.dst = some d) : d ∈ dsts ops.toList :=
  List.mem_filterMap.mpr ⟨o, by simpa using Array.mem_of_getElem? hi, hd⟩

theorem seq_sound (hC : KOK P C) {R : Type} {x : R} {k : Env → Store → Option R} : ∀ (rest : List Oper) (i : Nat) (e : Env) (S : Store) (w : World) (K : Keep) (m : Map) (a : Act) (X B : Nat),
    ops.toList.drop i = rest → evalOps P C hint shared false ops rest i e S k = some x → Inv X B w K m e S a → (∀ o ∈ ops, Fits a o.dst) →
    (∀ e' S' w' K' m' a', k e' S' = some x → Inv X B w' K' m' e' S' a' → Fr X B w K S m w' K' S' m' → Kept (dsts ops.toList) a a' → Q .normal a' w') →
    wpOps P ops Q (List.range' i rest.length) a w := by
  intro rest
  induction rest with
  | nil => intro i e S w K m a X B _ h hI _ hQ; exact hQ e S w K m a h hI (Fr.refl _ _ _ _ _ _) (Kept.refl _ _)
  | cons o rest ih =>
    intro i e S w K m a X B hd h hI hF hQ
    have hi : ops[i]? = some o := by
      have := congrArg (fun l => l[0]?) hd
      simpa using this
    have hd' : ops.toList.drop (i + 1) = rest := by rw [← List.drop_drop]; simp [hd]
    have hfo := hF o (Array.mem_of_getElem? hi)
    have hk : ∀ v, Kept (dsts ops.toList) a (a.put o.dst v) := fun v => Kept.put a o.dst v fun d hd => mem_dsts hi hd
    simp only [List.length_cons, List.range'_succ, wpOps_cons]
    rcases evalOps_cons h with ⟨r, g1, g2⟩ | ⟨r, ob, _, g1, g2⟩ | ⟨e', S', _, g1, g2⟩
    · refine evQ_run hC (SLe.refl S) hi hI.sr (hI.er.looks ops o) g1 fun v w' K' hx hv => ?_
      refine ih (i + 1) _ _ w' K' m _ X B hd' g2 (hI.quiet hx hv hfo) (fun o' ho' => (hk v).fits (hF o' ho')) fun e' S' w'' K'' m'' a' q1 q2 q3 q4 => ?_
      exact hQ e' S' w'' K'' m'' a' q1 q2 ((hx.fr hI.sr.size).trans q3) ((hk v).trans q4)
    · refine new_run (SLe.refl S) hi hI.sr (hI.er.looks ops o) g1 (fun v w' K' loc hN => ?_) fun hu => ?_
      · refine ih (i + 1) _ _ w' K' _ _ X B hd' g2 (hI.new hN hfo) (fun o' ho' => (hk v).fits (hF o' ho')) fun e' S' w'' K'' m'' a' q1 q2 q3 q4 => ?_
        exact hQ e' S' w'' K'' m'' a' q1 q2 ((fr_new hI.sr.size hN).trans q3) ((hk v).trans q4)
      · subst hu
        refine ih (i + 1) _ _ w K m _ X B hd' g2 ?_ (fun o' ho' => (hk undef).fits (hF o' ho')) fun e' S' w'' K'' m'' a' q1 q2 q3 q4 => ?_
        · have := hI.quiet (Ext.refl w K) undefA_rel hfo
          exact ⟨this.er, this.sr.pad [ob] hI.dom, fun id hid => hI.dom id (by simp at hid; omega), this.nod⟩
        · refine hQ e' S' w'' K'' m'' a' q1 q2 (Fr.trans ⟨Below.refl _ _, fun _ _ _ _ h => h, Sub.refl _, fun _ _ h => .inl h, ?_, Frm.refl _ _ _⟩ q3) ((hk undef).trans q4)
          exact ⟨by simp, fun id n hid hn => ⟨n, by rw [alen_app hid]; exact hn, Nat.le_refl _, fun _ => rfl⟩, fun id hid hn => ⟨by rw [alen_app hid]; exact hn, .inr rfl⟩, fun id hid => mapAt_app hid⟩
    · refine evM_run hC hi hI hfo g1 fun v w' K' m' hI' hFr => ?_
      refine ih (i + 1) _ _ w' K' m' _ X B hd' g2 hI' (fun o' ho' => (hk v).fits (hF o' ho')) fun e' S' w'' K'' m'' a' q1 q2 q3 q4 => ?_
      exact hQ e' S' w'' K'' m'' a' q1 q2 (hFr.trans q3) ((hk v).trans q4)
end
end Go.Lite

namespace Go.Lite
open Go
open Go.RowKit (Below)

/-! # regions in any order -/

theorem foldl_testBit (b : Array Nat) (j : Nat) : ∀ (es : List Edge) (s : Nat), (es.foldl (fun s e => if Region.binds .any e then s ||| 2 ^ e.on ||| b.getD e.on 0 else s) s).testBit j = true →
    s.testBit j = true ∨ ∃ e ∈ es, Region.binds .any e = true ∧ (e.on = j ∨ (b.getD e.on 0).testBit j = true) := by
  intro es
  induction es with
  | nil => intro s h; exact .inl h
  | cons e es ih =>
    intro s h
    simp only [List.foldl_cons] at h
    rcases ih _ h with h | ⟨e', h1, h2⟩
    · split at h
      · rename_i hb
        simp only [Nat.testBit_or, Bool.or_eq_true, Nat.testBit_two_pow, decide_eq_true_eq] at h
        rcases h with (h | h) | h
        · exact .inl h
        · exact .inr ⟨e, by simp, hb, .inl h⟩
        · exact .inr ⟨e, by simp, hb, .inr h⟩
      · exact .inl h
    · exact .inr ⟨e', by simp [h1], h2⟩

theorem before_aux (ops : List Oper) : ∀ (rest done : List Oper) (acc : Array Nat), done ++ rest = ops → acc.size = done.length →
    (∀ i j, (acc.getD i 0).testBit j = true → ∃ o, ops[i]? = some o ∧ ∃ e ∈ o.after, Region.binds .any e = true ∧ (e.on = j ∨ (e.on < i ∧ (acc.getD e.on 0).testBit j = true))) →
    ∀ i j, ((rest.foldl (fun acc o => acc.push (o.after.foldl (fun s e => if Region.binds .any e then s ||| 2 ^ e.on ||| acc.getD e.on 0 else s) 0)) acc).getD i 0).testBit j = true →
      ∃ o, ops[i]? = some o ∧ ∃ e ∈ o.after, Region.binds .any e = true ∧
        (e.on = j ∨ (e.on < i ∧ ((rest.foldl (fun acc o => acc.push (o.after.foldl (fun s e => if Region.binds .any e then s ||| 2 ^ e.on ||| acc.getD e.on 0 else s) 0)) acc).getD e.on 0).testBit j = true)) := by
  intro rest
  induction rest with
  | nil => intro done acc h1 h2 h3 i j h; exact h3 i j h
  | cons o rest ih =>
    intro done acc h1 h2 h3
    simp only [List.foldl_cons]
    refine ih (done ++ [o]) _ (by simp [← h1]) (by simp [h2]) ?_
    intro i j h
    have hp : ∀ (v k : Nat), k < acc.size → (acc.push v).getD k 0 = acc.getD k 0 := fun v k hk => by
      simp only [Array.getD_eq_getD_getElem?, Array.getElem?_push]; rw [if_neg (by omega)]
    rcases Nat.lt_trichotomy i acc.size with hi | hi | hi
    · rw [hp _ _ hi] at h
      obtain ⟨o', g1, e, g2, g3, g4⟩ := h3 i j h
      refine ⟨o', g1, e, g2, g3, g4.imp id fun g => ⟨g.1, ?_⟩⟩
      rw [hp _ _ (by omega)]; exact g.2
    · have ho : ops[i]? = some o := by rw [← h1, hi, h2]; simp
      have hv : (acc.push (o.after.foldl (fun s e => if Region.binds .any e then s ||| 2 ^ e.on ||| acc.getD e.on 0 else s) 0)).getD i 0 =
          o.after.foldl (fun s e => if Region.binds .any e then s ||| 2 ^ e.on ||| acc.getD e.on 0 else s) 0 := by
        subst hi; simp
      rw [hv, ← Array.foldl_toList] at h
      rcases foldl_testBit acc j _ _ h with h | ⟨e, g1, g2, g3⟩
      · simp at h
      · refine ⟨o, ho, e, by simpa using g1, g2, g3.imp id fun g => ?_⟩
        have hlt : e.on < acc.size := by
          rcases Nat.lt_or_ge e.on acc.size with h' | h'
          · exact h'
          · simp [Array.getElem?_eq_none h'] at g
        exact ⟨by omega, by rw [hp _ _ hlt]; exact g⟩
    · have : (acc.push (o.after.foldl (fun s e => if Region.binds .any e then s ||| 2 ^ e.on ||| acc.getD e.on 0 else s) 0)).getD i 0 = 0 := by
        simp only [Array.getD_eq_getD_getElem?]
        rw [Array.getElem?_eq_none (by simp; omega)]; rfl
      rw [this] at h; simp at h

def bef (ops : Array Oper) (i j : Nat) : Bool := ((Region.before ops).getD i 0).testBit j

theorem before_spec (ops : Array Oper) (i j : Nat) (h : bef ops i j = true) :
    ∃ o, ops[i]? = some o ∧ ∃ e ∈ o.after, Region.binds .any e = true ∧ (e.on = j ∨ (e.on < i ∧ bef ops e.on j = true)) := by
  have := before_aux ops.toList ops.toList [] #[] (by simp) (by simp) (by simp) i j (by
    unfold bef Region.before at h; rw [← Array.foldl_toList] at h; exact h)
  obtain ⟨o, h1, e, h2, h3, h4⟩ := this
  refine ⟨o, by simpa using h1, e, h2, h3, h4.imp id fun g => ⟨g.1, ?_⟩⟩
  unfold bef Region.before; rw [← Array.foldl_toList]; exact g.2

/-- where an operation stands in the compiler's order -/
def gcRank (ops : Array Oper) (j : Nat) : Nat := if Region.departs ops then (Region.linearise .gc ops 0).idxOf j else j

theorem binds_any {md : Region.Mode} {e : Edge} (h : Region.binds .any e = true) : Region.binds md e = true := by
  unfold Region.binds at h ⊢
  split at h <;> simp_all

/-- the region is as it must be, in whatever order it runs -/
def tidyOps (ops : Array Oper) : Bool :=
  let b := Region.before ops
  (List.range ops.size).all fun j => match ops[j]? with
    | none => true
    | some o => o.after.all (fun e => !Region.binds .text e || decide (e.on < j)) && o.after.all (fun e => !Region.binds .gc e || decide (gcRank ops e.on < gcRank ops j)) &&
      (o.dst.toList ++ o.looksAt ops).all fun t => (List.range ops.size).all fun i => i == j || (ops[i]?).bind (·.dst) != some t || (b.getD (max i j) 0).testBit (min i j)

structure Tidy (ops : Array Oper) : Prop where
  edge : ∀ j o, ops[j]? = some o → ∀ e ∈ o.after, Region.binds .any e = true → e.on < j
  text : ∀ j o, ops[j]? = some o → ∀ e ∈ o.after, Region.binds .text e = true → e.on < j
  gc : ∀ j o, ops[j]? = some o → ∀ e ∈ o.after, Region.binds .gc e = true → gcRank ops e.on < gcRank ops j
  ord : ∀ j o, ops[j]? = some o → ∀ t, (o.dst = some t ∨ t ∈ o.looksAt ops) → ∀ i oi, ops[i]? = some oi → oi.dst = some t → i ≠ j → (i < j ∧ bef ops j i = true) ∨ (j < i ∧ bef ops i j = true)

theorem tidy_of (ops : Array Oper) (h : tidyOps ops = true) : Tidy ops := by
  unfold tidyOps at h
  simp only [List.all_eq_true, List.mem_range] at h
  have text : ∀ j o, ops[j]? = some o → ∀ e ∈ o.after, Region.binds .text e = true → e.on < j := fun j o ho e he hb => by
    have h1 := h j (Array.getElem?_eq_some_iff.1 ho).1
    simp only [ho, Bool.and_eq_true, Array.all_eq_true_iff_forall_mem] at h1
    have := h1.1.1 e he
    simpa [hb] using this
  refine ⟨fun j o ho e he hb => text j o ho e he (binds_any hb), text, fun j o ho e he hb => ?_, fun j o ho t ht i oi hi hd hne => ?_⟩
  · have h1 := h j (Array.getElem?_eq_some_iff.1 ho).1
    simp only [ho, Bool.and_eq_true, Array.all_eq_true_iff_forall_mem] at h1
    have := h1.1.2 e he
    simpa [hb] using this
  · have h1 := h j (Array.getElem?_eq_some_iff.1 ho).1
    simp only [ho, Bool.and_eq_true, List.all_eq_true] at h1
    have h2 := h1.2 t (by
      rcases ht with ht | ht
      · simp [ht]
      · exact List.mem_append_right _ ht) i (List.mem_range.2 (Array.getElem?_eq_some_iff.1 hi).1)
    simp only [hi, Option.bind_some, hd, bne_self_eq_false, Bool.or_false, Bool.or_eq_true, beq_iff_eq, hne, false_or] at h2
    rcases Nat.lt_or_ge i j with hij | hij
    · left; refine ⟨hij, ?_⟩
      rw [Nat.max_eq_right (by omega), Nat.min_eq_left (by omega)] at h2; exact h2
    · right; refine ⟨by omega, ?_⟩
      rw [Nat.max_eq_left (by omega), Nat.min_eq_right (by omega)] at h2; exact h2

/-- what is listed has all that it waits for listed -/
def Down (ops : Array Oper) (listed : Array Bool) : Prop := ∀ i o, ops[i]? = some o → listed.getD i false = true → ∀ e ∈ o.after, Region.binds .any e = true → listed.getD e.on false = true

theorem bef_down {ops : Array Oper} {listed : Array Bool} (hD : Down ops listed) {i : Nat} {o : Oper} (ho : ops[i]? = some o) (hl : ∀ e ∈ o.after, Region.binds .any e = true → listed.getD e.on false = true) {j : Nat}
    (hb : bef ops i j = true) : listed.getD j false = true := by
  have key : ∀ (n i : Nat), i < n → listed.getD i false = true → bef ops i j = true → listed.getD j false = true := by
    intro n
    induction n with
    | zero => intro i hi; omega
    | succ n ih =>
      intro i hi hli hb
      obtain ⟨o', g1, e, g2, g3, g4⟩ := before_spec ops i j hb
      have := hD i o' g1 hli e g2 g3
      rcases g4 with rfl | ⟨g4, g5⟩
      · exact this
      · exact ih e.on (by omega) this g5
  obtain ⟨o', g1, e, g2, g3, g4⟩ := before_spec ops i j hb
  rw [ho] at g1; simp only [Option.some.injEq] at g1; subst g1
  have := hl e g2 g3
  rcases g4 with rfl | ⟨g4, g5⟩
  · exact this
  · exact key _ e.on (Nat.lt_succ_self _) this g5

theorem bef_lt {ops : Array Oper} (hT : Tidy ops) : ∀ (n i j : Nat), i < n → bef ops i j = true → j < i := by
  intro n
  induction n with
  | zero => intro i j hi; omega
  | succ n ih =>
    intro i j hi hb
    obtain ⟨o, g1, e, g2, g3, g4⟩ := before_spec ops i j hb
    have := hT.edge i o g1 e g2 g3
    rcases g4 with rfl | ⟨g4, g5⟩
    · exact this
    · have := ih e.on j (by omega) g5; omega

theorem settled_spec {ops : Array Oper} (hT : Tidy ops) {i : Nat} (hi : i < ops.size) (h : settled ops i = true) : (∀ j, j < i → bef ops i j = true) ∧ ∀ j, i < j → j < ops.size → bef ops j i = true := by
  unfold settled at h
  simp only [List.all_eq_true, List.mem_range, Bool.or_eq_true, beq_iff_eq] at h
  refine ⟨fun j hj => ?_, fun j hj hn => ?_⟩
  · rcases h j (by omega) with (h1 | h1) | h1
    · omega
    · exact h1
    · have := bef_lt hT _ j i (Nat.lt_succ_self _) h1; omega
  · rcases h j hn with (h1 | h1) | h1
    · omega
    · have := bef_lt hT _ i j (Nat.lt_succ_self _) h1; omega
    · exact h1

theorem settledM_spec {hint : Tmp → Option Nat} {ops : Array Oper} (hT : Tidy ops) {i : Nat} {e : Env} (hi : i < ops.size) (h : settledM hint ops i e = true) : (∀ j, j < i → bef ops i j = true ∨ ∃ o, ops[j]? = some o ∧ (floatO o = true ∨ floatL hint ops i e o j = true)) ∧ ∀ j, i < j → j < ops.size → bef ops j i = true := by
  unfold settledM at h
  simp only [List.all_eq_true, List.mem_range, Bool.or_eq_true, beq_iff_eq, Bool.and_eq_true] at h
  refine ⟨fun j hj => ?_, fun j hj hn => ?_⟩
  · rcases h j (by omega) with ((h1 | h1) | h1) | h1
    · omega
    · exact .inl h1
    · have := bef_lt hT _ j i (Nat.lt_succ_self _) h1; omega
    · right
      have h2 := h1.2
      split at h2
      · rename_i o ho; exact ⟨o, ho, by simpa [Bool.or_eq_true] using h2⟩
      · cases h2
  · rcases h j hn with ((h1 | h1) | h1) | h1
    · omega
    · have := bef_lt hT _ i j (Nat.lt_succ_self _) h1; omega
    · exact h1
    · have h2 := h1.1
      simp only [Nat.blt_eq] at h2
      omega

def unl (listed : Array Bool) : Nat := listed.toList.count false

theorem unl_set {listed : Array Bool} {j : Nat} (hj : j < listed.size) (h : listed.getD j false = false) : unl (listed.setIfInBounds j true) + 1 = unl listed := by
  unfold unl
  have h' : listed.toList[j]? = some false := by
    simp only [Array.getD_eq_getD_getElem?] at h
    simp only [Array.getElem?_toList]
    rw [Array.getElem?_eq_getElem hj] at h ⊢
    simpa using h
  have hl : j < listed.toList.length := by simpa using hj
  have hg : listed.toList[j] = false := by
    rw [List.getElem?_eq_getElem hl] at h'; simpa using h'
  rw [Array.toList_setIfInBounds, List.count_set hl]
  have hpos : 0 < listed.toList.count false := List.count_pos_iff.mpr (by rw [← hg]; exact List.getElem_mem hl)
  simp only [hg, beq_self_eq_true, if_true]
  have : (true == false) = false := rfl
  simp only [this, Bool.false_eq_true, if_false]
  omega

theorem unl_pos {listed : Array Bool} {j : Nat} (hj : j < listed.size) (h : listed.getD j false = false) : 0 < unl listed := by
  have := unl_set hj h; omega

theorem getD_tf {listed : Array Bool} {j : Nat} (hj : j < listed.size) : listed.getD j true = listed.getD j false := by
  simp [Array.getD_eq_getD_getElem?, Array.getElem?_eq_getElem hj]

theorem getD_setB {listed : Array Bool} {j k : Nat} (hj : j < listed.size) : (listed.setIfInBounds j true).getD k false = if k = j then true else listed.getD k false := by
  simp only [Array.getD_eq_getD_getElem?, Array.getElem?_setIfInBounds]
  by_cases h : j = k
  · subst h; simp [hj]
  · rw [if_neg h, if_neg (Ne.symm h)]

/-- the least one that is not listed is ready -/
theorem ready_rank {ops : Array Oper} {md : Region.Mode} {rk : Nat → Nat} (hT : ∀ j o, ops[j]? = some o → ∀ e ∈ o.after, Region.binds md e = true → rk e.on < rk j) (hr : ∀ j, ops.size ≤ j → ∀ i, i < ops.size → rk i ≤ rk j)
    {listed : Array Bool} (hs : listed.size = ops.size) {j : Nat} (hj : j < ops.size) (h : listed.getD j false = false) : Region.ready md ops listed ≠ [] := by
  have key : ∀ (n j : Nat), rk j < n → j < ops.size → listed.getD j false = false → ∃ k, k ∈ Region.ready md ops listed := by
    intro n
    induction n with
    | zero => intro j hj; omega
    | succ n ih =>
      intro j hjn hj h
      obtain ⟨o, ho⟩ : ∃ o, ops[j]? = some o := ⟨_, Array.getElem?_eq_getElem hj⟩
      by_cases hall : ∀ e ∈ o.after, Region.binds md e = true → listed.getD e.on false = true
      · exact ⟨j, mem_ready.2 ⟨by simpa [Array.getD_eq_getD_getElem?, Array.getElem?_eq_getElem (show j < listed.size by omega)] using h, o, ho, hall⟩⟩
      · simp only [Classical.not_forall] at hall
        obtain ⟨e, he, hb, hn⟩ := hall
        have := hT j o ho e he hb
        have hlt : e.on < ops.size := by
          rcases Nat.lt_or_ge e.on ops.size with h' | h'
          · exact h'
          · have := hr e.on h' j hj; omega
        exact ih e.on (by omega) hlt (by simpa using hn)
  obtain ⟨k, hk⟩ := key _ j (Nat.lt_succ_self _) hj h
  intro hc; rw [hc] at hk; cases hk

/-- the least one that is not listed is ready, in any order -/
theorem ready_ne {ops : Array Oper} (hT : Tidy ops) {listed : Array Bool} (hs : listed.size = ops.size) {j : Nat} (hj : j < ops.size) (h : listed.getD j false = false) : Region.ready .any ops listed ≠ [] :=
  ready_rank (rk := id) hT.edge (fun j hj i hi => by simp only [id]; omega) hs hj h

theorem gcRank_out {ops : Array Oper} : ∀ j, ops.size ≤ j → ∀ i, i < ops.size → gcRank ops i ≤ gcRank ops j := by
  intro j hj i hi
  unfold gcRank
  split
  · have hnot : j ∉ Region.linearise .gc ops 0 := by
      have key : ∀ (fuel t : Nat) (listed : Array Bool) (acc : List Nat), (∀ k ∈ acc, k < ops.size) → ∀ k ∈ Region.linearise.go .gc ops fuel t listed acc, k < ops.size := by
        intro fuel
        induction fuel with
        | zero => intro t listed acc ha k hk; simp [Region.linearise.go] at hk; exact ha k hk
        | succ fuel ih =>
          intro t listed acc ha k hk
          simp only [Region.linearise.go] at hk
          split at hk
          · rename_i i' hi'
            refine ih _ _ _ (fun k' hk' => ?_) k hk
            simp only [List.mem_cons] at hk'
            rcases hk' with rfl | hk'
            · have := List.mem_of_getElem? hi'
              simp only [List.mem_filter, List.mem_range] at this
              exact this.1
            · exact ha k' hk'
          · exact ha k (by simpa using hk)
      intro hc
      have := key _ _ _ [] (by simp) j hc
      omega
    rw [List.idxOf_eq_length hnot]
    exact List.idxOf_le_length
  · omega

theorem wpAny_sched {P : Program} {ops : Array Oper} {Q : Exit → Act → World → Prop} {md : Region.Mode} (hne : ∀ (listed : Array Bool) (j : Nat), listed.size = ops.size → j < ops.size → listed.getD j false = false → Region.ready md ops listed ≠ []) :
    ∀ (fuel t : Nat) (listed : Array Bool) (a : Act) (w : World), listed.size = ops.size → wpAny P .any ops Q fuel listed a w → wpOps P ops Q (Region.linearise.go md ops fuel t listed []) a w := by
  intro fuel
  induction fuel with
  | zero => intro t listed a w _ h; simpa [Region.linearise.go, wpOps] using h.2
  | succ fuel ih =>
    intro t listed a w hs h
    obtain ⟨h0, h1⟩ := h
    simp only [Region.linearise.go]
    change wpOps P ops Q (match (Region.ready md ops listed)[t % (Region.ready md ops listed).length]? with
      | some i => Region.linearise.go md ops fuel (t / (Region.ready md ops listed).length) (listed.setIfInBounds i true) [i]
      | none => [].reverse) a w
    cases hi : (Region.ready md ops listed)[t % (Region.ready md ops listed).length]? with
    | none =>
      have hnil : Region.ready md ops listed = [] := by
        cases hr : Region.ready md ops listed with
        | nil => rfl
        | cons x xs =>
          rw [hr] at hi
          have hlt : t % (x :: xs).length < (x :: xs).length := Nat.mod_lt _ (by simp)
          rw [List.getElem?_eq_getElem hlt] at hi; cases hi
      have hall : Region.ready .any ops listed = [] := by
        cases hr : Region.ready .any ops listed with
        | nil => rfl
        | cons j js =>
          have hj : j ∈ Region.ready .any ops listed := by rw [hr]; simp
          obtain ⟨q1, o, ho, _⟩ := mem_ready.1 hj
          have hjn := (Array.getElem?_eq_some_iff.1 ho).1
          rw [getD_tf (by omega)] at q1
          exact absurd hnil (hne listed j hs hjn q1)
      simpa [wpOps] using h0 hall
    | some i =>
      simp only []
      rw [linearise_go_acc, List.reverse_singleton, List.singleton_append, wpOps_cons]
      have hmem := List.mem_of_getElem? hi
      obtain ⟨q1, o, ho, hall⟩ := mem_ready.1 hmem
      exact wpOp_mono (fun a w => ih _ _ a w (by simpa using hs)) (h1 i (mem_ready.2 ⟨q1, o, ho, fun e he hb => hall e he (binds_any hb)⟩))

theorem wp_region_tidy {P : Program} {ops : Array Oper} {Q : Exit → Act → World → Prop} {id : Nat} {a : Act} {w : World} (hT : Tidy ops) (h : wpAny P .any ops Q ops.size (Array.replicate ops.size false) a w.drew) : (Code.region id ops true).wp P Q a w :=
  wp_region_draw fun t => by
    have hz : (Array.replicate ops.size false).size = ops.size := by simp
    unfold Region.schedule
    split
    · exact wpAny_sched (fun listed j hs hj h => ready_ne hT hs hj h) _ _ _ _ _ hz h
    · split
      · exact wpAny_sched (md := .text) (fun listed j hs hj h => ready_rank (rk := fun j => j) hT.text (fun j hj i hi => by omega) hs hj h) _ _ _ _ _ hz h
      · exact wpAny_sched (md := .gc) (fun listed j hs hj h => ready_rank hT.gc gcRank_out hs hj h) _ _ _ _ _ hz h

section
variable {P : Program} {C : Kallee} {hint : Tmp → Option Nat} {shared : FuncId → Bool} {ops : Array Oper} {Q : Exit → Act → World → Prop}

def isNew (hint : Tmp → Option Nat) (ops : Array Oper) (j : Nat) : Prop := ∃ o, ops[j]? = some o ∧ kindOf (o.dst.bind hint) o = .new

/-- what the text's order says of the j-th operation -/
def Fact (P : Program) (C : Kallee) (hint : Tmp → Option Nat) (shared : FuncId → Bool) (ops : Array Oper) (E : Nat → Env) (ids : Nat → Nat) (S Sh : Store) (j : Nat) : Prop :=
  ∃ o v, ops[j]? = some o ∧ E (j + 1) = (E j).put o.dst v ∧ ∃ S0, SLe S0 Sh ∧
    ((kindOf (o.dst.bind hint) o ≠ .new ∧ evQ P C hint shared ops (E j) S0 o = some v) ∨
     (kindOf (o.dst.bind hint) o = .new ∧ ∃ ob, guarded ops (E j) o (opN P (o.dst.bind hint) (ids j) (E j) S0 o) (undefA, .gone) = some (v, ob) ∧ Sh[ids j]? = some ob ∧ S.length ≤ ids j))

theorem evQ_not_new {e : Env} {S : Store} {o : Oper} {v : AV} (h : evQ P C hint shared ops e S o = some v) : kindOf (o.dst.bind hint) o ≠ .new := by
  intro hk; simp [evQ, hk] at h

theorem seg_split {R : Type} {x : R} {k : Env → Store → Option R} : ∀ (rest : List Oper) (i : Nat) (e : Env) (S : Store), ops.toList.drop i = rest → i ≤ ops.size →
    evalOps P C hint shared true ops rest i e S k = some x →
    ∃ (h : Nat) (E : Nat → Env) (ids : Nat → Nat) (Sh : Store), i ≤ h ∧ h ≤ ops.size ∧ E i = e ∧ SLe S Sh ∧ S.length ≤ Sh.length ∧
      (∀ j, i ≤ j → j < h → Fact P C hint shared ops E ids S Sh j) ∧ (∀ j j', i ≤ j → j < h → i ≤ j' → j' < h → isNew hint ops j → isNew hint ops j' → ids j = ids j' → j = j') ∧
      ((h = ops.size ∧ k (E h) Sh = some x) ∨ ∃ o e' S', ops[h]? = some o ∧ (settled ops h = true ∨ (kindOf (o.dst.bind hint) o = .mut ∧ settledM hint ops h (E h) = true)) ∧ evM P C hint shared ops (E h) Sh o = some (e', S') ∧ evalOps P C hint shared true ops (ops.toList.drop (h + 1)) (h + 1) e' S' k = some x) := by
  intro rest
  induction rest with
  | nil =>
    intro i e S hd hi h
    have : ops.size ≤ i := by simpa using hd
    have : i = ops.size := by omega
    subst this
    exact ⟨ops.size, fun _ => e, fun _ => 0, S, Nat.le_refl _, Nat.le_refl _, rfl, SLe.refl S, Nat.le_refl _, fun j h1 h2 => by omega, fun j j' h1 h2 => by omega, .inl ⟨rfl, h⟩⟩
  | cons o rest ih =>
    intro i e S hd hin h
    have hi : ops[i]? = some o := by
      have := congrArg (fun l => l[0]?) hd
      simpa using this
    have hlt : i < ops.size := (Array.getElem?_eq_some_iff.1 hi).1
    have hd' : ops.toList.drop (i + 1) = rest := by rw [← List.drop_drop]; simp [hd]
    rcases evalOps_cons h with ⟨r, g1, g2⟩ | ⟨r, ob, hk, g1, g2⟩ | ⟨e', S', hs, g1, g2⟩
    · obtain ⟨hh, E, ids, Sh, a1, a2, a3, a4, a5, a6, a7, a8⟩ := ih (i + 1) _ _ hd' hlt g2
      have hE : ∀ j, i + 1 ≤ j → (fun j => if j = i then e else E j) j = E j := fun j hj => by simp only; rw [if_neg (by omega)]
      refine ⟨hh, fun j => if j = i then e else E j, ids, Sh, by omega, a2, by simp, a4, a5, fun j h1 h2 => ?_, fun j j' h1 h2 h3 h4 n1 n2 he => ?_, ?_⟩
      · by_cases hji : j = i
        · subst hji
          refine ⟨o, r, hi, ?_, S, a4, .inl ⟨evQ_not_new g1, by simpa using g1⟩⟩
          show (if j + 1 = j then e else E (j + 1)) = (if j = j then e else E j).put o.dst r; rw [if_neg (by omega), if_pos rfl, a3]
        · obtain ⟨o', v', b1, b2, b3⟩ := a6 j (by omega) h2
          refine ⟨o', v', b1, ?_, ?_⟩
          · show (if j + 1 = i then e else E (j + 1)) = (if j = i then e else E j).put o'.dst v'; rw [if_neg (by omega), if_neg hji]; exact b2
          · simp only [if_neg hji]; exact b3
      · have q : ¬ isNew hint ops i := fun ⟨o', q1, q2⟩ => by
          rw [hi] at q1; simp only [Option.some.injEq] at q1; subst q1; exact evQ_not_new g1 q2
        by_cases hji : j = i
        · subst hji; exact absurd n1 q
        · by_cases hji' : j' = i
          · subst hji'; exact absurd n2 q
          · exact a7 j j' (by omega) h2 (by omega) h4 n1 n2 he
      · have : (fun j => if j = i then e else E j) hh = E hh := hE hh a1
        simp only [this]; exact a8
    · obtain ⟨hh, E, ids, Sh, a1, a2, a3, a4, a5, a6, a7, a8⟩ := ih (i + 1) _ _ hd' hlt g2
      simp only [List.length_append, List.length_cons, List.length_nil] at a5
      have hE : ∀ j, i + 1 ≤ j → (fun j => if j = i then e else E j) j = E j := fun j hj => by simp only; rw [if_neg (by omega)]
      have idge : ∀ j, i + 1 ≤ j → j < hh → isNew hint ops j → S.length + 1 ≤ ids j := fun j h1 h2 ⟨o', q1, q2⟩ => by
        obtain ⟨o'', v', b1, b2, S0, b3, b4⟩ := a6 j h1 h2
        rw [q1] at b1; simp only [Option.some.injEq] at b1; subst b1
        rcases b4 with ⟨b4, _⟩ | ⟨_, ob', b5, b6, b7⟩
        · exact absurd q2 b4
        · simpa using b7
      refine ⟨hh, fun j => if j = i then e else E j, fun j => if j = i then S.length else ids j, Sh, by omega, a2, by simp, (SLe.app S [ob]).trans a4, by omega, fun j h1 h2 => ?_, fun j j' h1 h2 h3 h4 n1 n2 he => ?_, ?_⟩
      · by_cases hji : j = i
        · subst hji
          refine ⟨o, r, hi, ?_, S, (SLe.app S [ob]).trans a4, .inr ⟨hk, ob, by simpa using g1, ?_, by simp⟩⟩
          · show (if j + 1 = j then e else E (j + 1)) = (if j = j then e else E j).put o.dst r; rw [if_neg (by omega), if_pos rfl, a3]
          · simp only [if_true]; exact a4 S.length ob (by simp)
        · obtain ⟨o', v', b1, b2, S0, b3, b4⟩ := a6 j (by omega) h2
          refine ⟨o', v', b1, ?_, S0, b3, ?_⟩
          · show (if j + 1 = i then e else E (j + 1)) = (if j = i then e else E j).put o'.dst v'; rw [if_neg (by omega), if_neg hji]; exact b2
          · simp only [if_neg hji]
            refine b4.imp id fun ⟨c1, ob', c2, c3, c4⟩ => ⟨c1, ob', c2, c3, by simp at c4; omega⟩
      · by_cases hji : j = i <;> by_cases hji' : j' = i
        · omega
        · simp only [hji, if_true, if_neg hji'] at he
          have := idge j' (by omega) h4 n2; omega
        · simp only [hji', if_true, if_neg hji] at he
          have := idge j (by omega) h2 n1; omega
        · simp only [if_neg hji, if_neg hji'] at he
          exact a7 j j' (by omega) h2 (by omega) h4 n1 n2 he
      · have : (fun j => if j = i then e else E j) hh = E hh := hE hh a1
        simp only [this]; exact a8
    · refine ⟨i, fun _ => e, fun _ => 0, S, Nat.le_refl _, hin, rfl, SLe.refl S, Nat.le_refl _, fun j h1 h2 => by omega, fun j j' h1 h2 => by omega, .inr ⟨o, e', S', hi, hs rfl, g1, ?_⟩⟩
      rw [hd']; exact g2
end
end Go.Lite

namespace Go.Lite
open Go
open Go.RowKit (Below)

section
variable {P : Program} {C : Kallee} {hint : Tmp → Option Nat} {shared : FuncId → Bool} {ops : Array Oper} {Q : Exit → Act → World → Prop}

/-- the writers of slot t that are done are those before j -/
def Cut (ops : Array Oper) (listed : Array Bool) (i h t j : Nat) : Prop :=
  i ≤ j ∧ j ≤ h ∧ (∀ k o, i ≤ k → k < j → ops[k]? = some o → o.dst = some t → listed.getD k false = true) ∧ (∀ k o, j ≤ k → k < h → ops[k]? = some o → o.dst = some t → listed.getD k false = false)

/-- between the operations -/
structure Mid (ops : Array Oper) (E : Nat → Env) (Sh : Store) (b h X B : Nat) (listed : Array Bool) (w : World) (K : Keep) (m : Map) (a : Act) : Prop where
  er : ∀ t, ∃ j, Cut ops listed b h t j ∧ VR X w K m ((E j).get t) (a.tmps.getD t undef)
  sr : SR X B w K m Sh
  dom : ∀ id, Sh.length ≤ id → m id = none
  nod : a.defers = []

/-- each operation writes its slot -/
def Puts (ops : Array Oper) (E : Nat → Env) (b h : Nat) : Prop := ∀ j, b ≤ j → j < h → ∃ o v, ops[j]? = some o ∧ E (j + 1) = (E j).put o.dst v

/-- it looks at slots alone -/
def Flt (P : Program) (C : Kallee) (hint : Tmp → Option Nat) (shared : FuncId → Bool) (ops : Array Oper) (S : Store) (E : Nat → Env) (j : Nat) : Prop :=
  ∃ o v, ops[j]? = some o ∧ E (j + 1) = (E j).put o.dst v ∧ ∃ S1, SLe S1 S ∧ evQ P C hint shared ops (E j) S1 o = some v

theorem evQ_float {e : Env} {S S' : Store} {o : Oper} {v : AV} (hf : floatO o = true) (h : evQ P C hint shared ops e S o = some v) : evQ P C hint shared ops e S' o = some v := by
  obtain ⟨dst, op, type, pos, after, guard⟩ := o
  unfold floatO at hf
  split at hf <;> rename_i heq <;> simp only at heq
  all_goals first
    | (subst heq; simpa only [evQ, kindOf, opV, opVP, guarded, isConst, Bool.false_and, Bool.false_eq_true, if_false] using h)
    | cases hf
theorem evM_other {e e' : Env} {S S' : Store} {o : Oper} {t : TypeId} {a x : Operand} {y i off : Nat} (ho : o.op = .store t a x) (hy : opnd e a = .ptr y i off) (h : evM P C hint shared ops e S o = some (e', S')) :
    ∀ z, z ≠ y → S'[z]? = S[z]? := by
  intro z hz
  obtain ⟨dst, op, type, pos, after, guard⟩ := o
  simp only at ho; subst ho
  simp only [evM, kindOf, Option.map_eq_some_iff, Prod.mk.injEq] at h
  obtain ⟨⟨v, S2⟩, h, _, rfl⟩ := h
  have key : ∀ {p : AV × Store}, opM P e S ⟨dst, .store t a x, type, pos, after, guard⟩ = some p → p.2[z]? = S[z]? := by
    intro p hp
    simp only [opM, Option.map_eq_some_iff] at hp
    obtain ⟨S3, hp, rfl⟩ := hp
    rw [hy] at hp
    simp only [storeAV] at hp
    split at hp
    · rename_i lay id i2 off2 hl hq
      cases hq
      split at hp
      · split at hp
        · simp only [Option.map_eq_some_iff] at hp; obtain ⟨_, _, rfl⟩ := hp
          simp [List.getElem?_set, Ne.symm hz]
        · cases hp
      · simp only [Option.bind_eq_some_iff, Option.map_eq_some_iff] at hp
        obtain ⟨_, _, _, _, _, _, rfl⟩ := hp
        simp [List.getElem?_set, Ne.symm hz]
      · cases hp
    · cases hp
  unfold guarded at h
  repeat' split at h
  all_goals first
    | exact key h
    | (simp only [Option.some.injEq, Prod.mk.injEq] at h; obtain ⟨_, rfl⟩ := h; rfl)
    | cases h
theorem evQ_load {e : Env} {S S' : Store} {dst : Option Tmp} {type : TypeId} {pos : String} {after : Array Edge} {guard : Option (Nat × Bool)} {t : TypeId} {b : Tmp} {x i off : Nat} {v : AV} (hx : e.get b = .ptr x i off) (hS : ∀ ob, S[x]? = some ob → S'[x]? = some ob)
    (h : evQ P C hint shared ops e S ⟨dst, .load t (.tmp b), type, pos, after, guard⟩ = some v) : evQ P C hint shared ops e S' ⟨dst, .load t (.tmp b), type, pos, after, guard⟩ = some v := by
  simp only [evQ, kindOf] at h ⊢
  cases hc : ownCode (dst.bind hint) with
  | true => simp [hc] at h
  | false =>
    simp only [hc, Bool.false_eq_true, if_false] at h ⊢
    refine guarded_mono h fun r hr => ?_
    simp only [opV, opnd, hx, loadAV] at hr ⊢
    cases hl : layOf P t with
    | none => rw [hl] at hr; cases hr
    | some lay =>
      rw [hl] at hr
      cases ho : S[x]? with
      | none => simp only [ho] at hr; cases hr
      | some ob => simp only [hS ob ho]; simpa only [ho] using hr

theorem evQ_loadP {e : Env} {S S' : Store} {dst : Option Tmp} {type : TypeId} {pos : String} {after : Array Edge} {guard : Option (Nat × Bool)} {t : TypeId} {b : Tmp} {d : PV} {v : AV} (hx : e.get b = .pv d)
    (h : evQ P C hint shared ops e S ⟨dst, .load t (.tmp b), type, pos, after, guard⟩ = some v) : evQ P C hint shared ops e S' ⟨dst, .load t (.tmp b), type, pos, after, guard⟩ = some v := by
  simp only [evQ, kindOf] at h ⊢
  cases hc : ownCode (dst.bind hint) with
  | true => simp [hc] at h
  | false =>
    simp only [hc, Bool.false_eq_true, if_false] at h ⊢
    refine guarded_mono h fun r hr => ?_
    simp only [opV, opnd, hx, loadAV] at hr ⊢
    cases hl : layOf P t with
    | none => rw [hl] at hr; cases hr
    | some lay => rw [hl] at hr; cases d <;> exact hr

/-- slots stay where nobody writes -/
theorem facts_same {E : Nat → Env} {b h t : Nat} (hp : Puts ops E b h) :
    ∀ (n j : Nat), b ≤ j → j + n ≤ h → (∀ k o, j ≤ k → k < j + n → ops[k]? = some o → o.dst ≠ some t) → (E (j + n)).get t = (E j).get t := by
  intro n
  induction n with
  | zero => intro j _ _ _; rfl
  | succ n ih =>
    intro j h1 h2 h3
    obtain ⟨o, v, g1, g2⟩ := hp (j + n) (by omega) (by omega)
    rw [← Nat.add_assoc, g2, Env.get_put, if_neg (h3 (j + n) o (by omega) (by omega) g1)]
    exact ih j h1 (by omega) fun k o hk hk' => h3 k o hk (by omega)

/-- all before are done -/
theorem Mid.inv {E : Nat → Env} {Sh : Store} {b h X B : Nat} {listed : Array Bool} {w : World} {K : Keep} {m : Map} {a : Act} (hp : Puts ops E b h) (hM : Mid ops E Sh b h X B listed w K m a) (hl : ∀ j, j < h → listed.getD j false = true) :
    Inv X B w K m (E h) Sh a := by
  refine ⟨fun t => ?_, hM.sr, hM.dom, hM.nod⟩
  obtain ⟨j, ⟨c1, c2, c3, c4⟩, hv⟩ := hM.er t
  have : (E h).get t = (E j).get t := by
    have := facts_same (t := t) hp (h - j) j c1 (by omega) (fun k o hk hk' ho hd => by
      have h1 := c4 k o hk (by omega) ho hd
      rw [hl k (by omega)] at h1; cases h1)
    rwa [show j + (h - j) = h by omega] at this
  rw [this]; exact hv

/-- what a ready operation looks at -/
theorem Mid.looks (hT : Tidy ops) {E : Nat → Env} {Sh : Store} {b h j X B : Nat} {listed : Array Bool} {w : World} {K : Keep} {m : Map} {a : Act} {o : Oper} (hp : Puts ops E b h) (hM : Mid ops E Sh b h X B listed w K m a) (hbj : b ≤ j) (hjh : j ≤ h)
    (ho : ops[j]? = some o) (hD : Down ops listed) (hju : listed.getD j false = false) (hb : ∀ k, bef ops j k = true → listed.getD k false = true) : Looks X w K m (E j) a ops o := fun t ht => by
  obtain ⟨c, ⟨c1, c2, c3, c4⟩, hv⟩ := hM.er t
  have : (E j).get t = (E c).get t := by
    rcases Nat.le_total c j with hcj | hcj
    · have := facts_same (t := t) hp (j - c) c c1 (by omega) (fun k ok hk hk' hok hd => by
        rcases hT.ord j o ho t (.inr ht) k ok hok hd (by omega) with ⟨q1, q2⟩ | ⟨q1, q2⟩
        · have h1 := c4 k ok hk (by omega) hok hd
          rw [hb k q2] at h1; cases h1
        · omega)
      rwa [show c + (j - c) = j by omega] at this
    · have := facts_same (t := t) hp (c - j) j hbj (by omega) (fun k ok hk hk' hok hd => by
        have h1 := c3 k ok (by omega) (by omega) hok hd
        by_cases hkj : k = j
        · subst hkj; rw [hju] at h1; cases h1
        · rcases hT.ord j o ho t (.inr ht) k ok hok hd hkj with ⟨q1, q2⟩ | ⟨q1, q2⟩
          · omega
          · have h2 := bef_down hD hok (fun e he hbd => hD k ok hok h1 e he hbd) q2
            rw [hju] at h2; cases h2)
      rw [show j + (c - j) = c by omega] at this
      exact this.symm
  rw [this]; exact hv

theorem seg_run (hC : KOK P C) (hT : Tidy ops) {E : Nat → Env} {ids : Nat → Nat} {S0 Sh : Store} {b i h X B : Nat} (hh : h ≤ ops.size) (hbi : b ≤ i) (hih : i ≤ h) (hp : Puts ops E b h)
    (hfact : ∀ j, i ≤ j → j < h → Fact P C hint shared ops E ids S0 Sh j)
    (hinj : ∀ j j', i ≤ j → j < h → i ≤ j' → j' < h → isNew hint ops j → isNew hint ops j' → ids j = ids j' → j = j')
    (hstop : ∀ j, h < j → j < ops.size → bef ops j h = true) {w0 : World} {K0 : Keep} {m0 : Map} {a0 : Act}
    (hend : h = ops.size → ∀ a w K m, Inv X B w K m (E h) Sh a → Ext w0 K0 w K → (∀ b, Mine m b → Reach w0 m0 b) → (∀ id, id < S0.length → m id = m0 id) → Kept (dsts ops.toList) a0 a → Q .normal a w)
    (hbar : h < ops.size → ∀ listed a w K m fuel, listed.size = ops.size → unl listed ≤ fuel + 1 → Down ops listed → (∀ j, j < b → listed.getD j false = true) → (∀ j, b ≤ j → j < i → listed.getD j false = true ∨ Flt P C hint shared ops Sh E j) →
      (∀ j, h ≤ j → j < ops.size → listed.getD j false = false) → Mid ops E Sh b h X B listed w K m a → Ext w0 K0 w K → (∀ b, Mine m b → Reach w0 m0 b) → (∀ id, id < S0.length → m id = m0 id) → Kept (dsts ops.toList) a0 a →
      (∀ k, bef ops h k = true → listed.getD k false = true) → (∀ o, ops[h]? = some o → ∀ e ∈ o.after, Region.binds .any e = true → listed.getD e.on false = true) →
      wpOp P ops Q h (wpAny P .any ops Q fuel (listed.setIfInBounds h true)) a w) :
    ∀ (fuel : Nat) (listed : Array Bool) (a : Act) (w : World) (K : Keep) (m : Map), listed.size = ops.size → unl listed ≤ fuel → Down ops listed → (∀ j, j < b → listed.getD j false = true) →
      (∀ j, b ≤ j → j < i → listed.getD j false = true ∨ Flt P C hint shared ops Sh E j) →
      (∀ j, h ≤ j → j < ops.size → listed.getD j false = false) → Mid ops E Sh b h X B listed w K m a → (∀ j, i ≤ j → j < h → listed.getD j false = false → isNew hint ops j → m (ids j) = none) →
      Ext w0 K0 w K → (∀ b, Mine m b → Reach w0 m0 b) → (∀ id, id < S0.length → m id = m0 id) → Kept (dsts ops.toList) a0 a → (∀ o ∈ ops, Fits a o.dst) →
      wpAny P .any ops Q fuel listed a w := by
  intro fuel
  induction fuel with
  | zero =>
    intro listed a w K m hs hu hD hlo hflo hhi hM hfr hX ho0 hm hk hF
    have hall : ∀ j, j < ops.size → listed.getD j false = true := fun j hj => by
      cases hb : listed.getD j false with
      | true => rfl
      | false => have := unl_pos (by omega) hb; omega
    have hhn : h = ops.size := by
      rcases Nat.lt_or_ge h ops.size with h' | h'
      · have h1 := hhi h (Nat.le_refl _) h'
        have h2 := hall h h'
        rw [h1] at h2; cases h2
      · omega
    refine ⟨?_, hend hhn a w K m (hM.inv hp fun j hj => hall j (by omega)) hX ho0 hm hk⟩
    cases hr : Region.ready .any ops listed with
    | nil => rfl
    | cons j js =>
      have hj : j ∈ Region.ready .any ops listed := by rw [hr]; simp
      obtain ⟨h1, o, ho, _⟩ := mem_ready.1 hj
      have hjn := (Array.getElem?_eq_some_iff.1 ho).1
      rw [getD_tf (by omega), hall j hjn] at h1; cases h1
  | succ fuel ih =>
    intro listed a w K m hs hu hD hlo hflo hhi hM hfr hX ho0 hm hk hF
    refine ⟨fun hr => ?_, fun j hj => ?_⟩
    · have hall : ∀ j, j < ops.size → listed.getD j false = true := fun j hj => by
        cases hb : listed.getD j false with
        | true => rfl
        | false => exact absurd hr (ready_ne hT hs hj hb)
      have hhn : h = ops.size := by
        rcases Nat.lt_or_ge h ops.size with h' | h'
        · have h1 := hhi h (Nat.le_refl _) h'
          have h2 := hall h h'
          rw [h1] at h2; cases h2
        · omega
      exact hend hhn a w K m (hM.inv hp fun j hj => hall j (by omega)) hX ho0 hm hk
    obtain ⟨hju, o, ho, hedge⟩ := mem_ready.1 hj
    have hjn : j < ops.size := (Array.getElem?_eq_some_iff.1 ho).1
    rw [getD_tf (by omega)] at hju
    have hb : ∀ k, bef ops j k = true → listed.getD k false = true := fun k hk => bef_down hD ho hedge hk
    rcases Nat.lt_trichotomy j h with hjh | hjh | hjh
    · have hbj : b ≤ j := by
        rcases Nat.lt_or_ge j b with h' | h'
        · rw [hlo j h'] at hju; cases hju
        · exact h'
      have hL : Looks X w K m (E j) a ops o := hM.looks hT hp hbj (by omega) ho hD hju hb
      have hfo := hF o (Array.mem_of_getElem? ho)
      have hset : ∀ k, (listed.setIfInBounds j true).getD k false = if k = j then true else listed.getD k false := fun k => getD_setB (by omega)
      have hmono : ∀ k, listed.getD k false = true → (listed.setIfInBounds j true).getD k false = true := fun k hk => by rw [hset]; split <;> simp [hk]
      -- how it goes on
      have next : ∀ (v : AV) (r : Value) (w' : World) (K' : Keep) (m' : Map), E (j + 1) = (E j).put o.dst v → Ext w K w' K' → VR X w' K' m' v r → SR X B w' K' m' Sh → (∀ id, Sh.length ≤ id → m' id = none) → (∀ id, m id ≠ none → m' id = m id) →
          (∀ id, id < S0.length → m' id = m id) → (∀ b, Mine m' b → Reach w m b) → (∀ k, i ≤ k → k < h → k ≠ j → listed.getD k false = false → isNew hint ops k → m' (ids k) = none) →
          wpAny P .any ops Q fuel (listed.setIfInBounds j true) (a.put o.dst r) w' := by
        intro v r w' K' m' f2 hx hv hS' hd' hmm hm0 hown hfr
        have hkp : Kept (dsts ops.toList) a (a.put o.dst r) := Kept.put a o.dst r fun d hd => mem_dsts ho hd
        refine ih _ _ w' K' m' (by simp [hs]) ?_ ?_ (fun k hk => hmono k (hlo k hk)) (fun k h1 h2 => (hflo k h1 h2).imp (hmono k) id) ?_ ⟨fun t => ?_, hS', hd', by rw [put_defers']; exact hM.nod⟩ (fun k h1 h2 h3 h4 => ?_) (hX.trans hx) (fun b hb => ((hX.frm' ho0).reach (hown b hb))) (fun id hid => (hm0 id hid).trans (hm id hid)) (hk.trans hkp) fun o' ho' => hkp.fits (hF o' ho')
        · have := unl_set (by omega) hju; omega
        · intro k ok hok hlk e he hbd
          rw [hset] at hlk ⊢
          by_cases hej : e.on = j
          · simp [hej]
          · rw [if_neg hej]
            by_cases hkj : k = j
            · subst hkj; rw [ho] at hok; simp only [Option.some.injEq] at hok; subst hok
              exact hedge e he hbd
            · rw [if_neg hkj] at hlk; exact hD k ok hok hlk e he hbd
        · intro k hk hkn; rw [hset, if_neg (by omega)]; exact hhi k hk hkn
        · by_cases hdt : o.dst = some t
          · refine ⟨j + 1, ⟨by omega, by omega, fun k ok h1 h2 hok hd => ?_, fun k ok h1 h2 hok hd => ?_⟩, ?_⟩
            · rw [hset]
              by_cases hkj : k = j
              · simp [hkj]
              · rw [if_neg hkj]
                rcases hT.ord j o ho t (.inl hdt) k ok hok hd hkj with ⟨q1, q2⟩ | ⟨q1, q2⟩
                · exact hb k q2
                · omega
            · rw [hset, if_neg (by omega)]
              rcases hT.ord j o ho t (.inl hdt) k ok hok hd (by omega) with ⟨q1, q2⟩ | ⟨q1, q2⟩
              · omega
              · cases hlk : listed.getD k false with
                | false => rfl
                | true =>
                  have h2 := bef_down hD hok (fun e he hbd => hD k ok hok hlk e he hbd) q2
                  rw [hju] at h2; cases h2
            · rw [f2, Env.get_put, if_pos hdt]
              have : (a.put o.dst r).tmps.getD t undef = r := by
                rw [hdt]; simp only [Act.put, getD_set]; rw [if_pos ⟨by simp, hfo t hdt⟩]
              rw [this]; exact hv
          · obtain ⟨c, ⟨c1, c2, c3, c4⟩, hv'⟩ := hM.er t
            refine ⟨c, ⟨c1, c2, fun k ok h1 h2 hok hd => hmono k (c3 k ok h1 h2 hok hd), fun k ok h1 h2 hok hd => ?_⟩, ?_⟩
            · rw [hset, if_neg]
              · exact c4 k ok h1 h2 hok hd
              · intro hkj; subst hkj; rw [ho] at hok; simp only [Option.some.injEq] at hok; subst hok; exact hdt hd
            · rw [put_other a o.dst r t hdt]
              exact hv'.mono hx.pres hx.sub fun id loc hl => by rw [hmm id (by rw [hl]; simp)]; exact hl
        · rw [hset] at h3
          split at h3
          · cases h3
          · rename_i hkj; exact hfr k h1 h2 hkj h3 h4
      have quiet : ∀ (S1 : Store) (v : AV), SLe S1 Sh → E (j + 1) = (E j).put o.dst v → evQ P C hint shared ops (E j) S1 o = some v → wpOp P ops Q j (wpAny P .any ops Q fuel (listed.setIfInBounds j true)) a w := by
        intro S1 v f3 f2 f6
        refine evQ_run hC f3 ho hM.sr hL f6 fun r w' K' hx hv => ?_
        exact next v r w' K' m f2 hx hv (hM.sr.ext hx) hM.dom (fun _ _ => rfl) (fun _ _ => rfl) (fun _ x => .inr x) fun k h1 h2 h3 h4 h5 => hfr k h1 h2 h4 h5
      rcases Nat.lt_or_ge j i with hij | hij
      · rcases hflo j hbj hij with hl | ⟨o', v, f1, f2, S1, f3, f4⟩
        · rw [hju] at hl; cases hl
        · rw [ho] at f1; simp only [Option.some.injEq] at f1; subst f1
          exact quiet S1 v f3 f2 f4
      obtain ⟨o', v, f1, f2, S1, f3, f4⟩ := hfact j hij hjh
      rw [ho] at f1; simp only [Option.some.injEq] at f1; subst f1
      rcases f4 with ⟨f5, f6⟩ | ⟨f5, ob, f6, f7, f8⟩
      · exact quiet S1 v f3 f2 f6
      · have hnew : isNew hint ops j := ⟨o, ho, f5⟩
        have hfree := hfr j hij hjh hju hnew
        have hidlt : ids j < Sh.length := by
          rcases Nat.lt_or_ge (ids j) Sh.length with h' | h'
          · exact h'
          · rw [List.getElem?_eq_none h'] at f7; cases f7
        refine new_run f3 ho hM.sr hL f6 (fun r w' K' loc hN => ?_) fun hu' => ?_
        · have hmm : ∀ id l, m id = some l → (if id = ids j then some loc else m id) = some l := fun id l hl => by
            by_cases hid : id = ids j
            · subst hid; rw [hfree] at hl; simp at hl
            · simp [hid, hl]
          refine next v r w' K' (fun id => if id = ids j then some loc else m id) f2 hN.ext (hN.val _ hmm (by simp)) (hM.sr.new f7 hfree hN) (fun id hid => ?_) (fun id hid => ?_) (fun id hid => ?_) hN.frm.own fun k h1 h2 h3 h4 h5 => ?_
          · rw [if_neg (by omega)]; exact hM.dom id hid
          · rw [if_neg]; intro hc; rw [hc] at hid; exact hid hfree
          · rw [if_neg (by omega)]
          · rw [if_neg (fun hc => h3 (hinj k j h1 h2 hij hjh h5 hnew hc))]; exact hfr k h1 h2 h4 h5
        · subst hu'
          exact next undefA undef w K m f2 (Ext.refl w K) undefA_rel hM.sr hM.dom (fun _ _ => rfl) (fun _ _ => rfl) (fun _ x => .inr x) fun k h1 h2 h3 h4 h5 => hfr k h1 h2 h4 h5
    · subst hjh
      exact hbar hjn listed a w K m fuel hs hu hD hlo hflo hhi hM hX ho0 hm hk hb fun o' ho' => by
        rw [ho] at ho'; simp only [Option.some.injEq] at ho'; subst ho'; exact hedge
    · have h2 := hb h (hstop j hjh hjn)
      rw [hhi h (Nat.le_refl _) (by omega)] at h2; cases h2

theorem Evo.of_le {S S' : Store} {m m' : Map} (h : SLe S S') (hm : ∀ id, id < S.length → m' id = m id) (hl : S.length ≤ S'.length) : Evo S S' m m' := by
  have hk : ∀ id, id < S.length → mapAt S' id = mapAt S id := fun id hid => by
    unfold mapAt
    rw [List.getElem?_eq_getElem hid, h id _ (List.getElem?_eq_getElem hid)]
  have : ∀ id, id < S.length → alen S' id = alen S id := fun id hid => by
    unfold alen
    rw [List.getElem?_eq_getElem hid, h id _ (List.getElem?_eq_getElem hid)]
  exact ⟨hl, fun id n hid hn => ⟨n, by rw [this id hid]; exact hn, Nat.le_refl _, fun _ => hm id hid⟩, fun id hid hn => ⟨by rw [this id hid]; exact hn, .inr (hm id hid)⟩, hk⟩

/-- the objects to come -/
theorem SR.toCome {X B : Nat} {w : World} {K : Keep} {m : Map} {S Sh : Store} (hS : SR X B w K m S) (hd : ∀ id, S.length ≤ id → m id = none) (hle : SLe S Sh) : SR X B w K m Sh := by
  refine ⟨fun id ob loc h1 h2 => ?_, hS.sep, hS.mine, hS.keep, hS.size, hS.low⟩
  have : id < S.length := by
    rcases Nat.lt_or_ge id S.length with h' | h'
    · exact h'
    · rw [hd id h'] at h2; cases h2
  have h3 := hle id _ (List.getElem?_eq_getElem this)
  rw [h1] at h3; simp only [Option.some.injEq] at h3; subst h3
  exact hS.ob id _ loc (List.getElem?_eq_getElem this) h2

theorem any_run (hC : KOK P C) (hT : Tidy ops) {R : Type} {x : R} {k : Env → Store → Option R} : ∀ (n i : Nat) (E0 : Nat → Env) (S : Store) (listed : Array Bool) (fuel : Nat) (w : World) (K : Keep) (m : Map) (a : Act) (X B b : Nat),
    ops.size - i < n → i ≤ ops.size → b ≤ i → Puts ops E0 b i → evalOps P C hint shared true ops (ops.toList.drop i) i (E0 i) S k = some x → listed.size = ops.size → Down ops listed →
    (∀ j, j < b → listed.getD j false = true) → (∀ j, b ≤ j → j < i → listed.getD j false = true ∨ Flt P C hint shared ops S E0 j) → (∀ j, i ≤ j → j < ops.size → listed.getD j false = false) → unl listed ≤ fuel →
    Mid ops E0 S b i X B listed w K m a → (∀ o ∈ ops, Fits a o.dst) →
    (∀ e' S' w' K' m' a', k e' S' = some x → Inv X B w' K' m' e' S' a' → Fr X B w K S m w' K' S' m' → Kept (dsts ops.toList) a a' → Q .normal a' w') →
    wpAny P .any ops Q fuel listed a w := by
  intro n
  induction n with
  | zero => intro i E0 S listed fuel w K m a X B b hd; omega
  | succ n ih =>
    intro i E0 S listed fuel w K m a X B b hd hi hbi hp0 hev hs hD hlo hflo hhi hu hM hF hQ
    obtain ⟨h, E2, ids, Sh, a1, a2, a3, a4, a5, a6, a7, a8⟩ := seg_split _ i (E0 i) S rfl hi hev
    obtain ⟨E, hE⟩ : ∃ E : Nat → Env, E = fun j => if j ≤ i then E0 j else E2 j := ⟨_, rfl⟩
    have hE0 : ∀ j, j ≤ i → E j = E0 j := fun j hj => by rw [hE]; simp [hj]
    have hE2 : ∀ j, i ≤ j → E j = E2 j := fun j hj => by
      rcases Nat.lt_or_eq_of_le hj with h1 | h1
      · rw [hE]; simp only []; rw [if_neg (by omega)]
      · subst h1; rw [hE0 _ (Nat.le_refl _), a3]
    have hp : Puts ops E b h := fun j h1 h2 => by
      rcases Nat.lt_or_ge j i with h3 | h3
      · obtain ⟨o, v, g1, g2⟩ := hp0 j h1 h3
        exact ⟨o, v, g1, by rw [hE0 _ (by omega), hE0 _ (by omega)]; exact g2⟩
      · obtain ⟨o, v, g1, g2, _⟩ := a6 j h3 h2
        exact ⟨o, v, g1, by rw [hE2 _ (by omega), hE2 _ h3]; exact g2⟩
    have hfact : ∀ j, i ≤ j → j < h → Fact P C hint shared ops E ids S Sh j := fun j h1 h2 => by
      have := a6 j h1 h2
      unfold Fact at this ⊢
      rw [hE2 _ h1, hE2 _ (by omega)]; exact this
    have hflt : ∀ j, j < i → Flt P C hint shared ops S E0 j → Flt P C hint shared ops Sh E j := fun j h1 ⟨o, v, g1, g2, S1, g3, g4⟩ => ⟨o, v, g1, by rw [hE0 _ (by omega), hE0 _ (by omega)]; exact g2, S1, g3.trans a4, by rw [hE0 _ (by omega)]; exact g4⟩
    have hstop : ∀ j, h < j → j < ops.size → bef ops j h = true := fun j h1 h2 => by
      rcases a8 with ⟨rfl, _⟩ | ⟨o, e', S', b1, b2, _⟩
      · omega
      · rcases b2 with b2 | ⟨_, b2⟩
        · exact (settled_spec hT (by omega) b2).2 j h1 h2
        · exact (settledM_spec hT (by omega) b2).2 j h1 h2
    have hsh : ∀ {w' : World} {K' : Keep} {m' : Map}, Ext w K w' K' → (∀ b, Mine m' b → Reach w m b) → (∀ id, id < S.length → m' id = m id) → Fr X B w K S m w' K' Sh m' := fun hX hown hm => by
      have := hX.fr (X := X) (S := S) (m := m) hM.sr.size
      exact ⟨this.below, this.pres, this.sub, this.knew, Evo.of_le a4 hm a5, hX.frm' hown⟩
    refine seg_run (S0 := S) (m0 := m) (a0 := a) hC hT a2 hbi a1 hp hfact a7 hstop ?_ ?_ fuel listed a w K m hs hu hD hlo (fun j h1 h2 => (hflo j h1 h2).imp id (hflt j h2)) (fun j hj hjn => hhi j (by omega) hjn)
      ⟨fun t => ?_, hM.sr.toCome hM.dom a4, fun id hid => hM.dom id (by omega), hM.nod⟩ (fun j h1 h2 h3 h4 => ?_) (Ext.refl w K) (fun _ x => .inr x) (fun _ _ => rfl) (Kept.refl _ _) hF
    · intro hh a' w' K' m' hI' hX hown hm hk
      rcases a8 with ⟨_, b1⟩ | ⟨o, e', S', b1, _⟩
      · rw [← hE2 h a1] at b1
        exact hQ _ _ w' K' m' a' b1 hI' (hsh hX hown hm) hk
      · have := (Array.getElem?_eq_some_iff.1 b1).1; omega
    · intro hhn listed' a' w' K' m' fuel' hs' hu' hD' hlo' hflo' hhi' hM' hX hown hm hk hb hedge
      rcases a8 with ⟨hc, _⟩ | ⟨o, e', S', b1, b2, b3, b4⟩
      · omega
      have hun : listed'.getD h false = false := hhi' h (Nat.le_refl _) hhn
      have hfo := hk.fits (hF o (Array.mem_of_getElem? b1))
      have hfr := hsh hX hown hm
      rw [← hE2 h a1] at b3
      have hset : ∀ k, (listed'.setIfInBounds h true).getD k false = if k = h then true else listed'.getD k false := fun k => getD_setB (by omega)
      have hunl : unl (listed'.setIfInBounds h true) ≤ fuel' := by have := unl_set (by omega) hun; omega
      have hDn : Down ops (listed'.setIfInBounds h true) := fun k ok hok hlk e he hbd => by
        rw [hset] at hlk ⊢
        by_cases hej : e.on = h
        · simp [hej]
        · rw [if_neg hej]
          by_cases hkj : k = h
          · subst hkj; exact hedge ok hok e he hbd
          · rw [if_neg hkj] at hlk; exact hD' k ok hok hlk e he hbd
      have hhin : ∀ j, h + 1 ≤ j → j < ops.size → (listed'.setIfInBounds h true).getD j false = false := fun j h1 h2 => by rw [hset, if_neg (by omega)]; exact hhi' j (by omega) h2
      rcases b2 with b2 | ⟨bk, b2⟩
      · -- all before it is done
        have hall : ∀ j, j < h → listed'.getD j false = true := fun j hj => hb j ((settled_spec hT hhn b2).1 j hj)
        refine evM_run hC b1 (hM'.inv hp hall) hfo b3 fun v w'' K'' m'' hI'' hFr'' => ?_
        have hkp : Kept (dsts ops.toList) a' (a'.put o.dst v) := Kept.put a' o.dst v fun d hd => mem_dsts b1 hd
        refine ih (h + 1) (fun _ => e') S' _ fuel' w'' K'' m'' _ X B (h + 1) (by omega) hhn (Nat.le_refl _) (fun j h1 h2 => by omega) b4 (by simp [hs']) hDn (fun j hj => ?_) (fun j h1 h2 => by omega) hhin hunl
          ⟨fun t => ⟨h + 1, ⟨Nat.le_refl _, Nat.le_refl _, fun k o h1 h2 => by omega, fun k o h1 h2 => by omega⟩, hI''.er t⟩, hI''.sr, hI''.dom, hI''.nod⟩ (fun o' ho' => hkp.fits (hk.fits (hF o' ho'))) fun e3 S3 w3 K3 m3 a3' q1 q2 q3 q4 => ?_
        · rw [hset]; split
          · rfl
          · exact hall j (by omega)
        · exact hQ e3 S3 w3 K3 m3 a3' q1 q2 (hfr.trans (hFr''.trans q3)) (hk.trans (hkp.trans q4))
      · -- but for what looks at slots alone
        rw [← hE2 h a1] at b2
        have hL := hM'.looks hT hp (by omega) (Nat.le_refl _) b1 hD' hun hb
        refine evMut_run b1 hM'.sr hL bk b3 fun r v w'' he' hv hS'' hlen hFr'' => ?_
        have hkp : Kept (dsts ops.toList) a' (a'.put o.dst v) := Kept.put a' o.dst v fun d hd => mem_dsts b1 hd
        obtain ⟨E3, hE3⟩ : ∃ E3 : Nat → Env, E3 = fun j => if j ≤ h then E j else e' := ⟨_, rfl⟩
        have e30 : ∀ j, j ≤ h → E3 j = E j := fun j hj => by rw [hE3]; simp [hj]
        have e31 : E3 (h + 1) = e' := by rw [hE3]; simp only []; rw [if_neg (by omega)]
        refine ih (h + 1) E3 S' _ fuel' w'' K' m' _ X B b (by omega) hhn (by omega) (fun j h1 h2 => ?_) (by rw [e31]; exact b4) (by simp [hs']) hDn (fun j hj => ?_) (fun j h1 h2 => ?_) hhin hunl
          ⟨fun t => ?_, hS'', fun id hid => hM'.dom id (by omega), by rw [put_defers']; exact hM'.nod⟩ (fun o' ho' => hkp.fits (hk.fits (hF o' ho'))) fun e3 S3 w3 K3 m3 a3' q1 q2 q3 q4 => ?_
        · rcases Nat.lt_or_eq_of_le (Nat.lt_succ_iff.1 h2) with h3 | h3
          · rw [e30 _ (by omega), e30 _ (by omega)]; exact hp j h1 h3
          · subst h3; exact ⟨o, r, b1, by rw [e31, e30 _ (Nat.le_refl _)]; exact he'⟩
        · rw [hset]; split
          · rfl
          · exact hlo' j hj
        · by_cases hjh : j = h
          · left; rw [hset, if_pos hjh]
          · rw [hset, if_neg hjh]
            have hjlt : j < h := by omega
            rcases (settledM_spec hT hhn b2).1 j hjlt with q | ⟨oj, q1, q2⟩
            · exact .inl (hb j q)
            · -- its value behind the store is as before
              have keep : ∀ {v' : AV} {S1 : Store}, SLe S1 Sh → kindOf (oj.dst.bind hint) oj ≠ .new → evQ P C hint shared ops (E j) S1 oj = some v' → evQ P C hint shared ops (E j) S' oj = some v' := by
                intro v' S1 hle hkn hev
                rcases q2 with q2 | q2
                · exact evQ_float q2 hev
                · obtain ⟨dst, op, type, pos, after, guard⟩ := oj
                  unfold floatL at q2
                  split at q2
                  · rename_i t1 b1' t2 aa xx e1 e3
                    simp only at e1
                    subst e1
                    simp only [b1, Option.map_some, Option.some.injEq] at e3
                    simp only [Bool.and_eq_true, List.all_eq_true, List.mem_range, Bool.or_eq_true, Nat.blt_eq] at q2
                    obtain ⟨⟨q3, q4⟩, _⟩ := q2
                    have hsame : (E h).get b1' = (E j).get b1' := by
                      have := facts_same (t := b1') hp (h - j) j h1 (by omega) (fun k ok hk hk' hok hd => by
                        rcases q4 k (by omega) with q5 | q5
                        · omega
                        · rw [hok] at q5; simp [hd] at q5)
                      rwa [show j + (h - j) = h by omega] at this
                    split at q3
                    · rename_i x x1 x2 y y1 y2 p1 p2
                      refine evQ_load (x := x) (i := x1) (off := x2) (by rw [← hsame]; exact p1) (fun ob hob => ?_) hev
                      have hxy : x ≠ y := by simpa using q3
                      rw [evM_other e3 p2 b3 x hxy]
                      exact hle x ob hob
                    · rename_i dd y y1 y2 p1 p2
                      exact evQ_loadP (d := dd) (by rw [← hsame]; exact p1) hev
                    · cases q3
                  · cases q2
              rcases Nat.lt_or_ge j i with h3 | h3
              · refine (hflo' j h1 h3).imp id fun ⟨o', v', g1, g2, S1, g3, g4⟩ => ?_
                rw [q1] at g1; simp only [Option.some.injEq] at g1; subst g1
                exact ⟨oj, v', q1, by rw [e30 _ (by omega), e30 _ (by omega)]; exact g2, S', SLe.refl S', by rw [e30 _ (by omega)]; exact keep g3 (evQ_not_new g4) g4⟩
              · obtain ⟨o', v', g1, g2, S1, gle, g4⟩ := hfact j h3 hjlt
                rw [q1] at g1; simp only [Option.some.injEq] at g1; subst g1
                rcases g4 with ⟨g5, g6⟩ | ⟨g5, g6⟩
                · exact .inr ⟨oj, v', q1, by rw [e30 _ (by omega), e30 _ (by omega)]; exact g2, S', SLe.refl S', by rw [e30 _ (by omega)]; exact keep gle g5 g6⟩
                · obtain ⟨dst, op, type, pos, after, guard⟩ := oj
                  rcases q2 with q2 | q2
                  · unfold floatO at q2
                    split at q2 <;> rename_i heq <;> simp only at heq
                    all_goals first
                      | (subst heq; simp [kindOf, isConst] at g5; done)
                      | cases q2
                  · exfalso
                    unfold floatL at q2
                    split at q2
                    case h_2 => cases q2
                    rename_i t1 b1' t2 aa xx e1 e3
                    simp only at e1
                    subst e1
                    simp only [Bool.and_eq_true] at q2
                    obtain ⟨_, q5⟩ := q2
                    cases guard with
                    | some gg => simp only at q5; rw [g5] at q5; cases q5
                    | none =>
                    simp only at q5
                    obtain ⟨ob, f1, _⟩ := g6
                    cases dst with
                    | none => simp [kindOf, ownCode] at g5
                    | some d =>
                      have hv' : ∃ id, v' = .arr id := by
                        simp only [guarded, opN, Option.bind_eq_some_iff] at f1
                        obtain ⟨lv, _, lay, _, f1⟩ := f1
                        split at f1
                        · simp only [Option.some.injEq, Prod.mk.injEq] at f1; exact ⟨_, f1.1.symm⟩
                        · simp only [Option.map_eq_some_iff, Prod.mk.injEq] at f1
                          obtain ⟨_, _, f1, _⟩ := f1; exact ⟨_, f1.symm⟩
                      obtain ⟨id, rfl⟩ := hv'
                      simp only [floatD, Bool.and_eq_true, List.all_eq_true, List.mem_range, Bool.or_eq_true] at q5
                      obtain ⟨q6, q7⟩ := q5
                      have hj1 : (E (j + 1)).get d = .arr id := by rw [g2, Env.get_put]; simp
                      have hs' : (E h).get d = (E (j + 1)).get d := by
                        have := facts_same (t := d) hp (h - (j + 1)) (j + 1) (by omega) (by omega) (fun k ok hk hk' hok hd => by
                          rcases q7 k (by omega) with q8 | q8
                          · have := Nat.le_of_ble_eq_true q8; omega
                          · rw [hok] at q8; simp [hd] at q8)
                        rwa [show j + 1 + (h - (j + 1)) = h by omega] at this
                      rw [hs', hj1] at q6
                      cases q6
        · by_cases hdt : o.dst = some t
          · refine ⟨h + 1, ⟨by omega, Nat.le_refl _, fun k ok h1 h2 hok hd => ?_, fun k ok h1 h2 => by omega⟩, ?_⟩
            · rw [hset]
              by_cases hkj : k = h
              · simp [hkj]
              · rw [if_neg hkj]
                rcases hT.ord h o b1 t (.inl hdt) k ok hok hd hkj with ⟨q1, q2⟩ | ⟨q1, q2⟩
                · exact hb k q2
                · omega
            · rw [e31, he', Env.get_put, if_pos hdt]
              have : (a'.put o.dst v).tmps.getD t undef = v := by
                rw [hdt]; simp only [Act.put, getD_set]; rw [if_pos ⟨by simp, hfo t hdt⟩]
              rw [this]; exact hv
          · obtain ⟨c, ⟨c1, c2, c3, c4⟩, hv'⟩ := hM'.er t
            refine ⟨c, ⟨c1, by omega, fun k ok h1 h2 hok hd => ?_, fun k ok h1 h2 hok hd => ?_⟩, ?_⟩
            · rw [hset]; split
              · rfl
              · exact c3 k ok h1 h2 hok hd
            · by_cases hkj : k = h
              · subst hkj; rw [b1] at hok; simp only [Option.some.injEq] at hok; subst hok; exact absurd hd hdt
              · rw [hset, if_neg hkj]; exact c4 k ok h1 (by omega) hok hd
            · rw [put_other a' o.dst v t hdt, e30 _ c2]
              exact hv'.mono hFr''.pres (Sub.refl _) fun _ _ h => h
        · exact hQ e3 S3 w3 K3 m3 a3' q1 q2 (hfr.trans (hFr''.trans q3)) (hk.trans (hkp.trans q4))
    · obtain ⟨c, ⟨c1, c2, c3, c4⟩, hv⟩ := hM.er t
      refine ⟨c, ⟨c1, by omega, c3, fun k ok h1 h2 hok hd => ?_⟩, by rw [hE0 _ c2]; exact hv⟩
      rcases Nat.lt_or_ge k i with h3 | h3
      · exact c4 k ok h1 h3 hok hd
      · exact hhi k h3 (by omega)
    · obtain ⟨o, v, f1, f2, S1, f3, f4⟩ := a6 j h1 h2
      obtain ⟨o', q1, q2⟩ := h4
      rw [f1] at q1; simp only [Option.some.injEq] at q1; subst q1
      rcases f4 with ⟨f5, _⟩ | ⟨f5, ob, f6, f7, f8⟩
      · exact absurd q2 f5
      · exact hM.dom _ f8

theorem any_sound (hC : KOK P C) (hT : Tidy ops) {R : Type} {x : R} {k : Env → Store → Option R} : ∀ (d i : Nat) (e : Env) (S : Store) (listed : Array Bool) (fuel : Nat) (w : World) (K : Keep) (m : Map) (a : Act) (X B : Nat),
    ops.size - i ≤ d → i ≤ ops.size → evalOps P C hint shared true ops (ops.toList.drop i) i e S k = some x → listed.size = ops.size → (∀ j, j < ops.size → listed.getD j false = decide (j < i)) → unl listed ≤ fuel →
    Inv X B w K m e S a → (∀ o ∈ ops, Fits a o.dst) →
    (∀ e' S' w' K' m' a', k e' S' = some x → Inv X B w' K' m' e' S' a' → Fr X B w K S m w' K' S' m' → Kept (dsts ops.toList) a a' → Q .normal a' w') →
    wpAny P .any ops Q fuel listed a w := by
  intro d i e S listed fuel w K m a X B hd hi hev hs hl hu hI hF hQ
  refine any_run hC hT (d + 1) i (fun _ => e) S listed fuel w K m a X B i (by omega) hi (Nat.le_refl _) (fun j h1 h2 => by omega) hev hs (fun k o ho hk e he hb => ?_) (fun j hj => by rw [hl j (by omega)]; simp [hj]) (fun j h1 h2 => by omega)
    (fun j h1 h2 => by rw [hl j h2]; simp; omega) hu ⟨fun t => ⟨i, ⟨Nat.le_refl _, Nat.le_refl _, fun k o h1 h2 => by omega, fun k o h1 h2 => by omega⟩, hI.er t⟩, hI.sr, hI.dom, hI.nod⟩ hF hQ
  have hkn := (Array.getElem?_eq_some_iff.1 ho).1
  have := hT.edge k o ho e he hb
  rw [hl k hkn] at hk; simp only [decide_eq_true_eq] at hk
  rw [hl e.on (by omega)]; simp; omega
end
end Go.Lite

namespace Go.Lite
open Go
open Go.RowKit (Below)

/-! # what is forgotten -/
def lowM (n : Nat) (m : Map) : Map := fun id => if id < n then m id else none

theorem VR.low {X : Nat} {w : World} {K : Keep} {m : Map} {n : Nat} {d : AV} {v : Value} (h : VR X w K m d v) (hl : d.low n = true) : VR X w K (lowM n m) d v := by
  have all : ∀ {cs : List AV}, AV.lowAll n cs = true → ∀ (i : Nat) (c : AV), cs[i]? = some c → c.low n = true := by
    intro cs
    induction cs with
    | nil => intro _ i c h; simp at h
    | cons a cs ih =>
      intro h i c hc
      simp only [AV.lowAll, Bool.and_eq_true] at h
      cases i with
      | zero => simp at hc; subst hc; exact h.1
      | succ i => exact ih h.2 i c (by simpa using hc)
  induction h with
  | pv h => exact .pv h
  | ptr h ha =>
    simp only [AV.low, decide_eq_true_eq] at hl
    exact .ptr (by unfold lowM; rw [if_pos hl]; exact h) ha
  | arr h =>
    simp only [AV.low, decide_eq_true_eq] at hl
    exact .arr (by unfold lowM; rw [if_pos hl]; exact h)
  | mp h ha =>
    simp only [AV.low, decide_eq_true_eq] at hl
    exact .mp (by unfold lowM; rw [if_pos hl]; exact h) ha
  | sub h hn hcap hlen ha =>
    simp only [AV.low, decide_eq_true_eq] at hl
    exact .sub (by unfold lowM; rw [if_pos hl]; exact h) hn hcap hlen ha
  | agg hs hx ih => exact .agg hs fun i c v h1 h2 => ih i c v h1 h2 (all (by simpa [AV.low] using hl) i c h1)
  | tup hs hx ih => exact .tup hs fun i c v h1 h2 => ih i c v h1 h2 (all (by simpa [AV.low] using hl) i c h1)
  | clo ha hb hx hy ih1 ih2 =>
    simp only [AV.low, Bool.and_eq_true] at hl
    exact .clo ha hb (fun i c v h1 h2 => ih1 i c v h1 h2 (all hl.1 i c h1)) fun i c v h1 h2 => ih2 i c v h1 h2 (all hl.2 i c h1)
  | dead v => exact .dead v

theorem VR.cut {X : Nat} {w : World} {K : Keep} {m : Map} {n : Nat} {d : AV} {v : Value} (h : VR X w K m d v) : VR X w K (lowM n m) (d.cut n) v := by
  unfold AV.cut
  split
  · rename_i hl; exact h.low hl
  · exact .dead v

theorem ObR.cut {X : Nat} {w : World} {K : Keep} {m : Map} {n : Nat} {o : Ob} {loc : Loc} (h : ObR X w K m o loc) : ObR X w K (lowM n m) (o.mapV (AV.cut n)) loc := by
  cases h with
  | var hv hl ha hz ho hb hf hk => exact .var hv.cut hl ha hz ho hb hf hk
  | arr cvs ha hz hl hc hs hx hr ho hn => exact .arr cvs ha hz hl hc hs hx hr ho hn
  | nilArr hz hl hc ho => exact .nilArr hz hl hc ho
  | sit ha ho hb hk => exact .sit ha ho hb hk
  | map ha ho hb hs hx hst hk => exact .map ha ho hb hs hx hst hk
  | gone => exact .gone

/-- the places then -/
def trimM (n : Nat) (S : Store) (m : Map) : Map := if S.length = n then m else lowM n m

theorem trimM_some {n : Nat} {S : Store} {m : Map} {id : Nat} {loc : Loc} (h : trimM n S m id = some loc) : m id = some loc := by
  unfold trimM at h
  split at h
  · exact h
  · unfold lowM at h
    split at h
    · exact h
    · cases h

theorem trimV_rel {X : Nat} {w : World} {K : Keep} {m : Map} {n : Nat} {S : Store} {d : AV} {v : Value} (h : VR X w K m d v) : VR X w K (trimM n S m) (trimV n S d) v := by
  unfold trimV trimM
  split
  · exact h
  · exact h.cut

theorem trimV_dead (n : Nat) (S : Store) : trimV n S .dead = .dead := by
  unfold trimV; split
  · rfl
  · simp [AV.cut, AV.low]

theorem trimS_rel {X B : Nat} {w : World} {K : Keep} {m : Map} {n : Nat} {S : Store} (h : SR X B w K m S) : SR X B w K (trimM n S m) (trimS n S) := by
  have sub : ∀ {id loc}, trimM n S m id = some loc → m id = some loc := fun h => trimM_some h
  refine ⟨fun id o loc ho hm => ?_, fun id id' loc loc' b h1 h2 => h.sep id id' loc loc' b (sub h1) (sub h2), fun id loc b h1 => h.mine id loc b (sub h1), h.keep, h.size, h.low⟩
  have hm' := sub hm
  unfold trimS at ho
  unfold trimM at hm ⊢
  split at ho
  · rename_i hl; rw [if_pos hl]; exact h.ob id o loc ho hm'
  · rename_i hl
    rw [if_neg hl] at hm ⊢
    simp only [List.getElem?_map, Option.map_eq_some_iff] at ho
    obtain ⟨o', ho', rfl⟩ := ho
    have : S[id]? = some o' := by
      rw [List.getElem?_take] at ho'
      split at ho'
      · exact ho'
      · cases ho'
    exact (h.ob id o' loc this hm').cut

theorem trimS_length {n : Nat} {S : Store} (h : n ≤ S.length) : (trimS n S).length = n := by
  unfold trimS; split
  · assumption
  · simp; omega

theorem trim_dom {n : Nat} {S : Store} {m : Map} (h : n ≤ S.length) (hd : ∀ id, S.length ≤ id → m id = none) : ∀ id, (trimS n S).length ≤ id → trimM n S m id = none := by
  intro id hid
  rw [trimS_length h] at hid
  unfold trimM
  split
  · rename_i hl; exact hd id (by omega)
  · unfold lowM; rw [if_neg (by omega)]

theorem trim_evo {S0 S : Store} {m0 m : Map} (h : Evo S0 S m0 m) : Evo S0 (trimS S0.length S) m0 (trimM S0.length S m) := by
  have ha : ∀ id, id < S0.length → alen (trimS S0.length S) id = alen S id := fun id hid => by
    unfold trimS
    split
    · rfl
    · rw [alen_map]; unfold alen
      rw [List.getElem?_take, if_pos hid]
  have hk : ∀ id, id < S0.length → mapAt (trimS S0.length S) id = mapAt S id := fun id hid => by
    unfold trimS
    split
    · rfl
    · rw [mapAt_map]; unfold mapAt
      rw [List.getElem?_take, if_pos hid]
  have hm : ∀ id, id < S0.length → trimM S0.length S m id = m id := fun id hid => by
    unfold trimM; split
    · rfl
    · unfold lowM; rw [if_pos hid]
  exact ⟨by rw [trimS_length h.len]; exact Nat.le_refl _, fun id n hid hn => by rw [ha id hid, hm id hid]; exact h.arr id n hid hn, fun id hid hn => by rw [ha id hid, hm id hid]; exact h.oth id hid hn, fun id hid => by rw [hk id hid]; exact h.kind id hid⟩

theorem trim_fr {X B : Nat} {w w' : World} {K K' : Keep} {S S' : Store} {m m' : Map} (h : Fr X B w K S m w' K' S' m') : Fr X B w K S m w' K' (trimS S.length S') (trimM S.length S' m') :=
  ⟨h.below, h.pres, h.sub, h.knew, trim_evo h.evo, h.frm.size, h.frm.touch, fun b ⟨k, l, hk, hl⟩ => h.frm.own b ⟨k, l, trimM_some hk, hl⟩, h.frm.knew⟩

theorem get_lay (e : Env) (g : Tmp → AV) (M : List Tmp) (t : Nat) : (e.lay M (M.map g)).get t = if t ∈ M then g t else e.get t := by
  induction M with
  | nil => simp [Env.lay]
  | cons a M ih =>
    simp only [List.map_cons, Env.lay, Env.get_set, ih, List.mem_cons]
    by_cases h : t = a
    · subst h; simp
    · simp [h]

/-! # code -/
/-- the code is as it must be -/
def tidyC (n : Nat) : Code → Bool
  | .region _ ops draw => ops.all (fun o => match o.dst with | some d => decide (d < n) | none => true) && (!draw || tidyOps ops)
  | .seq a b => tidyC n a && tidyC n b
  | .cond _ a b => tidyC n a && tidyC n b
  | .block _ b => tidyC n b
  | .loop b => tidyC n b
  | .scope b => tidyC n b
  | _ => true

def Ex.out : Ex → Exit
  | .normal => .normal
  | .exit id => .exit id
  | .ret => .ret

/-- A join. -/
theorem prune_post {R : Type} {X B : Nat} {w w' : World} {K K' : Keep} {m m' : Map} {e' : Env} {S S' : Store} {a' : Act} {J : Option Join} {k : Ex → Env → Store → Option R} {x : Ex} {r : R}
    (h : prune J S.length k x e' S' = some r) (hI : Inv X B w' K' m' e' S' a') (hF : Fr X B w K S m w' K' S' m') :
    ∃ e'' S'' m'', k x e'' S'' = some r ∧ Inv X B w' K' m'' e'' S'' a' ∧ Fr X B w K S m w' K' S'' m'' := by
  cases J with
  | none => exact ⟨e', S', m', h, hI, hF⟩
  | some j =>
    refine ⟨_, _, _, h, ⟨fun t => ?_, trimS_rel hI.sr, trim_dom hF.evo.len hI.dom, hI.nod⟩, trim_fr hF⟩
    rw [Env.get_pick]
    split
    · rw [Env.get_map _ (trimV_dead _ _)]; exact trimV_rel (hI.er t)
    · exact .dead _

/-! # arrays that are written no more -/
theorem Inv.sealI {X B : Nat} {w : World} {m : Map} {e : Env} {a : Act} : ∀ (l : List Nat) (K : Keep) (S : Store), Inv X B w K m e S a →
    ∃ K', Inv X B w K' m e (Go.Lite.sealI l S) a ∧ Fr X B w K S m w K' (Go.Lite.sealI l S) m := by
  intro l
  induction l with
  | nil => intro K S h; exact ⟨K, h, Fr.refl _ _ _ _ _ _⟩
  | cons id r ih =>
    intro K S h
    simp only [Go.Lite.sealI]
    split
    · rename_i lay xs hs
      obtain ⟨K1, h1, h2, h3⟩ := h.sr.shut hs
      have hI : Inv X B w K1 m e (S.set id (.arr lay false xs)) a := ⟨fun t => (h.er t).mono (fun _ _ _ _ q => q) h1 fun _ _ q => q, h3, fun k hk => h.dom k (by simpa using hk), h.nod⟩
      have hF : Fr X B w K S m w K1 (S.set id (.arr lay false xs)) m := ⟨Below.refl _ _, fun _ _ _ _ q => q, h1, fun b o q => (h2 b o q).imp (fun x => x) And.left, Evo.of_alen (by simp) (seal_alen hs) (mapAt_set hs (by rfl)), Nat.le_refl _, fun _ _ => rfl, fun _ x => .inr x, fun b o q => (h2 b o q).imp (fun x => x) fun x => .inr x.2⟩
      obtain ⟨K2, g1, g2⟩ := ih K1 _ hI
      exact ⟨K2, g1, hF.trans g2⟩
    · exact ih K S h
theorem Inv.shut {X B : Nat} {w : World} {m : Map} {e : Env} {a : Act} (e0 : Env) : ∀ (l : List Tmp) (K : Keep) (S : Store), Inv X B w K m e S a →
    ∃ K', Inv X B w K' m e (sealL e0 l S) a ∧ Fr X B w K S m w K' (sealL e0 l S) m := by
  intro l
  induction l with
  | nil => intro K S h; exact ⟨K, h, Fr.refl _ _ _ _ _ _⟩
  | cons t r ih =>
    intro K S h
    simp only [sealL]
    obtain ⟨K1, h1, h2⟩ := h.sealI (showsA S (e0.get t)) K S
    obtain ⟨K2, g1, g2⟩ := ih K1 _ h1
    exact ⟨K2, g1, h2.trans g2⟩

theorem enter_inv {X B : Nat} {w : World} {K : Keep} {m : Map} {e : Env} {S : Store} {a : Act} (J : Option Join) (h : Inv X B w K m e S a) : Inv X B w K m (enter J e) S a := by
  cases J with
  | none => exact h
  | some j =>
    refine ⟨fun t => ?_, h.sr, h.dom, h.nod⟩
    show VR X w K m ((e.pick j.ins).get t) _
    rw [Env.get_pick]
    split
    · exact h.er t
    · exact .dead _

theorem caseB_some {R : Type} {a : AV} {y n : Option R} {r : R} (h : caseB a y n = some r) : ∃ t, a = .pv (.sc (.bool t)) ∧ (if t then y else n) = some r := by
  unfold caseB at h
  split at h
  · rename_i d
    have hb : ∀ {t : Bool}, boolPV? d = some t → d = .sc (.bool t) := by
      intro t hd
      cases d with
      | sc v => cases v <;> simp [boolPV?] at hd; subst hd; rfl
      | _ => simp [boolPV?] at hd
    split at h
    · rename_i ht; exact ⟨true, by rw [hb ht], by simpa using h⟩
    · rename_i ht; exact ⟨false, by rw [hb ht], by simpa using h⟩
    · simp at h
  · simp at h

section
variable {P : Program} {C : Kallee} {h : Hints} {L : Nat} {f : FuncId}

theorem exec_sound (hC : KOK P C) (n : Nat) : ∀ (c : Code) (R : Type) (e : Env) (S : Store) (k : Ex → Env → Store → Option R) (r : R) (Q : Exit → Act → World → Prop)
    (w : World) (K : Keep) (m : Map) (a : Act) (X B : Nat), tidyC n c = true → exec P C h L f c e S k = some r → Inv X B w K m e S a → a.tmps.size = n →
    (∀ x' e' S' w' K' m' a', k x' e' S' = some r → Inv X B w' K' m' e' S' a' → Fr X B w K S m w' K' S' m' → Kept (writes c) a a' → Q x'.out a' w') → c.wp P Q a w := by
  intro c
  induction c with
  | skip =>
    intro R e S k r Q w K m a X B ht he hI hn hQ
    rw [exec] at he
    exact wp_skip (hQ .normal e S w K m a he hI (Fr.refl _ _ _ _ _ _) (Kept.refl _ _))
  | label l =>
    intro R e S k r Q w K m a X B ht he hI hn hQ
    rw [exec] at he
    exact wp_label (hQ .normal e S w K m a he hI (Fr.refl _ _ _ _ _ _) (Kept.refl _ _))
  | exit id =>
    intro R e S k r Q w K m a X B ht he hI hn hQ
    rw [exec] at he
    exact wp_exit (hQ (.exit id) e S w K m a he hI (Fr.refl _ _ _ _ _ _) (Kept.refl _ _))
  | ret =>
    intro R e S k r Q w K m a X B ht he hI hn hQ
    rw [exec] at he
    exact wp_ret (hQ .ret e S w K m a he hI (Fr.refl _ _ _ _ _ _) (Kept.refl _ _))
  | region id ops draw =>
    intro R e S k r Q w K m a X B ht he hI hn hQ
    rw [exec] at he
    simp only [tidyC, Bool.and_eq_true, Array.all_eq_true_iff_forall_mem] at ht
    have hF : ∀ o ∈ ops, Fits a o.dst := fun o ho d hd => by
      have := ht.1 o ho
      rw [hd] at this
      simp only [decide_eq_true_eq] at this
      rw [hn]; exact this
    obtain ⟨K1, hI, hF1⟩ := Inv.shut e (h.stil f id) K S (enter_inv (h.join f (4 * (id + 1) + 3)) hI)
    generalize hS1 : sealL e (h.stil f id) S = S1 at he hI hF1
    have hQ' : ∀ e' S' w' K' m' a', prune (h.join f (4 * (id + 1) + 3)) S.length k .normal e' S' = some r → Inv X B w' K' m' e' S' a' → Fr X B w K1 S1 m w' K' S' m' → Kept (writes (.region id ops draw)) a a' → Q .normal a' w' :=
      fun e' S' w' K' m' a' q1 q2 q3 q4 => by
        obtain ⟨e'', S'', m'', g1, g2, g3⟩ := prune_post q1 q2 (hF1.trans q3)
        exact hQ .normal e'' S'' w' K' m'' a' g1 g2 g3 q4
    cases draw with
    | false =>
      refine wp_region ?_
      have := seq_sound (Q := Q) hC ops.toList 0 _ S1 w K1 m a X B (by simp) he hI hF fun e' S' w' K' m' a' q1 q2 q3 q4 => hQ' e' S' w' K' m' a' q1 q2 q3 q4
      rw [List.range_eq_range']
      simpa using this
    | true =>
      have hT := tidy_of ops (by simpa using ht.2)
      have hx : Ext w K1 w.drew K1 := Ext.drew
      have hI' : Inv X B w.drew K1 m (enter (h.join f (4 * (id + 1) + 3)) e) S1 a := ⟨hI.er.ext hx, hI.sr.ext hx, hI.dom, hI.nod⟩
      refine wp_region_tidy hT ?_
      refine any_sound hC hT ops.size 0 _ S1 _ ops.size w.drew K1 m a X B (by omega) (by omega) (by simpa using he) (by simp) (fun j hj => by simp [hj]) (by simp [unl]) hI' hF
        fun e' S' w' K' m' a' q1 q2 q3 q4 => hQ' e' S' w' K' m' a' q1 q2 ((hx.fr hI.sr.size).trans q3) q4
  | seq x y ihx ihy =>
    intro R e S k r Q w K m a X B ht he hI hn hQ
    rw [exec] at he
    simp only [tidyC, Bool.and_eq_true] at ht
    refine wp_seq (ihx R e S _ r _ w K m a X B ht.1 he hI hn fun x' e' S' w' K' m' a' q1 q2 q3 q4 => ?_)
    cases x' with
    | normal =>
      refine ihy R e' S' k r Q w' K' m' a' X B ht.2 q1 q2 (by rw [q4.size]; exact hn) fun x'' e'' S'' w'' K'' m'' a'' p1 p2 p3 p4 => ?_
      exact hQ x'' e'' S'' w'' K'' m'' a'' p1 p2 (q3.trans p3) ((q4.mono fun t ht => by simp [writes, ht]).trans (p4.mono fun t ht => by simp [writes, ht]))
    | exit id => exact hQ (.exit id) e' S' w' K' m' a' q1 q2 q3 (q4.mono fun t ht => by simp [writes, ht])
    | ret => exact hQ .ret e' S' w' K' m' a' q1 q2 q3 (q4.mono fun t ht => by simp [writes, ht])
  | cond cnd x y ihx ihy =>
    intro R e S k r Q w K m a X B ht he hI hn hQ
    rw [exec] at he
    simp only [tidyC, Bool.and_eq_true] at ht
    obtain ⟨t, hc, he⟩ := caseB_some he
    have hI := enter_inv (h.join f (spotOf (.cond cnd x y))) hI
    have hv := opnd_rel (a := a) (x := cnd) hI.sr.low.2 fun t _ => hI.er t
    rw [hc] at hv
    generalize hcv : a.eval cnd = cv at hv
    cases hv.pv_inv
    refine wp_cond hcv ?_
    cases t with
    | true =>
      simp only [if_true] at he ⊢
      refine ihx R _ S _ r Q w K m a X B ht.1 he hI hn fun x' e' S' w' K' m' a' q1 q2 q3 q4 => ?_
      obtain ⟨e'', S'', m'', g1, g2, g3⟩ := prune_post q1 q2 q3
      exact hQ x' e'' S'' w' K' m'' a' g1 g2 g3 (q4.mono fun t ht => by simp [writes, ht])
    | false =>
      simp only [Bool.false_eq_true, if_false] at he ⊢
      refine ihy R _ S _ r Q w K m a X B ht.2 he hI hn fun x' e' S' w' K' m' a' q1 q2 q3 q4 => ?_
      obtain ⟨e'', S'', m'', g1, g2, g3⟩ := prune_post q1 q2 q3
      exact hQ x' e'' S'' w' K' m'' a' g1 g2 g3 (q4.mono fun t ht => by simp [writes, ht])
  | block id bd ih =>
    intro R e S k r Q w K m a X B ht he hI hn hQ
    rw [exec] at he
    simp only [tidyC] at ht
    refine wp_block (ih R _ S _ r _ w K m a X B ht he (enter_inv _ hI) hn fun x' e' S' w' K' m' a' q1 q2 q3 q4 => ?_)
    have fin : ∀ x'', prune (h.join f (spotOf (.block id bd))) S.length k x'' e' S' = some r → Q x''.out a' w' := fun x'' q => by
      obtain ⟨e'', S'', m'', g1, g2, g3⟩ := prune_post q q2 q3
      exact hQ x'' e'' S'' w' K' m'' a' g1 g2 g3 q4
    cases x' with
    | normal => exact fin .normal q1
    | ret => exact fin .ret q1
    | exit id' =>
      simp only [Ex.out, Exit.inBlock]
      simp only [leaveB] at q1
      split
      · rename_i h1; rw [if_pos h1] at q1; exact fin .normal q1
      · rename_i h1; rw [if_neg h1] at q1; exact fin (.exit id') q1
  | loop bd ih =>
    intro R e S k r Q w K m a X B ht he hI hn hQ
    rw [exec] at he
    simp only [tidyC] at ht
    refine wp_loop_rounds L ?_
    generalize hlv : h.live f ((firstRegion bd).getD 0) = live at he
    generalize hkk : prune (h.join f (spotOf (.loop bd))) S.length k = kk at he
    have key : ∀ (N : Nat) (e : Env) (S0 : Store) (w : World) (K : Keep) (m : Map) (a : Act), iter (exec P C h L f bd (R := R)) live S.length kk N e S0 = some r → Inv X B w K m e S0 a → S0.length = S.length → a.tmps.size = n →
        (∀ x' e' S' w' K' m' a', kk x' e' S' = some r → Inv X B w' K' m' e' S' a' → Fr X B w K S0 m w' K' S' m' → Kept (writes bd) a a' → Q x'.out a' w') → Code.rounds P bd Q N a w := by
      intro N
      induction N with
      | zero => intro e S0 w K m a he; simp [iter] at he
      | succ N ihN =>
        intro e S0 w K m a he hI hl hn hQ
        rw [iter] at he
        rw [rounds_succ]
        refine ih R e S0 _ r _ w K m a X B ht he hI hn fun x' e' S' w' K' m' a' q1 q2 q3 q4 => ?_
        cases x' with
        | normal =>
          simp only [next] at q1
          have hlen : S.length ≤ S'.length := by have := q3.evo.len; omega
          refine ihN _ _ w' K' (trimM S.length S' m') a' q1 ⟨fun t => ?_, trimS_rel q2.sr, trim_dom hlen q2.dom, q2.nod⟩ (trimS_length hlen) (by rw [q4.size]; exact hn) fun x'' e'' S'' w'' K'' m'' a'' p1 p2 p3 p4 => ?_
          · rw [Env.get_pick]
            split
            · rw [Env.get_map _ (trimV_dead _ _)]; exact trimV_rel (q2.er t)
            · exact .dead _
          · rw [← hl] at p3
            exact hQ x'' e'' S'' w'' K'' m'' a'' p1 p2 ((trim_fr q3).trans p3) (q4.trans p4)
        | exit id => exact hQ (.exit id) e' S' w' K' m' a' q1 q2 q3 q4
        | ret => exact hQ .ret e' S' w' K' m' a' q1 q2 q3 q4
    refine key L _ S w K m a he ⟨fun t => ?_, hI.sr, hI.dom, hI.nod⟩ rfl hn fun x' e' S' w' K' m' a' q1 q2 q3 q4 => ?_
    rotate_left
    · subst hkk
      obtain ⟨e'', S'', m'', g1, g2, g3⟩ := prune_post q1 q2 q3
      exact hQ x' e'' S'' w' K' m'' a' g1 g2 g3 q4
    rw [Env.get_pick]
    split
    · exact hI.er t
    · exact .dead _
  | scope bd ih =>
    intro R e S k r Q w K m a X B ht he hI hn hQ
    rw [exec] at he
    simp only [tidyC] at ht
    refine wp_scope_straight (ih R e S k r _ w K m a X B ht he hI hn fun x' e' S' w' K' m' a' q1 q2 q3 q4 => ?_)
    have := hQ x' e' S' w' K' m' a' q1 q2 q3 q4
    cases x' <;> exact this
  | _ => intro R e S k r Q w K m a X B ht he; simp [exec] at he
end
end Go.Lite
