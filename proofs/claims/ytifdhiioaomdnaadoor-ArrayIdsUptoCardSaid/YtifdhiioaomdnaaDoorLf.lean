import Derived.Test.YtifdhiioaomdnaaDoorLe
import Derived.Shelf.SlGeneric
import Derived.Shelf.Spec.SlicesInsertGrow
set_option linter.unusedVariables false
set_option linter.unusedSimpArgs false

namespace Go.Proofs
open Go Go.Shelf Go.RowKit Go.Lib
variable {P : Program} {ρ : Ren}

/-! # slices.Insert at elements of k cells -/
/-- what the program must lay -/
structure InsLay (P : Program) (ρ : Ren) (k bytes : Nat) (z : Value) : Prop where
  mixed : P.follows .mixedOrders = true
  f22 : Bears P (ρ.f 22) (Body2.n22 ρ)
  x29 : ∃ fn, P.funcs[ρ.f 29]? = some fn ∧ (fn.name == "runtime.NumGoroutine") = false ∧ fn.body.isNone = true ∧ Extern.findNext fn = none ∧ Extern.find fn = some (Extern.SlicesOverlaps.overlaps #[ρ.t 24, ρ.t 24] #[ρ.t 4])
  t0 : P.underlying (ρ.t 0) = some (TypeDesc.tuple #[])
  a0 : ∀ w : World, (isAgg (ρ.t 0)).run P w = .ok false w
  z0 : ∀ w : World, (Go.sizeOf (ρ.t 0)).run P w = .ok 1 w
  v0 : ∀ w : World, (zeroValue (ρ.t 0)).run P w = .ok (Value.tuple #[]) w
  t3 : P.underlying (ρ.t 3) = some (TypeDesc.int IntKind.i64)
  a3 : ∀ w : World, (isAgg (ρ.t 3)).run P w = .ok false w
  z3 : ∀ w : World, (Go.sizeOf (ρ.t 3)).run P w = .ok 1 w
  v3 : ∀ w : World, (zeroValue (ρ.t 3)).run P w = .ok (Value.int IntKind.i64 0) w
  t4 : P.underlying (ρ.t 4) = some TypeDesc.bool
  a4 : ∀ w : World, (isAgg (ρ.t 4)).run P w = .ok false w
  z4 : ∀ w : World, (Go.sizeOf (ρ.t 4)).run P w = .ok 1 w
  v4 : ∀ w : World, (zeroValue (ρ.t 4)).run P w = .ok (Value.bool false) w
  z9 : ∀ w : World, (Go.sizeOf (ρ.t 9)).run P w = .ok k w
  t24 : P.underlying (ρ.t 24) = some (TypeDesc.slice (ρ.t 9))
  a24 : ∀ w : World, (isAgg (ρ.t 24)).run P w = .ok false w
  z24 : ∀ w : World, (Go.sizeOf (ρ.t 24)).run P w = .ok 1 w
  v24 : ∀ w : World, (zeroValue (ρ.t 24)).run P w = .ok (Value.slice none 0 0) w
  i9 : (P.info? (ρ.t 9)).map (fun i => (i.zero, i.size, i.bytes)) = some (some z, k, bytes)
  zk : z.cells.size = k
  k0 : 0 < k

theorem run_copy_cellsK {P : Program} (w : World) (dT sT ty elem : TypeId) (b o dLen dCap : Nat) (a : Addr) (sLen sCap k : Nat) (cs : List Value)
    (hu : P.underlying dT = some (.slice elem)) (hs : (P.info? elem).map (·.size) = some k) (hn : cs.length = Nat.min sLen dLen * k)
    (hsrc : ∀ j v, cs[j]? = some v → w.cell? (a.add j) = some v) (hc : ∀ j, j < cs.length → (w.cell? ⟨b, o + j, none⟩).isSome = true) (hf : ∀ j, j < cs.length → w.frozen? ⟨b, o + j, none⟩ = false) (h1 : ∀ v ∈ cs, v.oneCell' = true) :
    (Builtin.copy_ #[dT, sT] ty #[.slice (some ⟨b, o, none⟩) dLen dCap, .slice (some a) sLen sCap]).run P w = .ok (goInt (Nat.min sLen dLen)) (w.setCells b o cs) := by
  have hl := run_loadCells_list (P := P) w a cs hsrc
  have hst := run_storeCells_cells (P := P) b o cs 0 w (by simpa using hc) (by simpa using hf) h1
  cases hq : P.info? elem with
  | none => simp [hq] at hs
  | some i =>
    have hi : i.size = k := by simpa [hq] using hs
    simp [Builtin.copy_, run_underlying hu, Builtin.lenOf, Builtin.firstCells, sizeOf, typeInfo, hq, hi, ← hn, hl, hst]

/-- two blocks, the one of which bears no mark -/
theorem run_overlaps_own {P : Program} (w : World) (tS tR e : TypeId) (ht : P.underlying tS = some (.slice e)) (size : Nat) (hz : ∀ w, (Go.sizeOf e).run P w = .ok size w)
    (a b : Addr) (la ca lb cb : Nat) (hne : a.block ≠ b.block) (tA tB : TypeId) (kA kB : Nat)
    (hsa : w.shape? a.block = some (tA, kA)) (hkA : kA ≠ 0) (hsb : w.shape? b.block = some (tB, kB)) (hkB : kB ≠ 0)
    (hfb : w.frozen? b = false) (hfe : w.frozen? { block := b.block, off := kB } = false) :
    (Extern.SlicesOverlaps.overlaps #[tS, tS] #[tR] #[.slice (some a) la ca, .slice (some b) lb cb]).run P w = .ok (.bool false) w := by
  have hnb : (a.block != b.block) = true := by simpa using hne
  have hnb' : (a.block == b.block) = false := by simpa using hne
  change Sem.run P (α := Value) (do
    let some t := (#[tS, tS] : Array TypeId)[0]? | stuck "slices.overlaps: no parameter types"
    let .slice elem ← underlying t | stuck "slices.overlaps: slice type expected"
    let size ← sizeOf elem
    match (some a : Option Addr), (some b : Option Addr) with
    | some a, some b =>
      if la = 0 ∨ lb = 0 ∨ size = 0 then pure (Value.bool false)
      else if a.block != b.block && (← frozen a) && (← frozen b) then unsupported .addressObserved
      else do
        if a.block != b.block then do
          noView a; noView b
          if ← mayBeOne a b then return Value.bool ((← choose (.extern "sameAddr.stringBytes" 2)) == 1)
        pure (Value.bool (a.block == b.block && a.off < b.off + lb * size && b.off < a.off + la * size))
    | _, _ => pure (Value.bool false)) w = _
  by_cases h0 : la = 0 ∨ lb = 0 ∨ size = 0
  · simp [run_underlying ht, hz, h0]
  · cases kB with
    | zero => exact absurd rfl hkB
    | succ kB =>
      cases kA with
      | zero => exact absurd rfl hkA
      | succ kA =>
        cases hfa : w.frozen? a <;> cases hfa2 : w.frozen? { block := a.block, off := kA + 1 } <;>
          simp [run_underlying ht, hz, h0, hnb, hnb', frozen, noView, viewAt, mayBeOne, stringish, shape, Sem.run, hsa, hsb, hfb, hfe, hfa, hfa2]

theorem frozen_setCells (b o : Nat) (vs : List Value) (w : World) (x : Addr) : (w.setCells b o vs).frozen? x = w.frozen? x := World.frozen?_setCells ..

set_option maxHeartbeats 4000000 in
set_option maxRecDepth 100000 in
/-- THERE IS ROOM, i < len(s): in place. -/
theorem insK_shift {k bytes : Nat} {z : Value} (L : InsLay P ρ k bytes z) (b off n c i vb voff m vc : Nat) (cs vs : List Value) (w : World) (hi : i < n) (hm : 0 < m) (hroom : n + m ≤ c) (hc63 : n + m ≤ 9223372036854775807) (hvb : vb ≠ b)
    (hcl : cs.length = n * k) (hvl : vs.length = m * k)
    (hcs : ∀ j v, cs[j]? = some v → w.cell? ⟨b, off + j, none⟩ = some v) (hsp : ∀ j, j < (n + m) * k → (w.cell? ⟨b, off + j, none⟩).isSome = true) (hfz : ∀ o, w.frozen? ⟨b, o, none⟩ = false)
    (hvs : ∀ j v, vs[j]? = some v → w.cell? ⟨vb, voff + j, none⟩ = some v) (h1c : ∀ v ∈ cs, v.oneCell' = true) (h1v : ∀ v ∈ vs, v.oneCell' = true)
    (tA tB : TypeId) (kA kB : Nat) (hsa : w.shape? vb = some (tA, kA)) (hkA : kA ≠ 0) (hsb : w.shape? b = some (tB, kB)) (hkB : kB ≠ 0) :
    Calls P (ρ.f 22) #[.slice (some ⟨b, off, none⟩) n c, .int .i64 i, .slice (some ⟨vb, voff, none⟩) m vc] w fun e w' =>
      e = .returned (.slice (some ⟨b, off, none⟩) (n + m) c) ∧ w' = (w.drew.setCells b (off + (i + m) * k) (cs.drop (i * k))).setCells b (off + i * k) vs := by
  have t0 := L.t0; have a0 := L.a0; have z0 := L.z0; have v0 := L.v0; have t3 := L.t3; have a3 := L.a3; have z3 := L.z3; have v3 := L.v3; have t4 := L.t4; have a4 := L.a4; have z4 := L.z4; have v4 := L.v4; have z9 := L.z9; have t24 := L.t24; have a24 := L.a24; have z24 := L.z24; have v24 := L.v24
  have u0 := run_underlying L.t0; have u3 := run_underlying L.t3; have u4 := run_underlying L.t4; have u24 := run_underlying L.t24
  have hk0 := L.k0
  have hz1 : ¬ ((m : Int) = 0) := by omega
  have hz2 : ¬ ((i : Int) = (n : Int)) := by omega
  have hsz : (P.info? (ρ.t 9)).map (·.size) = some k := by
    obtain ⟨i0, hi0, h0, h1, h2⟩ := info_parts L.i9
    rw [hi0]; simp [h1]
  have hov : ∀ lb cb, (callFunc (ρ.f 29) #[.slice (some ⟨vb, voff, none⟩) m vc, .slice (some ⟨b, off + (i + m) * k, none⟩) lb cb]).run P w = .ok (.value (.bool false)) w := fun lb cb => by
    obtain ⟨fn, e1, e2, e3, e4, e5⟩ := L.x29
    rw [run_callFunc_extern e1 e2 e3 e4 e5,
      run_overlaps_own w (ρ.t 24) (ρ.t 4) (ρ.t 9) L.t24 k L.z9 ⟨vb, voff, none⟩ ⟨b, off + (i + m) * k, none⟩ m vc lb cb hvb tA tB kA kB hsa hkA hsb hkB (hfz _) (hfz _)]
    rfl
  have hdl : (cs.drop (i * k)).length = (n - i) * k := by rw [List.length_drop, hcl, Nat.sub_mul]
  have mixed := L.mixed
  have hw1 : IntKind.i64.wrap ((i : Int) + (m : Int)) = (i : Int) + (m : Int) := by rw [IntKind.wrap_i64]; omega
  have hb1 : (0 : Int) ≤ (i : Int) + (m : Int) := by omega
  have hin : i ≤ n := by omega
  have htn : ((i : Int) + (m : Int)).toNat = i + m := by omega
  have hb2 : ¬ (c = i + m) := by omega
  have hb3 : (i : Int) ≤ (n : Int) + (m : Int) := by omega
  have hb4 : ¬ (c = i) := by omega
  have hle1 : (i + m) * k + (n - i) * k = (n + m) * k := by rw [← Nat.add_mul]; congr 1; omega
  have hle2 : i * k + m * k ≤ (n + m) * k := by rw [← Nat.add_mul]; exact Nat.mul_le_mul_right _ (by omega)
  have hmn1 : Nat.min (n + m - i) (n + m - (i + m)) = n - i := by simp only [Nat.min_def]; split <;> omega
  have hmn2 : Nat.min m (n + m - i) = m := by simp only [Nat.min_def]; split <;> omega
  have hcp1 : ∀ ty dc sc, (Builtin.copy_ #[(ρ.t 24), (ρ.t 24)] ty #[.slice (some ⟨b, off + (i + m) * k, none⟩) (n + m - (i + m)) dc, .slice (some ⟨b, off + i * k, none⟩) (n + m - i) sc]).run P w.drew = .ok (goInt (n - i : Nat)) (w.drew.setCells b (off + (i + m) * k) (cs.drop (i * k))) := fun ty dc sc => by
    have := run_copy_cellsK w.drew (ρ.t 24) (ρ.t 24) ty (ρ.t 9) b (off + (i + m) * k) (n + m - (i + m)) dc ⟨b, off + i * k, none⟩ (n + m - i) sc k (cs.drop (i * k)) L.t24 hsz (by rw [hdl, hmn1])
      (fun j v hj => by rw [Addr.add_lit, Nat.add_assoc]; exact hcs (i * k + j) v (by rwa [List.getElem?_drop] at hj))
      (fun j hj => by rw [Nat.add_assoc]; exact hsp _ (by omega)) (fun j hj => hfz _) (fun v hv => h1c v (List.mem_of_mem_drop hv))
    rw [hmn1] at this; exact this
  obtain ⟨W1, hW1⟩ : ∃ W1, W1 = w.drew.setCells b (off + (i + m) * k) (cs.drop (i * k)) := ⟨_, rfl⟩
  have hsp1 : ∀ j, j < (n + m) * k → (W1.cell? ⟨b, off + j, none⟩).isSome = true := fun j hj => by
    rw [hW1]
    exact isSome_setCells b _ _ _ (fun t ht => by rw [Nat.add_assoc]; exact hsp _ (by omega)) _ (hsp j hj)
  have hcp2 : ∀ (W : World), (∀ x, W.cell? x = W1.cell? x) → (∀ x, W.frozen? x = W1.frozen? x) → ∀ ty dc, (Builtin.copy_ #[(ρ.t 24), (ρ.t 24)] ty #[.slice (some ⟨b, off + i * k, none⟩) (n + m - i) dc, .slice (some ⟨vb, voff, none⟩) m vc]).run P W = .ok (goInt m) (W.setCells b (off + i * k) vs) := fun W hWc hWf ty dc => by
    have := run_copy_cellsK W (ρ.t 24) (ρ.t 24) ty (ρ.t 9) b (off + i * k) (n + m - i) dc ⟨vb, voff, none⟩ m vc k vs L.t24 hsz (by rw [hvl, hmn2])
      (fun j v hj => by
        rw [Addr.add_lit, hWc, hW1, World.cell?_setCells_out b _ _ _ _ (fun h _ => absurd h hvb)]
        exact hvs j v hj)
      (fun j hj => by rw [hWc, Nat.add_assoc]; exact hsp1 _ (by omega)) (fun j hj => by rw [hWf, hW1, World.frozen?_setCells]; exact hfz _) h1v
    rw [hmn2] at this; exact this
  rw [← hW1] at hcp1
  obtain ⟨_, _, F22⟩ := L.f22
  go_enter F22, Body2.n22_ntmps ρ
  go_wp2_with (simp only [hov])
  go_region_law_o (refine step_copy_runI rfl _ _ (ρ.t 24) (ρ.t 24) rfl _ _ (by simp [Act.eval, Act.put]) (by simp [Act.eval, Act.put]) (hcp1 _ _ _) ?_)
  go_wp2_with (at_builtin; refine wpList_copy_runI _ rfl _ _ (ρ.t 24) (ρ.t 24) rfl _ _ rfl rfl (hcp2 _ (fun _ => rfl) (fun _ => rfl) _ _) ?_)
  go_ret
  first | exact ⟨rfl, rfl⟩ | exact ⟨rfl, by rw [hW1]⟩

set_option maxHeartbeats 4000000 in
set_option maxRecDepth 100000 in
/-- nothing is put in -/
theorem insK_none {k bytes : Nat} {z : Value} (L : InsLay P ρ k bytes z) (base vb : Option Addr) (n c i vc : Nat) (w : World) (hin : i ≤ n) (hnc : n ≤ c) :
    Calls P (ρ.f 22) #[.slice base n c, .int .i64 i, .slice vb 0 vc] w fun e w' => e = .returned (.slice base n c) ∧ w' = w := by
  have t0 := L.t0; have a0 := L.a0; have z0 := L.z0; have v0 := L.v0; have t3 := L.t3; have a3 := L.a3; have z3 := L.z3; have v3 := L.v3; have t4 := L.t4; have a4 := L.a4; have z4 := L.z4; have v4 := L.v4; have z9 := L.z9; have t24 := L.t24; have a24 := L.a24; have z24 := L.z24; have v24 := L.v24
  have u0 := run_underlying L.t0; have u3 := run_underlying L.t3; have u4 := run_underlying L.t4; have u24 := run_underlying L.t24
  have hk0 := L.k0
  have mixed := L.mixed
  have hb3 : (i : Int) ≤ (n : Int) := by omega
  obtain ⟨_, _, F22⟩ := L.f22
  go_enter F22, Body2.n22_ntmps ρ
  go_wp2
  all_goals go_ret
  all_goals exact ⟨rfl, rfl⟩

set_option maxHeartbeats 4000000 in
set_option maxRecDepth 100000 in
/-- AT THE END, THERE IS ROOM: in place: the spare cells behind the elements take v. -/
theorem insK_end_room {k bytes : Nat} {z : Value} (L : InsLay P ρ k bytes z) (b off n c vb voff m vc : Nat) (vs : List Value) (w : World) (hm : 0 < m) (hroom : n + m ≤ c)
    (hvl : vs.length = m * k) (hsp : ∀ j, j < m * k → (w.cell? ⟨b, off + n * k + j, none⟩).isSome = true) (hfz : ∀ o, w.frozen? ⟨b, o, none⟩ = false)
    (hvs : ∀ j v, vs[j]? = some v → w.cell? ⟨vb, voff + j, none⟩ = some v) (h1v : ∀ v ∈ vs, v.oneCell' = true) :
    Calls P (ρ.f 22) #[.slice (some ⟨b, off, none⟩) n c, .int .i64 n, .slice (some ⟨vb, voff, none⟩) m vc] w fun e w' =>
      e = .returned (.slice (some ⟨b, off, none⟩) (n + m) c) ∧ w' = w.setCells b (off + n * k) vs := by
  have t0 := L.t0; have a0 := L.a0; have z0 := L.z0; have v0 := L.v0; have t3 := L.t3; have a3 := L.a3; have z3 := L.z3; have v3 := L.v3; have t4 := L.t4; have a4 := L.a4; have z4 := L.z4; have v4 := L.v4; have z9 := L.z9; have t24 := L.t24; have a24 := L.a24; have z24 := L.z24; have v24 := L.v24
  have u0 := run_underlying L.t0; have u3 := run_underlying L.t3; have u4 := run_underlying L.t4; have u24 := run_underlying L.t24
  have hk0 := L.k0
  have mixed := L.mixed
  have hz1 : ¬ ((m : Int) = 0) := by omega
  obtain ⟨i0, hi0, hz0, hzs, hzb⟩ := info_parts L.i9
  have hld : (loadCells ⟨vb, voff, none⟩ (m * k)).run P w = .ok vs.toArray w := by
    rw [← hvl]; exact run_loadCells_list (P := P) w ⟨vb, voff, none⟩ vs (fun j v hj => by rw [Addr.add_lit]; exact hvs j v hj)
  have hst := run_storeCells_cells (P := P) b (off + n * k) vs 0 w (by simpa [hvl] using hsp) (fun j _ => hfz _) h1v
  have hrz : ∀ ty, (Builtin.append_ #[(ρ.t 24), (ρ.t 24)] ty #[.slice (some ⟨b, off, none⟩) n c, .slice (some ⟨vb, voff, none⟩) m vc]).run P w = .ok (.slice (some ⟨b, off, none⟩) (n + m) c) (w.setCells b (off + n * k) vs) := fun ty => by
    refine Go.Lite.append_room (P := P) L.t24 L.t24 hi0 (news := vs.toArray) ?_ hroom (fun a ha => ?_) (fun h => by cases h)
    · rw [hzs]; simpa [Builtin.firstCells] using hld
    · simp only [Option.some.injEq] at ha; subst ha
      rw [hzs, Addr.add_lit]; simpa using hst
  obtain ⟨_, _, F22⟩ := L.f22
  go_enter F22, Body2.n22_ntmps ρ
  go_wp2_with (at_builtin; refine Lib.wpList_append_run _ rfl _ _ _ _ rfl _ _ rfl rfl _ _ (hrz _) ?_)
  go_ret
  exact ⟨rfl, rfl⟩

set_option maxHeartbeats 4000000 in
set_option maxRecDepth 100000 in
/-- AT THE END, NO ROOM (the nil slice among these): A NEW ROW. -/
theorem insK_end_grow {k bytes : Nat} {z : Value} (L : InsLay P ρ k bytes z) (base : Option Addr) (n c vb voff m vc : Nat) (cs vs : List Value) (w : World) (hm : 0 < m) (hnc : n ≤ c) (hroom : c < n + m) (hby : 0 < bytes) (hbig : (n + m) * bytes ≤ 140737488355328)
    (hcl : cs.length = n * k) (hvl : vs.length = m * k) (hnil : base = none → n = 0)
    (hcs : ∀ a, base = some a → ∀ j v, cs[j]? = some v → w.cell? (a.add j) = some v)
    (hvs : ∀ j v, vs[j]? = some v → w.cell? ⟨vb, voff + j, none⟩ = some v) :
    Calls P (ρ.f 22) #[.slice base n c, .int .i64 n, .slice (some ⟨vb, voff, none⟩) m vc] w fun e w' =>
      e = .returned (.slice (some ⟨w.heap.size, 0, none⟩) (n + m) (grownCap w (n + m) c (ρ.t 9))) ∧
      w' = w.drew.alloc (.cells ((cs ++ vs).toArray ++ Builtin.zeroCells z.cells (grownCap w (n + m) c (ρ.t 9) - (n + m))) (ρ.t 9)) := by
  have t0 := L.t0; have a0 := L.a0; have z0 := L.z0; have v0 := L.v0; have t3 := L.t3; have a3 := L.a3; have z3 := L.z3; have v3 := L.v3; have t4 := L.t4; have a4 := L.a4; have z4 := L.z4; have v4 := L.v4; have z9 := L.z9; have t24 := L.t24; have a24 := L.a24; have z24 := L.z24; have v24 := L.v24
  have u0 := run_underlying L.t0; have u3 := run_underlying L.t3; have u4 := run_underlying L.t4; have u24 := run_underlying L.t24
  have hk0 := L.k0
  have mixed := L.mixed
  have hz1 : ¬ ((m : Int) = 0) := by omega
  obtain ⟨i0, hi0, hz0, hzs, hzb⟩ := info_parts L.i9
  have hld : (Builtin.firstCells i0.size m (.slice (some ⟨vb, voff, none⟩) m vc)).run P w.drew = .ok vs.toArray w.drew := by
    rw [hzs]
    exact run_firstCells_some w.drew k m ⟨vb, voff, none⟩ m vc vs (by rw [hvl]) (fun j v hj => by rw [Addr.add_lit]; exact hvs j v hj)
  have hold : (Builtin.firstCells i0.size n (.slice base n c)).run P w.drew = .ok cs.toArray w.drew := by
    cases base with
    | none =>
      have := hnil rfl; subst this
      have : cs = [] := by simpa using hcl
      subst this; simp [Builtin.firstCells]
    | some a =>
      rw [hzs]
      exact run_firstCells_some w.drew k n a n c cs (by rw [hcl]) (fun j v hj => hcs a rfl j v hj)
  have hrz : ∀ ty, (Builtin.append_ #[(ρ.t 24), (ρ.t 24)] ty #[.slice base n c, .slice (some ⟨vb, voff, none⟩) m vc]).run P w =
      .ok (.slice (some ⟨w.heap.size, 0, none⟩) (n + m) (grownCap w (n + m) c (ρ.t 9))) (w.drew.alloc (.cells ((cs ++ vs).toArray ++ Builtin.zeroCells z.cells (grownCap w (n + m) c (ρ.t 9) - (n + m))) (ρ.t 9))) := fun ty => by
    have h := Go.Lite.append_grow (P := P) (w := w) (ty := ty) L.t24 L.t24 hi0 hz0 hold hld hroom (by rw [hzb]; exact hby) (by rw [hzb]; exact hbig)
    rw [h]; simp
  clear hold hld
  obtain ⟨ROW, hROW⟩ : ∃ ROW : Array Value, ROW = (cs ++ vs).toArray ++ Builtin.zeroCells z.cells (grownCap w (n + m) c (ρ.t 9) - (n + m)) := ⟨_, rfl⟩
  rw [← hROW] at hrz ⊢
  clear hROW
  obtain ⟨_, _, F22⟩ := L.f22
  go_enter F22, Body2.n22_ntmps ρ
  go_wp2_with (at_builtin; refine Lib.wpList_append_run _ rfl _ _ _ _ rfl _ _ rfl rfl _ _ (hrz _) ?_)
  all_goals go_ret
  all_goals exact ⟨rfl, rfl⟩
end Go.Proofs

namespace Go.Proofs
open Go Go.Shelf Go.RowKit Go.Lib
variable {P : Program} {ρ : Ren}

set_option maxHeartbeats 4000000 in
set_option maxRecDepth 100000 in
/-- i < len(s) AND NO ROOM: A NEW ROW: what stood ahead of i, v, what stood from i on, then zero values. -/
theorem insK_grow {k bytes : Nat} {z : Value} (L : InsLay P ρ k bytes z) (b off n c i vb voff m vc : Nat) (cs vs : List Value) (w : World) (hi : i < n) (hm : 0 < m) (hnc : n ≤ c) (hroom : c < n + m) (hby : 0 < bytes) (hbig : (n + m) * bytes ≤ 140737488355328)
    (hcl : cs.length = n * k) (hvl : vs.length = m * k)
    (hcs : ∀ j v, cs[j]? = some v → w.cell? ⟨b, off + j, none⟩ = some v)
    (hvs : ∀ j v, vs[j]? = some v → w.cell? ⟨vb, voff + j, none⟩ = some v) (h1c : ∀ v ∈ cs, v.oneCell' = true) (h1v : ∀ v ∈ vs, v.oneCell' = true) :
    Calls P (ρ.f 22) #[.slice (some ⟨b, off, none⟩) n c, .int .i64 i, .slice (some ⟨vb, voff, none⟩) m vc] w fun e w' =>
      e = .returned (.slice (some ⟨w.heap.size, 0, none⟩) (n + m) (grownCap w (n + m) c (ρ.t 9))) ∧
      ∃ ROW : Array Value, ROW.size = grownCap w (n + m) c (ρ.t 9) * k ∧ (∀ j, j < i * k → ROW[j]? = cs[j]?) ∧
      w' = (((w.alloc (.cells ROW (ρ.t 9))).drew.setCells w.heap.size (i * k) vs).drew).setCells w.heap.size ((i + m) * k) (cs.drop (i * k)) := by
  have t0 := L.t0; have a0 := L.a0; have z0 := L.z0; have v0 := L.v0; have t3 := L.t3; have a3 := L.a3; have z3 := L.z3; have v3 := L.v3; have t4 := L.t4; have a4 := L.a4; have z4 := L.z4; have v4 := L.v4; have z9 := L.z9; have t24 := L.t24; have a24 := L.a24; have z24 := L.z24; have v24 := L.v24
  have u0 := run_underlying L.t0; have u3 := run_underlying L.t3; have u4 := run_underlying L.t4; have u24 := run_underlying L.t24
  have hk0 := L.k0
  have mixed := L.mixed
  obtain ⟨i0, hi0, hz0, hzs, hzb⟩ := info_parts L.i9
  have hz1 : ¬ ((m : Int) = 0) := by omega
  have hz2 : ¬ ((i : Int) = (n : Int)) := by omega
  have hz3 : (c : Int) < (n : Int) + (m : Int) := by omega
  have hsz : (P.info? (ρ.t 9)).map (·.size) = some k := by rw [hi0]; simp [hzs]
  have hnk : 0 < n * k := Nat.mul_pos (by omega) hk0
  have hmk : 0 < m * k := Nat.mul_pos hm hk0
  have hbw : b < w.heap.size := block_lt_of_cell (hcs 0 _ (List.getElem?_eq_getElem (by omega)))
  have hvw : vb < w.heap.size := block_lt_of_cell (hvs 0 _ (List.getElem?_eq_getElem (by omega)))
  have hkk : (n : Int) + (m : Int) - (i : Int) = ((n + m - i : Nat) : Int) := by omega
  have hik : i + (n + m - i) = n + m := by omega
  have hikn : i * k ≤ n * k := Nat.mul_le_mul_right _ (by omega)
  have hold : (Builtin.firstCells i0.size i (.slice (some ⟨b, off, none⟩) i c)).run P w.drew = .ok (cs.take (i * k)).toArray w.drew := by
    rw [hzs]
    exact run_firstCells_some w.drew k i ⟨b, off, none⟩ i c (cs.take (i * k)) (by rw [List.length_take]; omega) (fun j v hj => by
      rw [Addr.add_lit]
      rw [List.getElem?_take] at hj
      split at hj
      · exact hcs j v hj
      · cases hj)
  have hfit := growslice_fits hroom hbig
  have hmul : (n + m - i) * bytes ≤ (n + m) * bytes := Nat.mul_le_mul_right _ (by omega)
  have hn63 : n + m ≤ 140737488355328 := Nat.le_trans (Nat.le_mul_of_pos_right _ hby) hbig
  have hrz : ∀ ty, (Builtin.append_ #[(ρ.t 24), (ρ.t 3)] ty #[.slice (some ⟨b, off, none⟩) i c, .int .i64 ((n : Int) + (m : Int) - (i : Int))]).run P w =
      .ok (.slice (some ⟨w.heap.size, 0, none⟩) (n + m) (grownCap w (n + m) c (ρ.t 9))) (w.drew.alloc (.cells ((cs.take (i * k)).toArray ++ Builtin.zeroCells z.cells (n + m - i) ++ Builtin.zeroCells z.cells (grownCap w (n + m) c (ρ.t 9) - (n + m))) (ρ.t 9))) := fun ty => by
    have h := Lib.run_append_grow_zeros w (ρ.t 24) (ρ.t 3) ty (ρ.t 9) i0 _ .i64 .i64 L.t24 L.t3 hi0 hz0 (some ⟨b, off, none⟩) i c (cs.take (i * k)) hold (n + m - i) (by omega) (by rw [hzs]; exact hk0) (by omega) (by omega) (by rw [hzb]; omega) (by rw [hzb, hik]; exact hfit)
    rw [hik] at h
    rw [hkk]
    exact h
  obtain ⟨G, hG⟩ : ∃ G, G = grownCap w (n + m) c (ρ.t 9) := ⟨_, rfl⟩
  have hGn : n + m ≤ G := by rw [hG]; exact grownCap_ge w _ _ _
  obtain ⟨ROW, hROW⟩ : ∃ ROW : Array Value, ROW = (cs.take (i * k)).toArray ++ Builtin.zeroCells z.cells (n + m - i) ++ Builtin.zeroCells z.cells (G - (n + m)) := ⟨_, rfl⟩
  rw [← hG] at hrz ⊢
  rw [← hROW] at hrz
  have hRs : ROW.size = G * k := by
    rw [hROW]
    simp only [Array.size_append, List.size_toArray, List.length_take, Builtin.zeroCells, Array.size_map, Array.size_range, L.zk]
    have e1 : min (i * k) cs.length = i * k := by omega
    rw [e1, ← Nat.add_mul, ← Nat.add_mul]; congr 1; omega
  have hRp : ∀ j, j < i * k → ROW[j]? = cs[j]? := fun j hj => by
    rw [hROW, Array.append_assoc, Array.getElem?_append_left (by simp; omega)]
    simp [List.getElem?_take, hj]
  have hnmG : (n + m) * k ≤ G * k := Nat.mul_le_mul_right _ hGn
  have hRl : (n + m) * k ≤ ROW.size := by rw [hRs]; exact hnmG
  obtain ⟨W1, hW1⟩ : ∃ W1, W1 = w.drew.alloc (.cells ROW (ρ.t 9)) := ⟨_, rfl⟩
  rw [← hW1] at hrz
  have hN : ∀ j, j < (n + m) * k → (W1.cell? ⟨w.heap.size, j, none⟩).isSome = true := fun j hj => by
    rw [hW1, World.cell?_alloc_at (w := w.drew) ROW _ w.heap.size j rfl, Array.getElem?_eq_getElem (by omega)]; rfl
  have hNf : ∀ j, W1.frozen? ⟨w.heap.size, j, none⟩ = false := fun j => by rw [hW1]; exact World.frozen?_alloc_at (w := w.drew) ROW _ w.heap.size j rfl
  have hOb : ∀ j v, w.cell? ⟨b, j, none⟩ = some v → W1.cell? ⟨b, j, none⟩ = some v := fun j v h => by rw [hW1, World.cell?_alloc_past (w := w.drew) _ b j hbw]; exact h
  have hOv : ∀ j v, w.cell? ⟨vb, j, none⟩ = some v → W1.cell? ⟨vb, j, none⟩ = some v := fun j v h => by rw [hW1, World.cell?_alloc_past (w := w.drew) _ vb j hvw]; exact h
  have hle2 : i * k + m * k ≤ (n + m) * k := by rw [← Nat.add_mul]; exact Nat.mul_le_mul_right _ (by omega)
  have hle1 : (i + m) * k + (n - i) * k = (n + m) * k := by rw [← Nat.add_mul]; congr 1; omega
  have hmnA : Nat.min m (n + m - i) = m := by simp only [Nat.min_def]; split <;> omega
  have hmnB : Nat.min (n - i) (n + m - (i + m)) = n - i := by simp only [Nat.min_def]; split <;> omega
  have hcpA : ∀ (W : World), (∀ x, W.cell? x = W1.cell? x) → (∀ x, W.frozen? x = W1.frozen? x) → ∀ ty dc, (Builtin.copy_ #[(ρ.t 24), (ρ.t 24)] ty #[.slice (some ⟨w.heap.size, i * k, none⟩) (n + m - i) dc, .slice (some ⟨vb, voff, none⟩) m vc]).run P W = .ok (goInt m) (W.setCells w.heap.size (i * k) vs) := fun W hWc hWf ty dc => by
    have := run_copy_cellsK W (ρ.t 24) (ρ.t 24) ty (ρ.t 9) w.heap.size (i * k) (n + m - i) dc ⟨vb, voff, none⟩ m vc k vs L.t24 hsz (by rw [hvl, hmnA])
      (fun j v hj => by rw [Addr.add_lit, hWc]; exact hOv _ v (hvs j v hj))
      (fun j hj => by rw [hWc]; exact hN _ (by omega)) (fun j hj => by rw [hWf]; exact hNf _) h1v
    rw [hmnA] at this; exact this
  have hG63 : G ≤ 9223372036854775807 := by
    have := grownCap_le_maxLen w (n + m) c (ρ.t 9) (by unfold maxLen; omega)
    rw [← hG] at this
    unfold maxLen at this
    omega
  have hGi : ¬ (G = i) := by omega
  have hGim : ¬ (G = i + m) := by omega
  have hci : ¬ (c = i) := by omega
  have hbN : b ≠ w.heap.size := by omega
  have hdl : (cs.drop (i * k)).length = (n - i) * k := by rw [List.length_drop, hcl, Nat.sub_mul]
  have hcpB : ∀ (W : World), (∀ x, W.cell? x = (W1.setCells w.heap.size (i * k) vs).cell? x) → (∀ x, W.frozen? x = (W1.setCells w.heap.size (i * k) vs).frozen? x) → ∀ ty dc sc, (Builtin.copy_ #[(ρ.t 24), (ρ.t 24)] ty #[.slice (some ⟨w.heap.size, (i + m) * k, none⟩) (n + m - (i + m)) dc, .slice (some ⟨b, off + i * k, none⟩) (n - i) sc]).run P W = .ok (goInt (n - i : Nat)) (W.setCells w.heap.size ((i + m) * k) (cs.drop (i * k))) := fun W hWc hWf ty dc sc => by
    have := run_copy_cellsK W (ρ.t 24) (ρ.t 24) ty (ρ.t 9) w.heap.size ((i + m) * k) (n + m - (i + m)) dc ⟨b, off + i * k, none⟩ (n - i) sc k (cs.drop (i * k)) L.t24 hsz (by rw [hdl, hmnB])
      (fun j v hj => by
        rw [Addr.add_lit, hWc, World.cell?_setCells_out _ _ _ _ _ (fun h _ => absurd h hbN), Nat.add_assoc]
        exact hOb _ v (hcs (i * k + j) v (by rwa [List.getElem?_drop] at hj)))
      (fun j hj => by rw [hWc]; exact isSome_setCells _ _ _ _ (fun t ht => hN _ (by omega)) _ (hN _ (by omega)))
      (fun j hj => by rw [hWf, World.frozen?_setCells]; exact hNf _) (fun v hv => h1c v (List.mem_of_mem_drop hv))
    rw [hmnB] at this; exact this
  subst hW1
  have hE1 : ∀ x, ((w.alloc (.cells ROW (ρ.t 9))).drew).cell? x = (w.drew.alloc (.cells ROW (ρ.t 9))).cell? x := fun x => rfl
  have hE2 : ∀ x, ((w.alloc (.cells ROW (ρ.t 9))).drew).frozen? x = (w.drew.alloc (.cells ROW (ρ.t 9))).frozen? x := fun x => rfl
  have hF1 : ∀ x, (((w.alloc (.cells ROW (ρ.t 9))).drew.setCells w.heap.size (i * k) vs).drew).cell? x = ((w.drew.alloc (.cells ROW (ρ.t 9))).setCells w.heap.size (i * k) vs).cell? x := fun x => rfl
  have hF2 : ∀ x, (((w.alloc (.cells ROW (ρ.t 9))).drew.setCells w.heap.size (i * k) vs).drew).frozen? x = ((w.drew.alloc (.cells ROW (ρ.t 9))).setCells w.heap.size (i * k) vs).frozen? x := fun x => rfl
  have hw1 : IntKind.i64.wrap ((i : Int) + (m : Int)) = (i : Int) + (m : Int) := by rw [IntKind.wrap_i64]; omega
  have hb1 : (0 : Int) ≤ (i : Int) + (m : Int) := by omega
  have hin : i ≤ n := by omega
  have htn : ((i : Int) + (m : Int)).toNat = i + m := by omega
  have hb3 : (i : Int) ≤ (n : Int) := by omega
  clear hkk hik hold hROW hG hRl hfit hmul hN hNf hOb hOv hnmG
  refine Calls.mono (R := fun e w' => e = .returned (.slice (some ⟨w.heap.size, 0, none⟩) (n + m) G) ∧ w' = (((w.alloc (.cells ROW (ρ.t 9))).drew.setCells w.heap.size (i * k) vs).drew).setCells w.heap.size ((i + m) * k) (cs.drop (i * k))) ?_ fun e w' h => ⟨h.1, ROW, hRs, hRp, h.2⟩
  clear hRs hRp
  obtain ⟨_, _, F22⟩ := L.f22
  go_enter F22, Body2.n22_ntmps ρ
  go_wp2_with (first
    | (at_builtin; refine Lib.wpList_append_run _ rfl _ _ _ _ rfl _ _ rfl rfl _ _ (hrz _) ?_)
    | (at_builtin; refine wpList_copy_runI _ rfl _ _ (ρ.t 24) (ρ.t 24) rfl _ _ rfl rfl (hcpA _ hE1 hE2 _ _) ?_)
    | (at_builtin; refine wpList_copy_runI _ rfl _ _ (ρ.t 24) (ρ.t 24) rfl _ _ rfl rfl (hcpB _ (fun _ => rfl) (fun _ => rfl) _ _ _) ?_))
  go_region_law_o (refine step_copy_runI rfl _ _ (ρ.t 24) (ρ.t 24) rfl (.slice (some ⟨w.heap.size, (i + m) * k, none⟩) (n + m - (i + m)) (G - (i + m))) (.slice (some ⟨b, off + i * k, none⟩) (n - i) (c - i)) (by simp [Act.eval, Act.put]) (by simp [Act.eval, Act.put]) (hcpB _ hF1 hF2 (ρ.t 3) (G - (i + m)) (c - i)) ?_)
  go_wp2
  go_ret
  exact ⟨rfl, rfl⟩
end Go.Proofs

namespace Go.Lite
open Go Go.Proofs
open Go.RowKit (Below)

/-! # slices.Insert, as an own function -/
theorem setCells_block (b : Nat) : ∀ (vs : List Value) (o : Nat) (w : World) (cs : Array Value) (ty : TypeId) (fr : Nat × Nat), w.heap[b]? = some (.cells cs ty fr) →
    ∃ cs', (w.setCells b o vs).heap[b]? = some (.cells cs' ty fr) ∧ cs'.size = cs.size ∧ Upd b w (w.setCells b o vs)
  | [], _, w, cs, _, _, h => ⟨cs, h, rfl, Upd.refl _ _⟩
  | v :: r, o, w, cs, ty, fr, h => by
    have hb' : (w.setCell ⟨b, o, none⟩ v).heap[b]? = some (.cells (cs.setIfInBounds o v) ty fr) := by
      simp [World.setCell, Array.getElem?_modify, h]
    obtain ⟨cs', h1, h2, h3⟩ := setCells_block b r (o + 1) _ _ ty fr hb'
    exact ⟨cs', h1, by rw [h2]; simp, (Upd.setCell w b o v).trans h3⟩

def oneM (loc : Loc) : Map := fun id => if id = 0 then some loc else none

theorem one_sr_of {X B : Nat} {w : World} {K : Keep} {lay : Nat} {ys : List PV} {loc : Loc} (hob : ObR X w K (oneM loc) (.arr lay true ys) loc) (hmine : ∀ b, loc.block? = some b → B ≤ b ∧ b < w.heap.size)
    (hkeep : ∀ b o, K b o → b < w.heap.size) (hsize : B ≤ w.heap.size) (hlow : Lo X B w) : SR X B w K (oneM loc) [.arr lay true ys] := by
  refine ⟨fun id o l h1 h2 => ?_, fun id id' l l' b h1 h2 _ _ => ?_, fun id l b h1 h2 => ?_, hkeep, hsize, hlow⟩
  · simp only [oneM] at h2
    split at h2
    · rename_i h0; subst h0
      simp only [Option.some.injEq] at h2; subst h2
      simp at h1; subst h1; exact hob
    · cases h2
  · simp only [oneM] at h1 h2
    split at h1
    · split at h2
      · omega
      · cases h2
    · cases h1
  · simp only [oneM] at h1
    split at h1
    · simp only [Option.some.injEq] at h1; subst h1; exact hmine b h2
    · cases h1

theorem one_evo {lay lay' : Nat} {e e' : Bool} {xs ys : List PV} {m m' : Map} (h : xs.length < ys.length) : Evo [.arr lay e xs] [.arr lay' e' ys] m m' := by
  refine ⟨by simp, fun id n hid hn => ?_, fun id hid hn => ?_, fun id hid => ?_⟩ <;> simp only [List.length_cons, List.length_nil] at hid <;> obtain rfl : id = 0 := by omega
  · simp only [alen, List.getElem?_cons_zero, Option.some.injEq] at hn
    exact ⟨ys.length, by simp [alen], by omega, fun h => by omega⟩
  · simp [alen] at hn
  · rfl

/-- the array has grown where it lay -/
theorem grown_here {X B : Nat} {w w1 : World} {K : Keep} {m : Map} {lay b off n' : Nat} {xs ys : List PV} {loc : Loc} (hS : SR X B w K m [.arr lay true xs]) (hm : m 0 = some loc) (ha : loc.a = some ⟨b, off, none⟩) (hown : loc.own = true)
    (hU : Upd b w w1) (hcell : ∃ cs cs' ty fr, w.heap[b]? = some (.cells cs ty fr) ∧ w1.heap[b]? = some (.cells cs' ty fr) ∧ cs'.size = cs.size) (hl : ys.length = n') (hgrow : xs.length < n') (hroom : n' ≤ loc.cap)
    (cvs : List Value) (hcl : cvs.length = ys.length) (hx : ∀ (i : Nat) (y : PV) (cv : Value), ys[i]? = some y → cvs[i]? = some cv → PVR X w K y cv)
    (hr : ∀ (i : Nat) (cv : Value), cvs[i]? = some cv → Row w1 (fun _ _ => True) b (off + i * width lay) lay cv) :
    SR X B w1 K (oneM { loc with len := n' }) [.arr lay true ys] ∧ Fr X B w K [.arr lay true xs] m w1 K [.arr lay true ys] (oneM { loc with len := n' }) := by
  have hob := one_sr hS hm
  have hblk : loc.block? = some b := by simp [Loc.block?, hown, ha]
  obtain ⟨hBb, hblt⟩ := hS.mine 0 loc b hm hblk
  have hnoK : ∀ o, ¬ K b o := by
    generalize hex : (true : Bool) = ex at hob
    cases hob with
    | nilArr hz hl hc ho => rw [hown] at ho; cases ho
    | arr cvs' ha' hz hl' hc hs hx' hr' ho hn =>
      subst hex
      rw [ha] at ha'; simp only [Option.some.injEq, Addr.mk.injEq, and_true] at ha'; obtain ⟨rfl, rfl⟩ := ha'
      intro o hK
      have := ((ho hown).2.2 o hK).1; simp at this
  have hp : Pres X w K w1 := fun b' o v hK hc => by
    have hne : b' ≠ b := by
      rintro rfl
      rcases hK with hK | hK
      · exact hnoK o hK
      · have := hS.low.1; omega
    rw [cell?_of_heap (hU.block _ hne)]; exact hc
  have hob1 : ∀ mm : Map, ObR X w1 K mm (.arr lay true ys) { loc with len := n' } := by
    intro mm
    generalize hex : (true : Bool) = ex at hob
    cases hob with
    | nilArr hz hl hc ho => rw [hown] at ho; cases ho
    | arr cvs' ha' hz hl' hc hs hx' hr' ho hn =>
      subst hex
      rw [ha] at ha'; simp only [Option.some.injEq, Addr.mk.injEq, and_true] at ha'; obtain ⟨rfl, rfl⟩ := ha'
      obtain ⟨⟨cs0, ty0, fr0, hb0, hfit⟩, hu, _⟩ := ho hown
      obtain ⟨cs, cs', ty, fr, hb, hb', hsz⟩ := hcell
      rw [hb] at hb0; simp only [Option.some.injEq, Obj.cells.injEq] at hb0; obtain ⟨rfl, rfl, rfl⟩ := hb0
      exact .arr cvs ha hz hl.symm hroom hcl (fun i x cv h1 h2 => (hx i x cv h1 h2).mono hp (Sub.refl _)) (by simpa using hr) (fun _ => ⟨⟨cs', ty, fr, hb', by simp only; omega⟩, hu.turn hb hb' (unfrozen_same hu.1 hb hb' hsz), fun o hK => absurd hK (hnoK o)⟩) (fun h => by simp [hown] at h)
  have hblk' : Loc.block? { loc with len := n' } = some b := hblk
  refine ⟨one_sr_of (hob1 _) (fun b' hb' => by rw [hblk'] at hb'; simp only [Option.some.injEq] at hb'; subst hb'; rw [hU.size]; exact ⟨hBb, hblt⟩) (fun b' o hK => by rw [hU.size]; exact hS.keep b' o hK) (by rw [hU.size]; exact hS.size) (hS.low.blocks fun b' hb' => hU.block b' (by omega)),
    ⟨hU.below hBb, hp, Sub.refl _, fun _ _ h => .inl h, one_evo (by omega), hU.frm' hm hblk (fun b' ⟨id, l, h1, h2⟩ => ?_) fun _ _ h => .inl h⟩⟩
  simp only [oneM] at h1
  split at h1
  · simp only [Option.some.injEq] at h1; subst h1
    rw [hblk'] at h2; simp only [Option.some.injEq] at h2; subst h2
    exact .inr ⟨0, loc, hm, hblk⟩
  · cases h1

/-- the array has moved to a new row -/
theorem grown_there {X B : Nat} {w w1 : World} {K : Keep} {m : Map} {lay n' cap : Nat} {xs ys : List PV} (hS : SR X B w K m [.arr lay true xs]) (hE : Ext w K w1 K)
    (hcell : ∃ cs ty, w1.heap[w.heap.size]? = some (.cells cs ty (0, 0)) ∧ cap * width lay ≤ cs.size) (hl : ys.length = n') (hgrow : xs.length < n') (hroom : n' ≤ cap)
    (cvs : List Value) (hcl : cvs.length = ys.length) (hx : ∀ (i : Nat) (y : PV) (cv : Value), ys[i]? = some y → cvs[i]? = some cv → PVR X w K y cv)
    (hr : ∀ (i : Nat) (cv : Value), cvs[i]? = some cv → Row w1 (fun _ _ => True) w.heap.size (0 + i * width lay) lay cv) :
    SR X B w1 K (oneM ⟨some ⟨w.heap.size, 0, none⟩, n', cap, width lay, true⟩) [.arr lay true ys] ∧ Fr X B w K [.arr lay true xs] m w1 K [.arr lay true ys] (oneM ⟨some ⟨w.heap.size, 0, none⟩, n', cap, width lay, true⟩) := by
  obtain ⟨cs, ty, hb, hfit⟩ := hcell
  have hlt : w.heap.size < w1.heap.size := by
    rcases Nat.lt_or_ge w.heap.size w1.heap.size with h | h
    · exact h
    · rw [Array.getElem?_eq_none h] at hb; cases hb
  have hfz : ∀ o, w1.frozen? ⟨w.heap.size, o, none⟩ = false := fun o => by simp [World.frozen?, hb]
  have hunf : Unfrozen w1 w.heap.size := ⟨fun o ho => (by rw [hfz o] at ho; cases ho), fun cs2 ty2 fr2 h2 => by rw [hb] at h2; simp only [Option.some.injEq, Obj.cells.injEq] at h2; obtain ⟨_, _, rfl⟩ := h2; exact Nat.le_refl _⟩
  have hob : ∀ mm : Map, ObR X w1 K mm (.arr lay true ys) ⟨some ⟨w.heap.size, 0, none⟩, n', cap, width lay, true⟩ := fun mm =>
    .arr cvs rfl rfl hl.symm hroom hcl (fun i x cv h1 h2 => (hx i x cv h1 h2).ext hE) (by simpa using hr)
      (fun _ => ⟨⟨cs, ty, (0, 0), hb, by simpa using hfit⟩, ⟨hunf, fun _ => hfz⟩,
        fun o hK => absurd (hS.keep _ _ hK) (by omega)⟩) (by simp)
  refine ⟨one_sr_of (hob _) (fun b' hb' => ?_) (fun b' o hK => Nat.lt_of_lt_of_le (hS.keep b' o hK) hE.below.size) (Nat.le_trans hS.size hE.below.size) (hS.low.on (hE.below.mono hS.size)),
    ⟨hE.below.mono hS.size, hE.pres, Sub.refl _, fun _ _ h => .inl h, one_evo (by omega), hE.frm' fun b' ⟨id, l, h1, h2⟩ => ?_⟩⟩
  · simp [Loc.block?] at hb'; subst hb'; exact ⟨hS.size, hlt⟩
  · simp only [oneM] at h1
    split at h1
    · simp only [Option.some.injEq] at h1; subst h1
      simp [Loc.block?] at h2; subst h2
      exact .inl (Nat.le_refl _)
    · cases h1

def InsertsP (P : Program) (g lay bytes : Nat) : Prop := Entered P g ∧ 0 < bytes ∧ ∃ ρ z, InsLay P ρ (width lay) bytes z ∧ ρ.f 22 = g

theorem flat_one {lay : Nat} {cvs : List Value} (h : ∀ (i : Nat) (cv : Value), cvs[i]? = some cv → Lay lay cv) (hw : 0 < width lay) : ∀ v ∈ flat lay cvs, v.oneCell' = true := fun v hv => by
  obtain ⟨k, hk⟩ := List.mem_iff_getElem?.1 hv
  obtain ⟨i, j, cv, hi, hj, _, hvv⟩ := flat_inv (fun i cv hi => (h i cv hi).size) hw hk
  exact (h i cv hi).2 j v hvv

theorem insert_ok {P : Program} {g lay bytes : Nat} (hg : InsertsP P g lay bytes) (cp : FuncId → List PV → Option PV) (os r : List OV) (hq : insertQ lay bytes cp os = some r) (X B : Nat) (w : World) (K : Keep) (m : Map) (vs : Array Value) (hS : SR X B w K m (resO 0 os).2)
    (hd : ∀ id, (resO 0 os).2.length ≤ id → m id = none) (hs : vs.size = (resO 0 os).1.length) (hx : ∀ (i : Nat) (c : AV) (v : Value), (resO 0 os).1[i]? = some c → vs[i]? = some v → VR X w K m c v) :
    Entered P g ∧ Calls P g vs w fun e w' => ∃ v, e = .returned v ∧ ∃ dd S' K' m', finO ⟨[1, 0, 0], 0, [some lay]⟩ os dd S' = some r ∧ Fr X B w K (resO 0 os).2 m w' K' S' m' ∧ SR X B w' K' m' S' ∧ (∀ id, S'.length ≤ id → m' id = none) ∧ VR X w' K' m' dd v := by
  obtain ⟨hent, hby, ρ, z, L, hgf⟩ := hg
  refine ⟨hent, ?_⟩
  unfold insertQ at hq
  split at hq
  case h_2 => cases hq
  rename_i l xs i0 d
  split at hq
  case h_2 => cases hq
  rename_i ys hys
  cases hc : (Nat.beq l lay && (decide (0 ≤ i0) && (decide (i0 ≤ xs.length) && decide ((xs.length + ys.length) * bytes ≤ 140737488355328)))) <;> rw [hc] at hq <;> simp only [cond_true, cond_false, Option.some.injEq, reduceCtorEq] at hq
  simp only [Bool.and_eq_true, decide_eq_true_eq] at hc
  obtain ⟨hb, hi0, hin, hbig⟩ := hc
  have := Nat.eq_of_beq_eq_true hb; subst this
  subst hq
  obtain ⟨i, rfl⟩ : ∃ i : Nat, i0 = i := ⟨i0.toNat, by omega⟩
  have hin' : i ≤ xs.length := by omega
  simp only [Int.toNat_natCast]
  have hk0 := L.k0
  simp only [resO, List.length_cons, List.length_nil] at hs hS hd hx ⊢
  obtain ⟨v0, v1, v2, rfl⟩ : ∃ v0 v1 v2, vs = #[v0, v1, v2] := ⟨vs[0], vs[1], vs[2], by
    apply Array.ext
    · simp [hs]
    · intro j h1 h2
      have : j < 3 := by simpa using h2
      match j, this with
      | 0, _ => rfl
      | 1, _ => rfl
      | 2, _ => rfl⟩
  have hv0 := hx 0 _ v0 rfl rfl
  have hv1 := hx 1 _ v1 rfl rfl
  have hv2 := hx 2 _ v2 rfl rfl
  cases hv1.pv_inv
  have hfin : ∀ {zs : List PV}, finO ⟨[1, 0, 0], 0, [some l]⟩ [.a l xs, .p (.sc (.int .i64 i)), .p d] (.arr 0) [.arr l true zs] = some [.a l zs] := by
    intro zs
    have : Nat.beq l l = true := Nat.beq_refl _
    simp [finO, finL, AV.parts, lentIds, cellsK, cellK, lentK, ckB, nodupN, this]
  have hdom : ∀ (loc : Loc) (id : Nat) (zs : List PV), [Ob.arr l true zs].length ≤ id → oneM loc id = none := fun loc id zs h => by
    simp only [List.length_cons, List.length_nil] at h
    simp only [oneM]; rw [if_neg (by omega)]
  cases hv0 with
  | arr hm =>
    rename_i loc
    have hob := one_sr hS hm
    have hlen : loc.len = xs.length ∧ loc.len ≤ loc.cap := by
      generalize hex : (true : Bool) = ex at hob
      cases hob with
      | nilArr hz hl hc ho => simp [hl]
      | arr cvs ha hz hl hc hcl hcx hr ho hn => exact ⟨hl, hc⟩
    -- the list that is put in
    have hlist : (ys = [] ∧ ∃ a c, v2 = .slice a 0 c) ∨ ∃ (vb voff vc : Nat) (cvs : List Value), v2 = .slice (some ⟨vb, voff, none⟩) ys.length vc ∧ ys ≠ [] ∧ cvs.length = ys.length ∧ (∀ (i : Nat) (x : PV) (cv : Value), ys[i]? = some x → cvs[i]? = some cv → PVR X w K x cv) ∧
        (∀ (i : Nat) (cv : Value), cvs[i]? = some cv → Row w K vb (voff + i * width l) l cv) := by
      have hp := hv2.pv_inv
      unfold insertList at hys
      split at hys
      · rename_i l' cl ys'
        cases hb2 : Nat.beq l' l <;> rw [hb2] at hys <;> simp only [cond_true, cond_false, Option.some.injEq, reduceCtorEq] at hys
        have := Nat.eq_of_beq_eq_true hb2; subst this
        subst hys
        cases hp with
        | list cvs2 hl2 hc2 hcl2 hs2 hx2 hr2 =>
          by_cases h0 : ys' = []
          · subst h0
            simp only [List.length_nil] at hl2; subst hl2
            exact .inl ⟨rfl, _, _, rfl⟩
          · exact .inr ⟨_, _, _, cvs2, by rw [hl2], h0, hs2, hx2, hr2⟩
        | empty => exact .inl ⟨rfl, _, _, rfl⟩
      · simp only [Option.some.injEq] at hys; subst hys
        cases hp
        exact .inl ⟨rfl, _, _, rfl⟩
      · cases hys
    rcases hlist with ⟨rfl, va, vc, rfl⟩ | ⟨vb, voff, vc, vcvs, rfl, hne, hvl, hvx, hvr⟩
    · -- nothing is put in
      rw [hlen.1]
      have := insK_none L loc.a va xs.length loc.cap i vc w hin' (by omega)
      rw [hgf] at this
      refine this.mono fun e w' ⟨he, hw⟩ => ⟨_, he, .arr 0, [.arr l true xs], K, m, ?_, ?_⟩
      · rw [hfin]; simp
      · subst hw
        rw [← hlen.1]
        exact ⟨Fr.refl _ _ _ _ _ _, hS, fun id hid => hd id (by simpa using hid), .arr hm⟩
    · have hmpos : 0 < ys.length := List.length_pos_iff.2 hne
      have hvlay : ∀ (i : Nat) (cv : Value), vcvs[i]? = some cv → Lay l cv := fun i cv h => (hvr i cv h).1
      have hvsz : ∀ (i : Nat) (cv : Value), vcvs[i]? = some cv → (cellsL l cv).size = width l := fun i cv hi => (hvlay i cv hi).size
      have hvlen : (flat l vcvs).length = ys.length * width l := by rw [flat_length hvsz, hvl]
      have hvcell : ∀ j v, (flat l vcvs)[j]? = some v → w.cell? ⟨vb, voff + j, none⟩ = some v ∧ K vb (voff + j) := fun j v hj => by
        obtain ⟨a, c, cv, h1, h2, rfl, h4⟩ := flat_inv hvsz hk0 hj
        have := (hvr a cv h1).2 c v h4
        rw [show voff + (a * width l + c) = voff + a * width l + c by omega]
        exact ⟨this.2, this.1⟩
      have hv1c := flat_one hvlay hk0
      have hvK : K vb voff := by
        have : 0 < (flat l vcvs).length := by rw [hvlen]; exact Nat.mul_pos hmpos hk0
        exact (hvcell 0 _ (List.getElem?_eq_getElem this)).2
      have h63 : xs.length + ys.length ≤ 140737488355328 := Nat.le_trans (Nat.le_mul_of_pos_right _ hby) hbig
      -- the new elements
      have hnew : ∀ (cvs : List Value), cvs.length = xs.length → (∀ (i : Nat) (x : PV) (cv : Value), xs[i]? = some x → cvs[i]? = some cv → PVR X w K x cv) → (∀ (i : Nat) (cv : Value), cvs[i]? = some cv → Lay l cv) →
          (cvs.take i ++ (vcvs ++ cvs.drop i)).length = (xs.take i ++ (ys ++ xs.drop i)).length ∧ (∀ (j : Nat) (x : PV) (cv : Value), (xs.take i ++ (ys ++ xs.drop i))[j]? = some x → (cvs.take i ++ (vcvs ++ cvs.drop i))[j]? = some cv → PVR X w K x cv) ∧
          (∀ (j : Nat) (cv : Value), (cvs.take i ++ (vcvs ++ cvs.drop i))[j]? = some cv → Lay l cv) ∧ flat l (cvs.take i ++ (vcvs ++ cvs.drop i)) = (flat l cvs).take (i * width l) ++ (flat l vcvs ++ (flat l cvs).drop (i * width l)) := by
        intro cvs h1 h2 h3
        have hsz : ∀ (i : Nat) (cv : Value), cvs[i]? = some cv → (cellsL l cv).size = width l := fun i cv hi => (h3 i cv hi).size
        have hti : (cvs.take i).length = i := by rw [List.length_take]; omega
        have hti' : (xs.take i).length = i := by rw [List.length_take]; omega
        refine ⟨by simp [h1, hvl], fun j x cv hj1 hj2 => ?_, fun j cv hj => ?_, ?_⟩
        · by_cases c1 : j < i
          · rw [List.getElem?_append_left (by omega), List.getElem?_take, if_pos c1] at hj1 hj2
            exact h2 j x cv hj1 hj2
          · rw [List.getElem?_append_right (by omega), hti'] at hj1
            rw [List.getElem?_append_right (by omega), hti] at hj2
            by_cases c2 : j - i < ys.length
            · rw [List.getElem?_append_left c2] at hj1
              rw [List.getElem?_append_left (by omega)] at hj2
              exact hvx _ x cv hj1 hj2
            · rw [List.getElem?_append_right (by omega), List.getElem?_drop] at hj1
              rw [List.getElem?_append_right (by omega), List.getElem?_drop, hvl] at hj2
              exact h2 _ x cv hj1 hj2
        · have hmem := List.mem_of_getElem? hj
          simp only [List.mem_append] at hmem
          rcases hmem with hmem | hmem | hmem
          · obtain ⟨q, hq⟩ := List.mem_iff_getElem?.1 (List.mem_of_mem_take hmem); exact h3 q cv hq
          · obtain ⟨q, hq⟩ := List.mem_iff_getElem?.1 hmem; exact hvlay q cv hq
          · obtain ⟨q, hq⟩ := List.mem_iff_getElem?.1 (List.mem_of_mem_drop hmem); exact h3 q cv hq
        · have hsplit : flat l cvs = flat l (cvs.take i) ++ flat l (cvs.drop i) := by rw [← flat_append, List.take_append_drop]
          have hl1 : (flat l (cvs.take i)).length = i * width l := by
            rw [flat_length (fun q cv hq => by rw [List.getElem?_take] at hq; split at hq; exact hsz q cv hq; cases hq), hti]
          rw [flat_append, flat_append, hsplit, ← hl1, List.take_left, List.drop_left]
      by_cases hown : loc.own = true
      · generalize hex : (true : Bool) = ex at hob
        cases hob with
        | nilArr hz hl hc ho => rw [hown] at ho; cases ho
        | arr cvs ha hz hl hc hcl hcx hr ho hn =>
          rename_i b off
          subst hex
          have hblk : loc.block? = some b := by simp [Loc.block?, hown, ha]
          obtain ⟨hBb, hblt⟩ := hS.mine 0 loc b hm hblk
          obtain ⟨⟨cs, ty, fr, hb, hfit⟩, hu, hnk⟩ := ho hown
          have hlay : ∀ (i : Nat) (cv : Value), cvs[i]? = some cv → Lay l cv := fun i cv h => (hr i cv h).1
          have hsz : ∀ (i : Nat) (cv : Value), cvs[i]? = some cv → (cellsL l cv).size = width l := fun i cv hi => (hlay i cv hi).size
          have hflen : (flat l cvs).length = xs.length * width l := by rw [flat_length hsz, hcl]
          have hcell : ∀ j v, (flat l cvs)[j]? = some v → w.cell? ⟨b, off + j, none⟩ = some v := fun j v hj => by
            obtain ⟨a, c, cv, h1, h2, rfl, h4⟩ := flat_inv hsz hk0 hj
            have := ((hr a cv h1).2 c v h4).2
            rw [show off + (a * width l + c) = off + a * width l + c by omega]; exact this
          have h1c := flat_one hlay hk0
          have hvb : vb ≠ b := fun e => by subst e; have := (hnk _ hvK).1; simp at this
          have hsp : ∀ j, j < loc.cap * width l → (w.cell? ⟨b, off + j, none⟩).isSome = true := fun j hj => by
            simp only [World.cell?, hb]
            simp only [Option.isSome_none, Bool.false_eq_true, if_false]
            rw [Array.getElem?_eq_getElem (by omega)]; rfl
          have hfz := hu.2 rfl
          obtain ⟨n1, n2, n3, n4⟩ := hnew cvs hcl hcx hlay
          have hnl : (xs.take i ++ (ys ++ xs.drop i)).length = xs.length + ys.length := by simp; omega
          rw [ha, hlen.1]
          by_cases hroom : xs.length + ys.length ≤ loc.cap
          · have hmul : (xs.length + ys.length) * width l ≤ loc.cap * width l := Nat.mul_le_mul_right _ hroom
            have hmul2 : i * width l ≤ xs.length * width l := Nat.mul_le_mul_right _ hin'
            -- in place
            have fin : ∀ w' : World, (∃ cs', w'.heap[b]? = some (.cells cs' ty fr) ∧ cs'.size = cs.size) → Upd b w w' → (∀ k v, (flat l (cvs.take i ++ (vcvs ++ cvs.drop i)))[k]? = some v → w'.cell? ⟨b, off + k, none⟩ = some v) →
                ∃ dd S' K' m', finO ⟨[1, 0, 0], 0, [some l]⟩ [.a l xs, .p (.sc (.int .i64 i)), .p d] dd S' = some [.a l (xs.take i ++ (ys ++ xs.drop i))] ∧ Fr X B w K [.arr l true xs] m w' K' S' m' ∧ SR X B w' K' m' S' ∧ (∀ id, S'.length ≤ id → m' id = none) ∧
                  VR X w' K' m' dd (.slice (some ⟨b, off, none⟩) (xs.length + ys.length) loc.cap) := by
              intro w' ⟨cs', hb', hsz'⟩ hU hcells
              have hrows : ∀ (i_1 : Nat) (cv : Value), (cvs.take i ++ (vcvs ++ cvs.drop i))[i_1]? = some cv → Row w' (fun _ _ => True) b (off + i_1 * width l) l cv :=
                rows_of_flat hb' n3 (fun k v hk => by have := hcells k v hk; simp only [World.cell?, hb'] at this; simpa using this) (fun _ _ _ _ => trivial)
              obtain ⟨g1, g2⟩ := grown_here hS hm ha hown hU ⟨cs, cs', ty, fr, hb, hb', hsz'⟩ hnl (by omega) hroom _ n1 n2 hrows
              exact ⟨.arr 0, [.arr l true _], K, _, hfin, g2, g1, fun id hid => hdom _ id _ hid, by rw [← ha]; exact VR.arr (m := oneM { loc with len := xs.length + ys.length }) (loc := { loc with len := xs.length + ys.length }) rfl⟩
            by_cases hie : i = xs.length
            · -- at the end
              subst hie
              have := insK_end_room L b off xs.length loc.cap vb voff ys.length vc (flat l vcvs) w hmpos hroom hvlen (fun j hj => by
                rw [Nat.add_assoc]; refine hsp _ ?_
                have : xs.length * width l + j < (xs.length + ys.length) * width l := by rw [Nat.add_mul]; omega
                omega) hfz (fun j v hj => (hvcell j v hj).1) hv1c
              rw [hgf] at this
              refine this.mono fun e w' ⟨he, hw⟩ => ⟨_, he, ?_⟩
              subst hw
              obtain ⟨cs', q1, q2, q3⟩ := setCells_block b (flat l vcvs) (off + xs.length * width l) w cs ty fr hb
              refine fin _ ⟨cs', q1, q2⟩ q3 fun k v hk => ?_
              rw [n4, List.take_of_length_le (by omega), List.drop_eq_nil_of_le (by omega), List.append_nil] at hk
              by_cases c1 : k < (flat l cvs).length
              · rw [List.getElem?_append_left c1] at hk
                rw [World.cell?_setCells_out _ _ _ _ _ (fun _ _ => by dsimp only; omega)]
                exact hcell k v hk
              · rw [List.getElem?_append_right (by omega)] at hk
                have hkl := getElem?_lt hk
                have := World.cell?_setCells_in b (flat l vcvs) (off + xs.length * width l) w (fun j hj => by
                  rw [Nat.add_assoc]; refine hsp _ ?_
                  have : xs.length * width l + j < (xs.length + ys.length) * width l := by rw [Nat.add_mul]; omega
                  omega) (k - (flat l cvs).length) hkl
                rw [show off + xs.length * width l + (k - (flat l cvs).length) = off + k by omega] at this
                rw [this, ← hk, List.getElem?_eq_getElem hkl]
            · have hilt : i < xs.length := by omega
              have hsa : ∃ tA kA, w.shape? vb = some (tA, kA) ∧ kA ≠ 0 := by
                have h0 : 0 < (flat l vcvs).length := by rw [hvlen]; exact Nat.mul_pos hmpos hk0
                obtain ⟨c, e, f, hh, hc0⟩ := Go.Sort.cells_of_cell? (hvcell 0 _ (List.getElem?_eq_getElem h0)).1
                refine ⟨e, c.size, by simp [World.shape?, hh], fun h => ?_⟩
                rw [Array.getElem?_eq_none (by omega)] at hc0; cases hc0
              obtain ⟨tA, kA, hsa, hkA⟩ := hsa
              have hsb : w.shape? b = some (ty, cs.size) := by simp [World.shape?, hb]
              have hle1 : (i + ys.length) * width l + (xs.length - i) * width l = (xs.length + ys.length) * width l := by rw [← Nat.add_mul]; congr 1; omega
              have hkB : cs.size ≠ 0 := by
                have : 0 < (xs.length + ys.length) * width l := Nat.mul_pos (by omega) hk0
                omega
              have := insK_shift L b off xs.length loc.cap i vb voff ys.length vc (flat l cvs) (flat l vcvs) w hilt hmpos hroom (by omega) hvb hflen hvlen hcell (fun j hj => hsp j (by omega)) hfz (fun j v hj => (hvcell j v hj).1) h1c hv1c tA ty kA cs.size hsa hkA hsb hkB
              rw [hgf] at this
              refine this.mono fun e w' ⟨he, hw⟩ => ⟨_, he, ?_⟩
              have hdl : ((flat l cvs).drop (i * width l)).length = (xs.length - i) * width l := by rw [List.length_drop, hflen, Nat.sub_mul]
              obtain ⟨cs1, q1, q2, q3⟩ := setCells_block b ((flat l cvs).drop (i * width l)) (off + (i + ys.length) * width l) w.drew cs ty fr hb
              obtain ⟨cs2, p1, p2, p3⟩ := setCells_block b (flat l vcvs) (off + i * width l) _ cs1 ty fr q1
              have hU : Upd b w w' := by
                subst hw
                exact (show Upd b w w.drew from ⟨rfl, rfl, rfl, rfl, fun _ _ => rfl⟩).trans (q3.trans p3)
              have hmi : (i + ys.length) * width l = i * width l + ys.length * width l := Nat.add_mul _ _ _
              have hsp1 : ∀ j, j < (xs.length + ys.length) * width l → ((w.drew.setCells b (off + (i + ys.length) * width l) ((flat l cvs).drop (i * width l))).cell? ⟨b, off + j, none⟩).isSome = true := fun j hj =>
                isSome_setCells b _ _ _ (fun t ht => by rw [Nat.add_assoc]; exact hsp _ (by omega)) _ (hsp j (by omega))
              refine fin w' ⟨cs2, by rw [hw]; exact p1, by omega⟩ hU fun k v hk => ?_
              rw [hw]
              rw [n4] at hk
              have htl : ((flat l cvs).take (i * width l)).length = i * width l := by rw [List.length_take]; omega
              by_cases c1 : k < i * width l
              · rw [List.getElem?_append_left (by omega), List.getElem?_take, if_pos c1] at hk
                rw [World.cell?_setCells_out _ _ _ _ _ (fun _ _ => by dsimp only; omega), World.cell?_setCells_out _ _ _ _ _ (fun _ _ => by dsimp only; omega)]
                exact hcell k v hk
              · rw [List.getElem?_append_right (by omega), htl] at hk
                by_cases c2 : k - i * width l < (flat l vcvs).length
                · rw [List.getElem?_append_left c2] at hk
                  have := World.cell?_setCells_in b (flat l vcvs) (off + i * width l) _ (fun j hj => by rw [Nat.add_assoc]; exact hsp1 _ (by omega)) (k - i * width l) c2
                  rw [show off + i * width l + (k - i * width l) = off + k by omega] at this
                  rw [this, ← hk, List.getElem?_eq_getElem c2]
                · rw [List.getElem?_append_right (by omega)] at hk
                  have hkl := getElem?_lt hk
                  rw [World.cell?_setCells_out _ _ _ _ _ (fun _ _ => by dsimp only; omega)]
                  have := World.cell?_setCells_in b ((flat l cvs).drop (i * width l)) (off + (i + ys.length) * width l) w.drew (fun j hj => by rw [Nat.add_assoc]; exact hsp _ (by omega)) _ hkl
                  rw [show off + (i + ys.length) * width l + (k - i * width l - (flat l vcvs).length) = off + k by omega] at this
                  rw [this, ← hk, List.getElem?_eq_getElem hkl]
          · -- a new row
            have hroom' : loc.cap < xs.length + ys.length := by omega
            have fin : ∀ (w' : World) (cap : Nat), xs.length + ys.length ≤ cap → (∃ cs' ty', w'.heap[w.heap.size]? = some (.cells cs' ty' (0, 0)) ∧ cs'.size = cap * width l) → Ext w K w' K → (∀ k v, (flat l (cvs.take i ++ (vcvs ++ cvs.drop i)))[k]? = some v → w'.cell? ⟨w.heap.size, k, none⟩ = some v) →
                ∃ dd S' K' m', finO ⟨[1, 0, 0], 0, [some l]⟩ [.a l xs, .p (.sc (.int .i64 i)), .p d] dd S' = some [.a l (xs.take i ++ (ys ++ xs.drop i))] ∧ Fr X B w K [.arr l true xs] m w' K' S' m' ∧ SR X B w' K' m' S' ∧ (∀ id, S'.length ≤ id → m' id = none) ∧
                  VR X w' K' m' dd (.slice (some ⟨w.heap.size, 0, none⟩) (xs.length + ys.length) cap) := by
              intro w' cap hcap ⟨cs', ty', hb', hsz'⟩ hE hcells
              have hrows : ∀ (i_1 : Nat) (cv : Value), (cvs.take i ++ (vcvs ++ cvs.drop i))[i_1]? = some cv → Row w' (fun _ _ => True) w.heap.size (0 + i_1 * width l) l cv :=
                rows_of_flat hb' n3 (fun k v hk => by have := hcells k v hk; simp only [World.cell?, hb'] at this; simpa using this) (fun _ _ _ _ => trivial)
              obtain ⟨g1, g2⟩ := grown_there (m := m) hS hE ⟨cs', ty', hb', by omega⟩ hnl (by omega) hcap _ n1 n2 hrows
              exact ⟨.arr 0, [.arr l true _], K, _, hfin, g2, g1, fun id hid => hdom _ id _ hid, VR.arr (m := oneM ⟨some ⟨w.heap.size, 0, none⟩, xs.length + ys.length, cap, width l, true⟩) (loc := ⟨some ⟨w.heap.size, 0, none⟩, xs.length + ys.length, cap, width l, true⟩) rfl⟩
            by_cases hie : i = xs.length
            · subst hie
              have := insK_end_grow L (some ⟨b, off, none⟩) xs.length loc.cap vb voff ys.length vc (flat l cvs) (flat l vcvs) w hmpos (by omega) hroom' hby hbig hflen hvlen (fun h => by cases h)
                (fun a hae j v hj => by simp only [Option.some.injEq] at hae; subst hae; rw [Addr.add_lit]; exact hcell j v hj) (fun j v hj => (hvcell j v hj).1)
              rw [hgf] at this
              refine this.mono fun e w' ⟨he, hw⟩ => ⟨_, he, ?_⟩
              obtain ⟨G, hG⟩ : ∃ G, G = grownCap w (xs.length + ys.length) loc.cap (ρ.t 9) := ⟨_, rfl⟩
              have hGn : xs.length + ys.length ≤ G := by rw [hG]; exact grownCap_ge w _ _ _
              rw [← hG] at hw ⊢
              refine fin w' G hGn ⟨_, _, by rw [hw]; exact heap_alloc_drew w _, ?_⟩ (by rw [hw]; exact ⟨((Below.refl _ _).drew).alloc (Nat.le_refl _) _, Sub.refl _, fun _ _ h => .inl h⟩) fun k v hk => ?_
              · simp only [Array.size_append, List.size_toArray, List.length_append, Builtin.zeroCells, Array.size_map, Array.size_range, L.zk, hflen, hvlen]
                rw [← Nat.add_mul, ← Nat.add_mul]; congr 1; omega
              · rw [n4, List.take_of_length_le (by omega), List.drop_eq_nil_of_le (by omega), List.append_nil] at hk
                have hkl := getElem?_lt hk
                rw [hw]
                simp only [World.cell?, heap_alloc_drew w]
                simp only [Option.isSome_none, Bool.false_eq_true, if_false]
                rw [Array.getElem?_append_left (by simpa using hkl)]
                simpa using hk
            · have hilt : i < xs.length := by omega
              have := insK_grow L b off xs.length loc.cap i vb voff ys.length vc (flat l cvs) (flat l vcvs) w hilt hmpos (by omega) hroom' hby hbig hflen hvlen hcell (fun j v hj => (hvcell j v hj).1) h1c hv1c
              rw [hgf] at this
              refine this.mono fun e w' ⟨he, ROW, hRs, hRp, hw⟩ => ⟨_, he, ?_⟩
              obtain ⟨G, hG⟩ : ∃ G, G = grownCap w (xs.length + ys.length) loc.cap (ρ.t 9) := ⟨_, rfl⟩
              have hGn : xs.length + ys.length ≤ G := by rw [hG]; exact grownCap_ge w _ _ _
              rw [← hG] at hRs ⊢
              have hGk : (xs.length + ys.length) * width l ≤ G * width l := Nat.mul_le_mul_right _ hGn
              have hle1 : (i + ys.length) * width l + (xs.length - i) * width l = (xs.length + ys.length) * width l := by rw [← Nat.add_mul]; congr 1; omega
              have hmi : (i + ys.length) * width l = i * width l + ys.length * width l := Nat.add_mul _ _ _
              have hdl : ((flat l cvs).drop (i * width l)).length = (xs.length - i) * width l := by rw [List.length_drop, hflen, Nat.sub_mul]
              have hik : i * width l ≤ xs.length * width l := Nat.mul_le_mul_right _ hin'
              obtain ⟨w0, hw0⟩ : ∃ w0 : World, w0 = (w.alloc (.cells ROW (ρ.t 9))).drew := ⟨_, rfl⟩
              rw [← hw0] at hw
              have hb0 : w0.heap[w.heap.size]? = some (.cells ROW (ρ.t 9) (0, 0)) := by rw [hw0]; exact heap_alloc_new w _
              have hE0 : Ext w K w0 K := by rw [hw0]; exact ⟨((Below.refl _ _).alloc (Nat.le_refl _) _).drew, Sub.refl _, fun _ _ h => .inl h⟩
              obtain ⟨cs1, q1, q2, q3⟩ := setCells_block w.heap.size (flat l vcvs) (i * width l) w0 ROW _ _ hb0
              obtain ⟨cs2, p1, p2, p3⟩ := setCells_block w.heap.size ((flat l cvs).drop (i * width l)) ((i + ys.length) * width l) (w0.setCells w.heap.size (i * width l) (flat l vcvs)).drew cs1 _ _ q1
              have hU : Upd w.heap.size w0 w' := by
                rw [hw]
                exact (q3.trans (show Upd w.heap.size _ (w0.setCells w.heap.size (i * width l) (flat l vcvs)).drew from ⟨rfl, rfl, rfl, rfl, fun _ _ => rfl⟩)).trans p3
              have hE : Ext w K w' K := by
                refine ⟨⟨hU.os.trans hE0.below.os, hU.tape.trans hE0.below.tape, hU.output.trans hE0.below.output, by rw [hU.size]; exact hE0.below.size, fun k hk => ?_⟩, Sub.refl _, fun _ _ h => .inl h⟩
                rw [hU.block k (by omega)]; exact hE0.below.block k hk
              have hsp0 : ∀ j, j < (xs.length + ys.length) * width l → (w0.cell? ⟨w.heap.size, j, none⟩).isSome = true := fun j hj => by
                simp only [World.cell?, hb0]
                simp only [Option.isSome_none, Bool.false_eq_true, if_false]
                rw [Array.getElem?_eq_getElem (by omega)]; rfl
              have hsp1 : ∀ j, j < (xs.length + ys.length) * width l → ((w0.setCells w.heap.size (i * width l) (flat l vcvs)).drew.cell? ⟨w.heap.size, j, none⟩).isSome = true := fun j hj =>
                isSome_setCells w.heap.size _ _ w0 (fun t ht => hsp0 _ (by omega)) _ (hsp0 j hj)
              refine fin w' G hGn ⟨cs2, _, by rw [hw]; exact p1, by omega⟩ hE fun k v hk => ?_
              rw [hw]
              rw [n4] at hk
              have htl : ((flat l cvs).take (i * width l)).length = i * width l := by rw [List.length_take]; omega
              have hdrew : ∀ x, (w0.setCells w.heap.size (i * width l) (flat l vcvs)).drew.cell? x = (w0.setCells w.heap.size (i * width l) (flat l vcvs)).cell? x := fun x => rfl
              by_cases c1 : k < i * width l
              · rw [List.getElem?_append_left (by omega), List.getElem?_take, if_pos c1] at hk
                rw [World.cell?_setCells_out _ _ _ _ _ (fun _ _ => by dsimp only; omega), hdrew, World.cell?_setCells_out _ _ _ _ _ (fun _ _ => by dsimp only; omega)]
                simp only [World.cell?, hb0]
                simp only [Option.isSome_none, Bool.false_eq_true, if_false]
                rw [hRp k c1]; exact hk
              · rw [List.getElem?_append_right (by omega), htl] at hk
                by_cases c2 : k - i * width l < (flat l vcvs).length
                · rw [List.getElem?_append_left c2] at hk
                  rw [World.cell?_setCells_out _ _ _ _ _ (fun _ _ => by dsimp only; omega), hdrew]
                  have := World.cell?_setCells_in w.heap.size (flat l vcvs) (i * width l) w0 (fun j hj => hsp0 _ (by omega)) (k - i * width l) c2
                  rw [show i * width l + (k - i * width l) = k by omega] at this
                  rw [this, ← hk, List.getElem?_eq_getElem c2]
                · rw [List.getElem?_append_right (by omega)] at hk
                  have hkl := getElem?_lt hk
                  have := World.cell?_setCells_in w.heap.size ((flat l cvs).drop (i * width l)) ((i + ys.length) * width l) (w0.setCells w.heap.size (i * width l) (flat l vcvs)).drew (fun j hj => hsp1 _ (by omega)) _ hkl
                  rw [show (i + ys.length) * width l + (k - i * width l - (flat l vcvs).length) = k by omega] at this
                  rw [this, ← hk, List.getElem?_eq_getElem hkl]
      · -- there was nothing
        have hown' : loc.own = false := by simpa using hown
        generalize hex : (true : Bool) = ex at hob
        cases hob with
        | arr cvs ha hz hl hc hcl hcx hr ho hn => subst hex; have := (hn hown').1; simp at this
        | nilArr hz hl hc ho =>
          subst hex
          obtain rfl : i = 0 := by simpa using hin'
          rw [hl, hc]
          have := insK_end_grow L loc.a 0 0 vb voff ys.length vc [] (flat l vcvs) w hmpos (by omega) (by omega) hby (by simpa using hbig) (by simp) hvlen (fun _ => rfl)
            (fun a hae j v hj => by simp at hj) (fun j v hj => (hvcell j v hj).1)
          rw [hgf] at this
          refine this.mono fun e w' ⟨he, hw⟩ => ⟨_, he, ?_⟩
          obtain ⟨G, hG⟩ : ∃ G, G = grownCap w (0 + ys.length) 0 (ρ.t 9) := ⟨_, rfl⟩
          have hGn : 0 + ys.length ≤ G := by rw [hG]; exact grownCap_ge w _ _ _
          rw [← hG] at hw ⊢
          have hE : Ext w K w' K := by rw [hw]; exact ⟨((Below.refl _ _).drew).alloc (Nat.le_refl _) _, Sub.refl _, fun _ _ h => .inl h⟩
          have hb' : ∃ (cs' : Array Value) (ty' : TypeId), w'.heap[w.heap.size]? = some (.cells cs' ty' (0, 0)) ∧ cs'.size = G * width l ∧ ∀ (k : Nat) (v : Value), (flat l vcvs)[k]? = some v → cs'[k]? = some v := by
            refine ⟨_, _, by rw [hw]; exact heap_alloc_drew w _, ?_, fun k v hk => ?_⟩
            · simp only [Array.size_append, List.size_toArray, List.length_append, Builtin.zeroCells, Array.size_map, Array.size_range, L.zk, hvlen, List.length_nil]
              rw [Nat.zero_add, ← Nat.add_mul]; congr 1; omega
            · have hkl := getElem?_lt hk
              rw [List.nil_append, Array.getElem?_append_left (by simpa using hkl)]
              simpa using hk
          obtain ⟨cs', ty', hb', hsz', hcells⟩ := hb'
          have hrows : ∀ (i_1 : Nat) (cv : Value), vcvs[i_1]? = some cv → Row w' (fun _ _ => True) w.heap.size (0 + i_1 * width l) l cv :=
            rows_of_flat hb' hvlay (fun k v hk => by rw [Nat.zero_add]; exact hcells k v hk) (fun _ _ _ _ => trivial)
          obtain ⟨g1, g2⟩ := grown_there (m := m) (n' := 0 + ys.length) (ys := ys) hS hE ⟨cs', ty', hb', by omega⟩ (by simp) (by simp; omega) hGn vcvs hvl hvx hrows
          refine ⟨.arr 0, [.arr l true ys], K, _, ?_, g2, g1, fun id hid => hdom _ id _ hid, VR.arr (m := oneM ⟨some ⟨w.heap.size, 0, none⟩, 0 + ys.length, G, width l, true⟩) (loc := ⟨some ⟨w.heap.size, 0, none⟩, 0 + ys.length, G, width l, true⟩) rfl⟩
          rw [hfin]; simp
end Go.Lite
