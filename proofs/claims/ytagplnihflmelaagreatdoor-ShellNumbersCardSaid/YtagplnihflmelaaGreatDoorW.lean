import Derived.Test.YtagplnihflmelaaGreatDoorRi
import Derived.Lib.LaidU8
import Derived.Shelf.Vars
import Derived.Test.YtagplnihflmelaaGreatDoorRows
set_option linter.unusedVariables false
set_option linter.unusedSimpArgs false

namespace Go.Proofs.YtagplnihflmelaaGreatDoor
open Go Go.Lite Go.Proofs Go.Lib
set_option maxRecDepth 1000000
set_option linter.unusedVariables false
set_option linter.unusedSimpArgs false
/-! # what the listed variables hold -/
theorem cells_tab {W : World} {nm : String} {g : Nat} {t n : Nat} {zs : List Int} (hg : Tryz.prog.globalNamed nm = some g) (hty : (Tryz.prog.globals[g]?).map (·.type) = some t) (ht : Tryz.prog.underlying t = some (.array n 5))
    (hct : Tryz.prog.cellsOf t = n) (h5 : Tryz.prog.underlying 5 = some (.int .u8)) (hc5 : Tryz.prog.cellsOf 5 = 1) (hr : VarReads Tryz.prog W nm (tabData .u8 zs)) : ∀ (i : Nat) v, (u8s zs)[i]? = some v → W.cell? ⟨g, i, none⟩ = some v := by
  obtain ⟨g', t', cs, fuel, p, hg', hty', hvar, hd⟩ := hr
  obtain rfl := Option.some.inj (hg.symm.trans hg')
  obtain rfl := Option.some.inj (hty.symm.trans hty')
  have hcs := cells_of_tab ht h5 hc5 hct hd
  intro i v hi
  rw [World.var?_cell hg hvar i, ← Array.getElem?_toList, hcs]
  exact hi
theorem cells_pairs {W : World} {nm : String} {g : Nat} {t e n : Nat} {f0 f1 : Field} {zs : List (Int × Int)} (hg : Tryz.prog.globalNamed nm = some g) (hty : (Tryz.prog.globals[g]?).map (·.type) = some t) (ht : Tryz.prog.underlying t = some (.array n e))
    (he : Tryz.prog.underlying e = some (.struct #[f0, f1])) (hce : Tryz.prog.cellsOf e = 2) (ht0 : f0.type = 5) (ho0 : f0.offset = 0) (ht1 : f1.type = 5) (ho1 : f1.offset = 1) (h5 : Tryz.prog.underlying 5 = some (.int .u8)) (hc5 : Tryz.prog.cellsOf 5 = 1) (hl : zs.length = n)
    (hr : VarReads Tryz.prog W nm (.agg (zs.map fun p => .agg ([p.1, p.2].map fun z => .lit (.int .u8 z))))) : ∀ (i : Nat) v, (u8s (zs.flatMap fun p => [p.1, p.2]))[i]? = some v → W.cell? ⟨g, i, none⟩ = some v := by
  obtain ⟨g', t', cs, fuel, p, hg', hty', hvar, hd⟩ := hr
  obtain rfl := Option.some.inj (hg.symm.trans hg')
  obtain rfl := Option.some.inj (hty.symm.trans hty')
  have pairAt : ∀ (l : List (Int × Int)) (j : Nat), (l.flatMap fun p => [p.1, p.2])[2 * j]? = (l[j]?).map (·.1) ∧ (l.flatMap fun p => [p.1, p.2])[2 * j + 1]? = (l[j]?).map (·.2) := by
    intro l
    induction l with
    | nil => intro j; simp
    | cons a l ih =>
      intro j
      cases j with
      | zero => simp
      | succ j => simpa [Nat.mul_add] using ih j
  have key : ∀ j, j < n → W.cell? ⟨g, 2 * j, none⟩ = (zs[j]?).map (fun p => Value.int .u8 p.1) ∧ W.cell? ⟨g, 2 * j + 1, none⟩ = (zs[j]?).map (fun p => Value.int .u8 p.2) := by
    intro j hj
    obtain ⟨fuel', d, q, hdi, hd'⟩ := array_elem ht hd j hj
    have hzj : zs[j]? = some (zs[j]'(by omega)) := List.getElem?_eq_getElem (by omega)
    simp only [List.getElem?_map, hzj, Option.map_some, Option.some.injEq] at hdi
    subst hdi
    rw [hce] at hd'
    have hcs := ints_of_struct he (fun k f hk => by
      match k, hk with
      | 0, hk => simp at hk; subst hk; rw [ht0]; exact ⟨h5, ho0, hc5⟩
      | 1, hk => simp at hk; subst hk; rw [ht1]; exact ⟨h5, ho1, hc5⟩
      | k + 2, hk => simp at hk) (by rw [hce]; rfl) hd'
    have e0 := congrArg (·[0]?) hcs
    have e1 := congrArg (·[1]?) hcs
    simp only [List.getElem?_take, List.getElem?_drop] at e0 e1
    constructor
    · rw [World.var?_cell hg hvar (2 * j), ← Array.getElem?_toList, hzj]
      simpa [Nat.mul_comm] using e0
    · rw [World.var?_cell hg hvar (2 * j + 1), ← Array.getElem?_toList, hzj]
      simpa [Nat.mul_comm] using e1
  intro i v hi
  have lenAll : ∀ l : List (Int × Int), (l.flatMap fun p => [p.1, p.2]).length = 2 * l.length := by
    intro l
    induction l with
    | nil => rfl
    | cons a l ih => simp only [List.flatMap_cons, List.length_append, ih, List.length_cons, List.length_nil]; omega
  have hlen : i < 2 * n := by
    rcases Nat.lt_or_ge i (2 * n) with h' | h'
    · exact h'
    · rw [List.getElem?_eq_none (by simp only [u8s, List.length_map, lenAll]; omega)] at hi; cases hi
  simp only [u8s, List.getElem?_map] at hi
  obtain ⟨h1, h2⟩ := key (i / 2) (by omega)
  obtain ⟨h3, h4⟩ := pairAt zs (i / 2)
  rcases Nat.mod_two_eq_zero_or_one i with h | h
  · have e : i = 2 * (i / 2) := by omega
    rw [e]; rw [e, h3] at hi
    rw [h1]; simpa using hi
  · have e : i = 2 * (i / 2) + 1 := by omega
    rw [e]; rw [e, h4] at hi
    rw [h2]; simpa using hi
def accZ : List (Int × Int) := [(128, 191), (160, 191), (128, 159), (144, 191), (128, 143)] ++ List.replicate 11 (0, 0)
def dbZ : List Int := [0, 1, 28, 2, 29, 14, 24, 3, 30, 22, 20, 15, 25, 17, 4, 8, 31, 27, 13, 23, 21, 19, 16, 7, 26, 12, 18, 6, 11, 5, 10, 9]
def firstZ : List Int := List.replicate 128 240 ++ List.replicate 66 241 ++ List.replicate 30 2 ++ [19] ++ List.replicate 12 3 ++ [35, 3, 3, 52, 4, 4, 4, 68] ++ List.replicate 11 241
abbrev laidL : List (String × DataW Unit) := Rows.shellNumbersRow.laid
abbrev nmAt (i : Nat) : String := ((laidL[i]?).map (·.1)).getD Rows.shellNumbersRow.func
theorem met_of {W : World} (h : laidMetH Tryz.prog laidL W) : laidMet Tryz.prog laidL W := by
  have e : (laidL.filter fun x => x.2.handleName?.isSome) = [] := by kernel_rfl
  unfold laidMetH at h
  rw [e] at h
  exact h
theorem gl_laid {W : World} (h : laidMetH Tryz.prog laidL W) (hsh : W.ShapedOpen Tryz.prog) : Gl W.heap.size W := by
  have hm := met_of h
  have r0 : VarReads Tryz.prog W (nmAt 0) (tabData .u8 dbZ) := laidMet.reads hm (List.mem_of_getElem? (i := 0) (by kernel_rfl))
  have r5 : VarReads Tryz.prog W (nmAt 6) (tabData .u8 firstZ) := laidMet.reads hm (List.mem_of_getElem? (i := 6) (by kernel_rfl))
  have r6 : VarReads Tryz.prog W (nmAt 3) (.agg (accZ.map fun p => .agg ([p.1, p.2].map fun z => .lit (.int .u8 z)))) := laidMet.reads hm (List.mem_of_getElem? (i := 3) (by kernel_rfl))
  have h5 : Tryz.prog.underlying 5 = some (.int .u8) := by kernel_rfl
  have c5 : Tryz.prog.cellsOf 5 = 1 := by kernel_rfl
  refine gl_of ?_ ?_ ?_ ?_
  · have e : (globs.lookup 1).getD [] = u8s dbZ := by kernel_rfl
    rw [e]; exact cells_tab (t := 151) (n := 32) (by kernel_rfl) (by kernel_rfl) (by kernel_rfl) (by kernel_rfl) h5 c5 r0
  · have e : (globs.lookup 5).getD [] = u8s firstZ := by kernel_rfl
    rw [e]; exact cells_tab (t := 171) (n := 256) (by kernel_rfl) (by kernel_rfl) (by kernel_rfl) (by kernel_rfl) h5 c5 r5
  · have e : (globs.lookup 6).getD [] = u8s (accZ.flatMap fun p => [p.1, p.2]) := by kernel_rfl
    rw [e]; exact cells_pairs (t := 174) (e := 173) (n := 16) (by kernel_rfl) (by kernel_rfl) (by kernel_rfl) Tryz.underlying173 (by kernel_rfl) rfl rfl rfl rfl h5 c5 rfl r6
  · exact cell_of_shapedOpen_int (t := 3) (zero := #[.int .i64 0]) hsh (of_decide_eq_true (by kernel_rfl)) (by kernel_rfl) rfl (by kernel_rfl) (by kernel_rfl) (by kernel_rfl)
/-! # a world that holds them -/
noncomputable def low : Nat := (World.holding Tryz.prog default ⟨#[], #[], []⟩).heap.size
noncomputable def laidWorld (os : Os) : World :=
  let w0 := World.holding Tryz.prog os ⟨#[.cells #[.string ⟨#[118, 97, 108, 117, 101, 32, 111, 117, 116, 32, 111, 102, 32, 114, 97, 110, 103, 101]⟩] 178, .cells #[.string ⟨#[105, 110, 118, 97, 108, 105, 100, 32, 115, 121, 110, 116, 97, 120]⟩] 178], #[], []⟩
  let put (h : Array Obj) (g : Nat) (cs : Array Value) : Array Obj := h.modify g fun
    | .cells _ t frozen => .cells cs t frozen
    | o => o
  let h1 := put w0.heap 1 (u8s dbZ).toArray
  let h2 := put h1 2 #[.iface 176 (.pointer (some ⟨low + 1, 0, none⟩))]
  let h3 := put h2 3 #[.iface 176 (.pointer (some ⟨low, 0, none⟩))]
  let h4 := put h3 4 ((([1, 10, 100, 1000, 10000, 100000, 1000000, 10000000, 100000000, 1000000000, 10000000000, 100000000000, 1000000000000, 10000000000000, 100000000000000, 1000000000000000, 10000000000000000, 100000000000000000, 1000000000000000000, 10000000000000000000] : List Int).map fun n => Value.int .u64 n).toArray)
  let h5 := put h4 5 (u8s firstZ).toArray
  let h6 := put h5 6 (u8s (accZ.flatMap fun p => [p.1, p.2])).toArray
  let h7 := put h6 7 (u8s [0, 1, 56, 2, 57, 49, 28, 3, 61, 58, 42, 50, 38, 29, 17, 4, 62, 47, 59, 36, 45, 43, 51, 22, 53, 39, 33, 30, 24, 18, 12, 5, 63, 55, 48, 27, 60, 41, 37, 16, 46, 35, 44, 21, 52, 32, 23, 11, 54, 26, 40, 15, 34, 20, 31, 10, 25, 14, 19, 9, 13, 8, 7, 6]).toArray
  { w0 with heap := h7 }
theorem laid_met (os : Os) (args : Array Value) : laidMet Tryz.prog laidL ((laidWorld os).forCall (fun _ _ => 0) ⟨#[], args, []⟩).memory :=
  laidMet_of_run' 8 (by kernel_rfl) (by kernel_rfl)
end Go.Proofs.YtagplnihflmelaaGreatDoor
