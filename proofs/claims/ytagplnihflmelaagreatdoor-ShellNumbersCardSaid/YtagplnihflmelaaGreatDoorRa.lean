import Derived.Test.YtagplnihflmelaaGreatDoorBa
set_option linter.unusedVariables false
set_option linter.unusedSimpArgs false

namespace Go.Lite
open Go Go.Proofs
set_option maxRecDepth 1000000
noncomputable abbrev kq : Kallee := ⟨callP Tryz.prog hh 200 59, callS Tryz.prog hh 200 59, callM Tryz.prog hh 200 59, callO Tryz.prog hh 200 59, hh.calmB, hh.primS⟩
abbrev wn (a b : ByteArray) (e t : Int) : PV := .agg [.sc (.string a), .sc (.string b), .sc (.int .i64 e), .sc (.int .i64 t)]
def lns : List PV := [wn ⟨#[]⟩ ⟨#[]⟩ 300 0,
  wn ⟨#[106, 117, 109, 112, 32, 49]⟩ ⟨#[]⟩ 300 0,
  wn ⟨#[115, 98, 97, 116, 99, 104, 32, 45, 78, 32, 48]⟩ ⟨#[]⟩ 302 2,
  wn ⟨#[115, 98, 97, 116, 99, 104, 32, 45, 78, 32, 49, 32, 45, 78, 32, 50]⟩ ⟨#[]⟩ 301 3,
  wn ⟨#[115, 98, 97, 116, 99, 104, 32, 45, 78]⟩ ⟨#[]⟩ 301 1,
  wn ⟨#[115, 98, 97, 116, 99, 104, 32, 120]⟩ ⟨#[]⟩ 301 1,
  wn ⟨#[115, 98, 97, 116, 99, 104]⟩ ⟨#[35, 83, 66, 65, 84, 67, 72, 32, 45, 122, 32, 49]⟩ 301 101,
  wn ⟨#[115, 98, 97, 116, 99, 104]⟩ ⟨#[35, 33, 47, 98, 105, 110, 47, 115, 104, 10, 10, 35, 83, 66, 65, 84, 67, 72, 32, 45, 99, 32, 120]⟩ 302 302,
  wn ⟨#[115, 98, 97, 116, 99, 104]⟩ ⟨#[35, 83, 66, 65, 84, 67, 72, 32, 45, 99, 32, 49, 10, 35, 83, 66, 65, 84, 67, 72, 32, 45, 99, 32, 50]⟩ 301 201,
  wn ⟨#[115, 98, 97, 116, 99, 104]⟩ ⟨#[101, 99, 104, 111, 10, 35, 83, 66, 65, 84, 67, 72, 32, 45, 122]⟩ 0 0,
  wn ⟨#[115, 98, 97, 116, 99, 104]⟩ ⟨#[32, 35, 83, 66, 65, 84, 67, 72, 32, 45, 122]⟩ 0 0,
  wn ⟨#[115, 98, 97, 116, 99, 104, 32, 45, 100, 32, 97, 110, 121, 58, 49, 44, 111, 107, 58, 50, 44, 102, 97, 105, 108, 58, 51, 44, 97, 110, 121, 58, 52]⟩ ⟨#[]⟩ 0 0,
  wn ⟨#[115, 98, 97, 116, 99, 104, 32, 45, 100, 32, 97, 110, 121, 58, 49, 44, 111, 107, 58, 50, 44, 102, 97, 105, 108, 58, 51, 44, 97, 110, 121, 58, 52, 44, 111, 107, 58, 53]⟩ ⟨#[]⟩ 302 2,
  wn ⟨#[115, 98, 97, 116, 99, 104, 32, 45, 100, 32, 111, 107, 58, 48]⟩ ⟨#[]⟩ 302 2,
  wn ⟨#[115, 98, 97, 116, 99, 104, 32, 45, 100, 32, 111, 107, 58, 49, 58, 50]⟩ ⟨#[]⟩ 302 2,
  wn ⟨#[115, 98, 97, 116, 99, 104, 32, 45, 65, 32, 45, 120]⟩ ⟨#[]⟩ 302 2,
  wn ⟨#[115, 98, 97, 116, 99, 104, 32, 45, 65, 32, 97, 98, 99, 100, 101, 102, 103, 104, 105, 106, 107, 108, 109, 110, 111, 112, 113]⟩ ⟨#[]⟩ 302 2,
  wn ⟨#[115, 98, 97, 116, 99, 104, 32, 45, 65, 32, 97, 98, 99, 100, 101, 102, 103, 104, 105, 106, 107, 108, 109, 110, 111, 112]⟩ ⟨#[]⟩ 0 0,
  wn ⟨#[115, 99, 97, 110, 99, 101, 108]⟩ ⟨#[]⟩ 301 1,
  wn ⟨#[115, 99, 97, 110, 99, 101, 108, 32, 120]⟩ ⟨#[]⟩ 302 1,
  wn ⟨#[115, 99, 97, 110, 99, 101, 108, 32, 55, 32, 56]⟩ ⟨#[]⟩ 301 2,
  wn ⟨#[115, 113, 117, 101, 117, 101, 32, 45, 117]⟩ ⟨#[]⟩ 301 2,
  wn ⟨#[115, 113, 117, 101, 117, 101, 32, 98, 111, 98]⟩ ⟨#[]⟩ 301 1,
  wn ⟨#[115, 97, 99, 99, 116, 32, 45, 117, 32, 97, 32, 98]⟩ ⟨#[]⟩ 301 3,
  wn ⟨#[114, 101, 115, 101, 114, 118, 101, 32, 114, 32, 48, 45, 49, 32, 49, 48]⟩ ⟨#[]⟩ 301 4,
  wn ⟨#[114, 101, 115, 101, 114, 118, 101, 32, 114, 32, 48, 45, 49, 32, 49, 48, 32, 49, 58, 57, 57]⟩ ⟨#[]⟩ 302 4,
  wn ⟨#[114, 101, 115, 101, 114, 118, 101, 32, 114, 32, 48, 45, 49, 32, 49, 48, 32, 50, 48, 32, 97, 32, 98, 32, 99, 32, 100, 32, 101, 32, 102, 32, 103, 32, 104]⟩ ⟨#[]⟩ 0 0,
  wn ⟨#[114, 101, 115, 101, 114, 118, 101, 32, 114, 32, 48, 45, 49, 32, 49, 48, 32, 50, 48, 32, 97, 32, 98, 32, 99, 32, 100, 32, 101, 32, 102, 32, 103, 32, 104, 32, 105]⟩ ⟨#[]⟩ 301 13,
  wn ⟨#[108, 105, 109, 105, 116, 32, 97, 32, 45, 49]⟩ ⟨#[]⟩ 302 2,
  wn ⟨#[108, 105, 109, 105, 116, 32, 97, 32, 110, 111, 110, 101, 32, 120]⟩ ⟨#[]⟩ 301 3,
  wn ⟨#[114, 101, 108, 101, 97, 115, 101]⟩ ⟨#[]⟩ 301 1]
def tms : List PV := [.sc (.string ⟨#[49, 58, 54, 48]⟩), .sc (.string ⟨#[49, 58, 54, 48, 58, 49]⟩), .sc (.string ⟨#[49, 45, 50, 52, 58, 48, 58, 48]⟩), .sc (.string ⟨#[49, 45, 50, 58, 51]⟩), .sc (.string ⟨#[]⟩), .sc (.string ⟨#[45]⟩), .sc (.string ⟨#[49, 58, 50, 58, 51, 58, 52]⟩), .sc (.string ⟨#[49, 45, 49, 45, 49, 58, 49, 58, 49]⟩), .sc (.string ⟨#[45, 49]⟩), .sc (.string ⟨#[49, 58]⟩), .sc (.string ⟨#[49, 48, 48, 48, 48, 48, 48, 48, 48, 48]⟩), .sc (.string ⟨#[49, 50, 55, 50, 53, 56, 51, 48, 45, 48, 58, 48, 58, 48]⟩)]
noncomputable abbrev bd1 : Code := cAt (bodyOf Tryz.f3) [1, 0, 1, 0, 0]
noncomputable abbrev bd2 : Code := cAt (bodyOf Tryz.f3) [1, 1, 0, 1, 0, 0]
abbrev E1 (i : Int) : Env := .lay .nil [89, 90, 91] [.pv (.list 5 true lns), .pv (.sc (.int .i64 31)), .pv (.sc (.int .i64 i))]
abbrev E2 (i : Int) : Env := .lay .nil [119, 120, 121] [.pv (.list 0 true tms), .pv (.sc (.int .i64 12)), .pv (.sc (.int .i64 i))]
noncomputable abbrev KK1 (C : Kallee) (L : Nat) : Ex → Env → Store → Option PV := leaveB 0 (nextT Tryz.prog C hh L 3 (cAt (bodyOf Tryz.f3) [1, 1]) (endP Tryz.prog Tryz.f3))
noncomputable abbrev KK2 (C : Kallee) (L : Nat) : Ex → Env → Store → Option PV := leaveB 2 (nextT Tryz.prog C hh L 3 (cAt (bodyOf Tryz.f3) [1, 1, 1]) (endP Tryz.prog Tryz.f3))
theorem begin3 (C : Kallee) (L : Nat) : execR Tryz.prog C hh L 3 (cAt (bodyOf Tryz.f3) []) (Env.ofArgs [] 0 .nil) [] (endP Tryz.prog Tryz.f3) =
    iter (execR Tryz.prog C hh L 3 bd1) [89, 90, 91] 0 (KK1 C L) L (E1 0) [] := by kernel_rfl
noncomputable abbrev lp (N : Nat) (e : Env) : Option PV := iter (execR Tryz.prog kq hh 200 3 bd1) [89, 90, 91] 0 (KK1 kq 200) N e []
noncomputable abbrev lq (N : Nat) (e : Env) : Option PV := iter (execR Tryz.prog kq hh 200 3 bd2) [119, 120, 121] 0 (KK2 kq 200) N e []
theorem mid3 (C : Kallee) (L N : Nat) : iter (execR Tryz.prog C hh L 3 bd1) [89, 90, 91] 0 (KK1 C L) (N + 1) (E1 31) [] = iter (execR Tryz.prog C hh L 3 bd2) [119, 120, 121] 0 (KK2 C L) L (E2 0) [] := by kernel_rfl
end Go.Lite

namespace Go.Lite
open Go Go.Proofs
set_option maxRecDepth 1000000
theorem rd0 (N : Nat) : lp (N + 1) (E1 0) = lp N (E1 1) := by kernel_rfl
theorem rd1 (N : Nat) : lp (N + 1) (E1 1) = lp N (E1 2) := by kernel_rfl
theorem rd2 (N : Nat) : lp (N + 1) (E1 2) = lp N (E1 3) := by kernel_rfl
theorem rd3 (N : Nat) : lp (N + 1) (E1 3) = lp N (E1 4) := by kernel_rfl
theorem rd4 (N : Nat) : lp (N + 1) (E1 4) = lp N (E1 5) := by kernel_rfl
end Go.Lite
