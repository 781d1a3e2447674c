import Derived.Test.YtkihplehmkbfaaaGreatDoorZL6
import Derived.Test.YtkihplehmkbfaaaGreatDoorProg
import Derived.KernelRfl
import Derived.Laws.Externs
set_option linter.unusedVariables false
set_option linter.unusedSimpArgs false
namespace Go.Proofs
open Go.Vc
set_option maxRecDepth 20000
namespace Nu
theorem zAA {p : Prop} (h : p := by first | with_reducible assumption | omega | (intros; first | with_reducible assumption | omega) | (simp only [go_sem] at *; first | with_reducible assumption | omega) | (intro _; exact ⟨rfl, by decide⟩) | (intro _; refine (?_ : _ = bD _); rfl) | exact ⟨rfl, rfl⟩ | decide) : p := h
theorem zAB {p : Prop} (h : p := by first | exact hc | omega | (simpa using hc) | (simp at hc ⊢; omega)) : p := h
theorem zAC {p : Prop} (h : p := by first | with_reducible assumption | omega | (intros; first | with_reducible assumption | omega) | (simp only [go_sem] at *; first | with_reducible assumption | omega) | (intro _; exact ⟨rfl, by decide⟩) | (intro _; refine (?_ : _ = bD _); rfl) | exact ⟨rfl, rfl⟩ | (intro q0; (try have e0 := g0 (by first | exact q0 | omega | (simpa using q0))); first | assumption | omega) | decide) : p := h
theorem zAD {p : Prop} (h : p := by first | with_reducible assumption | omega | (intros; first | with_reducible assumption | omega) | (simp only [go_sem] at *; first | with_reducible assumption | omega) | (intro _; exact ⟨rfl, by decide⟩) | (intro _; refine (?_ : _ = bD _); rfl) | exact ⟨rfl, rfl⟩ | (intro q0; (try have e0 := g0 (by first | exact q0 | omega | (simpa using q0))); (try have e1 := g1 (by first | exact q0 | omega | (simpa using q0))); first | assumption | omega) | decide) : p := h
theorem zAE {p : Prop} (h : p := by first | exact q0 | omega | (simpa using q0)) : p := h
theorem zAF {p : Prop} (h : p := by (try simp only [mX, jB, true_or, and_self, go_sem]) <;> (repeat' apply And.intro) <;> first | rfl | (left; rfl) | (right; rfl) | (left; simp only [go_sem]; done) | (right; simp only [go_sem]; done) | (simp; done) | (simp only [*]; done) | omega) : p := h
theorem zAG {p : Prop} (h : p := by (try simp only [fJ, aM, go_sem]) <;> first | rfl | (simp; done)) : p := h
def aSM : List Nat := [0, 1, 56, 2, 57, 49, 28, 3, 61, 58, 42, 50, 38, 29, 17, 4, 62, 47, 59, 36, 45, 43, 51, 22, 53, 39, 33, 30, 24, 18, 12, 5, 63, 55, 48, 27, 60, 41, 37, 16, 46, 35, 44, 21, 52, 32, 23, 11, 54, 26, 40, 15, 34, 20, 31, 10, 25, 14, 19, 9, 13, 8, 7, 6]
theorem aTP : aSM = [0, 1, 56, 2, 57, 49, 28, 3, 61, 58, 42, 50, 38, 29, 17, 4, 62, 47, 59, 36, 45, 43, 51, 22, 53, 39, 33, 30, 24, 18, 12, 5, 63, 55, 48, 27, 60, 41, 37, 16, 46, 35, 44, 21, 52, 32, 23, 11, 54, 26, 40, 15, 34, 20, 31, 10, 25, 14, 19, 9, 13, 8, 7, 6] := rfl
def p10 : List Nat := [1, 10, 100, 1000, 10000, 100000, 1000000, 10000000, 100000000, 1000000000, 10000000000, 100000000000, 1000000000000, 10000000000000, 100000000000000, 1000000000000000, 10000000000000000, 100000000000000000, 1000000000000000000, 10000000000000000000]
theorem aUv : p10 = [1, 10, 100, 1000, 10000, 100000, 1000000, 10000000, 100000000, 1000000000, 10000000000, 100000000000, 1000000000000, 10000000000000, 100000000000000, 1000000000000000, 10000000000000000, 100000000000000000, 1000000000000000000, 10000000000000000000] := rfl
noncomputable def GL : Nat → AV
 | 0 => .roa (.arr 64 (.u .u8)) aSM
 | 1 => .roa (.arr 20 (.u .u64)) p10
 | _ => .junk
theorem GL0 : GL 0 = .roa (.arr 64 (.u .u8)) aSM := rfl
theorem GL3 : GL 1 = .roa (.arr 20 (.u .u64)) p10 := rfl
attribute [go_sem] GL0 GL3 mSpec
def tab : List (TypeId × Ty) := [(258, .clo 239 .unit), (2, .i .i64), (3, .i .i64), (4, .bool), (5, .u .u8), (9, .str), (21, .i .i32), (22, .sl (.pair (.i .i64) (.pair (.i .i64) (.pair (.i .i64) (.pair (.pair .bool (.pair (.sl (.u .u64)) (.pair (.i .i64) .unit))) (.pair (.pair .bool (.pair (.sl (.u .u64)) (.pair (.i .i64) .unit))) (.pair (.sl (.sl (.pair (.pair .bool (.pair (.sl (.u .u64)) (.pair (.i .i64) .unit))) (.pair (.pair .bool (.pair (.sl (.u .u64)) (.pair (.i .i64) .unit))) .unit)))) (.pair (.sl (.sl (.pair (.sl (.pair .bool (.pair (.sl (.u .u64)) (.pair (.i .i64) .unit)))) (.pair (.sl (.pair (.pair .bool (.pair (.sl (.u .u64)) (.pair (.i .i64) .unit))) (.pair (.pair .bool (.pair (.sl (.u .u64)) (.pair (.i .i64) .unit))) .unit))) .unit)))) .unit)))))))), (23, .sl (.u .u64)), (25, .pair .bool (.pair (.sl (.u .u64)) (.pair (.i .i64) .unit))), (27, .pair (.pair .bool (.pair (.sl (.u .u64)) (.pair (.i .i64) .unit))) (.pair (.pair .bool (.pair (.sl (.u .u64)) (.pair (.i .i64) .unit))) .unit)), (30, .sl (.sl (.pair (.pair .bool (.pair (.sl (.u .u64)) (.pair (.i .i64) .unit))) (.pair (.pair .bool (.pair (.sl (.u .u64)) (.pair (.i .i64) .unit))) .unit)))), (31, .sl (.sl (.pair (.sl (.pair .bool (.pair (.sl (.u .u64)) (.pair (.i .i64) .unit)))) (.pair (.sl (.pair (.pair .bool (.pair (.sl (.u .u64)) (.pair (.i .i64) .unit))) (.pair (.pair .bool (.pair (.sl (.u .u64)) (.pair (.i .i64) .unit))) .unit))) .unit)))), (33, .pair (.i .i64) (.pair (.i .i64) (.pair (.i .i64) (.pair (.pair .bool (.pair (.sl (.u .u64)) (.pair (.i .i64) .unit))) (.pair (.pair .bool (.pair (.sl (.u .u64)) (.pair (.i .i64) .unit))) (.pair (.sl (.sl (.pair (.pair .bool (.pair (.sl (.u .u64)) (.pair (.i .i64) .unit))) (.pair (.pair .bool (.pair (.sl (.u .u64)) (.pair (.i .i64) .unit))) .unit)))) (.pair (.sl (.sl (.pair (.sl (.pair .bool (.pair (.sl (.u .u64)) (.pair (.i .i64) .unit)))) (.pair (.sl (.pair (.pair .bool (.pair (.sl (.u .u64)) (.pair (.i .i64) .unit))) (.pair (.pair .bool (.pair (.sl (.u .u64)) (.pair (.i .i64) .unit))) .unit))) .unit)))) .unit))))))), (39, .u .u64), (45, .sl .expr), (47, .expr), (48, .sl .str), (51, .sl (.pair .str (.pair (.sl (.pair .str (.pair (.pair .str (.pair .str .unit)) (.pair .expr .unit)))) (.pair (.sl (.pair .str (.pair (.pair .str (.pair .str .unit)) .unit))) (.pair (.sl .str) (.pair (.sl (.pair .str (.pair .expr .unit))) .unit)))))), (52, .sl (.pair .str (.pair .str (.pair .str (.pair .str .unit))))), (54, .pair (.i .i64) (.pair (.i .i64) (.pair (.i .i64) (.pair (.i .i64) (.pair .str (.pair .str (.pair .str (.pair .str (.pair (.sl (.pair .str (.pair (.sl (.pair .str (.pair (.pair .str (.pair .str .unit)) (.pair .expr .unit)))) (.pair (.sl (.pair .str (.pair (.pair .str (.pair .str .unit)) .unit))) (.pair (.sl .str) (.pair (.sl (.pair .str (.pair .expr .unit))) .unit)))))) (.pair (.sl (.pair .str (.pair .str (.pair .str (.pair .str .unit))))) .unit)))))))))), (56, .sl (.pair .str (.pair (.pair .str (.pair .str .unit)) (.pair .expr .unit)))), (57, .sl (.pair .str (.pair (.pair .str (.pair .str .unit)) .unit))), (58, .sl (.pair .str (.pair .expr .unit))), (60, .pair .str (.pair (.sl (.pair .str (.pair (.pair .str (.pair .str .unit)) (.pair .expr .unit)))) (.pair (.sl (.pair .str (.pair (.pair .str (.pair .str .unit)) .unit))) (.pair (.sl .str) (.pair (.sl (.pair .str (.pair .expr .unit))) .unit))))), (62, .pair .str (.pair .str .unit)), (64, .pair .str (.pair (.pair .str (.pair .str .unit)) (.pair .expr .unit))), (68, .pair .str (.pair .str (.pair .str (.pair .str .unit)))), (71, .pair .str (.pair (.pair .str (.pair .str .unit)) .unit)), (73, .pair .str (.pair .expr .unit)), (81, .sl (.i .i64)), (83, .u .u64), (85, .sl (.pair (.pair .bool (.pair (.sl (.u .u64)) (.pair (.i .i64) .unit))) (.pair (.pair .bool (.pair (.sl (.u .u64)) (.pair (.i .i64) .unit))) .unit))), (86, .sl (.pair (.sl (.pair .bool (.pair (.sl (.u .u64)) (.pair (.i .i64) .unit)))) (.pair (.sl (.pair (.pair .bool (.pair (.sl (.u .u64)) (.pair (.i .i64) .unit))) (.pair (.pair .bool (.pair (.sl (.u .u64)) (.pair (.i .i64) .unit))) .unit))) .unit))), (88, .sl (.pair .bool (.pair (.sl (.u .u64)) (.pair (.i .i64) .unit)))), (90, .pair (.sl (.pair .bool (.pair (.sl (.u .u64)) (.pair (.i .i64) .unit)))) (.pair (.sl (.pair (.pair .bool (.pair (.sl (.u .u64)) (.pair (.i .i64) .unit))) (.pair (.pair .bool (.pair (.sl (.u .u64)) (.pair (.i .i64) .unit))) .unit))) .unit)), (91, .nilf), (98, .nilp), (99, .sl (.u .u8)), (101, .pair .nilp (.pair (.sl (.u .u8)) .unit)), (103, .nili), (140, .sl (.u .u32)), (146, .u .u32), (174, .arr 256 (.bool)), (202, .pair .bool (.pair (.sl (.u .u32)) (.pair (.i .i64) .unit))), (221, .nilf), (226, .sl (.sl .str)), (238, .arr 24 (.u .u8)), (242, .arr 64 (.u .u8)), (251, .pair (.i .i64) .unit), (254, .pair (.i .i64) .unit), (264, .arr 20 (.u .u64)), (265, .arr 65 (.u .u8)), (268, .arr 256 (.u .u8)), (270, .pair (.u .u8) (.pair (.u .u8) .unit)), (271, .arr 16 (.pair (.u .u8) (.pair (.u .u8) .unit))), (278, .i .i64), (284, .arr 32 (.u .u8)), (294, .pair .str .unit)]
def elT : TypeId → TypeId
 | 22 => 33
 | 23 => 83
 | 30 => 85
 | 31 => 86
 | 45 => 47
 | 48 => 9
 | 51 => 60
 | 52 => 68
 | 56 => 64
 | 57 => 71
 | 58 => 73
 | 81 => 3
 | 85 => 27
 | 86 => 90
 | 88 => 25
 | 99 => 5
 | 140 => 146
 | 226 => 48
 | _ => 0
def mpT : TypeId → Option (TypeId × TypeId)
 | 96 => some (3, 9)
 | 171 => some (9, 4)
 | _ => none
theorem aOF : gY Tryz.prog (aEF tab) := aRx (by kernel_rfl)
theorem aUI : ∀ t ct, aEF tab t = some (.sl ct) → Tryz.prog.underlying t = some (.slice (elT t)) := aTv (by kernel_rfl)
theorem aUJ : ∀ t k e, mpT t = some (k, e) → Tryz.prog.underlying t = some (.map k e) := by
 intro t k e h
 unfold mpT at h
 split at h
 ·cases h; rfl
 ·cases h; rfl
 ·cases h
def TM : Tab := aEF tab
noncomputable def EM (l : List (FuncId × aF)) : Env := ⟨TM, GL, fun f _ => gam l f, elT, mpT, fun _ => none, fun _ => false⟩
def dmT : TypeId → Option Mk
 | 48 => some .no
 | 51 => some (.pair .no (.pair (.sl 64 .no) (.pair (.sl 71 .no) (.pair (.sl 9 .no) (.pair (.sl 73 .no) .no)))))
 | 52 => some .no
 | 56 => some .no
 | 57 => some .no
 | 58 => some .no
 | _ => none
def dzT : TypeId → Bool
 | 54 => true
 | 60 => true
 | _ => false
noncomputable def EX (l : List (FuncId × aF)) : Env := ⟨TM, GL, fun f _ => gam l f, elT, mpT, dmT, dzT⟩
theorem aUZ (l : List (FuncId × aF)) (t : TypeId) : (EM l).T t = TM t := rfl
theorem aU0 (l : List (FuncId × aF)) (t : Nat) : (EM l).G t = GL t := rfl
theorem aU1 (l : List (FuncId × aF)) (f : FuncId) (vs : List AV) : (EM l).Γ f vs = gam l f := rfl
theorem aUK (l : List (FuncId × aF)) (t : TypeId) : (EM l).el t = elT t := rfl
theorem aUL (l : List (FuncId × aF)) (t : TypeId) : (EM l).mp t = mpT t := rfl
theorem aT {l : List (FuncId × aF)} (h : bA Tryz.prog GL l) : eT Tryz.prog (EM l) := aOs aOF aUI aUJ h
theorem mix : Tryz.prog.follows .mixedOrders = true := by kernel_rfl
theorem aUM (l : List (FuncId × aF)) (t : TypeId) : (EM l).dm t = none := rfl
theorem aUN (l : List (FuncId × aF)) (t : TypeId) : (EM l).dz t = false := rfl
theorem aU2 (l : List (FuncId × aF)) (t : TypeId) : (EX l).T t = TM t := rfl
theorem aU3 (l : List (FuncId × aF)) (t : Nat) : (EX l).G t = GL t := rfl
theorem aU4 (l : List (FuncId × aF)) (f : FuncId) (vs : List AV) : (EX l).Γ f vs = gam l f := rfl
theorem aUO (l : List (FuncId × aF)) (t : TypeId) : (EX l).el t = elT t := rfl
theorem aUP (l : List (FuncId × aF)) (t : TypeId) : (EX l).mp t = mpT t := rfl
theorem aUQ (l : List (FuncId × aF)) (t : TypeId) : (EX l).dm t = dmT t := rfl
theorem aUR (l : List (FuncId × aF)) (t : TypeId) : (EX l).dz t = dzT t := rfl
theorem aQD {l : List (FuncId × aF)} (h : bA Tryz.prog GL l) : eT Tryz.prog (EX l) := aOs aOF aUI aUJ h
attribute [go_sem] aUM aUN aU2 aU3 aU4 aUO aUP aUQ aUR dmT dzT
theorem T2 : TM 2 = some (.i .i64) := rfl
theorem T3 : TM 3 = some (.i .i64) := rfl
theorem T4 : TM 4 = some (.bool) := rfl
theorem T5 : TM 5 = some (.u .u8) := rfl
theorem T9 : TM 9 = some (.str) := rfl
theorem T21 : TM 21 = some (.i .i32) := rfl
theorem T22 : TM 22 = some (.sl (.pair (.i .i64) (.pair (.i .i64) (.pair (.i .i64) (.pair (.pair .bool (.pair (.sl (.u .u64)) (.pair (.i .i64) .unit))) (.pair (.pair .bool (.pair (.sl (.u .u64)) (.pair (.i .i64) .unit))) (.pair (.sl (.sl (.pair (.pair .bool (.pair (.sl (.u .u64)) (.pair (.i .i64) .unit))) (.pair (.pair .bool (.pair (.sl (.u .u64)) (.pair (.i .i64) .unit))) .unit)))) (.pair (.sl (.sl (.pair (.sl (.pair .bool (.pair (.sl (.u .u64)) (.pair (.i .i64) .unit)))) (.pair (.sl (.pair (.pair .bool (.pair (.sl (.u .u64)) (.pair (.i .i64) .unit))) (.pair (.pair .bool (.pair (.sl (.u .u64)) (.pair (.i .i64) .unit))) .unit))) .unit)))) .unit)))))))) := rfl
theorem T23 : TM 23 = some (.sl (.u .u64)) := rfl
theorem T25 : TM 25 = some (.pair .bool (.pair (.sl (.u .u64)) (.pair (.i .i64) .unit))) := rfl
theorem T27 : TM 27 = some (.pair (.pair .bool (.pair (.sl (.u .u64)) (.pair (.i .i64) .unit))) (.pair (.pair .bool (.pair (.sl (.u .u64)) (.pair (.i .i64) .unit))) .unit)) := rfl
theorem T30 : TM 30 = some (.sl (.sl (.pair (.pair .bool (.pair (.sl (.u .u64)) (.pair (.i .i64) .unit))) (.pair (.pair .bool (.pair (.sl (.u .u64)) (.pair (.i .i64) .unit))) .unit)))) := rfl
theorem T31 : TM 31 = some (.sl (.sl (.pair (.sl (.pair .bool (.pair (.sl (.u .u64)) (.pair (.i .i64) .unit)))) (.pair (.sl (.pair (.pair .bool (.pair (.sl (.u .u64)) (.pair (.i .i64) .unit))) (.pair (.pair .bool (.pair (.sl (.u .u64)) (.pair (.i .i64) .unit))) .unit))) .unit)))) := rfl
theorem T33 : TM 33 = some (.pair (.i .i64) (.pair (.i .i64) (.pair (.i .i64) (.pair (.pair .bool (.pair (.sl (.u .u64)) (.pair (.i .i64) .unit))) (.pair (.pair .bool (.pair (.sl (.u .u64)) (.pair (.i .i64) .unit))) (.pair (.sl (.sl (.pair (.pair .bool (.pair (.sl (.u .u64)) (.pair (.i .i64) .unit))) (.pair (.pair .bool (.pair (.sl (.u .u64)) (.pair (.i .i64) .unit))) .unit)))) (.pair (.sl (.sl (.pair (.sl (.pair .bool (.pair (.sl (.u .u64)) (.pair (.i .i64) .unit)))) (.pair (.sl (.pair (.pair .bool (.pair (.sl (.u .u64)) (.pair (.i .i64) .unit))) (.pair (.pair .bool (.pair (.sl (.u .u64)) (.pair (.i .i64) .unit))) .unit))) .unit)))) .unit))))))) := rfl
theorem T39 : TM 39 = some (.u .u64) := rfl
theorem T45 : TM 45 = some (.sl .expr) := rfl
theorem T47 : TM 47 = some (.expr) := rfl
theorem T48 : TM 48 = some (.sl .str) := rfl
theorem T51 : TM 51 = some (.sl (.pair .str (.pair (.sl (.pair .str (.pair (.pair .str (.pair .str .unit)) (.pair .expr .unit)))) (.pair (.sl (.pair .str (.pair (.pair .str (.pair .str .unit)) .unit))) (.pair (.sl .str) (.pair (.sl (.pair .str (.pair .expr .unit))) .unit)))))) := rfl
theorem T52 : TM 52 = some (.sl (.pair .str (.pair .str (.pair .str (.pair .str .unit))))) := rfl
theorem T54 : TM 54 = some (.pair (.i .i64) (.pair (.i .i64) (.pair (.i .i64) (.pair (.i .i64) (.pair .str (.pair .str (.pair .str (.pair .str (.pair (.sl (.pair .str (.pair (.sl (.pair .str (.pair (.pair .str (.pair .str .unit)) (.pair .expr .unit)))) (.pair (.sl (.pair .str (.pair (.pair .str (.pair .str .unit)) .unit))) (.pair (.sl .str) (.pair (.sl (.pair .str (.pair .expr .unit))) .unit)))))) (.pair (.sl (.pair .str (.pair .str (.pair .str (.pair .str .unit))))) .unit)))))))))) := rfl
theorem T56 : TM 56 = some (.sl (.pair .str (.pair (.pair .str (.pair .str .unit)) (.pair .expr .unit)))) := rfl
theorem T57 : TM 57 = some (.sl (.pair .str (.pair (.pair .str (.pair .str .unit)) .unit))) := rfl
theorem T58 : TM 58 = some (.sl (.pair .str (.pair .expr .unit))) := rfl
theorem T60 : TM 60 = some (.pair .str (.pair (.sl (.pair .str (.pair (.pair .str (.pair .str .unit)) (.pair .expr .unit)))) (.pair (.sl (.pair .str (.pair (.pair .str (.pair .str .unit)) .unit))) (.pair (.sl .str) (.pair (.sl (.pair .str (.pair .expr .unit))) .unit))))) := rfl
theorem T62 : TM 62 = some (.pair .str (.pair .str .unit)) := rfl
theorem T64 : TM 64 = some (.pair .str (.pair (.pair .str (.pair .str .unit)) (.pair .expr .unit))) := rfl
theorem T68 : TM 68 = some (.pair .str (.pair .str (.pair .str (.pair .str .unit)))) := rfl
theorem T71 : TM 71 = some (.pair .str (.pair (.pair .str (.pair .str .unit)) .unit)) := rfl
theorem T73 : TM 73 = some (.pair .str (.pair .expr .unit)) := rfl
theorem T81 : TM 81 = some (.sl (.i .i64)) := rfl
theorem T83 : TM 83 = some (.u .u64) := rfl
theorem T85 : TM 85 = some (.sl (.pair (.pair .bool (.pair (.sl (.u .u64)) (.pair (.i .i64) .unit))) (.pair (.pair .bool (.pair (.sl (.u .u64)) (.pair (.i .i64) .unit))) .unit))) := rfl
theorem T86 : TM 86 = some (.sl (.pair (.sl (.pair .bool (.pair (.sl (.u .u64)) (.pair (.i .i64) .unit)))) (.pair (.sl (.pair (.pair .bool (.pair (.sl (.u .u64)) (.pair (.i .i64) .unit))) (.pair (.pair .bool (.pair (.sl (.u .u64)) (.pair (.i .i64) .unit))) .unit))) .unit))) := rfl
theorem T88 : TM 88 = some (.sl (.pair .bool (.pair (.sl (.u .u64)) (.pair (.i .i64) .unit)))) := rfl
theorem T90 : TM 90 = some (.pair (.sl (.pair .bool (.pair (.sl (.u .u64)) (.pair (.i .i64) .unit)))) (.pair (.sl (.pair (.pair .bool (.pair (.sl (.u .u64)) (.pair (.i .i64) .unit))) (.pair (.pair .bool (.pair (.sl (.u .u64)) (.pair (.i .i64) .unit))) .unit))) .unit)) := rfl
theorem T91 : TM 91 = some (.nilf) := rfl
theorem T98 : TM 98 = some (.nilp) := rfl
theorem T99 : TM 99 = some (.sl (.u .u8)) := rfl
theorem aU5 : TM 101 = some (.pair .nilp (.pair (.sl (.u .u8)) .unit)) := rfl
theorem aU6 : TM 103 = some (.nili) := rfl
theorem aU7 : TM 140 = some (.sl (.u .u32)) := rfl
theorem aU8 : TM 146 = some (.u .u32) := rfl
theorem aU9 : TM 174 = some (.arr 256 (.bool)) := rfl
theorem aVa : TM 202 = some (.pair .bool (.pair (.sl (.u .u32)) (.pair (.i .i64) .unit))) := rfl
theorem aVb : TM 221 = some (.nilf) := rfl
theorem aVc : TM 226 = some (.sl (.sl .str)) := rfl
theorem aVd : TM 238 = some (.arr 24 (.u .u8)) := rfl
theorem aVe : TM 242 = some (.arr 64 (.u .u8)) := rfl
theorem aVf : TM 251 = some (.pair (.i .i64) .unit) := rfl
theorem aVg : TM 254 = some (.pair (.i .i64) .unit) := rfl
theorem aVh : TM 264 = some (.arr 20 (.u .u64)) := rfl
theorem aVi : TM 265 = some (.arr 65 (.u .u8)) := rfl
theorem aVj : TM 268 = some (.arr 256 (.u .u8)) := rfl
theorem aVk : TM 270 = some (.pair (.u .u8) (.pair (.u .u8) .unit)) := rfl
theorem aVl : TM 271 = some (.arr 16 (.pair (.u .u8) (.pair (.u .u8) .unit))) := rfl
theorem aVm : TM 278 = some (.i .i64) := rfl
theorem aVn : TM 284 = some (.arr 32 (.u .u8)) := rfl
theorem aVo : TM 294 = some (.pair .str .unit) := rfl
theorem aVp : TM 258 = some (.clo 239 .unit) := rfl
attribute [go_sem] aUZ aU0 aU1 aUK aUL elT mpT aVp T2 T3 T4 T5 T9 T21 T22 T23 T25 T27 T30 T31 T33 T39 T45 T47 T48 T51 T52 T54 T56 T57 T58 T60 T62 T64 T68 T71 T73 T81 T83 T85 T86 T88 T90 T91 T98 T99 aU5 aU6 aU7 aU8 aU9 aVa aVb aVc aVd aVe aVf aVg aVh aVi aVj aVk aVl aVm aVn aVo
end Nu
end Go.Proofs
namespace Go.Proofs
open Go.Vc
set_option maxRecDepth 20000
namespace Nu
def aCm (x y c : Nat) : Nat × Nat × Unit := ((x + y + c) % 18446744073709551616, (x + y + c) / 18446744073709551616, ())
abbrev aNz (x y c : Nat) : Prop := c ≤ 1
def aGy : Ty := .pair (.u .u64) (.pair (.u .u64) (.pair (.u .u64) .unit))
noncomputable def pC : aF := ⟨aGy, .tup (.pair (.u .u64) (.pair (.u .u64) .unit)), fun x => aNz x.1 x.2.1 x.2.2.1, fun x => aCm x.1 x.2.1 x.2.2.1⟩
attribute [go_sem] pC aGy
theorem aNA {w : World} {S : Nat → Prop} {x : Nat} {v : Value} (h : cS w S (.u .u64) x v) : v = .int .u64 (x : Int) := by
 unfold cS at h
 rw [if_neg (by simp [Ty.isAgg])] at h
 simp only [aO, List.cons.injEq, and_true] at h
 exact h.1
theorem aPy {w : World} {S : Nat → Prop} {vs : List Value} {x : Nat × Nat × Nat × Unit} (h : mV w S (.pair (.u .u64) (.pair (.u .u64) (.pair (.u .u64) .unit))) x vs) : vs = [.int .u64 (x.1 : Int), .int .u64 (x.2.1 : Int), .int .u64 (x.2.2.1 : Int)] := by
 obtain ⟨v1, r1, rfl, h1, v2, r2, rfl, h2, v3, r3, rfl, h3, h4⟩ := h
 rw [aNA h1, aNA h2, aNA h3]
 have h4 : r3 = [] := h4
 rw [h4]
theorem aSN {w : World} {S : Nat → Prop} {x : Nat} (h : x < 18446744073709551616) : cS w S (.u .u64) x (.int .u64 (x : Int)) := by
 unfold cS
 rw [if_neg (by simp [Ty.isAgg])]
 refine ⟨rfl, rfl, ?_⟩
 simp [IntKind.max, IntKind.signed, IntKind.bits]; omega
theorem aSO {w : World} {S : Nat → Prop} {x y : Nat} (hx : x < 18446744073709551616) (hy : y < 18446744073709551616) : mV w S (.pair (.u .u64) (.pair (.u .u64) .unit)) (x, y, ()) [.int .u64 (x : Int), .int .u64 (y : Int)] :=
 ⟨_, _, rfl, aSN hx, _, _, rfl, aSN hy, rfl⟩
theorem wf_u64 {x : Nat} (h : (Ty.u .u64).wf x) : x < 18446744073709551616 := by
 simp only [Ty.wf, IntKind.max, IntKind.signed, IntKind.bits] at h
 simp at h; omega
theorem aEK : NOK Tryz.prog GL 162 pC := by
 refine aUk fun w S vs x ha hp => ?_
 have hp : x.2.2.1 ≤ 1 := hp
 have hw := aGk _ _ _ ha
 obtain ⟨h1, h2, h3, _⟩ := hw
 have h1 := wf_u64 h1
 have h2 := wf_u64 h2
 rw [aPy ha]
 refine ⟨[.int .u64 (((x.1 + x.2.1 + x.2.2.1) % 18446744073709551616 : Nat) : Int), .int .u64 (((x.1 + x.2.1 + x.2.2.1) / 18446744073709551616 : Nat) : Int)], ?_, aSO (by omega) (by omega)⟩
 rw [run_callFunc_extern Tryz.func162 (by kernel_rfl) (by kernel_rfl) (by kernel_rfl) (e := add64Entry) (by kernel_rfl), run_add64 x.1 x.2.1 x.2.2.1 (by omega) (by omega) (by omega) (by omega)]
 simp only [Result.andThen]
 congr 5 <;> omega
abbrev aSP (s : List Nat) : Prop := s.length * 8 ≤ 140737488355328
def pI : Ty := .pair (.sl (.u .u64)) .unit
noncomputable def cJ : aF := ⟨pI, .own 83 (.u .u64), fun x => aSP x.1, fun x => id x.1⟩
attribute [go_sem] cJ pI
noncomputable def vY (F : Md) : List (FuncId × aF) := []
theorem vZ (F : Md) : bA Tryz.prog GL (vY F) := .nil
theorem kZ : FOK Tryz.prog GL 165 cJ := by
 refine aPk (aT (vZ none)) Tryz.func165 rfl (by kernel_rfl) (by decide) fun w0 S x hw hp => ?_
 have hF : kP (fr Tryz.prog (EM (vY none)) S w0 Tryz.f165.ntmps) := ⟨aT (vZ none), mix⟩
 obtain ⟨(s : (List Nat)), u⟩ := x
 have hp : s.length * 8 ≤ 140737488355328 := hp
 simp only [bJ, pI, cJ]
 refine aB (aD hF [0, 2] ?_)
 simp only [go_sem]
 refine aC (aB (aB (aM0 hF rfl rfl rfl fun b hb => ?_)))
 refine aC (bZ rfl (fun hc => ?_) (fun hc => ?_))
 ·have hs := hb hc
  refine aB (aD hF [2] ?_)
  simp only [go_sem]
  refine aC (cI (bV (dK hF [.tmp 2] rfl rfl rfl ?_)))
  simp only [fJ, aM, go_sem, hs]
  try trivial
 ·refine cQ (aC (aB (aZ hF [2] ?_)))
  simp only [go_sem]
  refine ⟨by omega, ?_⟩
  refine aC (cI (dK hF [.tmp 2] rfl rfl rfl ?_))
  simp only [fJ, aM, go_sem]
  try trivial
end Nu
end Go.Proofs
namespace Go.Proofs
open Go.Vc
set_option maxRecDepth 20000
namespace Nu
def aCn : ByteArray := ⟨⟨0 :: 1 :: 2 :: 2 :: 3 :: 3 :: 3 :: 3 :: 4 :: 4 :: 4 :: 4 :: 4 :: 4 :: 4 :: 4 :: 5 :: 5 :: 5 :: 5 :: 5 :: 5 :: 5 :: 5 :: 5 :: 5 :: 5 :: 5 :: 5 :: 5 :: 5 :: 5 :: 6 :: 6 :: 6 :: 6 :: 6 :: 6 :: 6 :: 6 :: 6 :: 6 :: 6 :: 6 :: 6 :: 6 :: 6 :: 6 :: 6 :: 6 :: 6 :: 6 :: 6 :: 6 :: 6 :: 6 :: 6 :: 6 :: 6 :: 6 :: 6 :: 6 :: 6 :: 6 :: 7 :: 7 :: 7 :: 7 :: 7 :: 7 :: 7 :: 7 :: 7 :: 7 :: 7 :: 7 :: 7 :: 7 :: 7 :: 7 :: 7 :: 7 :: 7 :: 7 :: 7 :: 7 :: 7 :: 7 :: 7 :: 7 :: 7 :: 7 :: 7 :: 7 :: 7 :: 7 :: 7 :: 7 :: 7 :: 7 :: 7 :: 7 :: 7 :: 7 :: 7 :: 7 :: 7 :: 7 :: 7 :: 7 :: 7 :: 7 :: 7 :: 7 :: 7 :: 7 :: 7 :: 7 :: 7 :: 7 :: 7 :: 7 :: 7 :: 7 :: 7 :: 7 :: 7 :: 7 :: 8 :: 8 :: 8 :: 8 :: 8 :: 8 :: 8 :: 8 :: 8 :: 8 :: 8 :: 8 :: 8 :: 8 :: 8 :: 8 :: 8 :: 8 :: 8 :: 8 :: 8 :: 8 :: 8 :: 8 :: 8 :: 8 :: 8 :: 8 :: 8 :: 8 :: 8 :: 8 :: 8 :: 8 :: 8 :: 8 :: 8 :: 8 :: 8 :: 8 :: 8 :: 8 :: 8 :: 8 :: 8 :: 8 :: 8 :: 8 :: 8 :: 8 :: 8 :: 8 :: 8 :: 8 :: 8 :: 8 :: 8 :: 8 :: 8 :: 8 :: 8 :: 8 :: 8 :: 8 :: 8 :: 8 :: 8 :: 8 :: 8 :: 8 :: 8 :: 8 :: 8 :: 8 :: 8 :: 8 :: 8 :: 8 :: 8 :: 8 :: 8 :: 8 :: 8 :: 8 :: 8 :: 8 :: 8 :: 8 :: 8 :: 8 :: 8 :: 8 :: 8 :: 8 :: 8 :: 8 :: 8 :: 8 :: 8 :: 8 :: 8 :: 8 :: 8 :: 8 :: 8 :: 8 :: 8 :: 8 :: 8 :: 8 :: 8 :: 8 :: 8 :: 8 :: 8 :: 8 :: 8 :: 8 :: 8 :: 8 :: 8 :: 8 :: 8 :: 8 :: 8 :: 8 :: 8 :: 8 :: []⟩⟩
theorem aL4 : (⟨⟨0 :: 1 :: 2 :: 2 :: 3 :: 3 :: 3 :: 3 :: 4 :: 4 :: 4 :: 4 :: 4 :: 4 :: 4 :: 4 :: 5 :: 5 :: 5 :: 5 :: 5 :: 5 :: 5 :: 5 :: 5 :: 5 :: 5 :: 5 :: 5 :: 5 :: 5 :: 5 :: 6 :: 6 :: 6 :: 6 :: 6 :: 6 :: 6 :: 6 :: 6 :: 6 :: 6 :: 6 :: 6 :: 6 :: 6 :: 6 :: 6 :: 6 :: 6 :: 6 :: 6 :: 6 :: 6 :: 6 :: 6 :: 6 :: 6 :: 6 :: 6 :: 6 :: 6 :: 6 :: 7 :: 7 :: 7 :: 7 :: 7 :: 7 :: 7 :: 7 :: 7 :: 7 :: 7 :: 7 :: 7 :: 7 :: 7 :: 7 :: 7 :: 7 :: 7 :: 7 :: 7 :: 7 :: 7 :: 7 :: 7 :: 7 :: 7 :: 7 :: 7 :: 7 :: 7 :: 7 :: 7 :: 7 :: 7 :: 7 :: 7 :: 7 :: 7 :: 7 :: 7 :: 7 :: 7 :: 7 :: 7 :: 7 :: 7 :: 7 :: 7 :: 7 :: 7 :: 7 :: 7 :: 7 :: 7 :: 7 :: 7 :: 7 :: 7 :: 7 :: 7 :: 7 :: 7 :: 7 :: 8 :: 8 :: 8 :: 8 :: 8 :: 8 :: 8 :: 8 :: 8 :: 8 :: 8 :: 8 :: 8 :: 8 :: 8 :: 8 :: 8 :: 8 :: 8 :: 8 :: 8 :: 8 :: 8 :: 8 :: 8 :: 8 :: 8 :: 8 :: 8 :: 8 :: 8 :: 8 :: 8 :: 8 :: 8 :: 8 :: 8 :: 8 :: 8 :: 8 :: 8 :: 8 :: 8 :: 8 :: 8 :: 8 :: 8 :: 8 :: 8 :: 8 :: 8 :: 8 :: 8 :: 8 :: 8 :: 8 :: 8 :: 8 :: 8 :: 8 :: 8 :: 8 :: 8 :: 8 :: 8 :: 8 :: 8 :: 8 :: 8 :: 8 :: 8 :: 8 :: 8 :: 8 :: 8 :: 8 :: 8 :: 8 :: 8 :: 8 :: 8 :: 8 :: 8 :: 8 :: 8 :: 8 :: 8 :: 8 :: 8 :: 8 :: 8 :: 8 :: 8 :: 8 :: 8 :: 8 :: 8 :: 8 :: 8 :: 8 :: 8 :: 8 :: 8 :: 8 :: 8 :: 8 :: 8 :: 8 :: 8 :: 8 :: 8 :: 8 :: 8 :: 8 :: 8 :: 8 :: 8 :: 8 :: 8 :: 8 :: 8 :: 8 :: 8 :: 8 :: 8 :: 8 :: 8 :: 8 :: []⟩⟩ : ByteArray) = aCn := rfl
attribute [go_sem] aL4
noncomputable def oR (F : Md) (x_6 : Nat) (n_7 : Int) : Option (Int) :=
 ck (0 ≤ (((x_6 % 256) : Nat) : Int) ∧ (((x_6 % 256) : Nat) : Int) < (((aY aCn).length : Nat) : Int)) (ck (I64 (n_7 + ((((aY aCn).getD (x_6 % 256) (0 : Nat)) : Nat) : Int))) (some (n_7 + ((((aY aCn).getD (x_6 % 256) (0 : Nat)) : Nat) : Int))))
noncomputable def oS (F : Md) (x_4 : Nat) (n_5 : Int) : Option (Int) :=
 if (256 : Nat) ≤ x_4 then ck (I64 (n_5 + (8 : Int))) (oR F (x_4 / (256 : Nat)) (n_5 + (8 : Int))) else oR F x_4 n_5
noncomputable def oT (F : Md) (x_2 : Nat) (n_3 : Int) : Option (Int) :=
 if (65536 : Nat) ≤ x_2 then ck (I64 (n_3 + (16 : Int))) (oS F (x_2 / (65536 : Nat)) (n_3 + (16 : Int))) else oS F x_2 n_3
noncomputable def yZ (F : Md) (x_0 : Nat) : Option Int :=
 if (4294967296 : Nat) ≤ x_0 then oT F (x_0 / (4294967296 : Nat)) (32 : Int) else oT F x_0 (0 : Int)
def aEL : PlR := ⟨[(0, .A [0, 2]), (1, .A [0, 2, 4]), (2, .A [0]), (3, .A [0, 2]), (4, .A [0, 2, 8]), (5, .A [0, 2]), (6, .A [0, 2]), (7, .A [0, 2, 14]), (8, .A [0, 2]), (9, .A [0, 2]), (10, .A [2])], [(4, 7), (7, 10), (10, 13)]⟩
def aGz : Ty := .pair (.u .u64) .unit
noncomputable def wW (F : Md) : aF := mSpec aGz (.one (.i .i64)) (fun x => yZ F x.1)
noncomputable def aNB (F : Md) : List (FuncId × aF) := []
theorem aNC (F : Md) : bA Tryz.prog GL (aNB F) := .nil
attribute [go_sem] aGz aEL
set_option maxHeartbeats 4000000 in
theorem aL5 (F : Md) : FOK Tryz.prog GL 235 (wW F) := by
 refine bF (aT (aNC F)) mix Tryz.func235 rfl (by kernel_rfl) (by decide) aEL fun w0 S x Θ hw h hF => ?_
 obtain ⟨(x_0 : Nat), u⟩ := x
 simp only [bJ, go_sem]
 replace h : sat (yZ F x_0) _ := h
 unfold yZ at h
 refine dM hF (D := Nat × Int) (fun d => sat (oT F d.1 d.2) Θ) [] (fun d => [(0, .val (.u .u64) d.1), (2, .val (.i .i64) d.2)]) (fun d => []) ?_ ?_
 ·simp only [go_sem]
  refine dQ h (fun hc h => ?_) fun hc h => ?_
  ·exact aQ ((x_0 / (4294967296 : Nat)), (32 : Int)) h rfl (by simp only [go_sem])
  ·exact aQ (x_0, (0 : Int)) h rfl (by simp only [go_sem])
 ·rintro ⟨x_2, n_3⟩ h
  simp only [go_sem]
  replace h : sat (oT F x_2 n_3) _ := h
  unfold oT at h
  refine dM hF (D := Nat × Int) (fun d => sat (oS F d.1 d.2) Θ) [] (fun d => [(0, .val (.u .u64) d.1), (2, .val (.i .i64) d.2)]) (fun d => []) ?_ ?_
  ·simp only [go_sem]
   refine dQ h (fun hc h => ?_) fun hc h => ?_
   ·refine aP h fun g0 h => ?_
    exact aQ ((x_2 / (65536 : Nat)), (n_3 + (16 : Int))) h rfl (by simp only [go_sem])
   ·exact aQ (x_2, n_3) h rfl (by simp only [go_sem])
  ·rintro ⟨x_4, n_5⟩ h
   simp only [go_sem]
   replace h : sat (oS F x_4 n_5) _ := h
   unfold oS at h
   refine dM hF (D := Nat × Int) (fun d => sat (oR F d.1 d.2) Θ) [] (fun d => [(0, .val (.u .u64) d.1), (2, .val (.i .i64) d.2)]) (fun d => []) ?_ ?_
   ·simp only [go_sem]
    refine dQ h (fun hc h => ?_) fun hc h => ?_
    ·refine aP h fun g0 h => ?_
     exact aQ ((x_4 / (256 : Nat)), (n_5 + (8 : Int))) h rfl (by simp only [go_sem])
    ·exact aQ (x_4, n_5) h rfl (by simp only [go_sem])
   ·rintro ⟨x_6, n_7⟩ h
    simp only [go_sem]
    replace h : sat (oR F x_6 n_7) _ := h
    unfold oR at h
    refine aP h fun g0 h => aP h fun g1 h => ?_
    exact aE hF [.tmp 2] rfl rfl rfl (aA h) (by simp only [aM, go_sem])
attribute [go_sem] wW
noncomputable def bM (F : Md) (x_0 : Nat) : Option Int :=
 (yZ F x_0).bind (fun v_5 => ck (I64 ((64 : Int) - v_5)) (some ((64 : Int) - v_5)))
def uN : PlR := ⟨[(0, .A [0]), (1, .A [2])], []⟩
def wA : Ty := .pair (.u .u64) .unit
noncomputable def dT (F : Md) : aF := mSpec wA (.one (.i .i64)) (fun x => bM F x.1)
noncomputable def wB (F : Md) : List (FuncId × aF) := [(235, (wW F))]
theorem aC9 (F : Md) : bA Tryz.prog GL (wB F) := .cons (aL5 F) (by kernel_rfl) (.nil)
theorem aAH (F : Md) : gam (wB F) 235 = some (wW F) := rfl
attribute [go_sem] wA uN aAH
set_option maxHeartbeats 4000000 in
theorem oF (F : Md) : FOK Tryz.prog GL 188 (dT F) := by
 refine bF (aT (aC9 F)) mix Tryz.func188 rfl (by kernel_rfl) (by decide) uN fun w0 S x Θ hw h hF => ?_
 obtain ⟨(x_0 : Nat), u⟩ := x
 simp only [bJ, go_sem]
 replace h : sat (bM F x_0) _ := h
 unfold bM at h
 obtain ⟨v_5, hv, h⟩ := aI h
 try simp only [hv, go_sem]
 refine aP h fun g0 h => ?_
 exact aE hF [.tmp 2] rfl rfl rfl (aA h) (by simp only [aM, go_sem])
attribute [go_sem] dT
noncomputable def lA (F : Md) (x_0 : Nat) : Option Int :=
 if x_0 = (0 : Nat) then some (64 : Int) else ck (0 ≤ ((((mulM F .u64 (x_0 &&& (aPt F .u64 x_0)) (285870213051353865 : Nat)) / (288230376151711744 : Nat)) : Nat) : Int) ∧ ((((mulM F .u64 (x_0 &&& (aPt F .u64 x_0)) (285870213051353865 : Nat)) / (288230376151711744 : Nat)) : Nat) : Int) < (64 : Int)) (some (((aSM.getD ((mulM F .u64 (x_0 &&& (aPt F .u64 x_0)) (285870213051353865 : Nat)) / (288230376151711744 : Nat)) (0 : Nat)) : Nat) : Int))
def tM : PlR := ⟨[(0, .A [0]), (1, .A [0, 4]), (2, .A [2]), (3, .A [2])], []⟩
def uP : Ty := .pair (.u .u64) .unit
noncomputable def jY (F : Md) : aF := mSpec uP (.one (.i .i64)) (fun x => lA F x.1)
noncomputable def aCo (F : Md) : List (FuncId × aF) := []
theorem aCp (F : Md) : bA Tryz.prog GL (aCo F) := .nil
attribute [go_sem] uP tM
set_option maxHeartbeats 4000000 in
theorem aBC (F : Md) : FOK Tryz.prog GL 164 (jY F) := by
 refine bF (aT (aCp F)) mix Tryz.func164 rfl (by kernel_rfl) (by decide) tM fun w0 S x Θ hw h hF => ?_
 obtain ⟨(x_0 : Nat), u⟩ := x
 simp only [bJ, go_sem]
 replace h : sat (lA F x_0) _ := h
 unfold lA at h
 refine dQ h (fun hc h => ?_) fun hc h => ?_
 ·exact aE hF [.tmp 2] rfl rfl rfl (aA h) (by simp only [aM, go_sem, bG F, bH F, bI F])
 ·obtain ⟨g0, h⟩ := aH h
  repeat (refine ⟨by first | with_reducible assumption | omega | (intros; first | with_reducible assumption | omega) | (simp only [go_sem, bG F, bH F, bI F] at *; first | with_reducible assumption | omega) | (intro _; exact ⟨rfl, by decide⟩) | (intro _; refine (?_ : _ = bD _); rfl) | exact ⟨rfl, rfl⟩ | decide, ?_⟩)
  exact aE hF [.tmp 2] rfl rfl rfl (aA h) (by (simp only [aM, go_sem, bG F, bH F, bI F]) <;> first | rfl | (simp; done))
attribute [go_sem] jY
noncomputable def zA (F : Md) (x_0 : Nat) (y_1 : Nat) : Option (Nat × (Nat × Unit)) :=
 some ((((((mulM F .u64 (x_0 / (4294967296 : Nat)) (y_1 / (4294967296 : Nat))) + ((((mulM F .u64 (x_0 / (4294967296 : Nat)) (y_1 &&& (4294967295 : Nat))) + ((mulM F .u64 (x_0 &&& (4294967295 : Nat)) (y_1 &&& (4294967295 : Nat))) / (4294967296 : Nat))) % 18446744073709551616) / (4294967296 : Nat))) % 18446744073709551616) + (((((((mulM F .u64 (x_0 / (4294967296 : Nat)) (y_1 &&& (4294967295 : Nat))) + ((mulM F .u64 (x_0 &&& (4294967295 : Nat)) (y_1 &&& (4294967295 : Nat))) / (4294967296 : Nat))) % 18446744073709551616) &&& (4294967295 : Nat)) + (mulM F .u64 (x_0 &&& (4294967295 : Nat)) (y_1 / (4294967296 : Nat)))) % 18446744073709551616) / (4294967296 : Nat))) % 18446744073709551616), (mulM F .u64 x_0 y_1), ())
def aEM : PlR := ⟨[(0, .A [0, 1]), (1, .A [0, 1, 6]), (2, .A [0, 1, 6, 7]), (3, .A [0, 1, 6, 7, 8]), (4, .A [0, 1, 6, 7, 8, 9]), (5, .A [0, 1, 6, 7, 8, 9, 10]), (6, .A [0, 1, 6, 7, 9, 11]), (7, .A [0, 1, 6, 7, 9, 11, 12]), (8, .A [0, 1, 6, 7, 9, 12, 13]), (9, .A [0, 1, 7, 9, 12, 13]), (10, .A [0, 1, 4]), (11, .A [4, 5])], []⟩
def aGA : Ty := .pair (.u .u64) (.pair (.u .u64) .unit)
noncomputable def wX (F : Md) : aF := mSpec aGA (.tup (.pair (.u .u64) (.pair (.u .u64) .unit))) (fun x => zA F x.1 x.2.1)
noncomputable def aND (F : Md) : List (FuncId × aF) := []
theorem aNE (F : Md) : bA Tryz.prog GL (aND F) := .nil
attribute [go_sem] aGA aEM
set_option maxHeartbeats 4000000 in
theorem aL6 (F : Md) : FOK Tryz.prog GL 161 (wX F) := by
 refine bF (aT (aNE F)) mix Tryz.func161 rfl (by kernel_rfl) (by decide) aEM fun w0 S x Θ hw h hF => ?_
 obtain ⟨(x_0 : Nat), (y_1 : Nat), u⟩ := x
 simp only [bJ, go_sem]
 replace h : sat (zA F x_0 y_1) _ := h
 unfold zA at h
 exact aE hF [.tmp 4, .tmp 5] rfl rfl rfl (aA h) (by simp only [aM, go_sem, bG F, bH F, bI F])
attribute [go_sem] wX
noncomputable def sN (F : Md) (x15_12 : Nat) (hi_0 : Nat) (v_7 : Int) (lo_1 : Nat) (y_2 : Nat) (x18_17 : Nat) : Option (Nat × (Nat × Unit)) :=
 some ((((mulM F .u64 x15_12 (4294967296 : Nat)) + x18_17) % 18446744073709551616), ((tF F .u64 (((mulM F .u64 (tF F .u64 (((mulM F .u64 (((hi_0 * (2 ^ (v_7 % (18446744073709551616 : Int)).toNat)) % 18446744073709551616) ||| (lo_1 / (2 ^ (tF F .u64 (64 : Nat) (v_7 % (18446744073709551616 : Int)).toNat)))) (4294967296 : Nat)) + (((lo_1 * (2 ^ (v_7 % (18446744073709551616 : Int)).toNat)) % 18446744073709551616) / (4294967296 : Nat))) % 18446744073709551616) (mulM F .u64 x15_12 ((y_2 * (2 ^ (v_7 % (18446744073709551616 : Int)).toNat)) % 18446744073709551616))) (4294967296 : Nat)) + (((lo_1 * (2 ^ (v_7 % (18446744073709551616 : Int)).toNat)) % 18446744073709551616) &&& (4294967295 : Nat))) % 18446744073709551616) (mulM F .u64 x18_17 ((y_2 * (2 ^ (v_7 % (18446744073709551616 : Int)).toNat)) % 18446744073709551616))) / (2 ^ (v_7 % (18446744073709551616 : Int)).toNat)), ())
noncomputable def wO (F : Md) (lo_1 : Nat) (v_7 : Int) (y_2 : Nat) (rhat_18 : Nat) (x18_19 : Nat) : Option ((Nat × Nat) ⊕ (Nat)) :=
 if ((4294967296 : Nat) ≤ x18_19) ∨ ((((mulM F .u64 (4294967296 : Nat) rhat_18) + (((lo_1 * (2 ^ (v_7 % (18446744073709551616 : Int)).toNat)) % 18446744073709551616) &&& (4294967295 : Nat))) % 18446744073709551616) < (mulM F .u64 x18_19 (((y_2 * (2 ^ (v_7 % (18446744073709551616 : Int)).toNat)) % 18446744073709551616) &&& (4294967295 : Nat)))) then if (4294967296 : Nat) ≤ ((rhat_18 + (((y_2 * (2 ^ (v_7 % (18446744073709551616 : Int)).toNat)) % 18446744073709551616) / (4294967296 : Nat))) % 18446744073709551616) then some (.inr (tF F .u64 x18_19 (1 : Nat))) else some (.inl (((rhat_18 + (((y_2 * (2 ^ (v_7 % (18446744073709551616 : Int)).toNat)) % 18446744073709551616) / (4294967296 : Nat))) % 18446744073709551616), (tF F .u64 x18_19 (1 : Nat)))) else some (.inr x18_19)
noncomputable def sO (F : Md) (y_2 : Nat) (v_7 : Int) (lo_1 : Nat) (hi_0 : Nat) (x15_12 : Nat) : Option (Nat × (Nat × Unit)) :=
 ck ((((y_2 * (2 ^ (v_7 % (18446744073709551616 : Int)).toNat)) % 18446744073709551616) / (4294967296 : Nat)) ≠ 0) ((dB F (fun d : Nat × Nat => wO F lo_1 v_7 y_2 d.1 d.2) ((tF F .u64 (tF F .u64 (((mulM F .u64 (((hi_0 * (2 ^ (v_7 % (18446744073709551616 : Int)).toNat)) % 18446744073709551616) ||| (lo_1 / (2 ^ (tF F .u64 (64 : Nat) (v_7 % (18446744073709551616 : Int)).toNat)))) (4294967296 : Nat)) + (((lo_1 * (2 ^ (v_7 % (18446744073709551616 : Int)).toNat)) % 18446744073709551616) / (4294967296 : Nat))) % 18446744073709551616) (mulM F .u64 x15_12 ((y_2 * (2 ^ (v_7 % (18446744073709551616 : Int)).toNat)) % 18446744073709551616))) (mulM F .u64 ((tF F .u64 (((mulM F .u64 (((hi_0 * (2 ^ (v_7 % (18446744073709551616 : Int)).toNat)) % 18446744073709551616) ||| (lo_1 / (2 ^ (tF F .u64 (64 : Nat) (v_7 % (18446744073709551616 : Int)).toNat)))) (4294967296 : Nat)) + (((lo_1 * (2 ^ (v_7 % (18446744073709551616 : Int)).toNat)) % 18446744073709551616) / (4294967296 : Nat))) % 18446744073709551616) (mulM F .u64 x15_12 ((y_2 * (2 ^ (v_7 % (18446744073709551616 : Int)).toNat)) % 18446744073709551616))) / (((y_2 * (2 ^ (v_7 % (18446744073709551616 : Int)).toNat)) % 18446744073709551616) / (4294967296 : Nat))) (((y_2 * (2 ^ (v_7 % (18446744073709551616 : Int)).toNat)) % 18446744073709551616) / (4294967296 : Nat)))), ((tF F .u64 (((mulM F .u64 (((hi_0 * (2 ^ (v_7 % (18446744073709551616 : Int)).toNat)) % 18446744073709551616) ||| (lo_1 / (2 ^ (tF F .u64 (64 : Nat) (v_7 % (18446744073709551616 : Int)).toNat)))) (4294967296 : Nat)) + (((lo_1 * (2 ^ (v_7 % (18446744073709551616 : Int)).toNat)) % 18446744073709551616) / (4294967296 : Nat))) % 18446744073709551616) (mulM F .u64 x15_12 ((y_2 * (2 ^ (v_7 % (18446744073709551616 : Int)).toNat)) % 18446744073709551616))) / (((y_2 * (2 ^ (v_7 % (18446744073709551616 : Int)).toNat)) % 18446744073709551616) / (4294967296 : Nat))))).bind (fun e => sN F x15_12 hi_0 v_7 lo_1 y_2 e))
noncomputable def wP (F : Md) (lo_1 : Nat) (v_7 : Int) (y_2 : Nat) (x15_23 : Nat) (rhat_24 : Nat) : Option ((Nat × Nat) ⊕ (Nat)) :=
 if ((4294967296 : Nat) ≤ x15_23) ∨ ((((mulM F .u64 (4294967296 : Nat) rhat_24) + (((lo_1 * (2 ^ (v_7 % (18446744073709551616 : Int)).toNat)) % 18446744073709551616) / (4294967296 : Nat))) % 18446744073709551616) < (mulM F .u64 x15_23 (((y_2 * (2 ^ (v_7 % (18446744073709551616 : Int)).toNat)) % 18446744073709551616) &&& (4294967295 : Nat)))) then if (4294967296 : Nat) ≤ ((rhat_24 + (((y_2 * (2 ^ (v_7 % (18446744073709551616 : Int)).toNat)) % 18446744073709551616) / (4294967296 : Nat))) % 18446744073709551616) then some (.inr (tF F .u64 x15_23 (1 : Nat))) else some (.inl ((tF F .u64 x15_23 (1 : Nat)), ((rhat_24 + (((y_2 * (2 ^ (v_7 % (18446744073709551616 : Int)).toNat)) % 18446744073709551616) / (4294967296 : Nat))) % 18446744073709551616))) else some (.inr x15_23)
noncomputable def zB (F : Md) (hi_0 : Nat) (lo_1 : Nat) (y_2 : Nat) : Option (Nat × (Nat × Unit)) :=
 if y_2 = (0 : Nat) then none else if y_2 ≤ hi_0 then none else if hi_0 = (0 : Nat) then ck (y_2 ≠ 0) (ck (y_2 ≠ 0) (some ((lo_1 / y_2), (lo_1 % y_2), ()))) else (bM F y_2).bind (fun v_7 => ck ((((y_2 * (2 ^ (v_7 % (18446744073709551616 : Int)).toNat)) % 18446744073709551616) / (4294967296 : Nat)) ≠ 0) ((dB F (fun d : Nat × Nat => wP F lo_1 v_7 y_2 d.1 d.2) (((((hi_0 * (2 ^ (v_7 % (18446744073709551616 : Int)).toNat)) % 18446744073709551616) ||| (lo_1 / (2 ^ (tF F .u64 (64 : Nat) (v_7 % (18446744073709551616 : Int)).toNat)))) / (((y_2 * (2 ^ (v_7 % (18446744073709551616 : Int)).toNat)) % 18446744073709551616) / (4294967296 : Nat))), (tF F .u64 (((hi_0 * (2 ^ (v_7 % (18446744073709551616 : Int)).toNat)) % 18446744073709551616) ||| (lo_1 / (2 ^ (tF F .u64 (64 : Nat) (v_7 % (18446744073709551616 : Int)).toNat)))) (mulM F .u64 ((((hi_0 * (2 ^ (v_7 % (18446744073709551616 : Int)).toNat)) % 18446744073709551616) ||| (lo_1 / (2 ^ (tF F .u64 (64 : Nat) (v_7 % (18446744073709551616 : Int)).toNat)))) / (((y_2 * (2 ^ (v_7 % (18446744073709551616 : Int)).toNat)) % 18446744073709551616) / (4294967296 : Nat))) (((y_2 * (2 ^ (v_7 % (18446744073709551616 : Int)).toNat)) % 18446744073709551616) / (4294967296 : Nat)))))).bind (fun e => sO F y_2 v_7 lo_1 hi_0 e)))
def aEN : PlR := ⟨[(0, .A [0, 1, 2]), (1, .A [0, 1, 2, 20]), (2, .stop), (3, .A [0, 1, 2, 24]), (4, .stop), (5, .A [0, 1, 2, 27]), (6, .A [6, 7]), (7, .A [0, 1, 2, 8]), (8, .A [0, 1, 2, 8]), (9, .A [0, 1, 2, 8, 9]), (10, .A [0, 1, 2, 8, 9, 10]), (11, .A [1, 2, 8, 9, 10, 11]), (12, .A [2, 8, 9, 10, 11, 12]), (13, .A [2, 8, 9, 10, 11, 12, 13]), (14, .A [2, 8, 9, 10, 11, 13, 14]), (15, .A [2, 8, 9, 10, 11, 13, 14, 15]), (16, .A [2, 8, 9, 10, 11, 13, 14, 15, 16]), (17, .A [2, 8, 9, 10, 11, 13, 14, 15, 16, 78]), (18, .A [2, 8, 9, 10, 11, 13, 14, 15, 16]), (19, .A [2, 8, 9, 10, 11, 13, 14, 15, 16]), (20, .A [2, 8, 9, 10, 11, 13, 14, 15, 16, 85]), (21, .A [2, 8, 9, 10, 14, 15, 17]), (22, .A [2, 8, 9, 10, 14, 15, 17, 18]), (23, .A [2, 8, 9, 10, 14, 15, 16, 17, 18]), (24, .A [2, 8, 9, 10, 14, 15, 16, 17, 18, 113]), (25, .A [2, 8, 9, 10, 14, 15, 16, 17, 18]), (26, .A [2, 8, 9, 10, 14, 15, 16, 17, 18]), (27, .A [2, 8, 9, 10, 14, 15, 16, 17, 18, 120]), (28, .A [6, 7])], [(20, 24), (27, 31)]⟩
def aGB : Ty := .pair (.u .u64) (.pair (.u .u64) (.pair (.u .u64) .unit))
noncomputable def wY (F : Md) : aF := mSpec aGB (.tup (.pair (.u .u64) (.pair (.u .u64) .unit))) (fun x => zB F x.1 x.2.1 x.2.2.1)
noncomputable def aGC (F : Md) : List (FuncId × aF) := [(188, (dT F))]
theorem aNF (F : Md) : bA Tryz.prog GL (aGC F) := .cons (oF F) (by kernel_rfl) (.nil)
theorem aHR (F : Md) : gam (aGC F) 188 = some (dT F) := rfl
attribute [go_sem] aGB aEN aHR
set_option maxHeartbeats 4000000 in
theorem aL7 (F : Md) : FOK Tryz.prog GL 252 (wY F) := by
 refine bF (aT (aNF F)) mix Tryz.func252 rfl (by kernel_rfl) (by decide) aEN fun w0 S x Θ hw h hF => ?_
 obtain ⟨(hi_0 : Nat), (lo_1 : Nat), (y_2 : Nat), u⟩ := x
 simp only [bJ, go_sem]
 replace h : sat (zB F hi_0 lo_1 y_2) _ := h
 unfold zB at h
 refine dQ h (fun hc h => ?_) fun hc h => ?_
 ·exact aBB h
 ·refine dQ h (fun hc h => ?_) fun hc h => ?_
  ·exact aBB h
  ·refine dQ h (fun hc h => ?_) fun hc h => ?_
   ·refine aP h fun g0 h => aP h fun g1 h => ?_
    exact aE hF [.tmp 6, .tmp 7] rfl rfl rfl (aA h) (by simp only [aM, go_sem, bG F, bH F, bI F])
   ·obtain ⟨v_7, hv, h⟩ := aI h
    try simp only [hv, go_sem, bG F, bH F, bI F]
    refine aP h fun g0 h => ?_
    refine dM hF (D := Nat) (fun d => sat (sO F y_2 v_7 lo_1 hi_0 d) Θ) [2, 8, 9, 10, 11, 13, 14] (fun d => [(15, .val (.u .u64) d)]) (fun d => []) ?_ ?_
    ·simp only [go_sem, bG F, bH F, bI F]
     refine bQ hF (D := Nat × Nat) [2, 8, 9, 10, 11, 13, 14] (fun d => [(15, .val (.u .u64) d.1), (16, .val (.u .u64) d.2)]) (fun d => []) h rfl (by simp only [go_sem, bG F, bH F, bI F]) ?_
     rintro ⟨x15_23, rhat_24⟩ A17 T17 hA17 hE17 h
     simp only [go_sem, bG F, bH F, bI F]
     replace h : sat (wP F lo_1 v_7 y_2 x15_23 rhat_24) _ := h
     unfold wP at h
     refine ⟨fun hc => ?_, fun hc => ?_⟩
     ·replace h := fV hc h
      refine dQ h (fun hc h => ?_) fun hc h => ?_
      ·replace h := hE17 _ (aA h)
       try dsimp only at h
       exact aQ (tF F .u64 x15_23 (1 : Nat)) h rfl (by simp only [go_sem, bG F, bH F, bI F])
      ·replace h := hA17 _ (aA h)
       exact aQ _ h rfl (by simp only [go_sem, bG F, bH F, bI F])
     ·replace h := fW hc h
      replace h := hE17 _ (aA h)
      try dsimp only at h
      exact aQ (x15_23) h rfl (by simp only [go_sem, bG F, bH F, bI F])
    ·rintro x15_12 h
     simp only [go_sem, bG F, bH F, bI F]
     replace h : sat (sO F y_2 v_7 lo_1 hi_0 x15_12) _ := h
     unfold sO at h
     refine aP h fun g0 h => ?_
     refine dM hF (D := Nat) (fun d => sat (sN F x15_12 hi_0 v_7 lo_1 y_2 d) Θ) [2, 8, 14, 15, 17] (fun d => [(18, .val (.u .u64) d)]) (fun d => []) ?_ ?_
     ·simp only [go_sem, bG F, bH F, bI F]
      refine bQ hF (D := Nat × Nat) [2, 8, 9, 10, 14, 15, 17] (fun d => [(16, .val (.u .u64) d.1), (18, .val (.u .u64) d.2)]) (fun d => []) h rfl (by simp only [go_sem, bG F, bH F, bI F]) ?_
      rintro ⟨rhat_18, x18_19⟩ A24 T24 hA24 hE24 h
      simp only [go_sem, bG F, bH F, bI F]
      replace h : sat (wO F lo_1 v_7 y_2 rhat_18 x18_19) _ := h
      unfold wO at h
      refine ⟨fun hc => ?_, fun hc => ?_⟩
      ·replace h := fV hc h
       refine dQ h (fun hc h => ?_) fun hc h => ?_
       ·replace h := hE24 _ (aA h)
        try dsimp only at h
        exact aQ (tF F .u64 x18_19 (1 : Nat)) h rfl (by simp only [go_sem, bG F, bH F, bI F])
       ·replace h := hA24 _ (aA h)
        exact aQ _ h rfl (by simp only [go_sem, bG F, bH F, bI F])
      ·replace h := fW hc h
       replace h := hE24 _ (aA h)
       try dsimp only at h
       exact aQ (x18_19) h rfl (by simp only [go_sem, bG F, bH F, bI F])
     ·rintro x18_17 h
      simp only [go_sem, bG F, bH F, bI F]
      replace h : sat (sN F x15_12 hi_0 v_7 lo_1 y_2 x18_17) _ := h
      unfold sN at h
      exact aE hF [.tmp 6, .tmp 7] rfl rfl rfl (aA h) (by simp only [aM, go_sem, bG F, bH F, bI F])
attribute [go_sem] wY
noncomputable def aEr (F : Md) (a_0 : (List Nat)) : Option Bool :=
 ck (¬ ((((a_0.length) : Nat) : Int) = (0 : Int)) → ((((a_0.length) : Nat) : Int) ≤ (64 : Int)) → (I64 ((((a_0.length) : Nat) : Int) - (1 : Int)))) (ck (¬ ((((a_0.length) : Nat) : Int) = (0 : Int)) → ((((a_0.length) : Nat) : Int) ≤ (64 : Int)) → (0 ≤ ((((a_0.length) : Nat) : Int) - (1 : Int)) ∧ ((((a_0.length) : Nat) : Int) - (1 : Int)) < (((a_0.length) : Nat) : Int))) (some ((decide ((((a_0.length) : Nat) : Int) = (0 : Int))) || ((decide ((((a_0.length) : Nat) : Int) ≤ (64 : Int))) && (!(decide ((a_0.getD ((((a_0.length) : Nat) : Int) - (1 : Int)).toNat (0 : Nat)) = (0 : Nat))))))))
def aK2 : PlR := ⟨[(0, .A [0]), (1, .A [2])], []⟩
def aM3 : Ty := .pair (.sl (.u .u64)) .unit
noncomputable def aCq (F : Md) : aF := mSpec aM3 (.one .bool) (fun x => aEr F x.1)
noncomputable def aRl (F : Md) : List (FuncId × aF) := []
theorem aRm (F : Md) : bA Tryz.prog GL (aRl F) := .nil
attribute [go_sem] aM3 aK2
set_option maxHeartbeats 4000000 in
theorem aPz (F : Md) : FOK Tryz.prog GL 120 (aCq F) := by
 refine bF (aT (aRm F)) mix Tryz.func120 rfl (by kernel_rfl) (by decide) aK2 fun w0 S x Θ hw h hF => ?_
 obtain ⟨(a_0 : (List Nat)), u⟩ := x
 simp only [bJ, go_sem]
 replace h : sat (aEr F a_0) _ := h
 unfold aEr at h
 obtain ⟨g0, h⟩ := aH h
 obtain ⟨g1, h⟩ := aH h
 try simp only [I64, I32] at g0
 repeat (refine ⟨by first | with_reducible assumption | omega | (intros; first | with_reducible assumption | omega) | (simp only [go_sem] at *; first | with_reducible assumption | omega) | (intro _; exact ⟨rfl, by decide⟩) | (intro _; refine (?_ : _ = bD _); rfl) | exact ⟨rfl, rfl⟩ | (intro q0 q1; (try have e0 := g0 zAE (by first | exact q1 | omega | (simpa using q1))); (try have e1 := g1 zAE (by first | exact q1 | omega | (simpa using q1))); first | assumption | omega) | (rintro ⟨q0, q1⟩; (try have e0 := g0 zAE (by first | exact q1 | omega | (simpa using q1))); (try have e1 := g1 zAE (by first | exact q1 | omega | (simpa using q1))); first | assumption | omega) | decide, ?_⟩)
 exact aE hF [.tmp 2] rfl rfl rfl (aA h) (by simp only [aM, go_sem])
attribute [go_sem] aCq
noncomputable def aBd (F : Md) (a_4 : (List Nat)) : Option ((List Nat) ⊕ (List Nat)) :=
 ck (((0 : Int) < (((a_4.length) : Nat) : Int)) → (I64 ((((a_4.length) : Nat) : Int) - (1 : Int)))) (ck (((0 : Int) < (((a_4.length) : Nat) : Int)) → (0 ≤ ((((a_4.length) : Nat) : Int) - (1 : Int)) ∧ ((((a_4.length) : Nat) : Int) - (1 : Int)) < (((a_4.length) : Nat) : Int))) (if ((0 : Int) < (((a_4.length) : Nat) : Int)) ∧ ((a_4.getD ((((a_4.length) : Nat) : Int) - (1 : Int)).toNat (0 : Nat)) = (0 : Nat)) then ck (I64 ((((a_4.length) : Nat) : Int) - (1 : Int))) (ck (0 ≤ ((((a_4.length) : Nat) : Int) - (1 : Int)) ∧ ((((a_4.length) : Nat) : Int) - (1 : Int)) ≤ (((a_4.length) : Nat) : Int)) (some (.inl (List.take ((((a_4.length) : Nat) : Int) - (1 : Int)).toNat a_4)))) else some (.inr a_4)))
noncomputable def gV (F : Md) (a_0 : (List Nat)) : Option (List Nat) :=
 (dB F (fun d : (List Nat) => aBd F d) a_0).bind (fun e => some e)
def aIF : PlR := ⟨[(0, .A [0]), (1, .A [0, 14]), (2, .A [0]), (3, .A [2])], []⟩
def aK3 : Ty := .pair (.sl (.u .u64)) .unit
noncomputable def eO (F : Md) : aF := mSpec aK3 (.one (.sl (.u .u64))) (fun x => gV F x.1)
noncomputable def aPA (F : Md) : List (FuncId × aF) := []
theorem aPB (F : Md) : bA Tryz.prog GL (aPA F) := .nil
attribute [go_sem] aK3 aIF
set_option maxHeartbeats 4000000 in
theorem qB (F : Md) : FOK Tryz.prog GL 163 (eO F) := by
 refine bF (aT (aPB F)) mix Tryz.func163 rfl (by kernel_rfl) (by decide) aIF fun w0 S x Θ hw h hF => ?_
 obtain ⟨(a_0 : (List Nat)), u⟩ := x
 simp only [bJ, go_sem]
 replace h : sat (gV F a_0) _ := h
 unfold gV at h
 refine bQ hF (D := (List Nat)) [] (fun d => [(0, .val (.sl (.u .u64)) d)]) (fun d => []) h rfl (by simp only [go_sem]) ?_
 rintro a_4 A1 T1 hA1 hE1 h
 simp only [go_sem]
 replace h : sat (aBd F a_4) _ := h
 unfold aBd at h
 refine aP h fun g0 h => aP h fun g1 h => ?_
 refine ⟨fun hc => ?_, fun hc => ?_⟩
 ·replace h := fV hc h
  refine aP h fun g0 h => aP h fun g1 h => ?_
  replace h := hA1 _ (aA h)
  exact aQ _ h rfl (by simp only [go_sem])
 ·replace h := fW hc h
  replace h := hE1 _ (aA h)
  try dsimp only at h
  exact aE hF [.tmp 2] rfl rfl rfl (aA h) (by simp only [aM, go_sem])
attribute [go_sem] eO
noncomputable def aAm (F : Md) (less_0 : Bool) : Option Int :=
 if less_0 = true then some (-1 : Int) else some (1 : Int)
def aIG : PlR := ⟨[(0, .A [0]), (1, .A [3]), (2, .A [2]), (3, .A [2])], []⟩
def aK4 : Ty := .pair .bool .unit
noncomputable def aAR (F : Md) : aF := mSpec aK4 (.one (.i .i64)) (fun x => aAm F x.1)
noncomputable def aPC (F : Md) : List (FuncId × aF) := []
theorem aPD (F : Md) : bA Tryz.prog GL (aPC F) := .nil
attribute [go_sem] aK4 aIG
set_option maxHeartbeats 4000000 in
theorem aOG (F : Md) : FOK Tryz.prog GL 189 (aAR F) := by
 refine bF (aT (aPD F)) mix Tryz.func189 rfl (by kernel_rfl) (by decide) aIG fun w0 S x Θ hw h hF => ?_
 obtain ⟨(less_0 : Bool), u⟩ := x
 simp only [bJ, go_sem]
 replace h : sat (aAm F less_0) _ := h
 unfold aAm at h
 refine aIE h (fun hc h => ?_) fun hc h => ?_
 ·exact aE hF [.tmp 2] rfl rfl rfl (aA h) (by simp only [aM, go_sem])
 ·exact aE hF [.tmp 2] rfl rfl rfl (aA h) (by simp only [aM, go_sem])
attribute [go_sem] aAR
noncomputable def aAn (F : Md) (a_0 : (List Nat)) (b_1 : (List Nat)) (i_20 : Int) : Option ((Int) ⊕ ((Unit) ⊕ Int)) :=
 if (0 : Int) ≤ i_20 then ck (0 ≤ i_20 ∧ i_20 < (((a_0.length) : Nat) : Int)) (ck (0 ≤ i_20 ∧ i_20 < (((b_1.length) : Nat) : Int)) (if ¬ ((a_0.getD (i_20.toNat) (0 : Nat)) = (b_1.getD (i_20.toNat) (0 : Nat))) then ck (0 ≤ i_20 ∧ i_20 < (((a_0.length) : Nat) : Int)) (ck (0 ≤ i_20 ∧ i_20 < (((b_1.length) : Nat) : Int)) ((aAm F (decide ((a_0.getD (i_20.toNat) (0 : Nat)) < (b_1.getD (i_20.toNat) (0 : Nat))))).bind (fun v_33 => some (.inr (.inr v_33))))) else ck (I64 (i_20 - (1 : Int))) (some (.inl (i_20 - (1 : Int)))))) else some (.inr (.inl ()))
noncomputable def qC (F : Md) (a_0 : (List Nat)) (b_1 : (List Nat)) : Option Int :=
 if ¬ ((((a_0.length) : Nat) : Int) = (((b_1.length) : Nat) : Int)) then (aAm F (decide ((((a_0.length) : Nat) : Int) < (((b_1.length) : Nat) : Int)))).bind (fun v_8 => some v_8) else ck (I64 ((((a_0.length) : Nat) : Int) - (1 : Int))) ((dB F (fun d : Int => aAn F a_0 b_1 d) ((((a_0.length) : Nat) : Int) - (1 : Int))).bind (fun e => match e with | (.inl e) => some (0 : Int) | (.inr e) => some e))
def aGD : PlR := ⟨[(0, .A [0, 1]), (1, .A [0, 1, 10]), (2, .A [4]), (3, .A [0, 1, 5]), (4, .A [0, 1, 5, 21]), (5, .A [0, 1, 5]), (6, .A [0, 1, 5, 32]), (7, .A [4]), (8, .A [4])], []⟩
def aIH : Ty := .pair (.sl (.u .u64)) (.pair (.sl (.u .u64)) .unit)
noncomputable def mY (F : Md) : aF := mSpec aIH (.one (.i .i64)) (fun x => qC F x.1 x.2.1)
noncomputable def aII (F : Md) : List (FuncId × aF) := [(189, (aAR F))]
theorem aOH (F : Md) : bA Tryz.prog GL (aII F) := .cons (aOG F) (by kernel_rfl) (.nil)
theorem aJj (F : Md) : gam (aII F) 189 = some (aAR F) := rfl
attribute [go_sem] aIH aGD aJj
set_option maxHeartbeats 4000000 in
theorem aCr (F : Md) : FOK Tryz.prog GL 122 (mY F) := by
 refine bF (aT (aOH F)) mix Tryz.func122 rfl (by kernel_rfl) (by decide) aGD fun w0 S x Θ hw h hF => ?_
 obtain ⟨(a_0 : (List Nat)), (b_1 : (List Nat)), u⟩ := x
 simp only [bJ, go_sem]
 replace h : sat (qC F a_0 b_1) _ := h
 unfold qC at h
 refine dQ h (fun hc h => ?_) fun hc h => ?_
 ·obtain ⟨v_8, hv, h⟩ := aI h
  try simp only [hv, go_sem]
  exact aE hF [.tmp 4] rfl rfl rfl (aA h) (by simp only [aM, go_sem])
 ·refine aP h fun g0 h => ?_
  refine bQ hF (D := Int) [0, 1] (fun d => [(5, .val (.i .i64) d)]) (fun d => []) h rfl (by simp only [go_sem]) ?_
  rintro i_20 A4 T4 hA4 hE4 h
  simp only [go_sem]
  replace h : sat (aAn F a_0 b_1 i_20) _ := h
  unfold aAn at h
  refine aPw h (fun hc h => ?_) fun hc h => ?_
  ·refine aP h fun g0 h => aP h fun g1 h => ?_
   refine dQ h (fun hc h => ?_) fun hc h => ?_
   ·refine aP h fun g0 h => aP h fun g1 h => ?_
    obtain ⟨v_33, hv, h⟩ := aI h
    try simp only [hv, go_sem]
    replace h := hE4 _ (aA h)
    try dsimp only at h
    exact aE hF [.tmp 4] rfl rfl rfl (aA h) (by simp only [aM, go_sem])
   ·refine aP h fun g0 h => ?_
    replace h := hA4 _ (aA h)
    exact aQ _ h rfl (by simp only [go_sem])
  ·replace h := hE4 _ (aA h)
   try dsimp only at h
   exact aE hF [.tmp 4] rfl rfl rfl (aA h) (by simp only [aM, go_sem])
attribute [go_sem] mY
noncomputable def aAo (F : Md) (a_0 : (List Nat)) : Option Int :=
 if (((a_0.length) : Nat) : Int) = (0 : Int) then some (0 : Int) else ck (I64 ((64 : Int) * (((a_0.length) : Nat) : Int))) (ck (I64 ((((a_0.length) : Nat) : Int) - (1 : Int))) (ck (0 ≤ ((((a_0.length) : Nat) : Int) - (1 : Int)) ∧ ((((a_0.length) : Nat) : Int) - (1 : Int)) < (((a_0.length) : Nat) : Int)) ((bM F (a_0.getD ((((a_0.length) : Nat) : Int) - (1 : Int)).toNat (0 : Nat))).bind (fun v_5 => ck (I64 (((64 : Int) * (((a_0.length) : Nat) : Int)) - v_5)) (some (((64 : Int) * (((a_0.length) : Nat) : Int)) - v_5))))))
def aIJ : PlR := ⟨[(0, .A [0]), (1, .A [0, 5]), (2, .A [2]), (3, .A [2])], []⟩
def aK5 : Ty := .pair (.sl (.u .u64)) .unit
noncomputable def aAS (F : Md) : aF := mSpec aK5 (.one (.i .i64)) (fun x => aAo F x.1)
noncomputable def aK6 (F : Md) : List (FuncId × aF) := [(188, (dT F))]
theorem aPE (F : Md) : bA Tryz.prog GL (aK6 F) := .cons (oF F) (by kernel_rfl) (.nil)
theorem aK7 (F : Md) : gam (aK6 F) 188 = some (dT F) := rfl
attribute [go_sem] aK5 aIJ aK7
set_option maxHeartbeats 4000000 in
theorem aOI (F : Md) : FOK Tryz.prog GL 121 (aAS F) := by
 refine bF (aT (aPE F)) mix Tryz.func121 rfl (by kernel_rfl) (by decide) aIJ fun w0 S x Θ hw h hF => ?_
 obtain ⟨(a_0 : (List Nat)), u⟩ := x
 simp only [bJ, go_sem]
 replace h : sat (aAo F a_0) _ := h
 unfold aAo at h
 refine dQ h (fun hc h => ?_) fun hc h => ?_
 ·exact aE hF [.tmp 2] rfl rfl rfl (aA h) (by simp only [aM, go_sem])
 ·refine aP h fun g0 h => aP h fun g1 h => aP h fun g2 h => ?_
  obtain ⟨v_5, hv, h⟩ := aI h
  try simp only [hv, go_sem]
  refine aP h fun g0 h => ?_
  exact aE hF [.tmp 2] rfl rfl rfl (aA h) (by simp only [aM, go_sem])
attribute [go_sem] aAS
noncomputable def aAp (F : Md) (a_0 : (List Nat)) (x7_10 : Int) : Option ((Int) ⊕ ((Unit) ⊕ Int)) :=
 if x7_10 < (((a_0.length) : Nat) : Int) then ck (0 ≤ x7_10 ∧ x7_10 < (((a_0.length) : Nat) : Int)) (if ¬ ((a_0.getD (x7_10.toNat) (0 : Nat)) = (0 : Nat)) then ck (I64 ((64 : Int) * x7_10)) ((lA F (a_0.getD (x7_10.toNat) (0 : Nat))).bind (fun v_19 => ck (I64 (((64 : Int) * x7_10) + v_19)) (some (.inr (.inr (((64 : Int) * x7_10) + v_19)))))) else ck (I64 (x7_10 + (1 : Int))) (some (.inl (x7_10 + (1 : Int))))) else some (.inr (.inl ()))
noncomputable def dU (F : Md) (a_0 : (List Nat)) : Option Int :=
 (dB F (fun d : Int => aAp F a_0 d) (0 : Int)).bind (fun e => match e with | (.inl e) => some (-1 : Int) | (.inr e) => some e)
def aGE : PlR := ⟨[(0, .A [0]), (1, .A [5, 6, 7]), (2, .A [5, 6, 7, 8]), (3, .A [3, 4, 5, 6, 7]), (4, .A [3, 4, 5, 6, 7, 13]), (5, .A [2]), (6, .A [5, 6, 7]), (7, .A [2])], []⟩
def aIK : Ty := .pair (.sl (.u .u64)) .unit
noncomputable def zC (F : Md) : aF := mSpec aIK (.one (.i .i64)) (fun x => dU F x.1)
noncomputable def aIL (F : Md) : List (FuncId × aF) := [(164, (jY F))]
theorem aOJ (F : Md) : bA Tryz.prog GL (aIL F) := .cons (aBC F) (by kernel_rfl) (.nil)
theorem aJk (F : Md) : gam (aIL F) 164 = some (jY F) := rfl
attribute [go_sem] aIK aGE aJk
set_option maxHeartbeats 4000000 in
theorem aNG (F : Md) : FOK Tryz.prog GL 98 (zC F) := by
 refine bF (aT (aOJ F)) mix Tryz.func98 rfl (by kernel_rfl) (by decide) aGE fun w0 S x Θ hw h hF => ?_
 obtain ⟨(a_0 : (List Nat)), u⟩ := x
 simp only [bJ, go_sem]
 replace h : sat (dU F a_0) _ := h
 unfold dU at h
 refine bQ hF (D := Int) [5, 6] (fun d => [(7, .val (.i .i64) d)]) (fun d => []) h rfl (by simp only [go_sem]) ?_
 rintro x7_10 A2 T2 hA2 hE2 h
 simp only [go_sem]
 replace h : sat (aAp F a_0 x7_10) _ := h
 unfold aAp at h
 refine eI h (fun hc h => ?_) fun hc h => ?_
 ·refine aP h fun g0 h => ?_
  refine dQ h (fun hc h => ?_) fun hc h => ?_
  ·refine aP h fun g0 h => ?_
   obtain ⟨v_19, hv, h⟩ := aI h
   try simp only [hv, go_sem]
   refine aP h fun g0 h => ?_
   replace h := hE2 _ (aA h)
   try dsimp only at h
   exact aE hF [.tmp 2] rfl rfl rfl (aA h) (by simp only [aM, go_sem])
  ·refine aP h fun g0 h => ?_
   replace h := hA2 _ (aA h)
   exact aQ _ h rfl (by simp only [go_sem])
 ·replace h := hE2 _ (aA h)
  try dsimp only at h
  exact aE hF [.tmp 2] rfl rfl rfl (aA h) (by simp only [aM, go_sem])
attribute [go_sem] zC
noncomputable def aAq (F : Md) (a_0 : (List Nat)) : Option (List Nat) :=
 (gV F a_0).bind (fun v_3 => ck (aSP v_3) (some (id v_3)))
def aIM : PlR := ⟨[(0, .A [0]), (1, .B [2])], []⟩
def aK8 : Ty := .pair (.sl (.u .u64)) .unit
noncomputable def tN (F : Md) : aF := mSpec aK8 (.one (.sl (.u .u64))) (fun x => aAq F x.1)
noncomputable def aFw (F : Md) : List (FuncId × aF) := [(163, (eO F)), (165, cJ)]
theorem aPF (F : Md) : bA Tryz.prog GL (aFw F) := .cons (qB F) (by kernel_rfl) (.cons kZ (by kernel_rfl) (.nil))
theorem aK9 (F : Md) : gam (aFw F) 163 = some (eO F) := rfl
theorem aLa (F : Md) : gam (aFw F) 165 = some cJ := rfl
attribute [go_sem] aK8 aIM aK9 aLa
set_option maxHeartbeats 4000000 in
theorem aIN (F : Md) : FOK Tryz.prog GL 231 (tN F) := by
 refine bF (aT (aPF F)) mix Tryz.func231 rfl (by kernel_rfl) (by decide) aIM fun w0 S x Θ hw h hF => ?_
 obtain ⟨(a_0 : (List Nat)), u⟩ := x
 simp only [bJ, go_sem]
 replace h : sat (aAq F a_0) _ := h
 unfold aAq at h
 obtain ⟨v_3, hv, h⟩ := aI h
 try simp only [hv, go_sem]
 refine aP h fun g0 h => ?_
 exact aE hF [.tmp 2] rfl rfl rfl (aA h) (by simp only [aM, go_sem])
attribute [go_sem] tN
noncomputable def rS (F : Md) (x22_13 : Int) (out_14 : (List Nat)) (carry_12 : Nat) (x_21 : Nat) : Option ((Nat × Int × (List Nat)) ⊕ (List Nat)) :=
 ck (0 ≤ x22_13 ∧ x22_13 < (((out_14.length) : Nat) : Int)) (ck (aNz (out_14.getD (x22_13.toNat) (0 : Nat)) x_21 carry_12) (ck (0 ≤ x22_13 ∧ x22_13 < (((out_14.length) : Nat) : Int)) (ck (I64 (x22_13 + (1 : Int))) (some (.inl ((aCm (out_14.getD (x22_13.toNat) (0 : Nat)) x_21 carry_12).2.1, (x22_13 + (1 : Int)), (out_14.set (x22_13.toNat) (aCm (out_14.getD (x22_13.toNat) (0 : Nat)) x_21 carry_12).1)))))))
noncomputable def aBe (F : Md) (a_3 : (List Nat)) (b_4 : (List Nat)) (carry_12 : Nat) (x22_13 : Int) (out_14 : (List Nat)) : Option ((Nat × Int × (List Nat)) ⊕ (List Nat)) :=
 if x22_13 < ((((id a_3) ++ ([0] : List Nat)).length : Nat) : Int) then if x22_13 < (((b_4.length) : Nat) : Int) then ck (0 ≤ x22_13 ∧ x22_13 < (((b_4.length) : Nat) : Int)) (rS F x22_13 out_14 carry_12 (b_4.getD (x22_13.toNat) (0 : Nat))) else if carry_12 = (0 : Nat) then some (.inr out_14) else rS F x22_13 out_14 carry_12 (0 : Nat) else some (.inr out_14)
noncomputable def rT (F : Md) (a_3 : (List Nat)) (b_4 : (List Nat)) : Option (List Nat) :=
 ck (aSP a_3) (ck (((id a_3).length + (1 : Nat)) * 8 ≤ 140737488355328) ((dB F (fun d : Nat × Int × (List Nat) => aBe F a_3 b_4 d.1 d.2.1 d.2.2) ((0 : Nat), (0 : Int), ((id a_3) ++ ([0] : List Nat)))).bind (fun e => (gV F e).bind (fun v_27 => some v_27))))
noncomputable def aCs (F : Md) (a_0 : (List Nat)) (b_1 : (List Nat)) : Option (List Nat) :=
 if (((a_0.length) : Nat) : Int) < (((b_1.length) : Nat) : Int) then rT F b_1 a_0 else rT F a_0 b_1
def aIO : PlR := ⟨[(0, .A [0, 1]), (1, .A [0, 1, 13]), (2, .A [0, 1]), (3, .B [1, 5]), (4, .A [1, 5, 6]), (5, .A [1, 5, 6, 21, 22]), (6, .A [1, 5, 6, 21, 22, 23]), (7, .A [1, 5, 6, 7, 21, 22]), (8, .A [1, 5, 6, 7, 8, 21, 22]), (9, .A [1, 5, 6, 7, 8, 21, 22, 25]), (10, .A [1, 5, 6, 7, 8, 21, 22]), (11, .A [1, 5, 6, 7, 8, 21, 22, 34]), (12, .B [1, 5, 6, 21, 22]), (13, .A [1, 5, 6, 21, 22]), (14, .B [4])], [(4, 6), (12, 15)]⟩
def aLb : Ty := .pair (.sl (.u .u64)) (.pair (.sl (.u .u64)) .unit)
noncomputable def aAT (F : Md) : aF := mSpec aLb (.one (.sl (.u .u64))) (fun x => aCs F x.1 x.2.1)
noncomputable def aCt (F : Md) : List (FuncId × aF) := [(162, pC), (163, (eO F)), (165, cJ)]
theorem aPG (F : Md) : bA Tryz.prog GL (aCt F) := .nat aEK (.cons (qB F) (by kernel_rfl) (.cons kZ (by kernel_rfl) (.nil)))
theorem aLc (F : Md) : gam (aCt F) 162 = some pC := rfl
theorem aLd (F : Md) : gam (aCt F) 163 = some (eO F) := rfl
theorem aLe (F : Md) : gam (aCt F) 165 = some cJ := rfl
attribute [go_sem] aLb aIO aLc aLd aLe
set_option maxHeartbeats 4000000 in
theorem aOK (F : Md) : FOK Tryz.prog GL 99 (aAT F) := by
 refine bF (aT (aPG F)) mix Tryz.func99 rfl (by kernel_rfl) (by decide) aIO fun w0 S x Θ hw h hF => ?_
 obtain ⟨(a_0 : (List Nat)), (b_1 : (List Nat)), u⟩ := x
 simp only [bJ, go_sem]
 replace h : sat (aCs F a_0 b_1) _ := h
 unfold aCs at h
 refine dM hF (D := (List Nat) × (List Nat)) (fun d => sat (rT F d.1 d.2) Θ) [] (fun d => [(0, .val (.sl (.u .u64)) d.1), (1, .val (.sl (.u .u64)) d.2)]) (fun d => []) ?_ ?_
 ·simp only [go_sem]
  refine eI h (fun hc h => ?_) fun hc h => ?_
  ·exact aQ (b_1, a_0) h rfl (by simp only [go_sem])
  ·exact aQ (a_0, b_1) h rfl (by simp only [go_sem])
 ·rintro ⟨a_3, b_4⟩ h
  simp only [go_sem]
  replace h : sat (rT F a_3 b_4) _ := h
  unfold rT at h
  refine aP h fun g0 h => ?_
  obtain ⟨g0, h⟩ := aH h
  repeat (refine ⟨by omega, ?_⟩)
  refine aGq [1] rfl rfl ?_
  simp only [go_sem]
  refine bQ hF (D := Nat × Int × (List Nat)) [1, 21] (fun d => [(5, .own 0), (6, .val (.u .u64) d.1), (22, .val (.i .i64) d.2.1)]) (fun d => [.inr (.row 83 (.u .u64) d.2.2)]) h rfl (by simp only [go_sem]) ?_
  rintro ⟨carry_12, x22_13, out_14⟩ A6 T6 hA6 hE6 h
  simp only [go_sem]
  replace h : sat (aBe F a_3 b_4 carry_12 x22_13 out_14) _ := h
  unfold aBe at h
  refine eI h (fun hc h => ?_) fun hc h => ?_
  ·refine dM hF (D := Nat) (fun d => sat (rS F x22_13 out_14 carry_12 d) T6) [1, 6, 7, 21, 22] (fun d => [(5, .own 0), (8, .val (.u .u64) d)]) (fun d => [.inr (.row 83 (.u .u64) out_14)]) ?_ ?_
   ·simp only [go_sem]
    refine eI h (fun hc h => ?_) fun hc h => ?_
    ·obtain ⟨g0, h⟩ := aH h
     repeat (refine ⟨by omega, ?_⟩)
     exact aQ (b_4.getD (x22_13.toNat) (0 : Nat)) h rfl (by simp only [go_sem])
    ·refine dQ h (fun hc h => ?_) fun hc h => ?_
     ·replace h := hE6 _ (aA h)
      try dsimp only at h
      obtain ⟨v_23, hv, h⟩ := aI h
      try simp only [hv, go_sem]
      exact aE hF [.tmp 4] rfl rfl rfl (aA h) (by simp only [aM, go_sem])
     ·exact aQ (0 : Nat) h rfl (by simp only [go_sem])
   ·rintro x_21 h
    simp only [go_sem]
    replace h : sat (rS F x22_13 out_14 carry_12 x_21) _ := h
    unfold rS at h
    obtain ⟨g0, h⟩ := aH h
    repeat (refine ⟨by omega, ?_⟩)
    obtain ⟨g0, h⟩ := aH h
    repeat (refine ⟨by omega, ?_⟩)
    obtain ⟨g0, h⟩ := aH h
    repeat (refine ⟨by omega, ?_⟩)
    refine aP h fun g0 h => ?_
    replace h := hA6 _ (aA h)
    exact aQ _ h rfl (by simp only [go_sem])
  ·replace h := hE6 _ (aA h)
   try dsimp only at h
   obtain ⟨v_25, hv, h⟩ := aI h
   try simp only [hv, go_sem]
   exact aE hF [.tmp 4] rfl rfl rfl (aA h) (by simp only [aM, go_sem])
attribute [go_sem] aAT
noncomputable def uQ (F : Md) (x22_46 : Int) (b_1 : (List Nat)) (carry_86 : Nat) (out_87 : (List Nat)) : Option ((Int × (List Nat)) ⊕ (List Nat)) :=
 ck (I64 (x22_46 + (((b_1.length) : Nat) : Int))) (ck (0 ≤ (x22_46 + (((b_1.length) : Nat) : Int)) ∧ (x22_46 + (((b_1.length) : Nat) : Int)) < (((out_87.length) : Nat) : Int)) (ck (I64 (x22_46 + (1 : Int))) (some (.inl ((x22_46 + (1 : Int)), (out_87.set (x22_46 + (((b_1.length) : Nat) : Int)).toNat carry_86))))))
noncomputable def aAr (F : Md) (b_1 : (List Nat)) (a_0 : (List Nat)) (x22_46 : Int) (carry_90 : Nat) (x29_91 : Int) (out_92 : (List Nat)) : Option ((Nat × Int × (List Nat)) ⊕ (Nat × (List Nat))) :=
 if x29_91 < (((b_1.length) : Nat) : Int) then ck (0 ≤ x29_91 ∧ x29_91 < (((b_1.length) : Nat) : Int)) ((zA F (a_0.getD (x22_46.toNat) (0 : Nat)) (b_1.getD (x29_91.toNat) (0 : Nat))).bind (fun v_105 => ck (aNz v_105.2.1 carry_90 (0 : Nat)) (ck (I64 (x22_46 + x29_91)) (ck (I64 (x22_46 + x29_91)) (ck (0 ≤ (x22_46 + x29_91) ∧ (x22_46 + x29_91) < (((out_92.length) : Nat) : Int)) (ck (aNz (out_92.getD (x22_46 + x29_91).toNat (0 : Nat)) (aCm v_105.2.1 carry_90 (0 : Nat)).1 (0 : Nat)) (ck (0 ≤ (x22_46 + x29_91) ∧ (x22_46 + x29_91) < (((out_92.length) : Nat) : Int)) (ck (I64 (x29_91 + (1 : Int))) (some (.inl (((((v_105.1 + (aCm v_105.2.1 carry_90 (0 : Nat)).2.1) % 18446744073709551616) + (aCm (out_92.getD (x22_46 + x29_91).toNat (0 : Nat)) (aCm v_105.2.1 carry_90 (0 : Nat)).1 (0 : Nat)).2.1) % 18446744073709551616), (x29_91 + (1 : Int)), (out_92.set (x22_46 + x29_91).toNat (aCm (out_92.getD (x22_46 + x29_91).toNat (0 : Nat)) (aCm v_105.2.1 carry_90 (0 : Nat)).1 (0 : Nat)).1)))))))))))) else some (.inr (carry_90, out_92))
noncomputable def aAs (F : Md) (a_0 : (List Nat)) (b_1 : (List Nat)) (x22_46 : Int) (out_47 : (List Nat)) : Option ((Int × (List Nat)) ⊕ (List Nat)) :=
 if x22_46 < (((a_0.length) : Nat) : Int) then ck (0 ≤ x22_46 ∧ x22_46 < (((a_0.length) : Nat) : Int)) ((dB F (fun d : Nat × Int × (List Nat) => aAr F b_1 a_0 x22_46 d.1 d.2.1 d.2.2) ((0 : Nat), (0 : Int), out_47)).bind (fun e => uQ F x22_46 b_1 e.1 e.2)) else some (.inr out_47)
noncomputable def gZ (F : Md) (a_0 : (List Nat)) (b_1 : (List Nat)) : Option (List Nat) :=
 ck (I64 ((((a_0.length) : Nat) : Int) + (((b_1.length) : Nat) : Int))) (ck (0 ≤ ((((a_0.length) : Nat) : Int) + (((b_1.length) : Nat) : Int))) (ck ((8 : Int) * ((((a_0.length) : Nat) : Int) + (((b_1.length) : Nat) : Int)) ≤ 281474976710656) ((dB F (fun d : Int × (List Nat) => aAs F a_0 b_1 d.1 d.2) ((0 : Int), (List.replicate ((((a_0.length) : Nat) : Int) + (((b_1.length) : Nat) : Int)).toNat (0 : Nat)))).bind (fun e => (gV F e).bind (fun v_109 => some v_109)))))
def aGF : PlR := ⟨[(0, .A [0, 1]), (1, .B [0, 1, 5]), (2, .A [1, 5, 20, 21, 22]), (3, .A [1, 5, 20, 21, 22, 23]), (4, .A [1, 5, 6, 7, 20, 21, 22]), (5, .A [1, 5, 6, 7, 8, 20, 21, 22]), (6, .A [1, 5, 6, 7, 8, 20, 21, 22, 27, 28, 29]), (7, .A [1, 5, 6, 7, 8, 20, 21, 22, 27, 28, 29, 30]), (8, .A [1, 5, 6, 7, 8, 9, 10, 20, 21, 22, 27, 28, 29]), (9, .A [1, 5, 6, 7, 8, 9, 11, 12, 20, 21, 22, 27, 28, 29]), (10, .A [1, 5, 6, 7, 8, 9, 11, 12, 20, 21, 22, 27, 28, 29]), (11, .A [1, 5, 6, 7, 9, 11, 12, 13, 20, 21, 22, 27, 28, 29]), (12, .A [1, 5, 6, 7, 9, 11, 12, 20, 21, 22, 27, 28, 29]), (13, .B [1, 5, 6, 7, 11, 13, 20, 21, 22, 27, 28, 29]), (14, .A [1, 5, 6, 7, 8, 20, 21, 22, 27, 28, 29]), (15, .A [1, 5, 6, 7, 8, 20, 21, 22, 27, 28, 29]), (16, .B [1, 5, 20, 21, 22]), (17, .A [1, 5, 20, 21, 22]), (18, .B [4])], [(9, 19)]⟩
def aIP : Ty := .pair (.sl (.u .u64)) (.pair (.sl (.u .u64)) .unit)
noncomputable def eV (F : Md) : aF := mSpec aIP (.one (.sl (.u .u64))) (fun x => gZ F x.1 x.2.1)
noncomputable def aAU (F : Md) : List (FuncId × aF) := [(161, (wX F)), (162, pC), (163, (eO F))]
theorem aOL (F : Md) : bA Tryz.prog GL (aAU F) := .cons (aL6 F) (by kernel_rfl) (.nat aEK (.cons (qB F) (by kernel_rfl) (.nil)))
theorem aJl (F : Md) : gam (aAU F) 161 = some (wX F) := rfl
theorem aJm (F : Md) : gam (aAU F) 162 = some pC := rfl
theorem aJn (F : Md) : gam (aAU F) 163 = some (eO F) := rfl
attribute [go_sem] aIP aGF aJl aJm aJn
set_option maxHeartbeats 4000000 in
theorem qP (F : Md) : FOK Tryz.prog GL 94 (eV F) := by
 refine bF (aT (aOL F)) mix Tryz.func94 rfl (by kernel_rfl) (by decide) aGF fun w0 S x Θ hw h hF => ?_
 obtain ⟨(a_0 : (List Nat)), (b_1 : (List Nat)), u⟩ := x
 simp only [bJ, go_sem]
 replace h : sat (gZ F a_0 b_1) _ := h
 unfold gZ at h
 obtain ⟨g0, h⟩ := aH h
 repeat (refine ⟨by omega, ?_⟩)
 obtain ⟨g0, h⟩ := aH h
 obtain ⟨g1, h⟩ := aH h
 repeat (refine ⟨by omega, ?_⟩)
 refine bQ hF (D := Int × (List Nat)) [1, 20, 21] (fun d => [(5, .own 0), (22, .val (.i .i64) d.1)]) (fun d => [.inr (.row 83 (.u .u64) d.2)]) h rfl (by simp only [go_sem]) ?_
 rintro ⟨x22_46, out_47⟩ A3 T3 hA3 hE3 h
 simp only [go_sem]
 replace h : sat (aAs F a_0 b_1 x22_46 out_47) _ := h
 unfold aAs at h
 refine eI h (fun hc h => ?_) fun hc h => ?_
 ·obtain ⟨g0, h⟩ := aH h
  repeat (refine ⟨by omega, ?_⟩)
  refine dM hF (D := Nat × (List Nat)) (fun d => sat (uQ F x22_46 b_1 d.1 d.2) T3) [1, 6, 20, 21, 22] (fun d => [(5, .own 0), (8, .val (.u .u64) d.1)]) (fun d => [.inr (.row 83 (.u .u64) d.2)]) ?_ ?_
  ·simp only [go_sem]
   refine bQ hF (D := Nat × Int × (List Nat)) [1, 6, 7, 20, 21, 22, 27, 28] (fun d => [(5, .own 0), (8, .val (.u .u64) d.1), (29, .val (.i .i64) d.2.1)]) (fun d => [.inr (.row 83 (.u .u64) d.2.2)]) h rfl (by simp only [go_sem]) ?_
   rintro ⟨carry_90, x29_91, out_92⟩ A7 T7 hA7 hE7 h
   simp only [go_sem]
   replace h : sat (aAr F b_1 a_0 x22_46 carry_90 x29_91 out_92) _ := h
   unfold aAr at h
   refine eI h (fun hc h => ?_) fun hc h => ?_
   ·obtain ⟨g0, h⟩ := aH h
    repeat (refine ⟨by omega, ?_⟩)
    obtain ⟨v_105, hv, h⟩ := aI h
    try simp only [hv, go_sem]
    obtain ⟨g0, h⟩ := aH h
    repeat (refine ⟨by omega, ?_⟩)
    obtain ⟨g0, h⟩ := aH h
    repeat (refine ⟨by omega, ?_⟩)
    obtain ⟨g0, h⟩ := aH h
    repeat (refine ⟨by omega, ?_⟩)
    obtain ⟨g0, h⟩ := aH h
    repeat (refine ⟨by omega, ?_⟩)
    obtain ⟨g0, h⟩ := aH h
    repeat (refine ⟨by omega, ?_⟩)
    obtain ⟨g0, h⟩ := aH h
    repeat (refine ⟨by omega, ?_⟩)
    obtain ⟨g0, h⟩ := aH h
    repeat (refine ⟨by omega, ?_⟩)
    replace h := hA7 _ (aA h)
    exact aQ _ h rfl (by simp only [go_sem])
   ·replace h := hE7 _ (aA h)
    try dsimp only at h
    exact aQ (carry_90, out_92) h rfl (by simp only [go_sem])
  ·rintro ⟨carry_86, out_87⟩ h
   simp only [go_sem]
   replace h : sat (uQ F x22_46 b_1 carry_86 out_87) _ := h
   unfold uQ at h
   obtain ⟨g0, h⟩ := aH h
   repeat (refine ⟨by omega, ?_⟩)
   obtain ⟨g0, h⟩ := aH h
   repeat (refine ⟨by omega, ?_⟩)
   obtain ⟨g0, h⟩ := aH h
   try simp only [I64, I32] at g0
   repeat (refine ⟨zAA, ?_⟩)
   replace h := hA3 _ (aA h)
   exact aQ _ h rfl (by simp only [go_sem])
 ·replace h := hE3 _ (aA h)
  try dsimp only at h
  obtain ⟨v_107, hv, h⟩ := aI h
  try simp only [hv, go_sem]
  exact aE hF [.tmp 4] rfl rfl rfl (aA h) (by simp only [aM, go_sem])
attribute [go_sem] eV
noncomputable def aBf (F : Md) (a_0 : (List Nat)) (n_1 : Int) (x20_7 : Int) (out_8 : (List Nat)) : Option ((Int × (List Nat)) ⊕ (List Nat)) :=
 if x20_7 < (((a_0.length) : Nat) : Int) then ck (0 ≤ x20_7 ∧ x20_7 < (((a_0.length) : Nat) : Int)) (ck (I64 (Int.tdiv n_1 (64 : Int))) (ck (I64 ((Int.tdiv n_1 (64 : Int)) + x20_7)) (ck (0 ≤ ((Int.tdiv n_1 (64 : Int)) + x20_7) ∧ ((Int.tdiv n_1 (64 : Int)) + x20_7) < (((out_8.length) : Nat) : Int)) (ck (0 ≤ ((Int.tdiv n_1 (64 : Int)) + x20_7) ∧ ((Int.tdiv n_1 (64 : Int)) + x20_7) < (((out_8.length) : Nat) : Int)) (ck (I64 (Int.tdiv n_1 (64 : Int))) (ck (I64 ((Int.tdiv n_1 (64 : Int)) + x20_7)) (ck (I64 (((Int.tdiv n_1 (64 : Int)) + x20_7) + (1 : Int))) (ck (0 ≤ (((Int.tdiv n_1 (64 : Int)) + x20_7) + (1 : Int)) ∧ (((Int.tdiv n_1 (64 : Int)) + x20_7) + (1 : Int)) < (((out_8.set ((Int.tdiv n_1 (64 : Int)) + x20_7).toNat ((out_8.getD ((Int.tdiv n_1 (64 : Int)) + x20_7).toNat (0 : Nat)) ||| (((a_0.getD (x20_7.toNat) (0 : Nat)) * (2 ^ ((Int.tmod n_1 (64 : Int)) % (18446744073709551616 : Int)).toNat)) % 18446744073709551616))).length : Nat) : Int)) (ck (I64 ((63 : Int) - (Int.tmod n_1 (64 : Int)))) (ck (0 ≤ (((Int.tdiv n_1 (64 : Int)) + x20_7) + (1 : Int)) ∧ (((Int.tdiv n_1 (64 : Int)) + x20_7) + (1 : Int)) < (((out_8.set ((Int.tdiv n_1 (64 : Int)) + x20_7).toNat ((out_8.getD ((Int.tdiv n_1 (64 : Int)) + x20_7).toNat (0 : Nat)) ||| (((a_0.getD (x20_7.toNat) (0 : Nat)) * (2 ^ ((Int.tmod n_1 (64 : Int)) % (18446744073709551616 : Int)).toNat)) % 18446744073709551616))).length : Nat) : Int)) (ck (I64 (x20_7 + (1 : Int))) (some (.inl ((x20_7 + (1 : Int)), ((out_8.set ((Int.tdiv n_1 (64 : Int)) + x20_7).toNat ((out_8.getD ((Int.tdiv n_1 (64 : Int)) + x20_7).toNat (0 : Nat)) ||| (((a_0.getD (x20_7.toNat) (0 : Nat)) * (2 ^ ((Int.tmod n_1 (64 : Int)) % (18446744073709551616 : Int)).toNat)) % 18446744073709551616))).set (((Int.tdiv n_1 (64 : Int)) + x20_7) + (1 : Int)).toNat (((out_8.set ((Int.tdiv n_1 (64 : Int)) + x20_7).toNat ((out_8.getD ((Int.tdiv n_1 (64 : Int)) + x20_7).toNat (0 : Nat)) ||| (((a_0.getD (x20_7.toNat) (0 : Nat)) * (2 ^ ((Int.tmod n_1 (64 : Int)) % (18446744073709551616 : Int)).toNat)) % 18446744073709551616))).getD (((Int.tdiv n_1 (64 : Int)) + x20_7) + (1 : Int)).toNat (0 : Nat)) ||| (((a_0.getD (x20_7.toNat) (0 : Nat)) / (2 : Nat)) / (2 ^ (((63 : Int) - (Int.tmod n_1 (64 : Int))) % (18446744073709551616 : Int)).toNat)))))))))))))))))) else some (.inr out_8)
noncomputable def iU (F : Md) (a_0 : (List Nat)) (n_1 : Int) : Option (List Nat) :=
 if (((a_0.length) : Nat) : Int) = (0 : Int) then some ([] : List Nat) else ck (I64 (Int.tdiv n_1 (64 : Int))) (ck (I64 ((Int.tdiv n_1 (64 : Int)) + (((a_0.length) : Nat) : Int))) (ck (I64 (((Int.tdiv n_1 (64 : Int)) + (((a_0.length) : Nat) : Int)) + (1 : Int))) (ck (0 ≤ (((Int.tdiv n_1 (64 : Int)) + (((a_0.length) : Nat) : Int)) + (1 : Int))) (ck ((8 : Int) * (((Int.tdiv n_1 (64 : Int)) + (((a_0.length) : Nat) : Int)) + (1 : Int)) ≤ 281474976710656) ((dB F (fun d : Int × (List Nat) => aBf F a_0 n_1 d.1 d.2) ((0 : Int), (List.replicate (((Int.tdiv n_1 (64 : Int)) + (((a_0.length) : Nat) : Int)) + (1 : Int)).toNat (0 : Nat)))).bind (fun e => (gV F e).bind (fun v_15 => some v_15)))))))
def aIQ : PlR := ⟨[(0, .A [0, 1]), (1, .A [0, 1, 10]), (2, .A [4]), (3, .B [0, 1, 5]), (4, .A [1, 5, 18, 19, 20]), (5, .A [1, 5, 18, 19, 20, 21]), (6, .A [1, 5, 6, 7, 18, 19, 20]), (7, .B [1, 5, 6, 7, 18, 19, 20]), (8, .B [1, 5, 18, 19, 20]), (9, .A [1, 5, 18, 19, 20]), (10, .B [4])], []⟩
def aLf : Ty := .pair (.sl (.u .u64)) (.pair (.i .i64) .unit)
noncomputable def tO (F : Md) : aF := mSpec aLf (.one (.sl (.u .u64))) (fun x => iU F x.1 x.2.1)
noncomputable def aLg (F : Md) : List (FuncId × aF) := [(163, (eO F))]
theorem aPH (F : Md) : bA Tryz.prog GL (aLg F) := .cons (qB F) (by kernel_rfl) (.nil)
theorem aLh (F : Md) : gam (aLg F) 163 = some (eO F) := rfl
attribute [go_sem] aLf aIQ aLh
set_option maxHeartbeats 4000000 in
theorem aIR (F : Md) : FOK Tryz.prog GL 95 (tO F) := by
 refine bF (aT (aPH F)) mix Tryz.func95 rfl (by kernel_rfl) (by decide) aIQ fun w0 S x Θ hw h hF => ?_
 obtain ⟨(a_0 : (List Nat)), (n_1 : Int), u⟩ := x
 simp only [bJ, go_sem]
 replace h : sat (iU F a_0 n_1) _ := h
 unfold iU at h
 refine dQ h (fun hc h => ?_) fun hc h => ?_
 ·exact aE hF [.tmp 4] rfl rfl rfl (aA h) (by simp only [aM, go_sem])
 ·obtain ⟨g0, h⟩ := aH h
  try simp only [I64, I32] at g0
  repeat (refine ⟨zAA, ?_⟩)
  obtain ⟨g0, h⟩ := aH h
  try simp only [I64, I32] at g0
  repeat (refine ⟨zAA, ?_⟩)
  obtain ⟨g0, h⟩ := aH h
  try simp only [I64, I32] at g0
  repeat (refine ⟨zAA, ?_⟩)
  obtain ⟨g0, h⟩ := aH h
  obtain ⟨g1, h⟩ := aH h
  repeat (refine ⟨zAA, ?_⟩)
  refine bQ hF (D := Int × (List Nat)) [1, 18, 19] (fun d => [(5, .own 0), (20, .val (.i .i64) d.1)]) (fun d => [.inr (.row 83 (.u .u64) d.2)]) h rfl (by simp only [go_sem]) ?_
  rintro ⟨x20_7, out_8⟩ A5 T5 hA5 hE5 h
  simp only [go_sem]
  replace h : sat (aBf F a_0 n_1 x20_7 out_8) _ := h
  unfold aBf at h
  refine eI h (fun hc h => ?_) fun hc h => ?_
  ·obtain ⟨g0, h⟩ := aH h
   repeat (refine ⟨zAA, ?_⟩)
   obtain ⟨g0, h⟩ := aH h
   try simp only [I64, I32] at g0
   repeat (refine ⟨zAA, ?_⟩)
   obtain ⟨g0, h⟩ := aH h
   try simp only [I64, I32] at g0
   repeat (refine ⟨zAA, ?_⟩)
   obtain ⟨g0, h⟩ := aH h
   repeat (refine ⟨zAA, ?_⟩)
   obtain ⟨g0, h⟩ := aH h
   repeat (refine ⟨zAA, ?_⟩)
   obtain ⟨g0, h⟩ := aH h
   try simp only [I64, I32] at g0
   repeat (refine ⟨zAA, ?_⟩)
   obtain ⟨g0, h⟩ := aH h
   try simp only [I64, I32] at g0
   repeat (refine ⟨zAA, ?_⟩)
   obtain ⟨g0, h⟩ := aH h
   try simp only [I64, I32] at g0
   repeat (refine ⟨zAA, ?_⟩)
   obtain ⟨g0, h⟩ := aH h
   repeat (refine ⟨zAA, ?_⟩)
   obtain ⟨g0, h⟩ := aH h
   try simp only [I64, I32] at g0
   repeat (refine ⟨zAA, ?_⟩)
   obtain ⟨g0, h⟩ := aH h
   repeat (refine ⟨zAA, ?_⟩)
   obtain ⟨g0, h⟩ := aH h
   try simp only [I64, I32] at g0
   repeat (refine ⟨zAA, ?_⟩)
   replace h := hA5 _ (aA h)
   exact aQ _ h rfl (by (try simp only [mX, jB, true_or, and_self, go_sem]) <;> (repeat' apply And.intro) <;> first | rfl | (left; rfl) | (right; rfl) | (left; simp only [go_sem]; done) | (right; simp only [go_sem]; done) | (simp; done) | (simp only [*]; done) | omega)
  ·replace h := hE5 _ (aA h)
   try dsimp only at h
   obtain ⟨v_13, hv, h⟩ := aI h
   try simp only [hv, go_sem]
   exact aE hF [.tmp 4] rfl rfl rfl (aA h) (by simp only [aM, go_sem])
attribute [go_sem] tO
noncomputable def aAt (F : Md) (n_1 : Int) (a_0 : (List Nat)) (x22_10 : Int) (out_11 : (List Nat)) : Option ((Int × (List Nat)) ⊕ (List Nat)) :=
 if x22_10 < (((List.drop (Int.tdiv n_1 (64 : Int)).toNat a_0).length : Nat) : Int) then ck (0 ≤ x22_10 ∧ x22_10 < (((List.drop (Int.tdiv n_1 (64 : Int)).toNat a_0).length : Nat) : Int)) (ck (0 ≤ x22_10 ∧ x22_10 < (((out_11.length) : Nat) : Int)) (ck (I64 (x22_10 + (1 : Int))) (if (x22_10 + (1 : Int)) < (((List.drop (Int.tdiv n_1 (64 : Int)).toNat a_0).length : Nat) : Int) then ck (0 ≤ x22_10 ∧ x22_10 < (((out_11.set (x22_10.toNat) (((List.drop (Int.tdiv n_1 (64 : Int)).toNat a_0).getD (x22_10.toNat) (0 : Nat)) / (2 ^ ((Int.tmod n_1 (64 : Int)) % (18446744073709551616 : Int)).toNat))).length : Nat) : Int)) (ck (I64 (x22_10 + (1 : Int))) (ck (0 ≤ (x22_10 + (1 : Int)) ∧ (x22_10 + (1 : Int)) < (((List.drop (Int.tdiv n_1 (64 : Int)).toNat a_0).length : Nat) : Int)) (ck (I64 ((63 : Int) - (Int.tmod n_1 (64 : Int)))) (ck (0 ≤ x22_10 ∧ x22_10 < (((out_11.set (x22_10.toNat) (((List.drop (Int.tdiv n_1 (64 : Int)).toNat a_0).getD (x22_10.toNat) (0 : Nat)) / (2 ^ ((Int.tmod n_1 (64 : Int)) % (18446744073709551616 : Int)).toNat))).length : Nat) : Int)) (ck (I64 (x22_10 + (1 : Int))) (some (.inl ((x22_10 + (1 : Int)), ((out_11.set (x22_10.toNat) (((List.drop (Int.tdiv n_1 (64 : Int)).toNat a_0).getD (x22_10.toNat) (0 : Nat)) / (2 ^ ((Int.tmod n_1 (64 : Int)) % (18446744073709551616 : Int)).toNat))).set (x22_10.toNat) (((out_11.set (x22_10.toNat) (((List.drop (Int.tdiv n_1 (64 : Int)).toNat a_0).getD (x22_10.toNat) (0 : Nat)) / (2 ^ ((Int.tmod n_1 (64 : Int)) % (18446744073709551616 : Int)).toNat))).getD (x22_10.toNat) (0 : Nat)) ||| ((((((List.drop (Int.tdiv n_1 (64 : Int)).toNat a_0).getD (x22_10 + (1 : Int)).toNat (0 : Nat)) * (2 : Nat)) % 18446744073709551616) * (2 ^ (((63 : Int) - (Int.tmod n_1 (64 : Int))) % (18446744073709551616 : Int)).toNat)) % 18446744073709551616))))))))))) else ck (I64 (x22_10 + (1 : Int))) (some (.inl ((x22_10 + (1 : Int)), (out_11.set (x22_10.toNat) (((List.drop (Int.tdiv n_1 (64 : Int)).toNat a_0).getD (x22_10.toNat) (0 : Nat)) / (2 ^ ((Int.tmod n_1 (64 : Int)) % (18446744073709551616 : Int)).toNat))))))))) else some (.inr out_11)
noncomputable def lN (F : Md) (a_0 : (List Nat)) (n_1 : Int) : Option (List Nat) :=
 ck (I64 (Int.tdiv n_1 (64 : Int))) (if (((a_0.length) : Nat) : Int) ≤ (Int.tdiv n_1 (64 : Int)) then some ([] : List Nat) else ck (I64 (Int.tdiv n_1 (64 : Int))) (ck (0 ≤ (Int.tdiv n_1 (64 : Int)) ∧ (Int.tdiv n_1 (64 : Int)) ≤ (((a_0.length) : Nat) : Int)) (ck (0 ≤ (((List.drop (Int.tdiv n_1 (64 : Int)).toNat a_0).length : Nat) : Int)) (ck ((8 : Int) * (((List.drop (Int.tdiv n_1 (64 : Int)).toNat a_0).length : Nat) : Int) ≤ 281474976710656) ((dB F (fun d : Int × (List Nat) => aAt F n_1 a_0 d.1 d.2) ((0 : Int), (List.replicate (List.drop (Int.tdiv n_1 (64 : Int)).toNat a_0).length (0 : Nat)))).bind (fun e => (gV F e).bind (fun v_19 => some v_19)))))))
def aGG : PlR := ⟨[(0, .A [0, 1]), (1, .A [0, 1, 12]), (2, .A [4]), (3, .A [0, 1]), (4, .B [0, 1, 5]), (5, .A [0, 1, 5, 20, 21, 22]), (6, .A [0, 1, 5, 20, 21, 22, 23]), (7, .A [0, 1, 5, 6, 7, 20, 21, 22]), (8, .B [0, 1, 5, 6, 20, 21, 22]), (9, .A [0, 1, 5, 6, 20, 21, 22, 39]), (10, .C 17 [0, 1, 5, 20, 21, 22]), (11, .A [0, 1, 5, 20, 21, 22]), (12, .B [4])], []⟩
def aIS : Ty := .pair (.sl (.u .u64)) (.pair (.i .i64) .unit)
noncomputable def qQ (F : Md) : aF := mSpec aIS (.one (.sl (.u .u64))) (fun x => lN F x.1 x.2.1)
noncomputable def aIT (F : Md) : List (FuncId × aF) := [(163, (eO F))]
theorem aOM (F : Md) : bA Tryz.prog GL (aIT F) := .cons (qB F) (by kernel_rfl) (.nil)
theorem aJo (F : Md) : gam (aIT F) 163 = some (eO F) := rfl
attribute [go_sem] aIS aGG aJo
set_option maxHeartbeats 4000000 in
theorem aGH (F : Md) : FOK Tryz.prog GL 97 (qQ F) := by
 refine bF (aT (aOM F)) mix Tryz.func97 rfl (by kernel_rfl) (by decide) aGG fun w0 S x Θ hw h hF => ?_
 obtain ⟨(a_0 : (List Nat)), (n_1 : Int), u⟩ := x
 simp only [bJ, go_sem]
 replace h : sat (lN F a_0 n_1) _ := h
 unfold lN at h
 obtain ⟨g0, h⟩ := aH h
 try simp only [I64, I32] at g0
 repeat (refine ⟨zAA, ?_⟩)
 refine aPw h (fun hc h => ?_) fun hc h => ?_
 ·exact aE hF [.tmp 4] rfl rfl rfl (aA h) (by simp only [aM, go_sem])
 ·obtain ⟨g0, h⟩ := aH h
  obtain ⟨g1, h⟩ := aH h
  try simp only [I64, I32] at g0
  repeat (refine ⟨zAA, ?_⟩)
  obtain ⟨g0, h⟩ := aH h
  obtain ⟨g1, h⟩ := aH h
  repeat (refine ⟨zAA, ?_⟩)
  refine bQ hF (D := Int × (List Nat)) [0, 1, 20, 21] (fun d => [(5, .own 0), (22, .val (.i .i64) d.1)]) (fun d => [.inr (.row 83 (.u .u64) d.2)]) h rfl (by simp only [go_sem]) ?_
  rintro ⟨x22_10, out_11⟩ A6 T6 hA6 hE6 h
  simp only [go_sem]
  replace h : sat (aAt F n_1 a_0 x22_10 out_11) _ := h
  unfold aAt at h
  refine eI h (fun hc h => ?_) fun hc h => ?_
  ·obtain ⟨g0, h⟩ := aH h
   repeat (refine ⟨zAA, ?_⟩)
   obtain ⟨g0, h⟩ := aH h
   repeat (refine ⟨zAA, ?_⟩)
   obtain ⟨g0, h⟩ := aH h
   try simp only [I64, I32] at g0
   repeat (refine ⟨zAA, ?_⟩)
   refine ⟨fun hc => ?_, fun hc => ?_⟩
   ·replace h := fV hc h
    obtain ⟨g0, h⟩ := aH h
    obtain ⟨g1, h⟩ := aH h
    obtain ⟨g2, h⟩ := aH h
    obtain ⟨g3, h⟩ := aH h
    obtain ⟨g4, h⟩ := aH h
    try simp only [I64, I32] at g1
    try simp only [I64, I32] at g3
    repeat (refine ⟨zAA, ?_⟩)
    obtain ⟨g0, h⟩ := aH h
    try simp only [I64, I32] at g0
    repeat (refine ⟨zAA, ?_⟩)
    replace h := hA6 _ (aA h)
    exact aQ _ h rfl (by (try simp only [mX, jB, true_or, and_self, go_sem]) <;> (repeat' apply And.intro) <;> first | rfl | (left; rfl) | (right; rfl) | (left; simp only [go_sem]; done) | (right; simp only [go_sem]; done) | (simp; done) | (simp only [*]; done) | omega)
   ·replace h := fW (by first | exact hc | omega) h
    obtain ⟨g0, h⟩ := aH h
    try simp only [I64, I32] at g0
    repeat (refine ⟨zAA, ?_⟩)
    replace h := hA6 _ (aA h)
    exact aQ _ h rfl (by simp only [go_sem])
  ·replace h := hE6 _ (aA h)
   try dsimp only at h
   obtain ⟨v_17, hv, h⟩ := aI h
   try simp only [hv, go_sem]
   exact aE hF [.tmp 4] rfl rfl rfl (aA h) (by simp only [aM, go_sem])
attribute [go_sem] qQ
noncomputable def uR (F : Md) (rest_11 : Nat) (q_12 : (List Nat)) : Option ((List Nat) × ((List Nat) × Unit)) :=
 (gV F q_12).bind (fun v_15 => (gV F ([rest_11] : List Nat)).bind (fun v_16 => some (v_15, v_16, ())))
noncomputable def aAu (F : Md) (a_0 : (List Nat)) (b_1 : Nat) (rest_18 : Nat) (i_19 : Int) (q_20 : (List Nat)) : Option ((Nat × Int × (List Nat)) ⊕ (Nat × (List Nat))) :=
 if (0 : Int) ≤ i_19 then ck (0 ≤ i_19 ∧ i_19 < (((a_0.length) : Nat) : Int)) ((zB F rest_18 (a_0.getD (i_19.toNat) (0 : Nat)) b_1).bind (fun v_28 => ck (0 ≤ i_19 ∧ i_19 < (((q_20.length) : Nat) : Int)) (ck (I64 (i_19 - (1 : Int))) (some (.inl (v_28.2.1, (i_19 - (1 : Int)), (q_20.set (i_19.toNat) v_28.1))))))) else some (.inr (rest_18, q_20))
noncomputable def tP (F : Md) (a_0 : (List Nat)) (b_1 : Nat) : Option ((List Nat) × ((List Nat) × Unit)) :=
 ck (0 ≤ (((a_0.length) : Nat) : Int)) (ck ((8 : Int) * (((a_0.length) : Nat) : Int) ≤ 281474976710656) (ck (I64 ((((a_0.length) : Nat) : Int) - (1 : Int))) ((dB F (fun d : Nat × Int × (List Nat) => aAu F a_0 b_1 d.1 d.2.1 d.2.2) ((0 : Nat), ((((a_0.length) : Nat) : Int) - (1 : Int)), (List.replicate (a_0.length) (0 : Nat)))).bind (fun e => uR F e.1 e.2))))
def aGI : PlR := ⟨[(0, .A [0, 1]), (1, .B [0, 1, 6]), (2, .A [0, 1, 6, 7]), (3, .A [0, 1, 6, 7, 8]), (4, .A [0, 1, 6, 7, 8, 16]), (5, .A [0, 1, 6, 7, 8]), (6, .B [0, 1, 6, 7, 8]), (7, .B [4, 5])], [(6, 10)]⟩
def aIU : Ty := .pair (.sl (.u .u64)) (.pair (.u .u64) .unit)
noncomputable def zD (F : Md) : aF := mSpec aIU (.tup (.pair (.sl (.u .u64)) (.pair (.sl (.u .u64)) .unit))) (fun x => tP F x.1 x.2.1)
noncomputable def aDL (F : Md) : List (FuncId × aF) := [(163, (eO F)), (252, (wY F))]
theorem aON (F : Md) : bA Tryz.prog GL (aDL F) := .cons (qB F) (by kernel_rfl) (.cons (aL7 F) (by kernel_rfl) (.nil))
theorem aJp (F : Md) : gam (aDL F) 163 = some (eO F) := rfl
theorem aJq (F : Md) : gam (aDL F) 252 = some (wY F) := rfl
attribute [go_sem] aIU aGI aJp aJq
set_option maxHeartbeats 4000000 in
theorem aNH (F : Md) : FOK Tryz.prog GL 219 (zD F) := by
 refine bF (aT (aON F)) mix Tryz.func219 rfl (by kernel_rfl) (by decide) aGI fun w0 S x Θ hw h hF => ?_
 obtain ⟨(a_0 : (List Nat)), (b_1 : Nat), u⟩ := x
 simp only [bJ, go_sem]
 replace h : sat (tP F a_0 b_1) _ := h
 unfold tP at h
 obtain ⟨g0, h⟩ := aH h
 obtain ⟨g1, h⟩ := aH h
 repeat (refine ⟨by omega, ?_⟩)
 refine dM hF (D := Nat × (List Nat)) (fun d => sat (uR F d.1 d.2) Θ) [] (fun d => [(6, .own 0), (7, .val (.u .u64) d.1)]) (fun d => [.inr (.row 83 (.u .u64) d.2)]) ?_ ?_
 ·simp only [go_sem]
  obtain ⟨g0, h⟩ := aH h
  repeat (refine ⟨by omega, ?_⟩)
  refine bQ hF (D := Nat × Int × (List Nat)) [0, 1] (fun d => [(6, .own 0), (7, .val (.u .u64) d.1), (8, .val (.i .i64) d.2.1)]) (fun d => [.inr (.row 83 (.u .u64) d.2.2)]) h rfl (by simp only [go_sem]) ?_
  rintro ⟨rest_18, i_19, q_20⟩ A4 T4 hA4 hE4 h
  simp only [go_sem]
  replace h : sat (aAu F a_0 b_1 rest_18 i_19 q_20) _ := h
  unfold aAu at h
  refine aPw h (fun hc h => ?_) fun hc h => ?_
  ·obtain ⟨g0, h⟩ := aH h
   repeat (refine ⟨by omega, ?_⟩)
   obtain ⟨v_28, hv, h⟩ := aI h
   try simp only [hv, go_sem]
   obtain ⟨g0, h⟩ := aH h
   repeat (refine ⟨by omega, ?_⟩)
   obtain ⟨g0, h⟩ := aH h
   repeat (refine ⟨by omega, ?_⟩)
   replace h := hA4 _ (aA h)
   exact aQ _ h rfl (by simp only [go_sem])
  ·replace h := hE4 _ (aA h)
   try dsimp only at h
   exact aQ (rest_18, q_20) h rfl (by simp only [go_sem])
 ·rintro ⟨rest_11, q_12⟩ h
  simp only [go_sem]
  replace h : sat (uR F rest_11 q_12) _ := h
  unfold uR at h
  obtain ⟨v_15, hv, h⟩ := aI h
  try simp only [hv, go_sem]
  obtain ⟨v_16, hv, h⟩ := aI h
  try simp only [hv, go_sem]
  exact aE hF [.tmp 4, .tmp 5] rfl rfl rfl (aA h) (by simp only [aM, go_sem])
attribute [go_sem] zD
noncomputable def lB (F : Md) (a_0 : (List Nat)) (n_1 : Int) : Option (List Nat) :=
 ck (aSP a_0) (ck (I64 (n_1 - (((a_0.length) : Nat) : Int))) (ck (0 ≤ (n_1 - (((a_0.length) : Nat) : Int))) (ck (((id a_0).length + (n_1 - (((a_0.length) : Nat) : Int)).toNat) * 8 ≤ 140737488355328) (some ((id a_0) ++ (List.replicate (n_1 - (((a_0.length) : Nat) : Int)).toNat (0 : Nat)))))))
def aEO : PlR := ⟨[(0, .A [0, 1]), (1, .B [4])], []⟩
def aGJ : Ty := .pair (.sl (.u .u64)) (.pair (.i .i64) .unit)
noncomputable def wZ (F : Md) : aF := mSpec aGJ (.one (.sl (.u .u64))) (fun x => lB F x.1 x.2.1)
noncomputable def aGK (F : Md) : List (FuncId × aF) := [(165, cJ)]
theorem aNI (F : Md) : bA Tryz.prog GL (aGK F) := .cons kZ (by kernel_rfl) (.nil)
theorem aHS (F : Md) : gam (aGK F) 165 = some cJ := rfl
attribute [go_sem] aGJ aEO aHS
set_option maxHeartbeats 4000000 in
theorem aL8 (F : Md) : FOK Tryz.prog GL 220 (wZ F) := by
 refine bF (aT (aNI F)) mix Tryz.func220 rfl (by kernel_rfl) (by decide) aEO fun w0 S x Θ hw h hF => ?_
 obtain ⟨(a_0 : (List Nat)), (n_1 : Int), u⟩ := x
 simp only [bJ, go_sem]
 replace h : sat (lB F a_0 n_1) _ := h
 unfold lB at h
 refine aP h fun g0 h => ?_
 refine aP h fun g0 h => ?_
 obtain ⟨g0, h⟩ := aH h
 obtain ⟨g1, h⟩ := aH h
 repeat (refine ⟨by omega, ?_⟩)
 exact aE hF [.tmp 4] rfl rfl rfl (aA h) (by simp only [aM, go_sem])
attribute [go_sem] wZ
noncomputable def yD (F : Md) (a_0 : (List Nat)) (b_1 : (List Nat)) : Option ((List Nat) × ((List Nat) × Unit)) :=
 ck ((gV F (List.replicate (((((a_0.length) : Nat) : Int) - (((b_1.length) : Nat) : Int)) + (1 : Int)).toNat (0 : Nat))).isSome = true) (ck (0 ≤ (((b_1.length) : Nat) : Int) ∧ (((b_1.length) : Nat) : Int) ≤ ((((lB F ((iU F a_0 ((bM F (b_1.getD ((((b_1.length) : Nat) : Int) - (1 : Int)).toNat (0 : Nat))).getD (0 : Int))).getD ([] : List Nat)) ((((a_0.length) : Nat) : Int) + (1 : Int))).getD ([] : List Nat)).length : Nat) : Int)) (ck ((gV F (List.take (b_1.length) ((lB F ((iU F a_0 ((bM F (b_1.getD ((((b_1.length) : Nat) : Int) - (1 : Int)).toNat (0 : Nat))).getD (0 : Int))).getD ([] : List Nat)) ((((a_0.length) : Nat) : Int) + (1 : Int))).getD ([] : List Nat)))).isSome = true) (ck ((lN F ((gV F (List.take (b_1.length) ((lB F ((iU F a_0 ((bM F (b_1.getD ((((b_1.length) : Nat) : Int) - (1 : Int)).toNat (0 : Nat))).getD (0 : Int))).getD ([] : List Nat)) ((((a_0.length) : Nat) : Int) + (1 : Int))).getD ([] : List Nat)))).getD ([] : List Nat)) ((bM F (b_1.getD ((((b_1.length) : Nat) : Int) - (1 : Int)).toNat (0 : Nat))).getD (0 : Int))).isSome = true) (some (((gV F (List.replicate (((((a_0.length) : Nat) : Int) - (((b_1.length) : Nat) : Int)) + (1 : Int)).toNat (0 : Nat))).getD ([] : List Nat)), ((lN F ((gV F (List.take (b_1.length) ((lB F ((iU F a_0 ((bM F (b_1.getD ((((b_1.length) : Nat) : Int) - (1 : Int)).toNat (0 : Nat))).getD (0 : Int))).getD ([] : List Nat)) ((((a_0.length) : Nat) : Int) + (1 : Int))).getD ([] : List Nat)))).getD ([] : List Nat)) ((bM F (b_1.getD ((((b_1.length) : Nat) : Int) - (1 : Int)).toNat (0 : Nat))).getD (0 : Int))).getD ([] : List Nat)), ())))))
noncomputable def aCR (F : Md) (a_0 : (List Nat)) (b_1 : (List Nat)) : Option ((Unit) ⊕ (Unit)) :=
 if (0 : Int) ≤ ((((a_0.length) : Nat) : Int) - (((b_1.length) : Nat) : Int)) then none else some (.inr ())
noncomputable def zE (F : Md) (a_0 : (List Nat)) (b_1 : (List Nat)) : Option ((List Nat) × ((List Nat) × Unit)) :=
 ck ((qC F a_0 b_1).isSome = true) (if ((qC F a_0 b_1).getD (0 : Int)) < (0 : Int) then ck (aSP a_0) (some (([] : List Nat), (id a_0), ())) else if (((b_1.length) : Nat) : Int) = (1 : Int) then ck ((0 : Int) < (((b_1.length) : Nat) : Int)) (ck ((tP F a_0 (b_1.getD (0 : Nat) (0 : Nat))).isSome = true) (some (((tP F a_0 (b_1.getD (0 : Nat) (0 : Nat))).getD (([] : List Nat), ([] : List Nat), ())).1, ((tP F a_0 (b_1.getD (0 : Nat) (0 : Nat))).getD (([] : List Nat), ([] : List Nat), ())).2.1, ()))) else ck (I64 ((((b_1.length) : Nat) : Int) - (1 : Int))) (ck (0 ≤ ((((b_1.length) : Nat) : Int) - (1 : Int)) ∧ ((((b_1.length) : Nat) : Int) - (1 : Int)) < (((b_1.length) : Nat) : Int)) (ck ((bM F (b_1.getD ((((b_1.length) : Nat) : Int) - (1 : Int)).toNat (0 : Nat))).isSome = true) (ck ((iU F b_1 ((bM F (b_1.getD ((((b_1.length) : Nat) : Int) - (1 : Int)).toNat (0 : Nat))).getD (0 : Int))).isSome = true) (ck ((lB F ((iU F b_1 ((bM F (b_1.getD ((((b_1.length) : Nat) : Int) - (1 : Int)).toNat (0 : Nat))).getD (0 : Int))).getD ([] : List Nat)) (((b_1.length) : Nat) : Int)).isSome = true) (ck ((iU F a_0 ((bM F (b_1.getD ((((b_1.length) : Nat) : Int) - (1 : Int)).toNat (0 : Nat))).getD (0 : Int))).isSome = true) (ck (I64 ((((a_0.length) : Nat) : Int) + (1 : Int))) (ck ((lB F ((iU F a_0 ((bM F (b_1.getD ((((b_1.length) : Nat) : Int) - (1 : Int)).toNat (0 : Nat))).getD (0 : Int))).getD ([] : List Nat)) ((((a_0.length) : Nat) : Int) + (1 : Int))).isSome = true) (ck (I64 ((((a_0.length) : Nat) : Int) - (((b_1.length) : Nat) : Int))) (ck (I64 (((((a_0.length) : Nat) : Int) - (((b_1.length) : Nat) : Int)) + (1 : Int))) (ck (0 ≤ (((((a_0.length) : Nat) : Int) - (((b_1.length) : Nat) : Int)) + (1 : Int))) (ck ((8 : Int) * (((((a_0.length) : Nat) : Int) - (((b_1.length) : Nat) : Int)) + (1 : Int)) ≤ 281474976710656) (ck (I64 ((((a_0.length) : Nat) : Int) - (((b_1.length) : Nat) : Int))) ((dB F (fun d : Unit => aCR F a_0 b_1) ()).bind (fun e => yD F a_0 b_1)))))))))))))))
def zF : Ty := .pair (.sl (.u .u64)) (.pair (.sl (.u .u64)) .unit)
attribute [go_sem] zF
noncomputable def xA (F : Md) : aF := mSpec zF (.tup (.pair (.sl (.u .u64)) (.pair (.sl (.u .u64)) .unit))) (fun x => zE F x.1 x.2.1)
noncomputable def jC (F : Md) : List (FuncId × aF) := [(122, (mY F)), (163, (eO F)), (165, cJ), (188, (dT F)), (219, (zD F)), (220, (wZ F)), (95, (tO F)), (97, (qQ F))]
theorem aGL (F : Md) : bA Tryz.prog GL (jC F) := .cons (aCr F) (by kernel_rfl) (.cons (qB F) (by kernel_rfl) (.cons kZ (by kernel_rfl) (.cons (oF F) (by kernel_rfl) (.cons (aNH F) (by kernel_rfl) (.cons (aL8 F) (by kernel_rfl) (.cons (aIR F) (by kernel_rfl) (.cons (aGH F) (by kernel_rfl) (.nil))))))))
theorem aHT (F : Md) : gam (jC F) 122 = some (mY F) := rfl
attribute [go_sem] aHT
theorem aHU (F : Md) : gam (jC F) 163 = some (eO F) := rfl
attribute [go_sem] aHU
theorem aHV (F : Md) : gam (jC F) 165 = some cJ := rfl
attribute [go_sem] aHV
theorem aHW (F : Md) : gam (jC F) 188 = some (dT F) := rfl
attribute [go_sem] aHW
theorem aHX (F : Md) : gam (jC F) 219 = some (zD F) := rfl
attribute [go_sem] aHX
theorem aHY (F : Md) : gam (jC F) 220 = some (wZ F) := rfl
attribute [go_sem] aHY
theorem aJr (F : Md) : gam (jC F) 95 = some (tO F) := rfl
attribute [go_sem] aJr
theorem aJs (F : Md) : gam (jC F) 97 = some (qQ F) := rfl
attribute [go_sem] aJs
set_option maxHeartbeats 4000000 in
theorem aL9 (F : Md) : FOK Tryz.prog GL 166 (xA F) := by
 refine jX (aT (aGL F)) Tryz.func166 rfl (by kernel_rfl) (by decide) fun w0 S x r hw h => ?_
 have hF : kP (fr Tryz.prog (EM (jC F)) S w0 Tryz.f166.ntmps) := ⟨aT (aGL F), mix⟩
 obtain ⟨(a_0 : (List Nat)), (b_1 : (List Nat)), u⟩ := x
 simp only [zF, Ty.wf, nH] at hw
 simp only [bJ, zF]
 try dsimp only at h
 replace h : zE F a_0 b_1 = some r := h
 unfold zE at h
 refine aB (aD hF [0, 1] ?_)
 simp only [go_sem]
 refine aC (aB (aB (aD hF [0, 1, 15] ?_)))
 simp only [go_sem]
 obtain ⟨g0, h⟩ := aL h
 repeat (refine ⟨zAA, ?_⟩)
 refine aC (bZ rfl (fun hc => ?_) (fun hc => ?_))
 ·try simp only [go_sem] at hc
  have h := gS zAB h
  refine aB (aZ hF [4, 5] ?_)
  simp only [go_sem]
  obtain ⟨g0, h⟩ := aL h
  repeat (refine ⟨zAA, ?_⟩)
  obtain rfl := Option.some.inj h
  refine aC (cI (bV (dK hF [.tmp 4, .tmp 5] rfl rfl rfl ?_)))
  exact zAG
 ·try simp only [go_sem] at hc
  have h := gT zAB h
  refine cQ (aC (aB (aB (aD hF [0, 1, 20] ?_))))
  simp only [go_sem]
  refine aC (bZ rfl (fun hc => ?_) (fun hc => ?_))
  ·try simp only [go_sem] at hc
   have h := gS zAB h
   refine aB (aD hF [4, 5] ?_)
   simp only [go_sem]
   obtain ⟨g0, h⟩ := aL h
   obtain ⟨g1, h⟩ := aL h
   repeat (refine ⟨zAA, ?_⟩)
   obtain rfl := Option.some.inj h
   refine aC (cI (bV (dK hF [.tmp 4, .tmp 5] rfl rfl rfl ?_)))
   exact zAG
  ·try simp only [go_sem] at hc
   have h := gT zAB h
   refine cQ (aC (aB (aD hF [0, 1, 6, 7] ?_)))
   simp only [go_sem]
   obtain ⟨g0, h⟩ := aL h
   obtain ⟨g1, h⟩ := aL h
   obtain ⟨g2, h⟩ := aL h
   try simp only [I64, I32] at g0
   repeat (refine ⟨zAA, ?_⟩)
   refine aC (aB (aD hF [0, 6, 7, 8, 9] ?_))
   simp only [go_sem]
   obtain ⟨g0, h⟩ := aL h
   obtain ⟨g1, h⟩ := aL h
   obtain ⟨g2, h⟩ := aL h
   obtain ⟨g3, h⟩ := aL h
   obtain ⟨g4, h⟩ := aL h
   try simp only [I64, I32] at g3
   repeat (refine ⟨zAA, ?_⟩)
   refine aC (aB (aZ hF [0, 6, 7, 8, 9, 10] ?_))
   simp only [go_sem]
   obtain ⟨g0, h⟩ := aL h
   try simp only [I64, I32] at g0
   repeat (refine ⟨zAA, ?_⟩)
   obtain ⟨g0, h⟩ := aL h
   try simp only [I64, I32] at g0
   repeat (refine ⟨zAA, ?_⟩)
   obtain ⟨g0, h⟩ := aL h
   obtain ⟨g1, h⟩ := aL h
   repeat (refine ⟨zAA, ?_⟩)
   refine aC (tL (D := Unit) (fun d => yD F a_0 b_1 = some r) [6, 7, 9] (fun d => [(10, .own 0)]) (fun d => [.inr (.row 83 (.u .u64) (List.replicate (((((a_0.length) : Nat) : Int) - (((b_1.length) : Nat) : Int)) + (1 : Int)).toNat (0 : Nat)))]) ?_ ?_)
   ·refine aB (aD hF [6, 7, 8, 9, 10, 11] ?_)
    simp only [go_sem]
    obtain ⟨g0, h⟩ := aL h
    try simp only [I64, I32] at g0
    repeat (refine ⟨zAA, ?_⟩)
    refine aC (eE (pB (D := Unit) [6, 7, 8, 9, 11] (fun d => [(10, .own 0)]) (fun d => [.inr (.row 83 (.u .u64) (List.replicate (((((a_0.length) : Nat) : Int) - (((b_1.length) : Nat) : Int)) + (1 : Int)).toNat (0 : Nat)))]) h ?_ ?_ ?_))
    ·first | rfl | (simp only [go_sem]; done)
    ·exact zAF
    rintro u s9 h hs9
    simp only [go_sem]
    try dsimp only at h
    unfold aCR at h
    refine aB (aB (aD hF [6, 7, 8, 9, 10, 11, 60] ?_))
    simp only [go_sem]
    refine aC (bZ rfl (fun hc => ?_) (fun hc => ?_))
    ·try simp only [go_sem] at hc
     have h := gS zAB h
     cases h
    ·try simp only [go_sem] at hc
     have h := gT zAB h
     obtain rfl := Option.some.inj h
     dsimp only [nZ] at hs9
     have h := hs9
     try dsimp only at h
     refine pX (dA (dA (fS (cD (aQ () h rfl ?_)))))
     ·exact zAF
   ·rintro u h
    try dsimp only at h
    simp only [go_sem]
    unfold yD at h
    refine aB (aPp 0 ?_)
    simp only [go_sem]
    refine aD hF [4, 5] ?_
    simp only [go_sem]
    obtain ⟨g0, h⟩ := aL h
    obtain ⟨g1, h⟩ := aL h
    obtain ⟨g2, h⟩ := aL h
    obtain ⟨g3, h⟩ := aL h
    repeat (refine ⟨zAA, ?_⟩)
    obtain rfl := Option.some.inj h
    refine aC (cI (dK hF [.tmp 4, .tmp 5] rfl rfl rfl ?_))
    exact zAG
attribute [go_sem] xA
end Nu
end Go.Proofs
namespace Go.Proofs
open Go.Vc
set_option maxRecDepth 20000
namespace Nu
theorem aEP : bA Tryz.prog GL [] := .nil
noncomputable def mZ (F : Md) (is_0 : Bool) (e_1 : Int) : Option (Unit ⊕ (Int × Unit)) :=
 if ¬ (is_0 = true) then some (.inr (e_1, ())) else some (.inl ())
noncomputable def eJ (F : Md) : pL where
 D := Bool × Int × (Unit ⊕ (Int × Unit))
 av := fun d => [.val .bool d.1, .val (.i .i64) d.2.1]
 hp := fun d => []
 m := 0
 pre := fun d => mZ F d.1 d.2.1 = some d.2.2
 out := fun d => match d.2.2 with | .inl r => .ret (.tup []) [] | .inr p => .pan ⟨251, (.pair (.i .i64) .unit), p⟩ []
noncomputable def aIV (F : Md) : List (FuncId × aF) := []
theorem aIW (F : Md) : bA Tryz.prog GL (aIV F) := .nil
set_option maxHeartbeats 4000000 in
theorem gQ (F : Md) : GOK Tryz.prog GL 233 (eJ F) := by
 refine aAl (aT (aIW F)) Tryz.func233 rfl (by kernel_rfl) (fun _ => Nat.le_of_ble_eq_true rfl) fun c0 w0 d hw1 hw2 h hn => ?_
 have hF : kP ⟨Tryz.prog, EM (aIV F), GM (eJ F) c0 d, w0, Tryz.f233.ntmps, []⟩ := ⟨aT (aIW F), mix⟩
 obtain ⟨(is_0 : Bool), (e_1 : Int), r⟩ := d
 replace h : mZ F is_0 e_1 = some r := h
 have hw1 : AV.wfL [.val .bool is_0, .val (.i .i64) e_1] := hw1
 simp only [AV.wfL, AV.wfV, Ty.wf, nH] at hw1
 show Tri _ _ _ [(0, .val .bool is_0), (1, .val (.i .i64) e_1)] []
 unfold mZ at h
 refine aB (aD hF [1, 5] ?_)
 simp only [go_sem]
 refine aC (bZ rfl (fun hc => ?_) (fun hc => ?_))
 ·try simp only [go_sem] at hc
  have h := gS zAB h
  refine cB hF (eL (l := []) (.nil)) [] [] ?_
  simp only [go_sem]
  repeat (refine ⟨zAA, ?_⟩)
  obtain rfl := Option.some.inj h
  refine uM rfl rfl rfl rfl
 ·try simp only [go_sem] at hc
  have h := gT zAB h
  obtain rfl := Option.some.inj h
  refine cQ (aKd (aGt hF [] rfl rfl rfl rfl rfl rfl ?_))
  (try simp only [aM, aGs, aFt, jB, tD, AV.isAgg, go_sem]) <;> first | trivial | rfl | (simp; done)
attribute [go_sem] eJ
noncomputable def xB (F : Md) (e_2 : Int) (m_1 : (List Nat)) (neg_0 : Bool) : Option ((Bool × ((List Nat) × (Int × Unit))) ⊕ (Int × Unit)) :=
 ck (I64 (e_2 + ((dU F m_1).getD (0 : Int)))) ((mZ F (decide ((e_2 + ((dU F m_1).getD (0 : Int))) ≤ (1048576 : Int))) (3 : Int)).bind (fun e => match e with | .inl r_22 => ck (I64 (e_2 + ((dU F m_1).getD (0 : Int)))) (some (.inl (neg_0, ((lN F m_1 ((dU F m_1).getD (0 : Int))).getD ([] : List Nat)), (e_2 + ((dU F m_1).getD (0 : Int))), ()))) | .inr p_23 => some (.inr p_23)))
noncomputable def aAv (F : Md) (neg_0 : Bool) (m_1 : (List Nat)) (e_2 : Int) : Option ((Bool × ((List Nat) × (Int × Unit))) ⊕ (Int × Unit)) :=
 if (((m_1.length) : Nat) : Int) = (0 : Int) then some (.inl (false, ([] : List Nat), (0 : Int), ())) else ck ((dU F m_1).isSome = true) (ck ((lN F m_1 ((dU F m_1).getD (0 : Int))).isSome = true) ((mZ F (decide (((((lN F m_1 ((dU F m_1).getD (0 : Int))).getD ([] : List Nat)).length : Nat) : Int) ≤ (64 : Int))) (2 : Int)).bind (fun e => match e with | .inl r_8 => if e_2 ≤ (1048576 : Int) then ck (I64 ((-1048576 : Int) - ((dU F m_1).getD (0 : Int)))) ((mZ F ((decide (e_2 ≤ (1048576 : Int))) && (decide (((-1048576 : Int) - ((dU F m_1).getD (0 : Int))) ≤ e_2))) (3 : Int)).bind (fun e => match e with | .inl r_24 => xB F e_2 m_1 neg_0 | .inr p_25 => some (.inr p_25))) else (mZ F false (3 : Int)).bind (fun e => match e with | .inl r_26 => xB F e_2 m_1 neg_0 | .inr p_27 => some (.inr p_27)) | .inr p_9 => some (.inr p_9))))
noncomputable def qD (F : Md) : pL where
 D := Bool × (List Nat) × Int × ((Bool × ((List Nat) × (Int × Unit))) ⊕ (Int × Unit))
 av := fun d => [.val .bool d.1, .val (.sl (.u .u64)) d.2.1, .val (.i .i64) d.2.2.1]
 hp := fun d => []
 m := 0
 pre := fun d => aAv F d.1 d.2.1 d.2.2.1 = some d.2.2.2
 out := fun d => match d.2.2.2 with | .inl r => .ret (.val (.pair .bool (.pair (.sl (.u .u64)) (.pair (.i .i64) .unit))) r) [] | .inr p => .pan ⟨251, (.pair (.i .i64) .unit), p⟩ []
noncomputable def aCu (F : Md) : List (FuncId × aF) := [(97, (qQ F)), (98, (zC F))]
theorem aLi (F : Md) : bA Tryz.prog GL (aCu F) := .cons (aGH F) (by kernel_rfl) (.cons (aNG F) (by kernel_rfl) (.nil))
theorem aMa (F : Md) : gam (aCu F) 97 = some (qQ F) := rfl
attribute [go_sem] aMa
theorem aMb (F : Md) : gam (aCu F) 98 = some (zC F) := rfl
attribute [go_sem] aMb
set_option maxHeartbeats 4000000 in
theorem aAV (F : Md) : GOK Tryz.prog GL 182 (qD F) := by
 refine aAl (aT (aLi F)) Tryz.func182 rfl (by kernel_rfl) (fun _ => Nat.le_of_ble_eq_true rfl) fun c0 w0 d hw1 hw2 h hn => ?_
 have hF : kP ⟨Tryz.prog, EM (aCu F), GM (qD F) c0 d, w0, Tryz.f182.ntmps, []⟩ := ⟨aT (aLi F), mix⟩
 obtain ⟨(neg_0 : Bool), (m_1 : (List Nat)), (e_2 : Int), r⟩ := d
 replace h : aAv F neg_0 m_1 e_2 = some r := h
 have hw1 : AV.wfL [.val .bool neg_0, .val (.sl (.u .u64)) m_1, .val (.i .i64) e_2] := hw1
 simp only [AV.wfL, AV.wfV, Ty.wf, nH] at hw1
 show Tri _ _ _ [(0, .val .bool neg_0), (1, .val (.sl (.u .u64)) m_1), (2, .val (.i .i64) e_2)] []
 unfold aAv at h
 refine aB (aZ hF [0, 1, 2, 6] ?_)
 simp only [go_sem]
 refine aC (aB (aB (aD hF [0, 1, 2, 6, 10] ?_)))
 simp only [go_sem]
 refine aC (bZ rfl (fun hc => ?_) (fun hc => ?_))
 ·try simp only [go_sem] at hc
  have h := gS zAB h
  refine aB (aZ hF [6] ?_)
  simp only [go_sem]
  obtain rfl := Option.some.inj h
  refine aC (cI (bV (aBA hF [.cell 6 25] [] rfl rfl rfl rfl rfl rfl rfl rfl rfl ?_)))
  (try simp only [aM, aGs, aFt, jB, tD, AV.isAgg, go_sem]) <;> first | trivial | rfl | (simp; done)
 ·try simp only [go_sem] at hc
  have h := gT zAB h
  refine cQ (aC (aB (aD hF [0, 1, 2, 6, 7] ?_)))
  simp only [go_sem]
  obtain ⟨g0, h⟩ := aL h
  repeat (refine ⟨zAA, ?_⟩)
  refine aC (aB (aD hF [0, 1, 2, 6, 7] ?_))
  simp only [go_sem]
  obtain ⟨g0, h⟩ := aL h
  repeat (refine ⟨zAA, ?_⟩)
  obtain ⟨e, he1, h⟩ := bind_some h
  rcases e with r_8 | p_9
  ·try dsimp only at h
   refine aC (aB (cB hF (eL (l := [(233, ⟨eJ F, [], ((decide (((((lN F m_1 ((dU F m_1).getD (0 : Int))).getD ([] : List Nat)).length : Nat) : Int) ≤ (64 : Int))), (2 : Int), .inl r_8)⟩)]) (.cons (gQ F) (by kernel_rfl) (.nil))) [0, 1, 2, 6, 7] [] ?_))
   simp only [go_sem]
   repeat (refine ⟨zAA, ?_⟩)
   refine aC (tL (D := Unit) (fun d => xB F e_2 m_1 neg_0 = some r) [0, 1, 2, 7] (fun d => [(6, .ptr 0 [])]) (fun d => [.inr (.box 3 (.val (.pair .bool (.pair (.sl (.u .u64)) (.pair (.i .i64) .unit))) (false, ([] : List Nat), (0 : Int), ())))]) ?_ ?_)
   ·by_cases hq : e_2 ≤ (1048576 : Int)
    ·have h := gS hq h
     obtain ⟨g0, h⟩ := aL h
     try simp only [I64, I32] at g0
     obtain ⟨e, he3, h⟩ := bind_some h
     rcases e with r_24 | p_25
     ·try dsimp only at h
      refine cB hF (eL (l := [(233, ⟨eJ F, [], (((decide (e_2 ≤ (1048576 : Int))) && (decide (((-1048576 : Int) - ((dU F m_1).getD (0 : Int))) ≤ e_2))), (3 : Int), .inl r_24)⟩)]) (.cons (gQ F) (by kernel_rfl) (.nil))) [0, 1, 2, 6, 7] [] ?_
      simp only [go_sem]
      repeat (refine ⟨zAA, ?_⟩)
      refine ⟨fun _ => ?_, fun hx => by first | (exfalso; omega) | (exfalso; simp_all; done)⟩
      repeat (refine ⟨zAA, ?_⟩)
      refine ⟨fun _ => ?_, fun hx => by first | (exfalso; omega) | (exfalso; simp_all; done)⟩
      repeat (refine ⟨zAA, ?_⟩)
      refine ⟨fun _ => ?_, fun hx => by first | (exfalso; omega) | (exfalso; simp_all; done)⟩
      repeat (refine ⟨zAA, ?_⟩)
      refine ⟨fun _ => ?_, fun hx => by first | (exfalso; omega) | (exfalso; simp_all; done)⟩
      repeat (refine ⟨zAA, ?_⟩)
      refine cD (aQ () h rfl ?_)
      ·exact zAF
     ·try dsimp only at h
      refine cB hF (eL (l := [(233, ⟨eJ F, [], (((decide (e_2 ≤ (1048576 : Int))) && (decide (((-1048576 : Int) - ((dU F m_1).getD (0 : Int))) ≤ e_2))), (3 : Int), .inr p_25)⟩)]) (.cons (gQ F) (by kernel_rfl) (.nil))) [0, 1, 2, 6, 7] [] ?_
      simp only [go_sem]
      repeat (refine ⟨zAA, ?_⟩)
      refine ⟨fun _ => ?_, fun hx => by first | (exfalso; omega) | (exfalso; simp_all; done)⟩
      repeat (refine ⟨zAA, ?_⟩)
      refine ⟨fun _ => ?_, fun hx => by first | (exfalso; omega) | (exfalso; simp_all; done)⟩
      repeat (refine ⟨zAA, ?_⟩)
      refine ⟨fun _ => ?_, fun hx => by first | (exfalso; omega) | (exfalso; simp_all; done)⟩
      repeat (refine ⟨zAA, ?_⟩)
      refine ⟨fun _ => ?_, fun hx => by first | (exfalso; omega) | (exfalso; simp_all; done)⟩
      repeat (refine ⟨zAA, ?_⟩)
      obtain rfl := Option.some.inj h
      refine oQ (wV [] rfl rfl ?_)
      simp only [ren, kJ, pZ, posOf, iC, go_sem]
      refine uM rfl rfl rfl rfl
    ·have h := gT hq h
     obtain ⟨e, he4, h⟩ := bind_some h
     rcases e with r_26 | p_27
     ·try dsimp only at h
      refine cB hF (eL (l := [(233, ⟨eJ F, [], (false, (3 : Int), .inl r_26)⟩)]) (.cons (gQ F) (by kernel_rfl) (.nil))) [0, 1, 2, 6, 7] [] ?_
      simp only [go_sem]
      repeat (refine ⟨zAA, ?_⟩)
      first | (refine ⟨fun hx => by first | (exfalso; omega) | (exfalso; simp_all; done), fun _ => ?_⟩) | intro _
      repeat (refine ⟨zAA, ?_⟩)
      first | (refine ⟨fun hx => by first | (exfalso; omega) | (exfalso; simp_all; done), fun _ => ?_⟩) | intro _
      repeat (refine ⟨zAA, ?_⟩)
      first | (refine ⟨fun hx => by first | (exfalso; omega) | (exfalso; simp_all; done), fun _ => ?_⟩) | intro _
      repeat (refine ⟨zAA, ?_⟩)
      first | (refine ⟨fun hx => by first | (exfalso; omega) | (exfalso; simp_all; done), fun _ => ?_⟩) | intro _
      repeat (refine ⟨zAA, ?_⟩)
      refine cD (aQ () h rfl ?_)
      ·exact zAF
     ·try dsimp only at h
      refine cB hF (eL (l := [(233, ⟨eJ F, [], (false, (3 : Int), .inr p_27)⟩)]) (.cons (gQ F) (by kernel_rfl) (.nil))) [0, 1, 2, 6, 7] [] ?_
      simp only [go_sem]
      repeat (refine ⟨zAA, ?_⟩)
      first | (refine ⟨fun hx => by first | (exfalso; omega) | (exfalso; simp_all; done), fun _ => ?_⟩) | intro _
      repeat (refine ⟨zAA, ?_⟩)
      first | (refine ⟨fun hx => by first | (exfalso; omega) | (exfalso; simp_all; done), fun _ => ?_⟩) | intro _
      repeat (refine ⟨zAA, ?_⟩)
      first | (refine ⟨fun hx => by first | (exfalso; omega) | (exfalso; simp_all; done), fun _ => ?_⟩) | intro _
      repeat (refine ⟨zAA, ?_⟩)
      first | (refine ⟨fun hx => by first | (exfalso; omega) | (exfalso; simp_all; done), fun _ => ?_⟩) | intro _
      repeat (refine ⟨zAA, ?_⟩)
      obtain rfl := Option.some.inj h
      refine oQ (wV [] rfl rfl ?_)
      simp only [ren, kJ, pZ, posOf, iC, go_sem]
      refine uM rfl rfl rfl rfl
   ·rintro u h
    try dsimp only at h
    simp only [go_sem]
    unfold xB at h
    obtain ⟨g0, h⟩ := aL h
    try simp only [I64, I32] at g0
    obtain ⟨e, he2, h⟩ := bind_some h
    rcases e with r_22 | p_23
    ·try dsimp only at h
     refine aB (cB hF (eL (l := [(233, ⟨eJ F, [], ((decide ((e_2 + ((dU F m_1).getD (0 : Int))) ≤ (1048576 : Int))), (3 : Int), .inl r_22)⟩)]) (.cons (gQ F) (by kernel_rfl) (.nil))) [0, 1, 2, 6, 7] [] ?_)
     simp only [go_sem]
     repeat (refine ⟨zAA, ?_⟩)
     refine aC (aB (aZ hF [6] ?_))
     simp only [go_sem]
     obtain ⟨g0, h⟩ := aL h
     try simp only [I64, I32] at g0
     repeat (refine ⟨zAA, ?_⟩)
     obtain rfl := Option.some.inj h
     refine aC (cI (aBA hF [.cell 6 25] [] rfl rfl rfl rfl rfl rfl rfl rfl rfl ?_))
     (try simp only [aM, aGs, aFt, jB, tD, AV.isAgg, go_sem]) <;> first | trivial | rfl | (simp; done)
    ·try dsimp only at h
     refine aB (cB hF (eL (l := [(233, ⟨eJ F, [], ((decide ((e_2 + ((dU F m_1).getD (0 : Int))) ≤ (1048576 : Int))), (3 : Int), .inr p_23)⟩)]) (.cons (gQ F) (by kernel_rfl) (.nil))) [0, 1, 2, 6, 7] [] ?_)
     simp only [go_sem]
     repeat (refine ⟨zAA, ?_⟩)
     obtain rfl := Option.some.inj h
     refine oQ (wV [] rfl rfl ?_)
     simp only [ren, kJ, pZ, posOf, iC, go_sem]
     refine uM rfl rfl rfl rfl
  ·try dsimp only at h
   refine aC (aB (cB hF (eL (l := [(233, ⟨eJ F, [], ((decide (((((lN F m_1 ((dU F m_1).getD (0 : Int))).getD ([] : List Nat)).length : Nat) : Int) ≤ (64 : Int))), (2 : Int), .inr p_9)⟩)]) (.cons (gQ F) (by kernel_rfl) (.nil))) [0, 1, 2, 6, 7] [] ?_))
   simp only [go_sem]
   repeat (refine ⟨zAA, ?_⟩)
   obtain rfl := Option.some.inj h
   refine oQ (wV [] rfl rfl ?_)
   simp only [ren, kJ, pZ, posOf, iC, go_sem]
   refine uM rfl rfl rfl rfl
attribute [go_sem] qD
noncomputable def zG (F : Md) (a0_0 : Bool) (a1_1 : (List Nat)) (a2_2 : Int) : Option ((Bool × ((List Nat) × (Int × Unit))) ⊕ (Int × Unit)) :=
 (aAv F a0_0 a1_1 a2_2).bind (fun e => match e with | .inl r_8 => some (.inl r_8) | .inr p_9 => some (.inr p_9))
noncomputable def rU (F : Md) : pL where
 D := Bool × (List Nat) × Int × ((Bool × ((List Nat) × (Int × Unit))) ⊕ (Int × Unit))
 av := fun d => [.val (.rp .bool) d.1, .val (.rp (.sl (.u .u64))) d.2.1, .val (.rp (.i .i64)) d.2.2.1]
 hp := fun d => []
 m := 0
 pre := fun d => zG F d.1 d.2.1 d.2.2.1 = some d.2.2.2
 out := fun d => match d.2.2.2 with | .inl r => .ret (.val (.pair .bool (.pair (.sl (.u .u64)) (.pair (.i .i64) .unit))) r) [] | .inr p => .pan ⟨251, (.pair (.i .i64) .unit), p⟩ []
noncomputable def aGM (F : Md) : List (FuncId × aF) := []
theorem aGN (F : Md) : bA Tryz.prog GL (aGM F) := .nil
set_option maxHeartbeats 4000000 in
theorem aEQ (F : Md) : GOK Tryz.prog GL 181 (rU F) := by
 refine aAl (aT (aGN F)) Tryz.func181 rfl (by kernel_rfl) (fun _ => Nat.le_of_ble_eq_true rfl) fun c0 w0 d hw1 hw2 h hn => ?_
 have hF : kP ⟨Tryz.prog, EM (aGM F), GM (rU F) c0 d, w0, Tryz.f181.ntmps, []⟩ := ⟨aT (aGN F), mix⟩
 obtain ⟨(a0_0 : Bool), (a1_1 : (List Nat)), (a2_2 : Int), r⟩ := d
 replace h : zG F a0_0 a1_1 a2_2 = some r := h
 have hw1 : AV.wfL [.val (.rp .bool) a0_0, .val (.rp (.sl (.u .u64))) a1_1, .val (.rp (.i .i64)) a2_2] := hw1
 simp only [AV.wfL, AV.wfV, Ty.wf, nH] at hw1
 show Tri _ _ _ [(0, .roa .bool a0_0), (1, .roa (.sl (.u .u64)) a1_1), (2, .roa (.i .i64) a2_2)] []
 unfold zG at h
 refine aB (aZ hF [0, 1, 2, 3] ?_)
 simp only [go_sem]
 obtain ⟨e, he1, h⟩ := bind_some h
 rcases e with r_8 | p_9
 ·try dsimp only at h
  refine aC (aB (cB hF (eL (l := [(182, ⟨qD F, [], (a0_0, a1_1, a2_2, .inl r_8)⟩)]) (.cons (aAV F) (by kernel_rfl) (.nil))) [3] [] ?_))
  simp only [go_sem]
  repeat (refine ⟨zAA, ?_⟩)
  obtain rfl := Option.some.inj h
  refine aC (cI (aBA hF [.cell 3 25] [] rfl rfl rfl rfl rfl rfl rfl rfl rfl ?_))
  (try simp only [aM, aGs, aFt, jB, tD, AV.isAgg, go_sem]) <;> first | trivial | rfl | (simp; done)
 ·try dsimp only at h
  refine aC (aB (cB hF (eL (l := [(182, ⟨qD F, [], (a0_0, a1_1, a2_2, .inr p_9)⟩)]) (.cons (aAV F) (by kernel_rfl) (.nil))) [3] [] ?_))
  simp only [go_sem]
  repeat (refine ⟨zAA, ?_⟩)
  obtain rfl := Option.some.inj h
  refine oQ (wV [] rfl rfl ?_)
  simp only [ren, kJ, pZ, posOf, iC, go_sem]
  refine uM rfl rfl rfl rfl
attribute [go_sem] rU
def lO : pL where
 D := (Bool × ((List Nat) × (Int × Unit))) × Int
 av := fun _ => [.ptr 0 [], .ptr 1 []]
 hp := fun d => [.box 3 (.val (.pair .bool (.pair (.sl (.u .u64)) (.pair (.i .i64) .unit))) d.1), .box 1 (.val (.i .i64) d.2)]
 m := 2
 pre := fun _ => True
 out := fun d => .ret (.tup []) [.box 3 (.val (.pair .bool (.pair (.sl (.u .u64)) (.pair (.i .i64) .unit))) d.1), .box 1 (.val (.i .i64) d.2)]
def lP (x : (Int × Unit)) : pL where
 D := (Bool × ((List Nat) × (Int × Unit))) × Int
 av := fun _ => [.ptr 0 [], .ptr 1 []]
 hp := fun d => [.box 3 (.val (.pair .bool (.pair (.sl (.u .u64)) (.pair (.i .i64) .unit))) d.1), .box 1 (.val (.i .i64) d.2)]
 m := 2
 pre := fun _ => True
 out := fun d => .ret (.tup []) [.box 3 (.val (.pair .bool (.pair (.sl (.u .u64)) (.pair (.i .i64) .unit))) (false, ([] : List Nat), (0 : Int), ())), .box 1 (.val (.i .i64) x.1)]
theorem aDM : DOK Tryz.prog GL 232 none lO := by
 refine aSn (aT aEP) Tryz.func232 rfl (by kernel_rfl) (fun _ => Nat.le_of_ble_eq_true rfl) rfl fun c w d hw1 hw2 hp hn => ?_
 have hF : kP ⟨Tryz.prog, EM [], GM lO c d, w, Tryz.f232.ntmps, []⟩ := ⟨aT aEP, mix⟩
 obtain ⟨d, e⟩ := d
 show qN _ _ _ [(5, .val .nili ()), (0, .ptr 0 []), (1, .ptr 1 [])] [.box 3 (.val (.pair .bool (.pair (.sl (.u .u64)) (.pair (.i .i64) .unit))) d), .box 1 (.val (.i .i64) e)] _
 simp only [go_sem]
 refine aB (aD hF [0, 1, 2, 9] ?_)
 simp only [go_sem]
 refine aC (bZ rfl (fun hc => absurd hc (by decide)) (fun hc => ?_))
 refine cQ ?_
 refine oE [0, 1] rfl rfl ?_
 simp only [ren, kJ, pZ, posOf, iC, go_sem]
 refine aKd (aGt hF [] rfl rfl rfl rfl rfl rfl ?_)
 simp only [aM, aGs, aFt, go_sem]
 try decide
theorem aDN (x : (Int × Unit)) : DOK Tryz.prog GL 232 (some ⟨251, (.pair (.i .i64) .unit), x⟩) (lP x) := by
 refine aSn (aT aEP) Tryz.func232 rfl (by kernel_rfl) (fun _ => Nat.le_of_ble_eq_true rfl) rfl fun c w d hw1 hw2 hp hn => ?_
 have hF : kP ⟨Tryz.prog, EM [], GM (lP x) c d, w, Tryz.f232.ntmps, []⟩ := ⟨aT aEP, mix⟩
 obtain ⟨d, e⟩ := d
 show qN _ _ _ [(5, .val (.ifc 251 (.pair (.i .i64) .unit)) x), (0, .ptr 0 []), (1, .ptr 1 [])] [.box 3 (.val (.pair .bool (.pair (.sl (.u .u64)) (.pair (.i .i64) .unit))) d), .box 1 (.val (.i .i64) e)] _
 simp only [go_sem]
 refine aB (aD hF [0, 1, 2, 9] ?_)
 simp only [go_sem]
 refine aC (bZ rfl (fun hc => ?_) (fun hc => absurd hc (by decide)))
 refine aID hF [] [] [.box 3 (.val (.pair .bool (.pair (.sl (.u .u64)) (.pair (.i .i64) .unit))) (false, ([] : List Nat), (0 : Int), ())), .box 1 (.val (.i .i64) x.1), .box 1 (.val (.pair (.i .i64) .unit) x)] (by decide) ?_ ?_
 ·simp only [go_sem]
  unfold anyS
  intro i hi
  have hi : i = 0 ∨ i = 1 := by revert hi; revert i; decide
  rcases hi with rfl | rfl
  ·simp only [go_sem]
   skip
   unfold anyS
   intro i hi
   have hi : i = 1 ∨ i = 3 := by revert hi; revert i; decide
   rcases hi with rfl | rfl
   ·simp only [go_sem]
    skip
    unfold anyS
    intro i hi
    have hi : i = 2 ∨ i = 3 := by revert hi; revert i; decide
    rcases hi with rfl | rfl
    ·simp only [go_sem]
     skip
     unfold anyS
     intro i hi
     have hi : i = 3 := by revert hi; revert i; decide
     subst hi
     simp only [go_sem]
     skip
     unfold anyS
     intro i hi
     have hi : i = 4 := by revert hi; revert i; decide
     subst hi
     simp only [go_sem]
     skip
     (simp only [anyS, go_sem]) <;> first | exact ⟨rfl, rfl⟩ | trivial
    ·simp only [go_sem]
     skip
     unfold anyS
     intro i hi
     have hi : i = 2 := by revert hi; revert i; decide
     subst hi
     simp only [go_sem]
     skip
     unfold anyS
     intro i hi
     have hi : i = 4 := by revert hi; revert i; decide
     subst hi
     simp only [go_sem]
     skip
     (simp only [anyS, go_sem]) <;> first | exact ⟨rfl, rfl⟩ | trivial
   ·simp only [go_sem]
    skip
    unfold anyS
    intro i hi
    have hi : i = 1 := by revert hi; revert i; decide
    subst hi
    simp only [go_sem]
    skip
    unfold anyS
    intro i hi
    have hi : i = 2 := by revert hi; revert i; decide
    subst hi
    simp only [go_sem]
    skip
    unfold anyS
    intro i hi
    have hi : i = 4 := by revert hi; revert i; decide
    subst hi
    simp only [go_sem]
    skip
    (simp only [anyS, go_sem]) <;> first | exact ⟨rfl, rfl⟩ | trivial
  ·simp only [go_sem]
   skip
   unfold anyS
   intro i hi
   have hi : i = 0 ∨ i = 2 := by revert hi; revert i; decide
   rcases hi with rfl | rfl
   ·simp only [go_sem]
    skip
    unfold anyS
    intro i hi
    have hi : i = 2 ∨ i = 3 := by revert hi; revert i; decide
    rcases hi with rfl | rfl
    ·simp only [go_sem]
     skip
     unfold anyS
     intro i hi
     have hi : i = 3 := by revert hi; revert i; decide
     subst hi
     simp only [go_sem]
     skip
     unfold anyS
     intro i hi
     have hi : i = 4 := by revert hi; revert i; decide
     subst hi
     simp only [go_sem]
     skip
     (simp only [anyS, go_sem]) <;> first | exact ⟨rfl, rfl⟩ | trivial
    ·simp only [go_sem]
     skip
     unfold anyS
     intro i hi
     have hi : i = 2 := by revert hi; revert i; decide
     subst hi
     simp only [go_sem]
     skip
     unfold anyS
     intro i hi
     have hi : i = 4 := by revert hi; revert i; decide
     subst hi
     simp only [go_sem]
     skip
     (simp only [anyS, go_sem]) <;> first | exact ⟨rfl, rfl⟩ | trivial
   ·simp only [go_sem]
    skip
    unfold anyS
    intro i hi
    have hi : i = 0 := by revert hi; revert i; decide
    subst hi
    simp only [go_sem]
    skip
    unfold anyS
    intro i hi
    have hi : i = 3 := by revert hi; revert i; decide
    subst hi
    simp only [go_sem]
    skip
    unfold anyS
    intro i hi
    have hi : i = 4 := by revert hi; revert i; decide
    subst hi
    simp only [go_sem]
    skip
    (simp only [anyS, go_sem]) <;> first | exact ⟨rfl, rfl⟩ | trivial
 refine oE [0, 1] rfl rfl ?_
 simp only [ren, kJ, pZ, posOf, iC, go_sem]
 refine aKd (aGt hF [] rfl rfl rfl rfl rfl rfl ?_)
 simp only [aM, aGs, aFt, go_sem]
 try decide
noncomputable def fG (F : Md) (c0 : Bool) (c1 : (List Nat)) (c2 : Int) : Option ((Bool × ((List Nat) × (Int × Unit))) × Int × Unit) :=
 (zG F c0 c1 c2).bind fun q => some (match q with | .inl r => (r, 0, ()) | .inr p => ((false, ([] : List Nat), (0 : Int), ()), p.1, ()))
def tQ : Ty := .pair (.clo 181 (.pair (.rp .bool) (.pair (.rp (.sl (.u .u64))) (.pair (.rp (.i .i64)) .unit)))) .unit
noncomputable def jD (F : Md) : aF := mSpec tQ (.tup (.pair (.pair .bool (.pair (.sl (.u .u64)) (.pair (.i .i64) .unit))) (.pair (.i .i64) .unit))) (fun x => fG F x.1.1 x.1.2.1 x.1.2.2.1)
set_option maxHeartbeats 4000000 in
theorem aBg (F : Md) : FOK Tryz.prog GL 180 (jD F) := by
 refine aK1 (aT aEP) Tryz.func180 rfl (by kernel_rfl) (by decide) fun w0 S x r hw h => ?_
 have hF : kP (fr Tryz.prog (EM []) S w0 Tryz.f180.ntmps) := ⟨aT aEP, mix⟩
 obtain ⟨⟨(c0 : Bool), (c1 : (List Nat)), (c2 : Int), u1⟩, u⟩ := x
 replace h : fG F c0 c1 c2 = some r := h
 show Tri _ _ _ [(0, .val (.clo 181 (.pair (.rp .bool) (.pair (.rp (.sl (.u .u64))) (.pair (.rp (.i .i64)) .unit)))) (c0, c1, c2, u1))] []
 unfold fG at h
 obtain ⟨q, hq, h⟩ := bind_some h
 obtain rfl := Option.some.inj h
 refine aB (aZ hF [0, 2, 3] ?_)
 simp only [go_sem]
 refine aC (aEJ 2 [0, 1] rfl rfl (Nat.zero_le _) (by decide) fun roots hroots => ?_)
 have hF' : kP { fr Tryz.prog (EM []) S w0 Tryz.f180.ntmps with M := ⟨nothing, S, 2, roots⟩, ds := [⟨.fn (.func 232) ([0, 1].map roots).toArray, #[]⟩] } := ⟨aT aEP, mix⟩
 rcases q with q | q
 ·refine aB (cB hF' (eL (l := [(181, ⟨rU F, [], (c0, c1, c2, .inl q)⟩)]) (.cons (aEQ F) (by kernel_rfl) .nil)) [2, 3] [] ?_)
  simp only [go_sem]
  refine ⟨hq, ?_⟩
  refine aC (cI ?_)
  refine aQw (fn := Tryz.f180) (k := 2) (l2 := [0, 1]) hF' rfl rfl (by decide) rfl (aGw (by kernel_rfl)) ⟨lO, [0, 1], (q, 0)⟩ aDM rfl [.cell 2 25, .cell 3 3] rfl ?_ ?_
  ·(simp only [lO, go_sem]) <;> first | decide | trivial
  ·(simp only [lO, aM, fJ, go_sem]) <;> first | decide | trivial
 ·refine aB (cB hF' (eL (l := [(181, ⟨rU F, [], (c0, c1, c2, .inr q)⟩)]) (.cons (aEQ F) (by kernel_rfl) .nil)) [2, 3] [] ?_)
  simp only [go_sem]
  refine ⟨hq, ?_⟩
  refine oQ ?_
  refine aQx (fn := Tryz.f180) (k := 2) (l2 := [0, 1]) hF' rfl rfl (by decide) rfl (aGw (by kernel_rfl)) ⟨lP q, [0, 1], ((false, ([] : List Nat), (0 : Int), ()), 0)⟩ (aDN q) rfl [.cell 2 25, .cell 3 3] rfl ?_ ?_
  ·(simp only [lP, go_sem]) <;> first | decide | trivial
  ·(simp only [lP, aM, fJ, go_sem]) <;> first | decide | trivial
attribute [go_sem] jD tQ
noncomputable def aAw (F : Md) (neg_0 : Bool) (m_1 : (List Nat)) (e_2 : Int) : Option ((Bool × ((List Nat) × (Int × Unit))) × (Int × Unit)) :=
 ck ((fG F neg_0 m_1 e_2).isSome = true) (some (((fG F neg_0 m_1 e_2).getD ((false, ([] : List Nat), (0 : Int), ()), (0 : Int), ())).1, ((fG F neg_0 m_1 e_2).getD ((false, ([] : List Nat), (0 : Int), ()), (0 : Int), ())).2.1, ()))
def aCv : Ty := .pair .bool (.pair (.sl (.u .u64)) (.pair (.i .i64) .unit))
attribute [go_sem] aCv
noncomputable def tR (F : Md) : aF := mSpec aCv (.tup (.pair (.pair .bool (.pair (.sl (.u .u64)) (.pair (.i .i64) .unit))) (.pair (.i .i64) .unit))) (fun x => aAw F x.1 x.2.1 x.2.2.1)
noncomputable def aFx (F : Md) : List (FuncId × aF) := [(180, (jD F))]
theorem aLj (F : Md) : bA Tryz.prog GL (aFx F) := .cons (aBg F) (by kernel_rfl) (.nil)
theorem aLk (F : Md) : gam (aFx F) 180 = some (jD F) := rfl
attribute [go_sem] aLk
set_option maxHeartbeats 4000000 in
theorem aIX (F : Md) : FOK Tryz.prog GL 117 (tR F) := by
 refine jX (aT (aLj F)) Tryz.func117 rfl (by kernel_rfl) (by decide) fun w0 S x r hw h => ?_
 have hF : kP (fr Tryz.prog (EM (aFx F)) S w0 Tryz.f117.ntmps) := ⟨aT (aLj F), mix⟩
 obtain ⟨(neg_0 : Bool), (m_1 : (List Nat)), (e_2 : Int), u⟩ := x
 simp only [aCv, Ty.wf, nH] at hw
 simp only [bJ, aCv]
 try dsimp only at h
 replace h : aAw F neg_0 m_1 e_2 = some r := h
 unfold aAw at h
 refine aB (aZ hF [3, 4, 5, 6] ?_)
 simp only [go_sem]
 refine aC (aB (xW 0 rfl ?_))
 simp only [go_sem]
 refine xW 1 rfl ?_
 simp only [go_sem]
 refine xW 2 rfl ?_
 simp only [go_sem]
 refine aZ hF [6, 7] ?_
 simp only [go_sem]
 obtain ⟨g0, h⟩ := aL h
 repeat (refine ⟨zAA, ?_⟩)
 obtain rfl := Option.some.inj h
 refine aC (cI (dK hF [.cell 6 25, .tmp 7] rfl rfl rfl ?_))
 exact zAG
attribute [go_sem] tR
noncomputable def fK (F : Md) (d_0 : (Bool × ((List Nat) × (Int × Unit)))) : Option Bool :=
 if (((d_0.2.1.length) : Nat) : Int) = (0 : Int) then some ((!d_0.1) && (decide (d_0.2.2.1 = (0 : Int)))) else (aEr F d_0.2.1).bind (fun v_5 => ck ((v_5 = true) → ((0 : Int) < (((d_0.2.1.length) : Nat) : Int))) (some (((v_5 && (decide (((d_0.2.1.getD (0 : Nat) (0 : Nat)) &&& (1 : Nat)) = (1 : Nat)))) && (decide ((-1048576 : Int) ≤ d_0.2.2.1))) && (decide (d_0.2.2.1 ≤ (1048576 : Int))))))
def aIY : PlR := ⟨[(0, .B [1]), (1, .A [1, 6]), (2, .A [2]), (3, .A [2])], []⟩
def aLl : Ty := .pair (.pair .bool (.pair (.sl (.u .u64)) (.pair (.i .i64) .unit))) .unit
noncomputable def oA (F : Md) : aF := mSpec aLl (.one .bool) (fun x => fK F x.1)
noncomputable def aLm (F : Md) : List (FuncId × aF) := [(120, (aCq F))]
theorem aPI (F : Md) : bA Tryz.prog GL (aLm F) := .cons (aPz F) (by kernel_rfl) (.nil)
theorem aLn (F : Md) : gam (aLm F) 120 = some (aCq F) := rfl
attribute [go_sem] aLl aIY aLn
set_option maxHeartbeats 4000000 in
theorem aDO (F : Md) : FOK Tryz.prog GL 58 (oA F) := by
 refine bF (aT (aPI F)) mix Tryz.func58 rfl (by kernel_rfl) (by decide) aIY fun w0 S x Θ hw h hF => ?_
 obtain ⟨(d_0 : (Bool × ((List Nat) × (Int × Unit)))), u⟩ := x
 simp only [bJ, go_sem]
 replace h : sat (fK F d_0) _ := h
 unfold fK at h
 refine dQ h (fun hc h => ?_) fun hc h => ?_
 ·exact aE hF [.tmp 2] rfl rfl rfl (aA h) (by simp only [aM, go_sem])
 ·obtain ⟨v_5, hv, h⟩ := aI h
  try simp only [hv, go_sem]
  refine aP h fun g0 h => ?_
  exact aE hF [.tmp 2] rfl rfl rfl (aA h) (by simp only [aM, go_sem])
attribute [go_sem] oA
noncomputable def qE (F : Md) (d_0 : (Bool × ((List Nat) × (Int × Unit)))) : Option Int :=
 (fK F d_0).bind (fun v_7 => if (¬ (v_7 = true)) ∨ ((((d_0.2.1.length) : Nat) : Int) = (0 : Int)) then some (0 : Int) else if d_0.1 = true then some (-1 : Int) else some (1 : Int))
def aGO : PlR := ⟨[(0, .B [1]), (1, .A [1, 3]), (2, .A [2]), (3, .A [13]), (4, .A [2]), (5, .A [2])], []⟩
def aIZ : Ty := .pair (.pair .bool (.pair (.sl (.u .u64)) (.pair (.i .i64) .unit))) .unit
noncomputable def qR (F : Md) : aF := mSpec aIZ (.one (.i .i64)) (fun x => qE F x.1)
noncomputable def aI0 (F : Md) : List (FuncId × aF) := [(58, (oA F))]
theorem aOO (F : Md) : bA Tryz.prog GL (aI0 F) := .cons (aDO F) (by kernel_rfl) (.nil)
theorem aLo (F : Md) : gam (aI0 F) 58 = some (oA F) := rfl
attribute [go_sem] aIZ aGO aLo
set_option maxHeartbeats 4000000 in
theorem aGP (F : Md) : FOK Tryz.prog GL 57 (qR F) := by
 refine bF (aT (aOO F)) mix Tryz.func57 rfl (by kernel_rfl) (by decide) aGO fun w0 S x Θ hw h hF => ?_
 obtain ⟨(d_0 : (Bool × ((List Nat) × (Int × Unit)))), u⟩ := x
 simp only [bJ, go_sem]
 replace h : sat (qE F d_0) _ := h
 unfold qE at h
 obtain ⟨v_7, hv, h⟩ := aI h
 try simp only [hv, go_sem]
 refine ⟨fun hc => ?_, fun hc => ?_⟩
 ·replace h := fV zAB h
  exact aE hF [.tmp 2] rfl rfl rfl (aA h) (by simp only [aM, go_sem])
 ·replace h := fW zAB h
  refine aIE h (fun hc h => ?_) fun hc h => ?_
  ·exact aE hF [.tmp 2] rfl rfl rfl (aA h) (by simp only [aM, go_sem])
  ·exact aE hF [.tmp 2] rfl rfl rfl (aA h) (by simp only [aM, go_sem])
attribute [go_sem] qR
noncomputable def aAW (F : Md) (a_0 : (Bool × ((List Nat) × (Int × Unit)))) (b_1 : (Bool × ((List Nat) × (Int × Unit)))) : Option Int :=
 (aAo F a_0.2.1).bind (fun v_13 => ck (I64 (v_13 + a_0.2.2.1)) ((aAo F b_1.2.1).bind (fun v_14 => ck (I64 (v_14 + b_1.2.2.1)) (if (v_13 + a_0.2.2.1) < (v_14 + b_1.2.2.1) then some (-1 : Int) else if (v_14 + b_1.2.2.1) < (v_13 + a_0.2.2.1) then some (1 : Int) else ck (I64 (a_0.2.2.1 - (min a_0.2.2.1 b_1.2.2.1))) ((iU F a_0.2.1 (a_0.2.2.1 - (min a_0.2.2.1 b_1.2.2.1))).bind (fun v_30 => ck (I64 (b_1.2.2.1 - (min a_0.2.2.1 b_1.2.2.1))) ((iU F b_1.2.1 (b_1.2.2.1 - (min a_0.2.2.1 b_1.2.2.1))).bind (fun v_31 => (qC F v_30 v_31).bind (fun v_32 => some v_32)))))))))
def aGQ : PlR := ⟨[(0, .B [2, 3]), (1, .A [2, 3, 5, 6]), (2, .A [2, 3, 5, 6, 20]), (3, .A [4]), (4, .A [2, 3, 24]), (5, .A [4]), (6, .A [2, 3, 7]), (7, .A [4])], []⟩
def aI1 : Ty := .pair (.pair .bool (.pair (.sl (.u .u64)) (.pair (.i .i64) .unit))) (.pair (.pair .bool (.pair (.sl (.u .u64)) (.pair (.i .i64) .unit))) .unit)
noncomputable def zH (F : Md) : aF := mSpec aI1 (.one (.i .i64)) (fun x => aAW F x.1 x.2.1)
noncomputable def aAX (F : Md) : List (FuncId × aF) := [(121, (aAS F)), (122, (mY F)), (95, (tO F))]
theorem aOP (F : Md) : bA Tryz.prog GL (aAX F) := .cons (aOI F) (by kernel_rfl) (.cons (aCr F) (by kernel_rfl) (.cons (aIR F) (by kernel_rfl) (.nil)))
theorem aJt (F : Md) : gam (aAX F) 121 = some (aAS F) := rfl
theorem aJu (F : Md) : gam (aAX F) 122 = some (mY F) := rfl
theorem aLp (F : Md) : gam (aAX F) 95 = some (tO F) := rfl
attribute [go_sem] aI1 aGQ aJt aJu aLp
set_option maxHeartbeats 4000000 in
theorem aNJ (F : Md) : FOK Tryz.prog GL 59 (zH F) := by
 refine bF (aT (aOP F)) mix Tryz.func59 rfl (by kernel_rfl) (by decide) aGQ fun w0 S x Θ hw h hF => ?_
 obtain ⟨(a_0 : (Bool × ((List Nat) × (Int × Unit)))), (b_1 : (Bool × ((List Nat) × (Int × Unit)))), u⟩ := x
 simp only [bJ, go_sem]
 replace h : sat (aAW F a_0 b_1) _ := h
 unfold aAW at h
 obtain ⟨v_13, hv, h⟩ := aI h
 try simp only [hv, go_sem]
 refine aP h fun g0 h => ?_
 obtain ⟨v_14, hv, h⟩ := aI h
 try simp only [hv, go_sem]
 refine aP h fun g0 h => ?_
 refine eI h (fun hc h => ?_) fun hc h => ?_
 ·exact aE hF [.tmp 4] rfl rfl rfl (aA h) (by simp only [aM, go_sem])
 ·refine eI h (fun hc h => ?_) fun hc h => ?_
  ·exact aE hF [.tmp 4] rfl rfl rfl (aA h) (by simp only [aM, go_sem])
  ·refine aP h fun g0 h => ?_
   obtain ⟨v_30, hv, h⟩ := aI h
   try simp only [hv, go_sem]
   refine aP h fun g0 h => ?_
   obtain ⟨v_31, hv, h⟩ := aI h
   try simp only [hv, go_sem]
   obtain ⟨v_32, hv, h⟩ := aI h
   try simp only [hv, go_sem]
   exact aE hF [.tmp 4] rfl rfl rfl (aA h) (by simp only [aM, go_sem])
attribute [go_sem] zH
noncomputable def wQ (F : Md) (a_0 : (Bool × ((List Nat) × (Int × Unit)))) (b_1 : (Bool × ((List Nat) × (Int × Unit)))) : Option Int :=
 (qE F a_0).bind (fun v_13 => (qE F b_1).bind (fun v_14 => (fK F a_0).bind (fun v_20 => ck (¬ (¬ (v_20 = true)) → ((fK F b_1).isSome = true)) (if (¬ (v_20 = true)) ∨ (¬ (((fK F b_1).getD false) = true)) then some (0 : Int) else if (¬ (v_13 = v_14)) ∧ (v_13 < v_14) then some (-1 : Int) else if ¬ (v_13 = v_14) then some (1 : Int) else if v_13 = (0 : Int) then some (0 : Int) else (aAW F a_0 b_1).bind (fun v_24 => ck (I64 (v_13 * v_24)) (some (v_13 * v_24)))))))
def aI2 : PlR := ⟨[(0, .B [2, 3]), (1, .A [2, 3, 5, 6]), (2, .A [2, 3, 5, 6, 11]), (3, .A [4]), (4, .A [2, 3, 5, 6, 20]), (5, .A [4]), (6, .A [2, 3, 5, 29]), (7, .A [4]), (8, .A [2, 3, 5, 33]), (9, .A [4]), (10, .A [4])], []⟩
def aLq : Ty := .pair (.pair .bool (.pair (.sl (.u .u64)) (.pair (.i .i64) .unit))) (.pair (.pair .bool (.pair (.sl (.u .u64)) (.pair (.i .i64) .unit))) .unit)
noncomputable def tS (F : Md) : aF := mSpec aLq (.one (.i .i64)) (fun x => wQ F x.1 x.2.1)
noncomputable def aCw (F : Md) : List (FuncId × aF) := [(57, (qR F)), (58, (oA F)), (59, (zH F))]
theorem aPJ (F : Md) : bA Tryz.prog GL (aCw F) := .cons (aGP F) (by kernel_rfl) (.cons (aDO F) (by kernel_rfl) (.cons (aNJ F) (by kernel_rfl) (.nil)))
theorem aMc (F : Md) : gam (aCw F) 57 = some (qR F) := rfl
theorem aMd (F : Md) : gam (aCw F) 58 = some (oA F) := rfl
theorem aMe (F : Md) : gam (aCw F) 59 = some (zH F) := rfl
attribute [go_sem] aLq aI2 aMc aMd aMe
set_option maxHeartbeats 4000000 in
theorem aI3 (F : Md) : FOK Tryz.prog GL 22 (tS F) := by
 refine bF (aT (aPJ F)) mix Tryz.func22 rfl (by kernel_rfl) (by decide) aI2 fun w0 S x Θ hw h hF => ?_
 obtain ⟨(a_0 : (Bool × ((List Nat) × (Int × Unit)))), (b_1 : (Bool × ((List Nat) × (Int × Unit)))), u⟩ := x
 simp only [bJ, go_sem]
 replace h : sat (wQ F a_0 b_1) _ := h
 unfold wQ at h
 obtain ⟨v_13, hv, h⟩ := aI h
 try simp only [hv, go_sem]
 obtain ⟨v_14, hv, h⟩ := aI h
 try simp only [hv, go_sem]
 obtain ⟨v_20, hv, h⟩ := aI h
 try simp only [hv, go_sem]
 obtain ⟨g0, h⟩ := aH h
 repeat (refine ⟨zAC, ?_⟩)
 refine ⟨fun hc => ?_, fun hc => ?_⟩
 ·replace h := fV zAB h
  exact aE hF [.tmp 4] rfl rfl rfl (aA h) (by simp only [aM, go_sem])
 ·replace h := fW zAB h
  refine ⟨fun hc => ?_, fun hc => ?_⟩
  ·replace h := fV hc h
   exact aE hF [.tmp 4] rfl rfl rfl (aA h) (by simp only [aM, go_sem])
  ·replace h := fW hc h
   refine dQ h (fun hc h => ?_) fun hc h => ?_
   ·exact aE hF [.tmp 4] rfl rfl rfl (aA h) (by simp only [aM, go_sem])
   ·refine dQ h (fun hc h => ?_) fun hc h => ?_
    ·exact aE hF [.tmp 4] rfl rfl rfl (aA h) (by simp only [aM, go_sem])
    ·obtain ⟨v_24, hv, h⟩ := aI h
     try simp only [hv, go_sem]
     obtain ⟨g0, h⟩ := aH h
     try simp only [I64, I32] at g0
     repeat (refine ⟨zAA, ?_⟩)
     exact aE hF [.tmp 4] rfl rfl rfl (aA h) (by simp only [aM, go_sem])
attribute [go_sem] tS
noncomputable def uS (F : Md) (n_0 : Int) (e_1 : Int) (m_3 : Nat) : Option ((Bool × ((List Nat) × (Int × Unit))) × (Int × Unit)) :=
 (aAq F ([m_3] : List Nat)).bind (fun v_6 => (aAw F (decide (n_0 < (0 : Int))) v_6 e_1).bind (fun v_7 => some (v_7.1, v_7.2.1, ())))
noncomputable def aEs (F : Md) (n_0 : Int) (e_1 : Int) : Option ((Bool × ((List Nat) × (Int × Unit))) × (Int × Unit)) :=
 if n_0 < (0 : Int) then uS F n_0 e_1 (aPt F .u64 (n_0 % (18446744073709551616 : Int)).toNat) else uS F n_0 e_1 (n_0 % (18446744073709551616 : Int)).toNat
def aLr : PlR := ⟨[(0, .B [0, 1, 4]), (1, .A [0, 1, 4, 6]), (2, .A [0, 1, 4, 6, 10]), (3, .A [0, 1, 4, 6]), (4, .B [4, 5])], [(5, 7)]⟩
def aM4 : Ty := .pair (.i .i64) (.pair (.i .i64) .unit)
noncomputable def aCx (F : Md) : aF := mSpec aM4 (.tup (.pair (.pair .bool (.pair (.sl (.u .u64)) (.pair (.i .i64) .unit))) (.pair (.i .i64) .unit))) (fun x => aEs F x.1 x.2.1)
noncomputable def aHZ (F : Md) : List (FuncId × aF) := [(117, (tR F)), (231, (tN F))]
theorem aRn (F : Md) : bA Tryz.prog GL (aHZ F) := .cons (aIX F) (by kernel_rfl) (.cons (aIN F) (by kernel_rfl) (.nil))
theorem aMf (F : Md) : gam (aHZ F) 117 = some (tR F) := rfl
theorem aMg (F : Md) : gam (aHZ F) 231 = some (tN F) := rfl
attribute [go_sem] aM4 aLr aMf aMg
set_option maxHeartbeats 4000000 in
theorem aPK (F : Md) : FOK Tryz.prog GL 200 (aCx F) := by
 refine bF (aT (aRn F)) mix Tryz.func200 rfl (by kernel_rfl) (by decide) aLr fun w0 S x Θ hw h hF => ?_
 obtain ⟨(n_0 : Int), (e_1 : Int), u⟩ := x
 simp only [bJ, go_sem]
 replace h : sat (aEs F n_0 e_1) _ := h
 unfold aEs at h
 refine dM hF (D := Nat) (fun d => sat (uS F n_0 e_1 d) Θ) [0, 1] (fun d => [(4, .ptr 0 []), (6, .val (.u .u64) d)]) (fun d => [.inr (.box 3 (.val (.pair .bool (.pair (.sl (.u .u64)) (.pair (.i .i64) .unit))) (false, ([] : List Nat), (0 : Int), ())))]) ?_ ?_
 ·simp only [go_sem, bG F, bH F, bI F]
  refine eI h (fun hc h => ?_) fun hc h => ?_
  ·exact aQ (aPt F .u64 (n_0 % (18446744073709551616 : Int)).toNat) h rfl (by simp only [go_sem, bG F, bH F, bI F])
  ·exact aQ (n_0 % (18446744073709551616 : Int)).toNat h rfl (by simp only [go_sem, bG F, bH F, bI F])
 ·rintro m_3 h
  simp only [go_sem, bG F, bH F, bI F]
  replace h : sat (uS F n_0 e_1 m_3) _ := h
  unfold uS at h
  obtain ⟨v_6, hv, h⟩ := aI h
  try simp only [hv, go_sem, bG F, bH F, bI F]
  obtain ⟨v_7, hv, h⟩ := aI h
  try simp only [hv, go_sem, bG F, bH F, bI F]
  exact aE hF [.cell 4 25, .tmp 5] rfl rfl rfl (aA h) (by simp only [aM, go_sem, bG F, bH F, bI F])
attribute [go_sem] aCx
noncomputable def uT (F : Md) (a_0 : (Bool × ((List Nat) × (Int × Unit)))) (b_1 : (Bool × ((List Nat) × (Int × Unit)))) : Option ((Bool × ((List Nat) × (Int × Unit))) ⊕ (Int × Unit)) :=
 ck ((gZ F a_0.2.1 b_1.2.1).isSome = true) (ck (I64 (a_0.2.2.1 + b_1.2.2.1)) ((aAv F (a_0.1 != b_1.1) ((gZ F a_0.2.1 b_1.2.1).getD ([] : List Nat)) (a_0.2.2.1 + b_1.2.2.1)).bind (fun e => match e with | .inl r_7 => some (.inl r_7) | .inr p_8 => some (.inr p_8))))
noncomputable def nI (F : Md) : pL where
 D := (Bool × ((List Nat) × (Int × Unit))) × (Bool × ((List Nat) × (Int × Unit))) × ((Bool × ((List Nat) × (Int × Unit))) ⊕ (Int × Unit))
 av := fun d => [.val (.pair .bool (.pair (.sl (.u .u64)) (.pair (.i .i64) .unit))) d.1, .val (.pair .bool (.pair (.sl (.u .u64)) (.pair (.i .i64) .unit))) d.2.1]
 hp := fun d => []
 m := 0
 pre := fun d => uT F d.1 d.2.1 = some d.2.2
 out := fun d => match d.2.2 with | .inl r => .ret (.val (.pair .bool (.pair (.sl (.u .u64)) (.pair (.i .i64) .unit))) r) [] | .inr p => .pan ⟨251, (.pair (.i .i64) .unit), p⟩ []
noncomputable def aCy (F : Md) : List (FuncId × aF) := [(94, (eV F))]
theorem aGR (F : Md) : bA Tryz.prog GL (aCy F) := .cons (qP F) (by kernel_rfl) (.nil)
theorem aJv (F : Md) : gam (aCy F) 94 = some (eV F) := rfl
attribute [go_sem] aJv
set_option maxHeartbeats 4000000 in
theorem xC (F : Md) : GOK Tryz.prog GL 239 (nI F) := by
 refine aAl (aT (aGR F)) Tryz.func239 rfl (by kernel_rfl) (fun _ => Nat.le_of_ble_eq_true rfl) fun c0 w0 d hw1 hw2 h hn => ?_
 have hF : kP ⟨Tryz.prog, EM (aCy F), GM (nI F) c0 d, w0, Tryz.f239.ntmps, []⟩ := ⟨aT (aGR F), mix⟩
 obtain ⟨(a_0 : (Bool × ((List Nat) × (Int × Unit)))), (b_1 : (Bool × ((List Nat) × (Int × Unit)))), r⟩ := d
 replace h : uT F a_0 b_1 = some r := h
 have hw1 : AV.wfL [.val (.pair .bool (.pair (.sl (.u .u64)) (.pair (.i .i64) .unit))) a_0, .val (.pair .bool (.pair (.sl (.u .u64)) (.pair (.i .i64) .unit))) b_1] := hw1
 simp only [AV.wfL, AV.wfV, Ty.wf, nH] at hw1
 show Tri _ _ _ [(0, .val (.pair .bool (.pair (.sl (.u .u64)) (.pair (.i .i64) .unit))) a_0), (1, .val (.pair .bool (.pair (.sl (.u .u64)) (.pair (.i .i64) .unit))) b_1)] []
 unfold uT at h
 refine aB (aZ hF [2, 3, 4] ?_)
 simp only [go_sem]
 obtain ⟨g0, h⟩ := aL h
 obtain ⟨g1, h⟩ := aL h
 try simp only [I64, I32] at g1
 obtain ⟨e, he1, h⟩ := bind_some h
 rcases e with r_7 | p_8
 ·try dsimp only at h
  refine aC (aB (aGx hF (eL (l := [(182, ⟨qD F, [], ((a_0.1 != b_1.1), ((gZ F a_0.2.1 b_1.2.1).getD ([] : List Nat)), (a_0.2.2.1 + b_1.2.2.1), .inl r_7)⟩)]) (.cons (aAV F) (by kernel_rfl) (.nil))) 15 (by decide) [4] [] ?_))
  simp only [go_sem]
  repeat (refine ⟨zAA, ?_⟩)
  simp only [aSp, go_sem]
  repeat (refine ⟨zAA, ?_⟩)
  obtain rfl := Option.some.inj h
  refine aC (cI (aBA hF [.cell 4 25] [] rfl rfl rfl rfl rfl rfl rfl rfl rfl ?_))
  (try simp only [aM, aGs, aFt, jB, tD, AV.isAgg, go_sem]) <;> first | trivial | rfl | (simp; done)
 ·try dsimp only at h
  refine aC (aB (aGx hF (eL (l := [(182, ⟨qD F, [], ((a_0.1 != b_1.1), ((gZ F a_0.2.1 b_1.2.1).getD ([] : List Nat)), (a_0.2.2.1 + b_1.2.2.1), .inr p_8)⟩)]) (.cons (aAV F) (by kernel_rfl) (.nil))) 15 (by decide) [4] [] ?_))
  simp only [go_sem]
  repeat (refine ⟨zAA, ?_⟩)
  simp only [aSp, go_sem]
  repeat (refine ⟨zAA, ?_⟩)
  obtain rfl := Option.some.inj h
  refine oQ (wV [] rfl rfl ?_)
  simp only [ren, kJ, pZ, posOf, iC, go_sem]
  refine uM rfl rfl rfl rfl
attribute [go_sem] nI
noncomputable def jZ (F : Md) (a0_0 : (Bool × ((List Nat) × (Int × Unit)))) (a1_1 : (Bool × ((List Nat) × (Int × Unit)))) (a2_2 : Unit) : Option ((Bool × ((List Nat) × (Int × Unit))) ⊕ (Int × Unit)) :=
 ck ((fK F a0_0).isSome = true) (if ((fK F a0_0).getD false) = true then ck ((fK F a1_1).isSome = true) ((mZ F (((fK F a0_0).getD false) && ((fK F a1_1).getD false)) (1 : Int)).bind (fun e => match e with | .inl r_12 => (uT F a0_0 a1_1).bind (fun e => match e with | .inl r_20 => some (.inl r_20) | .inr p_21 => some (.inr p_21)) | .inr p_13 => some (.inr p_13))) else (mZ F false (1 : Int)).bind (fun e => match e with | .inl r_14 => (uT F a0_0 a1_1).bind (fun e => match e with | .inl r_26 => some (.inl r_26) | .inr p_27 => some (.inr p_27)) | .inr p_15 => some (.inr p_15)))
noncomputable def gN (F : Md) : pL where
 D := (Bool × ((List Nat) × (Int × Unit))) × (Bool × ((List Nat) × (Int × Unit))) × Unit × ((Bool × ((List Nat) × (Int × Unit))) ⊕ (Int × Unit))
 av := fun d => [.val (.rp (.pair .bool (.pair (.sl (.u .u64)) (.pair (.i .i64) .unit)))) d.1, .val (.rp (.pair .bool (.pair (.sl (.u .u64)) (.pair (.i .i64) .unit)))) d.2.1, .val (.rp (.clo 239 .unit)) d.2.2.1]
 hp := fun d => []
 m := 0
 pre := fun d => jZ F d.1 d.2.1 d.2.2.1 = some d.2.2.2
 out := fun d => match d.2.2.2 with | .inl r => .ret (.val (.pair .bool (.pair (.sl (.u .u64)) (.pair (.i .i64) .unit))) r) [] | .inr p => .pan ⟨251, (.pair (.i .i64) .unit), p⟩ []
noncomputable def nR (F : Md) : List (FuncId × aF) := [(58, (oA F))]
theorem tT (F : Md) : bA Tryz.prog GL (nR F) := .cons (aDO F) (by kernel_rfl) (.nil)
theorem aAx (F : Md) : gam (nR F) 58 = some (oA F) := rfl
attribute [go_sem] aAx
set_option maxHeartbeats 4000000 in
theorem rV (F : Md) : GOK Tryz.prog GL 256 (gN F) := by
 refine aAl (aT (tT F)) Tryz.func256 rfl (by kernel_rfl) (fun _ => Nat.le_of_ble_eq_true rfl) fun c0 w0 d hw1 hw2 h hn => ?_
 have hF : kP ⟨Tryz.prog, EM (nR F), GM (gN F) c0 d, w0, Tryz.f256.ntmps, []⟩ := ⟨aT (tT F), mix⟩
 obtain ⟨(a0_0 : (Bool × ((List Nat) × (Int × Unit)))), (a1_1 : (Bool × ((List Nat) × (Int × Unit)))), (a2_2 : Unit), r⟩ := d
 replace h : jZ F a0_0 a1_1 a2_2 = some r := h
 have hw1 : AV.wfL [.val (.rp (.pair .bool (.pair (.sl (.u .u64)) (.pair (.i .i64) .unit)))) a0_0, .val (.rp (.pair .bool (.pair (.sl (.u .u64)) (.pair (.i .i64) .unit)))) a1_1, .val (.rp (.clo 239 .unit)) a2_2] := hw1
 simp only [AV.wfL, AV.wfV, Ty.wf, nH] at hw1
 show Tri _ _ _ [(0, .roa (.pair .bool (.pair (.sl (.u .u64)) (.pair (.i .i64) .unit))) a0_0), (1, .roa (.pair .bool (.pair (.sl (.u .u64)) (.pair (.i .i64) .unit))) a1_1), (2, .roa (.clo 239 .unit) a2_2)] []
 unfold jZ at h
 refine aB (aZ hF [0, 1, 2, 3] ?_)
 simp only [go_sem]
 obtain ⟨g0, h⟩ := aL h
 by_cases hq : ((fK F a0_0).getD false) = true
 ·have h := gS hq h
  obtain ⟨g1, h⟩ := aL h
  obtain ⟨e, he1, h⟩ := bind_some h
  rcases e with r_12 | p_13
  ·try dsimp only at h
   refine aC (aB (cB hF (eL (l := [(233, ⟨eJ F, [], ((((fK F a0_0).getD false) && ((fK F a1_1).getD false)), (1 : Int), .inl r_12)⟩)]) (.cons (gQ F) (by kernel_rfl) (.nil))) [0, 1, 2, 3] [] ?_))
   simp only [go_sem]
   repeat (refine ⟨zAA, ?_⟩)
   refine ⟨fun _ => ?_, fun hx => by first | (exfalso; omega) | (exfalso; simp_all; done)⟩
   repeat (refine ⟨zAA, ?_⟩)
   refine ⟨fun _ => ?_, fun hx => by first | (exfalso; omega) | (exfalso; simp_all; done)⟩
   repeat (refine ⟨zAA, ?_⟩)
   obtain ⟨e, he2, h⟩ := bind_some h
   rcases e with r_20 | p_21
   ·try dsimp only at h
    refine aC (aB (cB hF (eL (l := [(239, ⟨nI F, [], (a0_0, a1_1, .inl r_20)⟩)]) (.cons (xC F) (by kernel_rfl) (.nil))) [3] [] ?_))
    simp only [go_sem]
    repeat (refine ⟨zAA, ?_⟩)
    obtain rfl := Option.some.inj h
    refine aC (cI (aBA hF [.cell 3 25] [] rfl rfl rfl rfl rfl rfl rfl rfl rfl ?_))
    (try simp only [aM, aGs, aFt, jB, tD, AV.isAgg, go_sem]) <;> first | trivial | rfl | (simp; done)
   ·try dsimp only at h
    refine aC (aB (cB hF (eL (l := [(239, ⟨nI F, [], (a0_0, a1_1, .inr p_21)⟩)]) (.cons (xC F) (by kernel_rfl) (.nil))) [3] [] ?_))
    simp only [go_sem]
    repeat (refine ⟨zAA, ?_⟩)
    obtain rfl := Option.some.inj h
    refine oQ (wV [] rfl rfl ?_)
    simp only [ren, kJ, pZ, posOf, iC, go_sem]
    refine uM rfl rfl rfl rfl
  ·try dsimp only at h
   refine aC (aB (cB hF (eL (l := [(233, ⟨eJ F, [], ((((fK F a0_0).getD false) && ((fK F a1_1).getD false)), (1 : Int), .inr p_13)⟩)]) (.cons (gQ F) (by kernel_rfl) (.nil))) [0, 1, 2, 3] [] ?_))
   simp only [go_sem]
   repeat (refine ⟨zAA, ?_⟩)
   refine ⟨fun _ => ?_, fun hx => by first | (exfalso; omega) | (exfalso; simp_all; done)⟩
   repeat (refine ⟨zAA, ?_⟩)
   refine ⟨fun _ => ?_, fun hx => by first | (exfalso; omega) | (exfalso; simp_all; done)⟩
   repeat (refine ⟨zAA, ?_⟩)
   obtain rfl := Option.some.inj h
   refine oQ (wV [] rfl rfl ?_)
   simp only [ren, kJ, pZ, posOf, iC, go_sem]
   refine uM rfl rfl rfl rfl
 ·have h := gT hq h
  obtain ⟨e, he3, h⟩ := bind_some h
  rcases e with r_14 | p_15
  ·try dsimp only at h
   refine aC (aB (cB hF (eL (l := [(233, ⟨eJ F, [], (false, (1 : Int), .inl r_14)⟩)]) (.cons (gQ F) (by kernel_rfl) (.nil))) [0, 1, 2, 3] [] ?_))
   simp only [go_sem]
   repeat (refine ⟨zAA, ?_⟩)
   first | (refine ⟨fun hx => by first | (exfalso; omega) | (exfalso; simp_all; done), fun _ => ?_⟩) | intro _
   repeat (refine ⟨zAA, ?_⟩)
   first | (refine ⟨fun hx => by first | (exfalso; omega) | (exfalso; simp_all; done), fun _ => ?_⟩) | intro _
   repeat (refine ⟨zAA, ?_⟩)
   obtain ⟨e, he4, h⟩ := bind_some h
   rcases e with r_26 | p_27
   ·try dsimp only at h
    refine aC (aB (cB hF (eL (l := [(239, ⟨nI F, [], (a0_0, a1_1, .inl r_26)⟩)]) (.cons (xC F) (by kernel_rfl) (.nil))) [3] [] ?_))
    simp only [go_sem]
    repeat (refine ⟨zAA, ?_⟩)
    obtain rfl := Option.some.inj h
    refine aC (cI (aBA hF [.cell 3 25] [] rfl rfl rfl rfl rfl rfl rfl rfl rfl ?_))
    (try simp only [aM, aGs, aFt, jB, tD, AV.isAgg, go_sem]) <;> first | trivial | rfl | (simp; done)
   ·try dsimp only at h
    refine aC (aB (cB hF (eL (l := [(239, ⟨nI F, [], (a0_0, a1_1, .inr p_27)⟩)]) (.cons (xC F) (by kernel_rfl) (.nil))) [3] [] ?_))
    simp only [go_sem]
    repeat (refine ⟨zAA, ?_⟩)
    obtain rfl := Option.some.inj h
    refine oQ (wV [] rfl rfl ?_)
    simp only [ren, kJ, pZ, posOf, iC, go_sem]
    refine uM rfl rfl rfl rfl
  ·try dsimp only at h
   refine aC (aB (cB hF (eL (l := [(233, ⟨eJ F, [], (false, (1 : Int), .inr p_15)⟩)]) (.cons (gQ F) (by kernel_rfl) (.nil))) [0, 1, 2, 3] [] ?_))
   simp only [go_sem]
   repeat (refine ⟨zAA, ?_⟩)
   first | (refine ⟨fun hx => by first | (exfalso; omega) | (exfalso; simp_all; done), fun _ => ?_⟩) | intro _
   repeat (refine ⟨zAA, ?_⟩)
   first | (refine ⟨fun hx => by first | (exfalso; omega) | (exfalso; simp_all; done), fun _ => ?_⟩) | intro _
   repeat (refine ⟨zAA, ?_⟩)
   obtain rfl := Option.some.inj h
   refine oQ (wV [] rfl rfl ?_)
   simp only [ren, kJ, pZ, posOf, iC, go_sem]
   refine uM rfl rfl rfl rfl
attribute [go_sem] gN
noncomputable def cT (F : Md) (c0 : (Bool × ((List Nat) × (Int × Unit)))) (c1 : (Bool × ((List Nat) × (Int × Unit)))) (c2 : Unit) : Option ((Bool × ((List Nat) × (Int × Unit))) × Int × Unit) :=
 (jZ F c0 c1 c2).bind fun q => some (match q with | .inl r => (r, 0, ()) | .inr p => ((false, ([] : List Nat), (0 : Int), ()), p.1, ()))
def lX : Ty := .pair (.clo 256 (.pair (.rp (.pair .bool (.pair (.sl (.u .u64)) (.pair (.i .i64) .unit)))) (.pair (.rp (.pair .bool (.pair (.sl (.u .u64)) (.pair (.i .i64) .unit)))) (.pair (.rp (.clo 239 .unit)) .unit)))) .unit
noncomputable def eG (F : Md) : aF := mSpec lX (.tup (.pair (.pair .bool (.pair (.sl (.u .u64)) (.pair (.i .i64) .unit))) (.pair (.i .i64) .unit))) (fun x => cT F x.1.1 x.1.2.1 x.1.2.2.1)
set_option maxHeartbeats 4000000 in
theorem rW (F : Md) : FOK Tryz.prog GL 180 (eG F) := by
 refine aK1 (aT aEP) Tryz.func180 rfl (by kernel_rfl) (by decide) fun w0 S x r hw h => ?_
 have hF : kP (fr Tryz.prog (EM []) S w0 Tryz.f180.ntmps) := ⟨aT aEP, mix⟩
 obtain ⟨⟨(c0 : (Bool × ((List Nat) × (Int × Unit)))), (c1 : (Bool × ((List Nat) × (Int × Unit)))), (c2 : Unit), u1⟩, u⟩ := x
 replace h : cT F c0 c1 c2 = some r := h
 show Tri _ _ _ [(0, .val (.clo 256 (.pair (.rp (.pair .bool (.pair (.sl (.u .u64)) (.pair (.i .i64) .unit)))) (.pair (.rp (.pair .bool (.pair (.sl (.u .u64)) (.pair (.i .i64) .unit)))) (.pair (.rp (.clo 239 .unit)) .unit)))) (c0, c1, c2, u1))] []
 unfold cT at h
 obtain ⟨q, hq, h⟩ := bind_some h
 obtain rfl := Option.some.inj h
 refine aB (aZ hF [0, 2, 3] ?_)
 simp only [go_sem]
 refine aC (aEJ 2 [0, 1] rfl rfl (Nat.zero_le _) (by decide) fun roots hroots => ?_)
 have hF' : kP { fr Tryz.prog (EM []) S w0 Tryz.f180.ntmps with M := ⟨nothing, S, 2, roots⟩, ds := [⟨.fn (.func 232) ([0, 1].map roots).toArray, #[]⟩] } := ⟨aT aEP, mix⟩
 rcases q with q | q
 ·refine aB (cB hF' (eL (l := [(256, ⟨gN F, [], (c0, c1, c2, .inl q)⟩)]) (.cons (rV F) (by kernel_rfl) .nil)) [2, 3] [] ?_)
  simp only [go_sem]
  refine ⟨hq, ?_⟩
  refine aC (cI ?_)
  refine aQw (fn := Tryz.f180) (k := 2) (l2 := [0, 1]) hF' rfl rfl (by decide) rfl (aGw (by kernel_rfl)) ⟨lO, [0, 1], (q, 0)⟩ aDM rfl [.cell 2 25, .cell 3 3] rfl ?_ ?_
  ·(simp only [lO, go_sem]) <;> first | decide | trivial
  ·(simp only [lO, aM, fJ, go_sem]) <;> first | decide | trivial
 ·refine aB (cB hF' (eL (l := [(256, ⟨gN F, [], (c0, c1, c2, .inr q)⟩)]) (.cons (rV F) (by kernel_rfl) .nil)) [2, 3] [] ?_)
  simp only [go_sem]
  refine ⟨hq, ?_⟩
  refine oQ ?_
  refine aQx (fn := Tryz.f180) (k := 2) (l2 := [0, 1]) hF' rfl rfl (by decide) rfl (aGw (by kernel_rfl)) ⟨lP q, [0, 1], ((false, ([] : List Nat), (0 : Int), ()), 0)⟩ (aDN q) rfl [.cell 2 25, .cell 3 3] rfl ?_ ?_
  ·(simp only [lP, go_sem]) <;> first | decide | trivial
  ·(simp only [lP, aM, fJ, go_sem]) <;> first | decide | trivial
attribute [go_sem] eG lX
noncomputable def mJ (F : Md) (a_0 : (Bool × ((List Nat) × (Int × Unit)))) (b_1 : (Bool × ((List Nat) × (Int × Unit)))) (do_2 : Unit) : Option ((Bool × ((List Nat) × (Int × Unit))) × (Int × Unit)) :=
 ck ((cT F a_0 b_1 do_2).isSome = true) (some (((cT F a_0 b_1 do_2).getD ((false, ([] : List Nat), (0 : Int), ()), (0 : Int), ())).1, ((cT F a_0 b_1 do_2).getD ((false, ([] : List Nat), (0 : Int), ()), (0 : Int), ())).2.1, ()))
def mK : Ty := .pair (.pair .bool (.pair (.sl (.u .u64)) (.pair (.i .i64) .unit))) (.pair (.pair .bool (.pair (.sl (.u .u64)) (.pair (.i .i64) .unit))) (.pair (.clo 239 .unit) .unit))
attribute [go_sem] mK
noncomputable def lC (F : Md) : aF := mSpec mK (.tup (.pair (.pair .bool (.pair (.sl (.u .u64)) (.pair (.i .i64) .unit))) (.pair (.i .i64) .unit))) (fun x => mJ F x.1 x.2.1 x.2.2.1)
noncomputable def pJ (F : Md) : List (FuncId × aF) := [(180, (eG F))]
theorem wC (F : Md) : bA Tryz.prog GL (pJ F) := .cons (rW F) (by kernel_rfl) (.nil)
theorem aAI (F : Md) : gam (pJ F) 180 = some (eG F) := rfl
attribute [go_sem] aAI
set_option maxHeartbeats 4000000 in
theorem aCz (F : Md) : FOK Tryz.prog GL 238 (lC F) := by
 refine jX (aT (wC F)) Tryz.func238 rfl (by kernel_rfl) (by decide) fun w0 S x r hw h => ?_
 have hF : kP (fr Tryz.prog (EM (pJ F)) S w0 Tryz.f238.ntmps) := ⟨aT (wC F), mix⟩
 obtain ⟨(a_0 : (Bool × ((List Nat) × (Int × Unit)))), (b_1 : (Bool × ((List Nat) × (Int × Unit)))), (do_2 : Unit), u⟩ := x
 simp only [mK, Ty.wf, nH] at hw
 simp only [bJ, mK]
 try dsimp only at h
 replace h : mJ F a_0 b_1 do_2 = some r := h
 unfold mJ at h
 refine aB (aZ hF [3, 4, 5, 6] ?_)
 simp only [go_sem]
 refine aC (aB (xW 0 rfl ?_))
 simp only [go_sem]
 refine xW 1 rfl ?_
 simp only [go_sem]
 refine xW 2 rfl ?_
 simp only [go_sem]
 refine aZ hF [6, 7] ?_
 simp only [go_sem]
 obtain ⟨g0, h⟩ := aL h
 repeat (refine ⟨zAA, ?_⟩)
 obtain rfl := Option.some.inj h
 refine aC (cI (dK hF [.cell 6 25, .tmp 7] rfl rfl rfl ?_))
 exact zAG
attribute [go_sem] lC
noncomputable def aCA (F : Md) (a_0 : (Bool × ((List Nat) × (Int × Unit)))) (b_1 : (Bool × ((List Nat) × (Int × Unit)))) : Option ((Bool × ((List Nat) × (Int × Unit))) × (Int × Unit)) :=
 (mJ F a_0 b_1 ()).bind (fun v_4 => some (v_4.1, v_4.2.1, ()))
def aI4 : PlR := ⟨[(0, .B [2, 3, 4]), (1, .B [4, 5])], []⟩
def aLs : Ty := .pair (.pair .bool (.pair (.sl (.u .u64)) (.pair (.i .i64) .unit))) (.pair (.pair .bool (.pair (.sl (.u .u64)) (.pair (.i .i64) .unit))) .unit)
noncomputable def aAY (F : Md) : aF := mSpec aLs (.tup (.pair (.pair .bool (.pair (.sl (.u .u64)) (.pair (.i .i64) .unit))) (.pair (.i .i64) .unit))) (fun x => aCA F x.1 x.2.1)
noncomputable def aLt (F : Md) : List (FuncId × aF) := [(238, (lC F))]
theorem aPL (F : Md) : bA Tryz.prog GL (aLt F) := .cons (aCz F) (by kernel_rfl) (.nil)
theorem aLu (F : Md) : gam (aLt F) 238 = some (lC F) := rfl
attribute [go_sem] aLs aI4 aLu
set_option maxHeartbeats 4000000 in
theorem aOQ (F : Md) : FOK Tryz.prog GL 201 (aAY F) := by
 refine bF (aT (aPL F)) mix Tryz.func201 rfl (by kernel_rfl) (by decide) aI4 fun w0 S x Θ hw h hF => ?_
 obtain ⟨(a_0 : (Bool × ((List Nat) × (Int × Unit)))), (b_1 : (Bool × ((List Nat) × (Int × Unit)))), u⟩ := x
 simp only [bJ, go_sem]
 replace h : sat (aCA F a_0 b_1) _ := h
 unfold aCA at h
 obtain ⟨v_4, hv, h⟩ := aI h
 try simp only [hv, go_sem]
 exact aE hF [.cell 4 25, .tmp 5] rfl rfl rfl (aA h) (by simp only [aM, go_sem])
attribute [go_sem] aAY
end Nu
end Go.Proofs
namespace Go.Proofs
open Go.Vc
set_option maxRecDepth 20000
namespace Nu
def aLv : ByteArray := ⟨⟨97 :: 98 :: 99 :: 100 :: 101 :: 102 :: 103 :: 104 :: 105 :: 106 :: 107 :: 108 :: 109 :: 110 :: 111 :: 112 :: 113 :: 114 :: 115 :: 116 :: 117 :: 118 :: 119 :: 120 :: 121 :: 122 :: 48 :: 49 :: 50 :: 51 :: 52 :: 53 :: 54 :: 55 :: 56 :: 57 :: 95 :: []⟩⟩
theorem aMh : (⟨⟨97 :: 98 :: 99 :: 100 :: 101 :: 102 :: 103 :: 104 :: 105 :: 106 :: 107 :: 108 :: 109 :: 110 :: 111 :: 112 :: 113 :: 114 :: 115 :: 116 :: 117 :: 118 :: 119 :: 120 :: 121 :: 122 :: 48 :: 49 :: 50 :: 51 :: 52 :: 53 :: 54 :: 55 :: 56 :: 57 :: 95 :: []⟩⟩ : ByteArray) = aLv := rfl
attribute [go_sem] aMh
noncomputable def lY (F : Md) (c_1 : Nat) (s_5 : (List Nat)) : Option ((List Nat) ⊕ (List Nat)) :=
 ck (((0 : Int) < (((s_5.length) : Nat) : Int)) → (I64 ((((s_5.length) : Nat) : Int) - (1 : Int)))) (ck (((0 : Int) < (((s_5.length) : Nat) : Int)) → (0 ≤ ((((s_5.length) : Nat) : Int) - (1 : Int)) ∧ ((((s_5.length) : Nat) : Int) - (1 : Int)) < (((s_5.length) : Nat) : Int))) (if ((0 : Int) < (((s_5.length) : Nat) : Int)) ∧ ((s_5.getD ((((s_5.length) : Nat) : Int) - (1 : Int)).toNat (0 : Nat)) = c_1) then ck (I64 ((((s_5.length) : Nat) : Int) - (1 : Int))) (ck (0 ≤ ((((s_5.length) : Nat) : Int) - (1 : Int)) ∧ ((((s_5.length) : Nat) : Int) - (1 : Int)) ≤ (((s_5.length) : Nat) : Int)) (some (.inl (List.take ((((s_5.length) : Nat) : Int) - (1 : Int)).toNat s_5)))) else some (.inr s_5)))
noncomputable def kA (F : Md) (s_0 : (List Nat)) (c_1 : Nat) : Option (List Nat) :=
 (dB F (fun d : (List Nat) => lY F c_1 d) s_0).bind (fun e => some e)
def rX : PlR := ⟨[(0, .A [0, 1]), (1, .A [0, 1, 16]), (2, .A [0, 1]), (3, .A [4])], []⟩
def tU : Ty := .pair .str (.pair (.u .u8) .unit)
noncomputable def jE (F : Md) : aF := mSpec tU (.one .str) (fun x => kA F x.1 x.2.1)
noncomputable def aBD (F : Md) : List (FuncId × aF) := []
theorem aBE (F : Md) : bA Tryz.prog GL (aBD F) := .nil
attribute [go_sem] tU rX
set_option maxHeartbeats 4000000 in
theorem aBh (F : Md) : FOK Tryz.prog GL 143 (jE F) := by
 refine bF (aT (aBE F)) mix Tryz.func143 rfl (by kernel_rfl) (by decide) rX fun w0 S x Θ hw h hF => ?_
 obtain ⟨(s_0 : (List Nat)), (c_1 : Nat), u⟩ := x
 simp only [bJ, go_sem]
 replace h : sat (kA F s_0 c_1) _ := h
 unfold kA at h
 refine bQ hF (D := (List Nat)) [1] (fun d => [(0, .val .str d)]) (fun d => []) h rfl (by simp only [go_sem]) ?_
 rintro s_5 A1 T1 hA1 hE1 h
 simp only [go_sem]
 replace h : sat (lY F c_1 s_5) _ := h
 unfold lY at h
 refine aP h fun g0 h => aP h fun g1 h => ?_
 refine ⟨fun hc => ?_, fun hc => ?_⟩
 ·replace h := fV hc h
  refine aP h fun g0 h => aP h fun g1 h => ?_
  replace h := hA1 _ (aA h)
  exact aQ _ h rfl (by simp only [go_sem])
 ·replace h := fW hc h
  replace h := hE1 _ (aA h)
  try dsimp only at h
  exact aE hF [.tmp 4] rfl rfl rfl (aA h) (by simp only [aM, go_sem])
attribute [go_sem] jE
noncomputable def mP (F : Md) (c_1 : Nat) (s_5 : (List Nat)) : Option ((List Nat) ⊕ (List Nat)) :=
 ck (((0 : Int) < (((s_5.length) : Nat) : Int)) → ((0 : Int) < (((s_5.length) : Nat) : Int))) (if ((0 : Int) < (((s_5.length) : Nat) : Int)) ∧ ((s_5.getD (0 : Nat) (0 : Nat)) = c_1) then ck ((1 : Int) ≤ (((s_5.length) : Nat) : Int)) (some (.inl (List.drop (1 : Nat) s_5))) else some (.inr s_5))
noncomputable def lD (F : Md) (s_0 : (List Nat)) (c_1 : Nat) : Option (List Nat) :=
 (dB F (fun d : (List Nat) => mP F c_1 d) s_0).bind (fun e => some e)
def tV : PlR := ⟨[(0, .A [0, 1]), (1, .A [0, 1, 13]), (2, .A [0, 1]), (3, .A [4])], []⟩
def uU : Ty := .pair .str (.pair (.u .u8) .unit)
noncomputable def kB (F : Md) : aF := mSpec uU (.one .str) (fun x => lD F x.1 x.2.1)
noncomputable def aCB (F : Md) : List (FuncId × aF) := []
theorem aCC (F : Md) : bA Tryz.prog GL (aCB F) := .nil
attribute [go_sem] uU tV
set_option maxHeartbeats 4000000 in
theorem aBF (F : Md) : FOK Tryz.prog GL 142 (kB F) := by
 refine bF (aT (aCC F)) mix Tryz.func142 rfl (by kernel_rfl) (by decide) tV fun w0 S x Θ hw h hF => ?_
 obtain ⟨(s_0 : (List Nat)), (c_1 : Nat), u⟩ := x
 simp only [bJ, go_sem]
 replace h : sat (lD F s_0 c_1) _ := h
 unfold lD at h
 refine bQ hF (D := (List Nat)) [1] (fun d => [(0, .val .str d)]) (fun d => []) h rfl (by simp only [go_sem]) ?_
 rintro s_5 A1 T1 hA1 hE1 h
 simp only [go_sem]
 replace h : sat (mP F c_1 s_5) _ := h
 unfold mP at h
 refine aP h fun g0 h => ?_
 refine ⟨fun hc => ?_, fun hc => ?_⟩
 ·replace h := fV hc h
  refine aP h fun g0 h => ?_
  replace h := hA1 _ (aA h)
  exact aQ _ h rfl (by simp only [go_sem])
 ·replace h := fW hc h
  replace h := hE1 _ (aA h)
  try dsimp only at h
  exact aE hF [.tmp 4] rfl rfl rfl (aA h) (by simp only [aM, go_sem])
attribute [go_sem] kB
noncomputable def eW (F : Md) (as_0 : (List Bool)) (c_1 : Nat) : Option Bool :=
 ck (0 ≤ ((c_1 : Nat) : Int) ∧ ((c_1 : Nat) : Int) < (256 : Int)) (some (as_0.getD c_1 false))
def oU : PlR := ⟨[(0, .A [0, 1]), (1, .A [4])], []⟩
def pM : Ty := .pair (.rp (.arr 256 .bool)) (.pair (.u .u8) .unit)
noncomputable def dR (F : Md) : aF := mSpec pM (.one .bool) (fun x => eW F x.1 x.2.1)
noncomputable def zI (F : Md) : List (FuncId × aF) := []
theorem zJ (F : Md) : bA Tryz.prog GL (zI F) := .nil
attribute [go_sem] pM oU
set_option maxHeartbeats 4000000 in
theorem oV (F : Md) : FOK Tryz.prog GL 205 (dR F) := by
 refine bF (aT (zJ F)) mix Tryz.func205 rfl (by kernel_rfl) (by decide) oU fun w0 S x Θ hw h hF => ?_
 obtain ⟨(as_0 : (List Bool)), (c_1 : Nat), u⟩ := x
 simp only [bJ, go_sem]
 replace h : sat (eW F as_0 c_1) _ := h
 unfold eW at h
 refine aP h fun g0 h => ?_
 exact aE hF [.tmp 4] rfl rfl rfl (aA h) (by simp only [aM, go_sem])
attribute [go_sem] dR
noncomputable def mQ (F : Md) (chars_0 : (List Nat)) (i_6 : Int) (as_7 : (List Bool)) : Option ((Int × (List Bool)) ⊕ ((List Bool) ⊕ ((List Bool) × (Bool × Unit)))) :=
 if i_6 < (((chars_0.length) : Nat) : Int) then ck (0 ≤ i_6 ∧ i_6 < (((chars_0.length) : Nat) : Int)) (if (128 : Nat) ≤ (chars_0.getD (i_6.toNat) (0 : Nat)) then some (.inr (.inr (as_7, false, ()))) else ck (0 ≤ (((chars_0.getD (i_6.toNat) (0 : Nat)) : Nat) : Int) ∧ (((chars_0.getD (i_6.toNat) (0 : Nat)) : Nat) : Int) < (256 : Int)) (ck (I64 (i_6 + (1 : Int))) (some (.inl ((i_6 + (1 : Int)), (as_7.set (chars_0.getD (i_6.toNat) (0 : Nat)) true)))))) else some (.inr (.inl as_7))
noncomputable def lE (F : Md) (chars_0 : (List Nat)) : Option ((List Bool) × (Bool × Unit)) :=
 (dB F (fun d : Int × (List Bool) => mQ F chars_0 d.1 d.2) ((0 : Int), (List.replicate 256 false))).bind (fun e => match e with | (.inl e) => some (e, true, ()) | (.inr e) => some e)
def tW : PlR := ⟨[(0, .B [0, 2]), (1, .A [0, 2, 4]), (2, .A [0, 2, 4, 9]), (3, .A [0, 2, 4]), (4, .A [0, 2, 4, 5]), (5, .A [0, 2, 4, 5, 16]), (6, .B [2, 3]), (7, .B [0, 2, 4]), (8, .B [2, 3])], []⟩
def uV : Ty := .pair .str .unit
noncomputable def kC (F : Md) : aF := mSpec uV (.tup (.pair (.arr 256 .bool) (.pair .bool .unit))) (fun x => lE F x.1)
noncomputable def aCD (F : Md) : List (FuncId × aF) := []
theorem aCE (F : Md) : bA Tryz.prog GL (aCD F) := .nil
attribute [go_sem] uV tW
set_option maxHeartbeats 4000000 in
theorem aBG (F : Md) : FOK Tryz.prog GL 144 (kC F) := by
 refine bF (aT (aCE F)) mix Tryz.func144 rfl (by kernel_rfl) (by decide) tW fun w0 S x Θ hw h hF => ?_
 obtain ⟨(chars_0 : (List Nat)), u⟩ := x
 simp only [bJ, go_sem]
 replace h : sat (lE F chars_0) _ := h
 unfold lE at h
 refine bQ hF (D := Int × (List Bool)) [0] (fun d => [(2, .ptr 0 []), (4, .val (.i .i64) d.1)]) (fun d => [.inr (.box 256 (.val (.arr 256 .bool) d.2))]) h rfl (by simp only [go_sem]) ?_
 rintro ⟨i_6, as_7⟩ A2 T2 hA2 hE2 h
 simp only [go_sem]
 replace h : sat (mQ F chars_0 i_6 as_7) _ := h
 unfold mQ at h
 refine eI h (fun hc h => ?_) fun hc h => ?_
 ·obtain ⟨g0, h⟩ := aH h
  repeat (refine ⟨by omega, ?_⟩)
  refine dQ h (fun hc h => ?_) fun hc h => ?_
  ·replace h := hE2 _ (aA h)
   try dsimp only at h
   exact aE hF [.cell 2 174, .tmp 3] rfl rfl rfl (aA h) (by simp only [aM, go_sem])
  ·obtain ⟨g0, h⟩ := aH h
   repeat (refine ⟨by omega, ?_⟩)
   obtain ⟨g0, h⟩ := aH h
   repeat (refine ⟨by omega, ?_⟩)
   replace h := hA2 _ (aA h)
   exact aQ _ h rfl (by simp only [go_sem])
 ·replace h := hE2 _ (aA h)
  try dsimp only at h
  exact aE hF [.cell 2 174, .tmp 3] rfl rfl rfl (aA h) (by simp only [aM, go_sem])
attribute [go_sem] kC
noncomputable def lF (F : Md) (as_1 : (List Bool)) (s_11 : (List Nat)) : Option ((List Nat) ⊕ (List Nat)) :=
 if (0 : Int) < (((s_11.length) : Nat) : Int) then ck (I64 ((((s_11.length) : Nat) : Int) - (1 : Int))) (ck (0 ≤ ((((s_11.length) : Nat) : Int) - (1 : Int)) ∧ ((((s_11.length) : Nat) : Int) - (1 : Int)) < (((s_11.length) : Nat) : Int)) ((eW F as_1 (s_11.getD ((((s_11.length) : Nat) : Int) - (1 : Int)).toNat (0 : Nat))).bind (fun v_21 => if ¬ (v_21 = true) then some (.inr s_11) else ck (I64 ((((s_11.length) : Nat) : Int) - (1 : Int))) (ck (0 ≤ ((((s_11.length) : Nat) : Int) - (1 : Int)) ∧ ((((s_11.length) : Nat) : Int) - (1 : Int)) ≤ (((s_11.length) : Nat) : Int)) (some (.inl (List.take ((((s_11.length) : Nat) : Int) - (1 : Int)).toNat s_11))))))) else some (.inr s_11)
noncomputable def jF (F : Md) (s_0 : (List Nat)) (as_1 : (List Bool)) : Option (List Nat) :=
 (dB F (fun d : (List Nat) => lF F as_1 d) s_0).bind (fun e => some e)
def rJ : PlR := ⟨[(0, .A [0, 1]), (1, .A [0, 1, 7]), (2, .A [0, 1, 15]), (3, .A [0, 1]), (4, .A [4])], []⟩
def rY : Ty := .pair .str (.pair (.rp (.arr 256 .bool)) .unit)
noncomputable def iP (F : Md) : aF := mSpec rY (.one .str) (fun x => jF F x.1 x.2.1)
noncomputable def rZ (F : Md) : List (FuncId × aF) := [(205, (dR F))]
theorem aBi (F : Md) : bA Tryz.prog GL (rZ F) := .cons (oV F) (by kernel_rfl) (.nil)
theorem yE (F : Md) : gam (rZ F) 205 = some (dR F) := rfl
attribute [go_sem] rY rJ yE
set_option maxHeartbeats 4000000 in
theorem aAJ (F : Md) : FOK Tryz.prog GL 146 (iP F) := by
 refine bF (aT (aBi F)) mix Tryz.func146 rfl (by kernel_rfl) (by decide) rJ fun w0 S x Θ hw h hF => ?_
 obtain ⟨(s_0 : (List Nat)), (as_1 : (List Bool)), u⟩ := x
 simp only [bJ, go_sem]
 replace h : sat (jF F s_0 as_1) _ := h
 unfold jF at h
 refine bQ hF (D := (List Nat)) [1] (fun d => [(0, .val .str d)]) (fun d => []) h rfl (by simp only [go_sem]) ?_
 rintro s_11 A1 T1 hA1 hE1 h
 simp only [go_sem]
 replace h : sat (lF F as_1 s_11) _ := h
 unfold lF at h
 refine eI h (fun hc h => ?_) fun hc h => ?_
 ·refine aP h fun g0 h => aP h fun g1 h => ?_
  obtain ⟨v_21, hv, h⟩ := aI h
  try simp only [hv, go_sem]
  refine aBc h (fun hc h => ?_) fun hc h => ?_
  ·replace h := hE1 _ (aA h)
   try dsimp only at h
   exact aE hF [.tmp 4] rfl rfl rfl (aA h) (by simp only [aM, go_sem])
  ·refine aP h fun g0 h => aP h fun g1 h => ?_
   replace h := hA1 _ (aA h)
   exact aQ _ h rfl (by simp only [go_sem])
 ·replace h := hE1 _ (aA h)
  try dsimp only at h
  exact aE hF [.tmp 4] rfl rfl rfl (aA h) (by simp only [aM, go_sem])
attribute [go_sem] iP
noncomputable def lZ (F : Md) (as_1 : (List Bool)) (s_11 : (List Nat)) : Option ((List Nat) ⊕ (List Nat)) :=
 if (0 : Int) < (((s_11.length) : Nat) : Int) then ck ((0 : Int) < (((s_11.length) : Nat) : Int)) ((eW F as_1 (s_11.getD (0 : Nat) (0 : Nat))).bind (fun v_21 => if ¬ (v_21 = true) then some (.inr s_11) else ck ((1 : Int) ≤ (((s_11.length) : Nat) : Int)) (some (.inl (List.drop (1 : Nat) s_11))))) else some (.inr s_11)
noncomputable def kD (F : Md) (s_0 : (List Nat)) (as_1 : (List Bool)) : Option (List Nat) :=
 (dB F (fun d : (List Nat) => lZ F as_1 d) s_0).bind (fun e => some e)
def sA : PlR := ⟨[(0, .A [0, 1]), (1, .A [0, 1, 7]), (2, .A [0, 1, 12]), (3, .A [0, 1]), (4, .A [4])], []⟩
def tX : Ty := .pair .str (.pair (.rp (.arr 256 .bool)) .unit)
noncomputable def jG (F : Md) : aF := mSpec tX (.one .str) (fun x => kD F x.1 x.2.1)
noncomputable def tY (F : Md) : List (FuncId × aF) := [(205, (dR F))]
theorem aBH (F : Md) : bA Tryz.prog GL (tY F) := .cons (oV F) (by kernel_rfl) (.nil)
theorem zK (F : Md) : gam (tY F) 205 = some (dR F) := rfl
attribute [go_sem] tX sA zK
set_option maxHeartbeats 4000000 in
theorem aBj (F : Md) : FOK Tryz.prog GL 145 (jG F) := by
 refine bF (aT (aBH F)) mix Tryz.func145 rfl (by kernel_rfl) (by decide) sA fun w0 S x Θ hw h hF => ?_
 obtain ⟨(s_0 : (List Nat)), (as_1 : (List Bool)), u⟩ := x
 simp only [bJ, go_sem]
 replace h : sat (kD F s_0 as_1) _ := h
 unfold kD at h
 refine bQ hF (D := (List Nat)) [1] (fun d => [(0, .val .str d)]) (fun d => []) h rfl (by simp only [go_sem]) ?_
 rintro s_11 A1 T1 hA1 hE1 h
 simp only [go_sem]
 replace h : sat (lZ F as_1 s_11) _ := h
 unfold lZ at h
 refine eI h (fun hc h => ?_) fun hc h => ?_
 ·refine aP h fun g0 h => ?_
  obtain ⟨v_21, hv, h⟩ := aI h
  try simp only [hv, go_sem]
  refine aBc h (fun hc h => ?_) fun hc h => ?_
  ·replace h := hE1 _ (aA h)
   try dsimp only at h
   exact aE hF [.tmp 4] rfl rfl rfl (aA h) (by simp only [aM, go_sem])
  ·refine aP h fun g0 h => ?_
   replace h := hA1 _ (aA h)
   exact aQ _ h rfl (by simp only [go_sem])
 ·replace h := hE1 _ (aA h)
  try dsimp only at h
  exact aE hF [.tmp 4] rfl rfl rfl (aA h) (by simp only [aM, go_sem])
attribute [go_sem] jG
noncomputable def uW (F : Md) (s_0 : (List Nat)) (cutset_1 : (List Nat)) : Option (List Nat) :=
 if (s_0 = (aY ⟨#[]⟩)) ∨ (cutset_1 = (aY ⟨#[]⟩)) then some s_0 else ck (((((cutset_1.length) : Nat) : Int) = (1 : Int)) → ((0 : Int) < (((cutset_1.length) : Nat) : Int))) (if ((((cutset_1.length) : Nat) : Int) = (1 : Int)) ∧ ((cutset_1.getD (0 : Nat) (0 : Nat)) < (128 : Nat)) then ck ((0 : Int) < (((cutset_1.length) : Nat) : Int)) ((kA F s_0 (cutset_1.getD (0 : Nat) (0 : Nat))).bind (fun v_19 => ck ((0 : Int) < (((cutset_1.length) : Nat) : Int)) ((lD F v_19 (cutset_1.getD (0 : Nat) (0 : Nat))).bind (fun v_20 => some v_20)))) else (lE F cutset_1).bind (fun v_27 => if v_27.2.1 = true then (jF F s_0 v_27.1).bind (fun v_34 => (kD F v_34 v_27.1).bind (fun v_35 => some v_35)) else none))
def aCS : PlR := ⟨[(0, .A [0, 1]), (1, .A [0, 1, 12]), (2, .A [4]), (3, .A [0, 1, 21]), (4, .A [4]), (5, .B [0, 1, 5, 6]), (6, .A [0, 1, 5, 34]), (7, .A [4]), (8, .stop)], []⟩
def aDP : Ty := .pair .str (.pair .str .unit)
noncomputable def sP (F : Md) : aF := mSpec aDP (.one .str) (fun x => uW F x.1 x.2.1)
noncomputable def nS (F : Md) : List (FuncId × aF) := [(142, (kB F)), (143, (jE F)), (144, (kC F)), (145, (jG F)), (146, (iP F))]
theorem aLw (F : Md) : bA Tryz.prog GL (nS F) := .cons (aBF F) (by kernel_rfl) (.cons (aBh F) (by kernel_rfl) (.cons (aBG F) (by kernel_rfl) (.cons (aBj F) (by kernel_rfl) (.cons (aAJ F) (by kernel_rfl) (.nil)))))
theorem aFy (F : Md) : gam (nS F) 142 = some (kB F) := rfl
theorem aFz (F : Md) : gam (nS F) 143 = some (jE F) := rfl
theorem aFA (F : Md) : gam (nS F) 144 = some (kC F) := rfl
theorem aFB (F : Md) : gam (nS F) 145 = some (jG F) := rfl
theorem aFC (F : Md) : gam (nS F) 146 = some (iP F) := rfl
attribute [go_sem] aDP aCS aFy aFz aFA aFB aFC
set_option maxHeartbeats 4000000 in
theorem aJw (F : Md) : FOK Tryz.prog GL 70 (sP F) := by
 refine bF (aT (aLw F)) mix Tryz.func70 rfl (by kernel_rfl) (by decide) aCS fun w0 S x Θ hw h hF => ?_
 obtain ⟨(s_0 : (List Nat)), (cutset_1 : (List Nat)), u⟩ := x
 simp only [bJ, go_sem]
 replace h : sat (uW F s_0 cutset_1) _ := h
 unfold uW at h
 refine ⟨fun hc => ?_, fun hc => ?_⟩
 ·replace h := fV hc h
  exact aE hF [.tmp 4] rfl rfl rfl (aA h) (by simp only [aM, go_sem])
 ·replace h := fW hc h
  refine aP h fun g0 h => ?_
  refine ⟨fun hc => ?_, fun hc => ?_⟩
  ·replace h := fV hc h
   refine aP h fun g0 h => ?_
   obtain ⟨v_19, hv, h⟩ := aI h
   try simp only [hv, go_sem]
   refine aP h fun g0 h => ?_
   obtain ⟨v_20, hv, h⟩ := aI h
   try simp only [hv, go_sem]
   exact aE hF [.tmp 4] rfl rfl rfl (aA h) (by simp only [aM, go_sem])
  ·replace h := fW hc h
   obtain ⟨v_27, hv, h⟩ := aI h
   try simp only [hv, go_sem]
   refine aIE h (fun hc h => ?_) fun hc h => ?_
   ·obtain ⟨v_34, hv, h⟩ := aI h
    try simp only [hv, go_sem]
    obtain ⟨v_35, hv, h⟩ := aI h
    try simp only [hv, go_sem]
    exact aE hF [.tmp 4] rfl rfl rfl (aA h) (by simp only [aM, go_sem])
   ·exact aBB h
attribute [go_sem] sP
noncomputable def lS (F : Md) : Option (List (List Nat)) :=
 some ([(aY ⟨#[116]⟩), (aY ⟨#[115, 113, 114]⟩), (aY ⟨#[115, 113, 114, 116]⟩), (aY ⟨#[101, 120, 112]⟩), (aY ⟨#[112, 114, 101, 99]⟩), (aY ⟨#[101, 110, 100]⟩), (aY ⟨#[115, 116, 101, 112]⟩), (aY ⟨#[116, 111, 108]⟩), (aY ⟨#[116, 114, 105, 101, 115]⟩), (aY ⟨#[111, 114, 100, 101, 114]⟩), (aY ⟨#[106, 97, 99, 111, 98, 105]⟩), (aY ⟨#[115, 101, 105, 100, 101, 108]⟩), (aY ⟨#[115, 117, 98]⟩), (aY ⟨#[115, 116, 97, 116, 101]⟩), (aY ⟨#[112, 97, 114]⟩), (aY ⟨#[105, 110]⟩), (aY ⟨#[111, 117, 116]⟩), (aY ⟨#[100, 101, 114]⟩), (aY ⟨#[108, 105, 110, 107]⟩)] : List (List Nat))
def aAZ : PlR := ⟨[(0, .A []), (1, .A [0])], []⟩
def aBI : Ty := .unit
noncomputable def pN (F : Md) : aF := mSpec aBI (.one (.sl .str)) (fun x => lS F )
noncomputable def aH0 (F : Md) : List (FuncId × aF) := []
theorem aH1 (F : Md) : bA Tryz.prog GL (aH0 F) := .nil
attribute [go_sem] aBI aAZ
set_option maxHeartbeats 4000000 in
theorem aGS (F : Md) : FOK Tryz.prog GL 72 (pN F) := by
 refine bF (aT (aH1 F)) mix Tryz.func72 rfl (by kernel_rfl) (by decide) aAZ fun w0 S x Θ hw h hF => ?_
 simp only [bJ, go_sem]
 replace h : sat (lS F) _ := h
 unfold lS at h
 exact aE hF [.tmp 0] rfl rfl rfl (aA h) (by (simp only [aM, go_sem]) <;> first | rfl | (simp; done))
attribute [go_sem] pN
noncomputable def dW (F : Md) (s_0 : (List (List Nat))) (v_1 : (List Nat)) (x8_5 : Int) : Option ((Int) ⊕ ((Unit) ⊕ Int)) :=
 if x8_5 < (((s_0.length) : Nat) : Int) then ck (0 ≤ x8_5 ∧ x8_5 < (((s_0.length) : Nat) : Int)) (if v_1 = (s_0.getD (x8_5.toNat) ([] : List Nat)) then some (.inr (.inr x8_5)) else ck (I64 (x8_5 + (1 : Int))) (some (.inl (x8_5 + (1 : Int))))) else some (.inr (.inl ()))
noncomputable def gJ (F : Md) (s_0 : (List (List Nat))) (v_1 : (List Nat)) : Option Int :=
 (dB F (fun d : Int => dW F s_0 v_1 d) (0 : Int)).bind (fun e => match e with | (.inl e) => some (-1 : Int) | (.inr e) => some e)
def uX : PlR := ⟨[(0, .A [0, 1]), (1, .A [0, 1, 7, 8]), (2, .A [0, 1, 7, 8, 9]), (3, .A [0, 1, 5, 7, 8]), (4, .A [0, 1, 5, 7, 8, 16]), (5, .A [4]), (6, .A [0, 1, 7, 8]), (7, .A [4])], []⟩
def wD : Ty := .pair (.sl .str) (.pair .str .unit)
noncomputable def lG (F : Md) : aF := mSpec wD (.one (.i .i64)) (fun x => gJ F x.1 x.2.1)
noncomputable def aDa (F : Md) : List (FuncId × aF) := []
theorem aDb (F : Md) : bA Tryz.prog GL (aDa F) := .nil
attribute [go_sem] wD uX
set_option maxHeartbeats 4000000 in
theorem aCF (F : Md) : FOK Tryz.prog GL 149 (lG F) := by
 refine bF (aT (aDb F)) mix Tryz.func149 rfl (by kernel_rfl) (by decide) uX fun w0 S x Θ hw h hF => ?_
 obtain ⟨(s_0 : (List (List Nat))), (v_1 : (List Nat)), u⟩ := x
 simp only [bJ, go_sem]
 replace h : sat (gJ F s_0 v_1) _ := h
 unfold gJ at h
 refine bQ hF (D := Int) [0, 1, 7] (fun d => [(8, .val (.i .i64) d)]) (fun d => []) h rfl (by simp only [go_sem]) ?_
 rintro x8_5 A2 T2 hA2 hE2 h
 simp only [go_sem]
 replace h : sat (dW F s_0 v_1 x8_5) _ := h
 unfold dW at h
 refine eI h (fun hc h => ?_) fun hc h => ?_
 ·refine aP h fun g0 h => ?_
  refine dQ h (fun hc h => ?_) fun hc h => ?_
  ·replace h := hE2 _ (aA h)
   try dsimp only at h
   exact aE hF [.tmp 4] rfl rfl rfl (aA h) (by simp only [aM, go_sem])
  ·refine aP h fun g0 h => ?_
   replace h := hA2 _ (aA h)
   exact aQ _ h rfl (by simp only [go_sem])
 ·replace h := hE2 _ (aA h)
  try dsimp only at h
  exact aE hF [.tmp 4] rfl rfl rfl (aA h) (by simp only [aM, go_sem])
attribute [go_sem] lG
noncomputable def cV (F : Md) (s_0 : (List (List Nat))) (v_1 : (List Nat)) : Option Bool :=
 (gJ F s_0 v_1).bind (fun v_6 => some (decide ((0 : Int) ≤ v_6)))
def rK : PlR := ⟨[(0, .A [0, 1]), (1, .A [4])], []⟩
def sB : Ty := .pair (.sl .str) (.pair .str .unit)
noncomputable def eH (F : Md) : aF := mSpec sB (.one .bool) (fun x => cV F x.1 x.2.1)
noncomputable def sC (F : Md) : List (FuncId × aF) := [(149, (lG F))]
theorem aBk (F : Md) : bA Tryz.prog GL (sC F) := .cons (aCF F) (by kernel_rfl) (.nil)
theorem yF (F : Md) : gam (sC F) 149 = some (lG F) := rfl
attribute [go_sem] sB rK yF
set_option maxHeartbeats 4000000 in
theorem rL (F : Md) : FOK Tryz.prog GL 71 (eH F) := by
 refine bF (aT (aBk F)) mix Tryz.func71 rfl (by kernel_rfl) (by decide) rK fun w0 S x Θ hw h hF => ?_
 obtain ⟨(s_0 : (List (List Nat))), (v_1 : (List Nat)), u⟩ := x
 simp only [bJ, go_sem]
 replace h : sat (cV F s_0 v_1) _ := h
 unfold cV at h
 obtain ⟨v_6, hv, h⟩ := aI h
 try simp only [hv, go_sem]
 exact aE hF [.tmp 4] rfl rfl rfl (aA h) (by simp only [aM, go_sem])
attribute [go_sem] eH
noncomputable def aU (F : Md) (s_0 : (List Nat)) : Option Bool :=
 ck (¬ (((((s_0.length) : Nat) : Int) < (1 : Int)) ∨ ((20 : Int) < (((s_0.length) : Nat) : Int))) → ((0 : Int) < (((s_0.length) : Nat) : Int))) (ck (¬ ((((((s_0.length) : Nat) : Int) < (1 : Int)) ∨ ((20 : Int) < (((s_0.length) : Nat) : Int))) ∨ ((s_0.getD (0 : Nat) (0 : Nat)) < (97 : Nat))) → ((0 : Int) < (((s_0.length) : Nat) : Int))) (if ((((((s_0.length) : Nat) : Int) < (1 : Int)) ∨ ((20 : Int) < (((s_0.length) : Nat) : Int))) ∨ ((s_0.getD (0 : Nat) (0 : Nat)) < (97 : Nat))) ∨ ((122 : Nat) < (s_0.getD (0 : Nat) (0 : Nat))) then some false else (uW F s_0 (aY aLv)).bind (fun v_5 => ck ((v_5 = (aY ⟨#[]⟩)) → ((lS F).isSome = true)) (ck ((v_5 = (aY ⟨#[]⟩)) → ((cV F ((lS F).getD ([] : List (List Nat))) s_0).isSome = true)) (some ((decide (v_5 = (aY ⟨#[]⟩))) && (!((cV F ((lS F).getD ([] : List (List Nat))) s_0).getD false))))))))
def aER : PlR := ⟨[(0, .A [0]), (1, .A [0, 20]), (2, .A [2]), (3, .A [2])], []⟩
def aGT : Ty := .pair .str .unit
noncomputable def pD (F : Md) : aF := mSpec aGT (.one .bool) (fun x => aU F x.1)
noncomputable def zL (F : Md) : List (FuncId × aF) := [(70, (sP F)), (71, (eH F)), (72, (pN F))]
theorem aNK (F : Md) : bA Tryz.prog GL (zL F) := .cons (aJw F) (by kernel_rfl) (.cons (rL F) (by kernel_rfl) (.cons (aGS F) (by kernel_rfl) (.nil)))
theorem aJx (F : Md) : gam (zL F) 70 = some (sP F) := rfl
theorem aJy (F : Md) : gam (zL F) 71 = some (eH F) := rfl
theorem aJz (F : Md) : gam (zL F) 72 = some (pN F) := rfl
attribute [go_sem] aGT aER aJx aJy aJz
set_option maxHeartbeats 4000000 in
theorem aES (F : Md) : FOK Tryz.prog GL 29 (pD F) := by
 refine bF (aT (aNK F)) mix Tryz.func29 rfl (by kernel_rfl) (by decide) aER fun w0 S x Θ hw h hF => ?_
 obtain ⟨(s_0 : (List Nat)), u⟩ := x
 simp only [bJ, go_sem]
 replace h : sat (aU F s_0) _ := h
 unfold aU at h
 obtain ⟨g0, h⟩ := aH h
 obtain ⟨g1, h⟩ := aH h
 repeat (refine ⟨zAD, ?_⟩)
 refine ⟨fun hc => ?_, fun hc => ?_⟩
 ·replace h := fV hc h
  exact aE hF [.tmp 2] rfl rfl rfl (aA h) (by simp only [aM, go_sem])
 ·replace h := fW hc h
  obtain ⟨v_5, hv, h⟩ := aI h
  try simp only [hv, go_sem]
  obtain ⟨g0, h⟩ := aH h
  obtain ⟨g1, h⟩ := aH h
  repeat (refine ⟨zAD, ?_⟩)
  exact aE hF [.tmp 2] rfl rfl rfl (aA h) (by simp only [aM, go_sem])
attribute [go_sem] pD
end Nu
end Go.Proofs
namespace Go.Proofs
open Go.Vc
set_option maxRecDepth 20000
namespace Nu
noncomputable def oG (F : Md) : Option (Int × (Unit × Unit)) :=
 none
noncomputable def mA (F : Md) (s_0 : (List Nat)) (n_14 : Int) : Option (Int × (Unit × Unit)) :=
 ck ((0 : Int) < (((s_0.length) : Nat) : Int)) (if (s_0.getD (0 : Nat) (0 : Nat)) = (45 : Nat) then ck (I64 (0 - n_14)) (some ((0 - n_14), (), ())) else some (n_14, (), ()))
noncomputable def gF (F : Md) (s_9 : (List Nat)) (n_15 : Int) (x49_16 : Int) : Option ((Int × Int) ⊕ ((Int) ⊕ (Int × (Unit × Unit)))) :=
 if x49_16 < (((s_9.length) : Nat) : Int) then ck (0 ≤ x49_16 ∧ x49_16 < (((s_9.length) : Nat) : Int)) (if (9 : Nat) < (tF F .u8 (s_9.getD (x49_16.toNat) (0 : Nat)) (48 : Nat)) then none else ck (I64 (n_15 * (10 : Int))) (ck (I64 ((n_15 * (10 : Int)) + (((tF F .u8 (s_9.getD (x49_16.toNat) (0 : Nat)) (48 : Nat)) : Nat) : Int))) (ck (I64 (x49_16 + (1 : Int))) (some (.inl (((n_15 * (10 : Int)) + (((tF F .u8 (s_9.getD (x49_16.toNat) (0 : Nat)) (48 : Nat)) : Nat) : Int)), (x49_16 + (1 : Int)))))))) else some (.inr (.inl n_15))
noncomputable def gW (F : Md) (s_0 : (List Nat)) (s_9 : (List Nat)) : Option (Int × (Unit × Unit)) :=
 (dB F (fun d : Int × Int => gF F s_9 d.1 d.2) ((0 : Int), (0 : Int))).bind (fun e => match e with | (.inl e) => mA F s_0 e | (.inr e) => some e)
noncomputable def mT (F : Md) (s_0 : (List Nat)) : Option (Int × (Unit × Unit)) :=
 if ((False) ∧ (((0 : Int) < (((s_0.length) : Nat) : Int)) ∧ ((((s_0.length) : Nat) : Int) < (10 : Int)))) ∨ ((True) ∧ (((0 : Int) < (((s_0.length) : Nat) : Int)) ∧ ((((s_0.length) : Nat) : Int) < (19 : Int)))) then ck ((0 : Int) < (((s_0.length) : Nat) : Int)) (ck (¬ ((s_0.getD (0 : Nat) (0 : Nat)) = (45 : Nat)) → ((0 : Int) < (((s_0.length) : Nat) : Int))) (if ((s_0.getD (0 : Nat) (0 : Nat)) = (45 : Nat)) ∨ ((s_0.getD (0 : Nat) (0 : Nat)) = (43 : Nat)) then ck ((1 : Int) ≤ (((s_0.length) : Nat) : Int)) (if (((List.drop (1 : Nat) s_0).length : Nat) : Int) < (1 : Int) then none else gW F s_0 (List.drop (1 : Nat) s_0)) else gW F s_0 s_0)) else oG F
def aBJ : PlR := ⟨[(0, .A [0]), (1, .A [0, 4]), (2, .A [0, 30]), (3, .A [0, 5]), (4, .A [0, 5, 39]), (5, .A [0, 5]), (6, .A [0, 5, 44]), (7, .A [2, 3]), (8, .A [0, 5, 6]), (9, .A [5, 6, 47, 48, 49]), (10, .A [5, 6, 47, 48, 49, 50]), (11, .A [5, 6, 8, 47, 48, 49]), (12, .A [5, 6, 8, 47, 48, 49]), (13, .A [5, 6, 8, 47, 48, 49, 56]), (14, .A [2, 3]), (15, .A [5, 6, 47, 48, 49]), (16, .A [5, 6, 47, 48, 49]), (17, .A [6, 66]), (18, .A [6]), (19, .A [2, 3]), (20, .stop)], [(5, 23), (7, 11), (12, 20)]⟩
def aCT : Ty := .pair .str .unit
noncomputable def qS (F : Md) : aF := mSpec aCT (.tup (.pair (.i .i64) (.pair .nili .unit))) (fun x => mT F x.1)
noncomputable def aJA (F : Md) : List (FuncId × aF) := []
theorem aJB (F : Md) : bA Tryz.prog GL (aJA F) := .nil
attribute [go_sem] aCT aBJ
set_option maxHeartbeats 4000000 in
theorem aH2 (F : Md) : FOK Tryz.prog GL 254 (qS F) := by
 refine bF (aT (aJB F)) mix Tryz.func254 rfl (by kernel_rfl) (by decide) aBJ fun w0 S x Θ hw h hF => ?_
 obtain ⟨(s_0 : (List Nat)), u⟩ := x
 simp only [bJ, go_sem]
 replace h : sat (mT F s_0) _ := h
 unfold mT at h
 refine dM hF (D := Unit) (fun d => sat (oG F) Θ) [0] (fun d => []) (fun d => []) ?_ ?_
 ·simp only [go_sem, bG F, bH F, bI F]
  refine ⟨fun hc => ?_, fun hc => ?_⟩
  ·replace h := fV zAB h
   refine dM hF (D := (List Nat)) (fun d => sat (gW F s_0 d) Θ) [5] (fun d => [(0, .val .str d)]) (fun d => []) ?_ ?_
   ·simp only [go_sem, bG F, bH F, bI F]
    refine aP h fun g0 h => aP h fun g1 h => ?_
    refine ⟨fun hc => ?_, fun hc => ?_⟩
    ·replace h := fV hc h
     refine aP h fun g0 h => ?_
     refine eI h (fun hc h => ?_) fun hc h => ?_
     ·exact aBB h
     ·exact aQ (List.drop (1 : Nat) s_0) h rfl (by simp only [go_sem, bG F, bH F, bI F])
    ·replace h := fW hc h
     exact aQ (s_0) h rfl (by simp only [go_sem, bG F, bH F, bI F])
   ·rintro s_9 h
    simp only [go_sem, bG F, bH F, bI F]
    replace h : sat (gW F s_0 s_9) _ := h
    unfold gW at h
    refine dM hF (D := Int) (fun d => sat (mA F s_0 d) Θ) [5] (fun d => [(6, .val (.i .i64) d)]) (fun d => []) ?_ ?_
    ·simp only [go_sem, bG F, bH F, bI F]
     refine bQ hF (D := Int × Int) [5, 47, 48] (fun d => [(6, .val (.i .i64) d.1), (49, .val (.i .i64) d.2)]) (fun d => []) h rfl (by simp only [go_sem, bG F, bH F, bI F]) ?_
     rintro ⟨n_15, x49_16⟩ A10 T10 hA10 hE10 h
     simp only [go_sem, bG F, bH F, bI F]
     replace h : sat (gF F s_9 n_15 x49_16) _ := h
     unfold gF at h
     refine eI h (fun hc h => ?_) fun hc h => ?_
     ·refine aP h fun g0 h => ?_
      refine dQ h (fun hc h => ?_) fun hc h => ?_
      ·exact aBB h
      ·refine aP h fun g0 h => aP h fun g1 h => ?_
       refine aP h fun g0 h => ?_
       replace h := hA10 _ (aA h)
       exact aQ _ h rfl (by simp only [go_sem, bG F, bH F, bI F])
     ·replace h := hE10 _ (aA h)
      try dsimp only at h
      exact aQ (n_15) h rfl (by simp only [go_sem, bG F, bH F, bI F])
    ·rintro n_14 h
     simp only [go_sem, bG F, bH F, bI F]
     replace h : sat (mA F s_0 n_14) _ := h
     unfold mA at h
     refine aP h fun g0 h => ?_
     refine dQ h (fun hc h => ?_) fun hc h => ?_
     ·refine aP h fun g0 h => ?_
      exact aE hF [.tmp 2, .tmp 3] rfl rfl rfl (aA h) (by simp only [aM, go_sem, bG F, bH F, bI F])
     ·exact aE hF [.tmp 2, .tmp 3] rfl rfl rfl (aA h) (by simp only [aM, go_sem, bG F, bH F, bI F])
  ·replace h := fW zAB h
   exact aQ () h rfl (by simp only [go_sem, bG F, bH F, bI F])
 ·rintro u h
  simp only [go_sem, bG F, bH F, bI F]
  replace h : sat (oG F) _ := h
  unfold oG at h
  exact aBB h
attribute [go_sem] qS
noncomputable def nT (F : Md) (s_0 : (List Nat)) : Option (Int × (Unit × Unit)) :=
 (mT F s_0).bind (fun v_5 => some (v_5.1, (), ()))
def aCU : PlR := ⟨[(0, .A [0]), (1, .A [0, 4, 5]), (2, .A [0, 4, 5, 12]), (4, .A [2, 3])], []⟩
def aDQ : Ty := .pair .str .unit
noncomputable def sQ (F : Md) : aF := mSpec aDQ (.tup (.pair (.i .i64) (.pair .nili .unit))) (fun x => nT F x.1)
noncomputable def aDR (F : Md) : List (FuncId × aF) := [(254, (qS F))]
theorem aLx (F : Md) : bA Tryz.prog GL (aDR F) := .cons (aH2 F) (by kernel_rfl) (.nil)
theorem aFD (F : Md) : gam (aDR F) 254 = some (qS F) := rfl
attribute [go_sem] aDQ aCU aFD
set_option maxHeartbeats 4000000 in
theorem aJC (F : Md) : FOK Tryz.prog GL 230 (sQ F) := by
 refine bF (aT (aLx F)) mix Tryz.func230 rfl (by kernel_rfl) (by decide) aCU fun w0 S x Θ hw h hF => ?_
 obtain ⟨(s_0 : (List Nat)), u⟩ := x
 simp only [bJ, go_sem]
 replace h : sat (nT F s_0) _ := h
 unfold nT at h
 obtain ⟨v_5, hv, h⟩ := aI h
 try simp only [hv, go_sem]
 exact aE hF [.tmp 2, .tmp 3] rfl rfl rfl (aA h) (by simp only [aM, go_sem])
attribute [go_sem] sQ
noncomputable def kL (F : Md) (at_1 : Int) (s_0 : (List Nat)) (n_5 : Int) : Option ((Int) ⊕ (Int)) :=
 ck (I64 (at_1 + n_5)) (ck (((at_1 + n_5) < (((s_0.length) : Nat) : Int)) → (I64 (at_1 + n_5))) (ck (((at_1 + n_5) < (((s_0.length) : Nat) : Int)) → (0 ≤ (at_1 + n_5) ∧ (at_1 + n_5) < (((s_0.length) : Nat) : Int))) (ck ((((at_1 + n_5) < (((s_0.length) : Nat) : Int)) ∧ ((48 : Nat) ≤ (s_0.getD (at_1 + n_5).toNat (0 : Nat)))) → (I64 (at_1 + n_5))) (ck ((((at_1 + n_5) < (((s_0.length) : Nat) : Int)) ∧ ((48 : Nat) ≤ (s_0.getD (at_1 + n_5).toNat (0 : Nat)))) → (0 ≤ (at_1 + n_5) ∧ (at_1 + n_5) < (((s_0.length) : Nat) : Int))) (if (((at_1 + n_5) < (((s_0.length) : Nat) : Int)) ∧ ((48 : Nat) ≤ (s_0.getD (at_1 + n_5).toNat (0 : Nat)))) ∧ ((s_0.getD (at_1 + n_5).toNat (0 : Nat)) ≤ (57 : Nat)) then ck (I64 (n_5 + (1 : Int))) (some (.inl (n_5 + (1 : Int)))) else some (.inr n_5))))))
noncomputable def nA (F : Md) (s_0 : (List Nat)) (at_1 : Int) : Option Int :=
 (dB F (fun d : Int => kL F at_1 s_0 d) (0 : Int)).bind (fun e => some e)
def aET : PlR := ⟨[(0, .A [0, 1]), (1, .A [0, 1, 5]), (2, .A [0, 1, 5, 27]), (3, .A [0, 1, 5]), (4, .A [4])], []⟩
def aGU : Ty := .pair .str (.pair (.i .i64) .unit)
noncomputable def xD (F : Md) : aF := mSpec aGU (.one (.i .i64)) (fun x => nA F x.1 x.2.1)
noncomputable def aNL (F : Md) : List (FuncId × aF) := []
theorem aNM (F : Md) : bA Tryz.prog GL (aNL F) := .nil
attribute [go_sem] aGU aET
set_option maxHeartbeats 4000000 in
theorem aMi (F : Md) : FOK Tryz.prog GL 229 (xD F) := by
 refine bF (aT (aNM F)) mix Tryz.func229 rfl (by kernel_rfl) (by decide) aET fun w0 S x Θ hw h hF => ?_
 obtain ⟨(s_0 : (List Nat)), (at_1 : Int), u⟩ := x
 simp only [bJ, go_sem]
 replace h : sat (nA F s_0 at_1) _ := h
 unfold nA at h
 refine bQ hF (D := Int) [0, 1] (fun d => [(5, .val (.i .i64) d)]) (fun d => []) h rfl (by simp only [go_sem]) ?_
 rintro n_5 A2 T2 hA2 hE2 h
 simp only [go_sem]
 replace h : sat (kL F at_1 s_0 n_5) _ := h
 unfold kL at h
 refine aP h fun g0 h => aP h fun g1 h => aP h fun g2 h => aP h fun g3 h => aP h fun g4 h => ?_
 refine ⟨fun hc => ?_, fun hc => ?_⟩
 ·replace h := fV hc h
  refine aP h fun g0 h => ?_
  replace h := hA2 _ (aA h)
  exact aQ _ h rfl (by simp only [go_sem])
 ·replace h := fW hc h
  replace h := hE2 _ (aA h)
  try dsimp only at h
  exact aE hF [.tmp 4] rfl rfl rfl (aA h) (by simp only [aM, go_sem])
attribute [go_sem] xD
noncomputable def iV (F : Md) (all_9 : (List Nat)) (s_0 : (List Nat)) (at_17 : Int) (pow_18 : Int) : Option ((List Nat) × (Int × (Bool × Unit))) :=
 some (all_9, pow_18, (decide (at_17 = (((s_0.length) : Nat) : Int))), ())
noncomputable def iW (F : Md) (pow_10 : Int) (at_19 : Int) (v_23 : Int) (all_9 : (List Nat)) (s_0 : (List Nat)) (x_28 : Int) : Option ((List Nat) × (Int × (Bool × Unit))) :=
 ck (I64 (pow_10 + x_28)) (ck (I64 (at_19 + v_23)) (iV F all_9 s_0 (at_19 + v_23) (pow_10 + x_28)))
noncomputable def iX (F : Md) (s_0 : (List Nat)) (at_8 : Int) (pow_10 : Int) (all_9 : (List Nat)) (at_19 : Int) : Option ((List Nat) × (Int × (Bool × Unit))) :=
 (nA F s_0 at_19).bind (fun v_23 => if (v_23 < (1 : Int)) ∨ ((3 : Int) < v_23) then some ((aY ⟨#[]⟩), (0 : Int), false, ()) else ck (I64 (at_19 + v_23)) (ck (0 ≤ at_19 ∧ at_19 ≤ (at_19 + v_23) ∧ (at_19 + v_23) ≤ (((s_0.length) : Nat) : Int)) ((nT F (List.drop (at_19.toNat) (List.take (at_19 + v_23).toNat s_0))).bind (fun v_27 => if (100 : Int) < v_27.1 then some ((aY ⟨#[]⟩), (0 : Int), false, ()) else if ((at_8 + (1 : Int)) < (((s_0.length) : Nat) : Int)) ∧ ((s_0.getD (at_8 + (1 : Int)).toNat (0 : Nat)) = (45 : Nat)) then ck (I64 (0 - v_27.1)) (iW F pow_10 at_19 v_23 all_9 s_0 (0 - v_27.1)) else iW F pow_10 at_19 v_23 all_9 s_0 v_27.1))))
noncomputable def iY (F : Md) (s_0 : (List Nat)) (at_8 : Int) (all_9 : (List Nat)) (pow_10 : Int) : Option ((List Nat) × (Int × (Bool × Unit))) :=
 ck ((at_8 < (((s_0.length) : Nat) : Int)) → (0 ≤ at_8 ∧ at_8 < (((s_0.length) : Nat) : Int))) (if (at_8 < (((s_0.length) : Nat) : Int)) ∧ ((s_0.getD (at_8.toNat) (0 : Nat)) = (101 : Nat)) then ck (I64 (at_8 + (1 : Int))) (ck (((at_8 + (1 : Int)) < (((s_0.length) : Nat) : Int)) → (0 ≤ (at_8 + (1 : Int)) ∧ (at_8 + (1 : Int)) < (((s_0.length) : Nat) : Int))) (ck (¬ (((at_8 + (1 : Int)) < (((s_0.length) : Nat) : Int)) ∧ ((s_0.getD (at_8 + (1 : Int)).toNat (0 : Nat)) = (45 : Nat))) → ((at_8 + (1 : Int)) < (((s_0.length) : Nat) : Int)) → (0 ≤ (at_8 + (1 : Int)) ∧ (at_8 + (1 : Int)) < (((s_0.length) : Nat) : Int))) (if (((at_8 + (1 : Int)) < (((s_0.length) : Nat) : Int)) ∧ ((s_0.getD (at_8 + (1 : Int)).toNat (0 : Nat)) = (45 : Nat))) ∨ (((at_8 + (1 : Int)) < (((s_0.length) : Nat) : Int)) ∧ ((s_0.getD (at_8 + (1 : Int)).toNat (0 : Nat)) = (43 : Nat))) then ck (I64 ((at_8 + (1 : Int)) + (1 : Int))) (iX F s_0 at_8 pow_10 all_9 ((at_8 + (1 : Int)) + (1 : Int))) else iX F s_0 at_8 pow_10 all_9 (at_8 + (1 : Int))))) else iV F all_9 s_0 at_8 pow_10)
noncomputable def lQ (F : Md) (s_0 : (List Nat)) : Option ((List Nat) × (Int × (Bool × Unit))) :=
 (nA F s_0 (0 : Int)).bind (fun v_5 => ck (0 ≤ v_5 ∧ v_5 ≤ (((s_0.length) : Nat) : Int)) (if ((60 : Int) < (((s_0.length) : Nat) : Int)) ∨ (v_5 = (0 : Int)) then some ((aY ⟨#[]⟩), (0 : Int), false, ()) else ck ((v_5 < (((s_0.length) : Nat) : Int)) → (0 ≤ v_5 ∧ v_5 < (((s_0.length) : Nat) : Int))) (if (v_5 < (((s_0.length) : Nat) : Int)) ∧ ((s_0.getD (v_5.toNat) (0 : Nat)) = (46 : Nat)) then ck (I64 (v_5 + (1 : Int))) ((nA F s_0 (v_5 + (1 : Int))).bind (fun v_32 => if v_32 = (0 : Int) then some ((aY ⟨#[]⟩), (0 : Int), false, ()) else ck (I64 (v_5 + (1 : Int))) (ck (I64 (v_5 + (1 : Int))) (ck (I64 ((v_5 + (1 : Int)) + v_32)) (ck (0 ≤ (v_5 + (1 : Int)) ∧ (v_5 + (1 : Int)) ≤ ((v_5 + (1 : Int)) + v_32) ∧ ((v_5 + (1 : Int)) + v_32) ≤ (((s_0.length) : Nat) : Int)) (ck ((List.take (v_5.toNat) s_0).length + (List.drop (v_5 + (1 : Int)).toNat (List.take ((v_5 + (1 : Int)) + v_32).toNat s_0)).length ≤ 9223372036854775807) (ck (I64 (0 - v_32)) (ck (I64 (v_5 + (1 : Int))) (ck (I64 ((v_5 + (1 : Int)) + v_32)) (iY F s_0 ((v_5 + (1 : Int)) + v_32) ((List.take (v_5.toNat) s_0) ++ (List.drop (v_5 + (1 : Int)).toNat (List.take ((v_5 + (1 : Int)) + v_32).toNat s_0))) (0 - v_32))))))))))) else iY F s_0 v_5 (List.take (v_5.toNat) s_0) (0 : Int))))
def aDS : PlR := ⟨[(0, .A [0]), (1, .A [0, 5]), (2, .A [0, 5, 6, 7]), (3, .A [0, 5, 6, 7, 24]), (4, .A [2, 3, 4]), (5, .A [0, 5, 6, 7, 34]), (6, .A [0, 5, 6, 8]), (7, .A [0, 5, 6, 8, 40]), (8, .A [2, 3, 4]), (9, .A [0, 5, 6, 7]), (10, .A [0, 5, 6, 7, 66]), (11, .A [0, 5, 6, 7]), (12, .A [0, 5, 6, 7, 9]), (13, .A [0, 5, 6, 7, 9, 91]), (14, .A [0, 5, 6, 7, 9]), (15, .A [0, 5, 6, 7, 9, 10]), (16, .A [0, 5, 6, 7, 9, 10, 102]), (17, .A [2, 3, 4]), (18, .A [0, 5, 6, 7, 9, 10, 11]), (19, .A [0, 5, 6, 7, 9, 10, 11, 114]), (20, .A [2, 3, 4]), (21, .A [0, 5, 6, 7, 10, 11, 115]), (22, .A [0, 5, 6, 7, 10, 11]), (23, .A [0, 5, 6, 7]), (24, .A [2, 3, 4])], [(8, 13), (13, 27), (16, 18), (24, 26)]⟩
def aEU : Ty := .pair .str .unit
noncomputable def jM (F : Md) : aF := mSpec aEU (.tup (.pair .str (.pair (.i .i64) (.pair .bool .unit)))) (fun x => lQ F x.1)
noncomputable def aBl (F : Md) : List (FuncId × aF) := [(229, (xD F)), (230, (sQ F))]
theorem aMj (F : Md) : bA Tryz.prog GL (aBl F) := .cons (aMi F) (by kernel_rfl) (.cons (aJC F) (by kernel_rfl) (.nil))
theorem aGV (F : Md) : gam (aBl F) 229 = some (xD F) := rfl
theorem aGW (F : Md) : gam (aBl F) 230 = some (sQ F) := rfl
attribute [go_sem] aEU aDS aGV aGW
set_option maxHeartbeats 4000000 in
theorem aAy (F : Md) : FOK Tryz.prog GL 178 (jM F) := by
 refine bF (aT (aMj F)) mix Tryz.func178 rfl (by kernel_rfl) (by decide) aDS fun w0 S x Θ hw h hF => ?_
 obtain ⟨(s_0 : (List Nat)), u⟩ := x
 simp only [bJ, go_sem]
 replace h : sat (lQ F s_0) _ := h
 unfold lQ at h
 obtain ⟨v_5, hv, h⟩ := aI h
 try simp only [hv, go_sem]
 obtain ⟨g0, h⟩ := aH h
 repeat (refine ⟨by omega, ?_⟩)
 refine ⟨fun hc => ?_, fun hc => ?_⟩
 ·replace h := fV hc h
  exact aE hF [.tmp 2, .tmp 3, .tmp 4] rfl rfl rfl (aA h) (by simp only [aM, go_sem])
 ·replace h := fW hc h
  refine dM hF (D := Int × (List Nat) × Int) (fun d => sat (iY F s_0 d.1 d.2.1 d.2.2) Θ) [0] (fun d => [(5, .val (.i .i64) d.1), (6, .val .str d.2.1), (7, .val (.i .i64) d.2.2)]) (fun d => []) ?_ ?_
  ·simp only [go_sem]
   obtain ⟨g0, h⟩ := aH h
   repeat (refine ⟨by omega, ?_⟩)
   refine ⟨fun hc => ?_, fun hc => ?_⟩
   ·replace h := fV hc h
    obtain ⟨g0, h⟩ := aH h
    repeat (refine ⟨by omega, ?_⟩)
    obtain ⟨v_32, hv, h⟩ := aI h
    try simp only [hv, go_sem]
    refine dQ h (fun hc h => ?_) fun hc h => ?_
    ·exact aE hF [.tmp 2, .tmp 3, .tmp 4] rfl rfl rfl (aA h) (by simp only [aM, go_sem])
    ·obtain ⟨g0, h⟩ := aH h
     obtain ⟨g1, h⟩ := aH h
     obtain ⟨g2, h⟩ := aH h
     obtain ⟨g3, h⟩ := aH h
     obtain ⟨g4, h⟩ := aH h
     obtain ⟨g5, h⟩ := aH h
     obtain ⟨g6, h⟩ := aH h
     obtain ⟨g7, h⟩ := aH h
     repeat (refine ⟨by omega, ?_⟩)
     exact aQ (((v_5 + (1 : Int)) + v_32), ((List.take (v_5.toNat) s_0) ++ (List.drop (v_5 + (1 : Int)).toNat (List.take ((v_5 + (1 : Int)) + v_32).toNat s_0))), (0 - v_32)) h rfl (by simp only [go_sem])
   ·replace h := fW hc h
    exact aQ (v_5, (List.take (v_5.toNat) s_0), (0 : Int)) h rfl (by simp only [go_sem])
  ·rintro ⟨at_8, all_9, pow_10⟩ h
   simp only [go_sem]
   replace h : sat (iY F s_0 at_8 all_9 pow_10) _ := h
   unfold iY at h
   refine dM hF (D := Int × Int) (fun d => sat (iV F all_9 s_0 d.1 d.2) Θ) [0, 6] (fun d => [(5, .val (.i .i64) d.1), (7, .val (.i .i64) d.2)]) (fun d => []) ?_ ?_
   ·simp only [go_sem]
    obtain ⟨g0, h⟩ := aH h
    repeat (refine ⟨by omega, ?_⟩)
    refine ⟨fun hc => ?_, fun hc => ?_⟩
    ·replace h := fV hc h
     obtain ⟨g0, h⟩ := aH h
     repeat (refine ⟨by omega, ?_⟩)
     obtain ⟨g0, h⟩ := aH h
     repeat (refine ⟨by omega, ?_⟩)
     refine dM hF (D := Int) (fun d => sat (iX F s_0 at_8 pow_10 all_9 d) Θ) [0, 6, 7, 9] (fun d => [(5, .val (.i .i64) d)]) (fun d => []) ?_ ?_
     ·simp only [go_sem]
      obtain ⟨g0, h⟩ := aH h
      repeat (refine ⟨by omega, ?_⟩)
      refine ⟨fun hc => ?_, fun hc => ?_⟩
      ·replace h := fV hc h
       obtain ⟨g0, h⟩ := aH h
       repeat (refine ⟨by omega, ?_⟩)
       exact aQ ((at_8 + (1 : Int)) + (1 : Int)) h rfl (by simp only [go_sem])
      ·replace h := fW hc h
       exact aQ (at_8 + (1 : Int)) h rfl (by simp only [go_sem])
     ·rintro at_19 h
      simp only [go_sem]
      replace h : sat (iX F s_0 at_8 pow_10 all_9 at_19) _ := h
      unfold iX at h
      obtain ⟨v_23, hv, h⟩ := aI h
      try simp only [hv, go_sem]
      refine ⟨fun hc => ?_, fun hc => ?_⟩
      ·replace h := fV hc h
       exact aE hF [.tmp 2, .tmp 3, .tmp 4] rfl rfl rfl (aA h) (by simp only [aM, go_sem])
      ·replace h := fW hc h
       obtain ⟨g0, h⟩ := aH h
       obtain ⟨g1, h⟩ := aH h
       repeat (refine ⟨by omega, ?_⟩)
       obtain ⟨v_27, hv, h⟩ := aI h
       try simp only [hv, go_sem]
       refine eI h (fun hc h => ?_) fun hc h => ?_
       ·exact aE hF [.tmp 2, .tmp 3, .tmp 4] rfl rfl rfl (aA h) (by simp only [aM, go_sem])
       ·refine dM hF (D := Int) (fun d => sat (iW F pow_10 at_19 v_23 all_9 s_0 d) Θ) [0, 5, 6, 7, 10] (fun d => [(11, .val (.i .i64) d)]) (fun d => []) ?_ ?_
        ·simp only [go_sem]
         refine ⟨fun hc => ?_, fun hc => ?_⟩
         ·replace h := fV hc h
          obtain ⟨g0, h⟩ := aH h
          repeat (refine ⟨by omega, ?_⟩)
          exact aQ (0 - v_27.1) h rfl (by simp only [go_sem])
         ·replace h := fW hc h
          exact aQ v_27.1 h rfl (by simp only [go_sem])
        ·rintro x_28 h
         simp only [go_sem]
         replace h : sat (iW F pow_10 at_19 v_23 all_9 s_0 x_28) _ := h
         unfold iW at h
         obtain ⟨g0, h⟩ := aH h
         obtain ⟨g1, h⟩ := aH h
         repeat (refine ⟨by omega, ?_⟩)
         exact aQ ((at_19 + v_23), (pow_10 + x_28)) h rfl (by simp only [go_sem])
    ·replace h := fW hc h
     exact aQ (at_8, pow_10) h rfl (by simp only [go_sem])
   ·rintro ⟨at_17, pow_18⟩ h
    simp only [go_sem]
    replace h : sat (iV F all_9 s_0 at_17 pow_18) _ := h
    unfold iV at h
    exact aE hF [.tmp 2, .tmp 3, .tmp 4] rfl rfl rfl (aA h) (by simp only [aM, go_sem])
attribute [go_sem] jM
noncomputable def aAz (F : Md) (n_1 : Int) (b_0 : Nat) (m_13 : (List Nat)) (x8_14 : Int) : Option (((List Nat) × Int) ⊕ (List Nat)) :=
 if x8_14 < n_1 then (gZ F m_13 ([b_0] : List Nat)).bind (fun v_23 => ck (I64 (x8_14 + (1 : Int))) (some (.inl (v_23, (x8_14 + (1 : Int)))))) else some (.inr m_13)
noncomputable def qF (F : Md) (b_0 : Nat) (n_1 : Int) : Option (List Nat) :=
 (dB F (fun d : (List Nat) × Int => aAz F n_1 b_0 d.1 d.2) (([1] : List Nat), (0 : Int))).bind (fun e => some e)
def aGX : PlR := ⟨[], []⟩
def aI5 : Ty := .pair (.u .u64) (.pair (.i .i64) .unit)
noncomputable def qT (F : Md) : aF := mSpec aI5 (.one (.sl (.u .u64))) (fun x => qF F x.1 x.2.1)
noncomputable def aI6 (F : Md) : List (FuncId × aF) := [(94, (eV F))]
theorem aOR (F : Md) : bA Tryz.prog GL (aI6 F) := .cons (qP F) (by kernel_rfl) (.nil)
theorem aLy (F : Md) : gam (aI6 F) 94 = some (eV F) := rfl
attribute [go_sem] aI5 aGX aLy
set_option maxHeartbeats 4000000 in
theorem aGY (F : Md) : FOK Tryz.prog GL 96 (qT F) := by
 refine bF (aT (aOR F)) mix Tryz.func96 rfl (by kernel_rfl) (by decide) aGX fun w0 S x Θ hw h hF => ?_
 obtain ⟨(b_0 : Nat), (n_1 : Int), u⟩ := x
 simp only [bJ, go_sem]
 replace h : sat (qF F b_0 n_1) _ := h
 unfold qF at h
 refine tG hF [0, 1] ?_
 simp only [go_sem]
 refine tG hF [0, 1, 5] ?_
 simp only [go_sem]
 refine tG hF [0, 5, 7, 8] ?_
 simp only [go_sem]
 refine bQ hF (D := (List Nat) × Int) [0, 7] (fun d => [(5, .val (.sl (.u .u64)) d.1), (8, .val (.i .i64) d.2)]) (fun d => []) h rfl (by simp only [go_sem]) ?_
 rintro ⟨m_13, x8_14⟩ A3 T3 hA3 hE3 h
 simp only [go_sem]
 replace h : sat (aAz F n_1 b_0 m_13 x8_14) _ := h
 unfold aAz at h
 refine tG hF [0, 5, 7, 8, 9] ?_
 simp only [go_sem]
 refine eI h (fun hc h => ?_) fun hc h => ?_
 ·refine tG hF [0, 5, 7, 8] ?_
  simp only [go_sem]
  obtain ⟨v_23, hv, h⟩ := aI h
  try simp only [hv, go_sem]
  refine tG hF [0, 5, 7, 8] ?_
  simp only [go_sem]
  refine aP h fun g0 h => ?_
  replace h := hA3 _ (aA h)
  exact aQ _ h rfl (by simp only [go_sem])
 ·replace h := hE3 _ (aA h)
  try dsimp only at h
  refine tG hF [4] ?_
  simp only [go_sem]
  exact aE hF [.tmp 4] rfl rfl rfl (aA h) (by simp only [aM, go_sem])
attribute [go_sem] qT
noncomputable def yG (F : Md) (s_0 : (List Nat)) (m_24 : (List Nat)) (x9_25 : Int) : Option (((List Nat) × Int) ⊕ (List Nat)) :=
 if x9_25 < (((s_0.length) : Nat) : Int) then ck (0 ≤ x9_25 ∧ x9_25 < (((s_0.length) : Nat) : Int)) ((gZ F m_24 ([10] : List Nat)).bind (fun v_44 => (aAq F ([(tF F .u8 (s_0.getD (x9_25.toNat) (0 : Nat)) (48 : Nat))] : List Nat)).bind (fun v_45 => (aCs F v_44 v_45).bind (fun v_46 => ck (I64 (x9_25 + (1 : Int))) (some (.inl (v_46, (x9_25 + (1 : Int))))))))) else some (.inr m_24)
noncomputable def uY (F : Md) (s_0 : (List Nat)) : Option (List Nat) :=
 (dB F (fun d : (List Nat) × Int => yG F s_0 d.1 d.2) (([] : List Nat), (0 : Int))).bind (fun e => some e)
def aEV : PlR := ⟨[], []⟩
def aGZ : Ty := .pair .str .unit
noncomputable def pE (F : Md) : aF := mSpec aGZ (.one (.sl (.u .u64))) (fun x => uY F x.1)
noncomputable def zM (F : Md) : List (FuncId × aF) := [(231, (tN F)), (94, (eV F)), (99, (aAT F))]
theorem aNN (F : Md) : bA Tryz.prog GL (zM F) := .cons (aIN F) (by kernel_rfl) (.cons (qP F) (by kernel_rfl) (.cons (aOK F) (by kernel_rfl) (.nil)))
theorem aH3 (F : Md) : gam (zM F) 231 = some (tN F) := rfl
theorem aJD (F : Md) : gam (zM F) 94 = some (eV F) := rfl
theorem aJE (F : Md) : gam (zM F) 99 = some (aAT F) := rfl
attribute [go_sem] aGZ aEV aH3 aJD aJE
set_option maxHeartbeats 4000000 in
theorem aEW (F : Md) : FOK Tryz.prog GL 179 (pE F) := by
 refine bF (aT (aNN F)) mix Tryz.func179 rfl (by kernel_rfl) (by decide) aEV fun w0 S x Θ hw h hF => ?_
 obtain ⟨(s_0 : (List Nat)), u⟩ := x
 simp only [bJ, go_sem]
 replace h : sat (uY F s_0) _ := h
 unfold uY at h
 refine tG hF [0] ?_
 simp only [go_sem, bG F, bH F, bI F]
 refine tG hF [0, 3] ?_
 simp only [go_sem, bG F, bH F, bI F]
 refine tG hF [3, 7, 8, 9] ?_
 simp only [go_sem, bG F, bH F, bI F]
 refine bQ hF (D := (List Nat) × Int) [7, 8] (fun d => [(3, .val (.sl (.u .u64)) d.1), (9, .val (.i .i64) d.2)]) (fun d => []) h rfl (by simp only [go_sem, bG F, bH F, bI F]) ?_
 rintro ⟨m_24, x9_25⟩ A3 T3 hA3 hE3 h
 simp only [go_sem, bG F, bH F, bI F]
 replace h : sat (yG F s_0 m_24 x9_25) _ := h
 unfold yG at h
 refine tG hF [3, 7, 8, 9, 10] ?_
 simp only [go_sem, bG F, bH F, bI F]
 refine eI h (fun hc h => ?_) fun hc h => ?_
 ·refine tG hF [3, 5, 7, 8, 9] ?_
  simp only [go_sem, bG F, bH F, bI F]
  refine aP h fun g0 h => ?_
  refine tG hF [3, 7, 8, 9] ?_
  simp only [go_sem, bG F, bH F, bI F]
  obtain ⟨v_44, hv, h⟩ := aI h
  try simp only [hv, go_sem, bG F, bH F, bI F]
  obtain ⟨v_45, hv, h⟩ := aI h
  try simp only [hv, go_sem, bG F, bH F, bI F]
  obtain ⟨v_46, hv, h⟩ := aI h
  try simp only [hv, go_sem, bG F, bH F, bI F]
  refine tG hF [3, 7, 8, 9] ?_
  simp only [go_sem, bG F, bH F, bI F]
  refine aP h fun g0 h => ?_
  replace h := hA3 _ (aA h)
  exact aQ _ h rfl (by simp only [go_sem, bG F, bH F, bI F])
 ·replace h := hE3 _ (aA h)
  try dsimp only at h
  refine tG hF [2] ?_
  simp only [go_sem, bG F, bH F, bI F]
  exact aE hF [.tmp 2] rfl rfl rfl (aA h) (by simp only [aM, go_sem, bG F, bH F, bI F])
attribute [go_sem] pE
noncomputable def tH (F : Md) (s_0 : (List Nat)) : Option Bool :=
 (lQ F s_0).bind (fun v_5 => some v_5.2.2.1)
def aI7 : PlR := ⟨[(0, .A [0]), (1, .A [5]), (2, .A [2])], []⟩
def aLz : Ty := .pair .str .unit
noncomputable def aA0 (F : Md) : aF := mSpec aLz (.one .bool) (fun x => tH F x.1)
noncomputable def aLA (F : Md) : List (FuncId × aF) := [(178, (jM F))]
theorem aPM (F : Md) : bA Tryz.prog GL (aLA F) := .cons (aAy F) (by kernel_rfl) (.nil)
theorem aLB (F : Md) : gam (aLA F) 178 = some (jM F) := rfl
attribute [go_sem] aLz aI7 aLB
set_option maxHeartbeats 4000000 in
theorem aOS (F : Md) : FOK Tryz.prog GL 128 (aA0 F) := by
 refine bF (aT (aPM F)) mix Tryz.func128 rfl (by kernel_rfl) (by decide) aI7 fun w0 S x Θ hw h hF => ?_
 obtain ⟨(s_0 : (List Nat)), u⟩ := x
 simp only [bJ, go_sem]
 replace h : sat (tH F s_0) _ := h
 unfold tH at h
 obtain ⟨v_5, hv, h⟩ := aI h
 try simp only [hv, go_sem]
 exact aE hF [.tmp 2] rfl rfl rfl (aA h) (by simp only [aM, go_sem])
attribute [go_sem] aA0
noncomputable def aA1 (F : Md) (s_0 : (List Nat)) : Option ((List Nat) × ((List Nat) × (Bool × Unit))) :=
 (lQ F s_0).bind (fun v_5 => if ¬ (v_5.2.2.1 = true) then some (([] : List Nat), ([] : List Nat), false, ()) else (uY F v_5.1).bind (fun v_18 => (qF F (10 : Nat) (max v_5.2.1 (0 : Int))).bind (fun v_19 => (gZ F v_18 v_19).bind (fun v_20 => ck (I64 (0 - v_5.2.1)) ((qF F (10 : Nat) (max (0 - v_5.2.1) (0 : Int))).bind (fun v_21 => some (v_20, v_21, true, ())))))))
def aG0 : PlR := ⟨[(0, .A [0]), (1, .A [5, 6, 7]), (2, .A [5, 6, 15]), (3, .A [2, 3, 4]), (4, .A [2, 3, 4])], []⟩
def aI8 : Ty := .pair .str .unit
noncomputable def zN (F : Md) : aF := mSpec aI8 (.tup (.pair (.sl (.u .u64)) (.pair (.sl (.u .u64)) (.pair .bool .unit)))) (fun x => aA1 F x.1)
noncomputable def xX (F : Md) : List (FuncId × aF) := [(178, (jM F)), (179, (pE F)), (94, (eV F)), (96, (qT F))]
theorem aOT (F : Md) : bA Tryz.prog GL (xX F) := .cons (aAy F) (by kernel_rfl) (.cons (aEW F) (by kernel_rfl) (.cons (qP F) (by kernel_rfl) (.cons (aGY F) (by kernel_rfl) (.nil))))
theorem aJF (F : Md) : gam (xX F) 178 = some (jM F) := rfl
theorem aJG (F : Md) : gam (xX F) 179 = some (pE F) := rfl
theorem aLC (F : Md) : gam (xX F) 94 = some (eV F) := rfl
theorem aLD (F : Md) : gam (xX F) 96 = some (qT F) := rfl
attribute [go_sem] aI8 aG0 aJF aJG aLC aLD
set_option maxHeartbeats 4000000 in
theorem aNO (F : Md) : FOK Tryz.prog GL 116 (zN F) := by
 refine bF (aT (aOT F)) mix Tryz.func116 rfl (by kernel_rfl) (by decide) aG0 fun w0 S x Θ hw h hF => ?_
 obtain ⟨(s_0 : (List Nat)), u⟩ := x
 simp only [bJ, go_sem]
 replace h : sat (aA1 F s_0) _ := h
 unfold aA1 at h
 obtain ⟨v_5, hv, h⟩ := aI h
 try simp only [hv, go_sem]
 refine aBc h (fun hc h => ?_) fun hc h => ?_
 ·exact aE hF [.tmp 2, .tmp 3, .tmp 4] rfl rfl rfl (aA h) (by simp only [aM, go_sem])
 ·obtain ⟨v_18, hv, h⟩ := aI h
  try simp only [hv, go_sem]
  obtain ⟨v_19, hv, h⟩ := aI h
  try simp only [hv, go_sem]
  obtain ⟨v_20, hv, h⟩ := aI h
  try simp only [hv, go_sem]
  refine aP h fun g0 h => ?_
  obtain ⟨v_21, hv, h⟩ := aI h
  try simp only [hv, go_sem]
  exact aE hF [.tmp 2, .tmp 3, .tmp 4] rfl rfl rfl (aA h) (by simp only [aM, go_sem])
attribute [go_sem] zN
noncomputable def aA2 (F : Md) (s_0 : (List Nat)) : Option ((Bool × ((List Nat) × (Int × Unit))) × (Int × Unit)) :=
 (lQ F s_0).bind (fun v_5 => if ¬ (v_5.2.2.1 = true) then some ((false, ([] : List Nat), (0 : Int), ()), (6 : Int), ()) else (uY F v_5.1).bind (fun v_21 => (qF F (5 : Nat) (max v_5.2.1 (0 : Int))).bind (fun v_22 => (gZ F v_21 v_22).bind (fun v_23 => ck (I64 (0 - v_5.2.1)) ((qF F (5 : Nat) (max (0 - v_5.2.1) (0 : Int))).bind (fun v_24 => (zE F v_23 v_24).bind (fun v_25 => (aAw F false v_25.1 v_5.2.1).bind (fun v_27 => if ((0 : Int) < (((v_25.2.1.length) : Nat) : Int)) ∨ (¬ (v_27.2.1 = (0 : Int))) then some ((false, ([] : List Nat), (0 : Int), ()), (6 : Int), ()) else some (v_27.1, (0 : Int), ())))))))))
def aG1 : PlR := ⟨[(0, .B [0, 2]), (1, .A [2, 4, 5, 6]), (2, .A [2, 4, 5, 18]), (3, .B [2, 3]), (4, .A [2, 5, 7, 8]), (5, .B [2, 8, 9, 10]), (6, .A [2, 9, 46]), (7, .B [2, 3]), (8, .B [2, 3])], []⟩
def aI9 : Ty := .pair .str .unit
noncomputable def zO (F : Md) : aF := mSpec aI9 (.tup (.pair (.pair .bool (.pair (.sl (.u .u64)) (.pair (.i .i64) .unit))) (.pair (.i .i64) .unit))) (fun x => aA2 F x.1)
noncomputable def qG (F : Md) : List (FuncId × aF) := [(117, (tR F)), (166, (xA F)), (178, (jM F)), (179, (pE F)), (94, (eV F)), (96, (qT F))]
theorem aOU (F : Md) : bA Tryz.prog GL (qG F) := .cons (aIX F) (by kernel_rfl) (.cons (aL9 F) (by kernel_rfl) (.cons (aAy F) (by kernel_rfl) (.cons (aEW F) (by kernel_rfl) (.cons (qP F) (by kernel_rfl) (.cons (aGY F) (by kernel_rfl) (.nil))))))
theorem aJH (F : Md) : gam (qG F) 117 = some (tR F) := rfl
theorem aJI (F : Md) : gam (qG F) 166 = some (xA F) := rfl
theorem aJJ (F : Md) : gam (qG F) 178 = some (jM F) := rfl
theorem aJK (F : Md) : gam (qG F) 179 = some (pE F) := rfl
theorem aLE (F : Md) : gam (qG F) 94 = some (eV F) := rfl
theorem aLF (F : Md) : gam (qG F) 96 = some (qT F) := rfl
attribute [go_sem] aI9 aG1 aJH aJI aJJ aJK aLE aLF
set_option maxHeartbeats 4000000 in
theorem aNP (F : Md) : FOK Tryz.prog GL 133 (zO F) := by
 refine bF (aT (aOU F)) mix Tryz.func133 rfl (by kernel_rfl) (by decide) aG1 fun w0 S x Θ hw h hF => ?_
 obtain ⟨(s_0 : (List Nat)), u⟩ := x
 simp only [bJ, go_sem]
 replace h : sat (aA2 F s_0) _ := h
 unfold aA2 at h
 obtain ⟨v_5, hv, h⟩ := aI h
 try simp only [hv, go_sem]
 refine aBc h (fun hc h => ?_) fun hc h => ?_
 ·exact aE hF [.cell 2 25, .tmp 3] rfl rfl rfl (aA h) (by simp only [aM, go_sem])
 ·obtain ⟨v_21, hv, h⟩ := aI h
  try simp only [hv, go_sem]
  obtain ⟨v_22, hv, h⟩ := aI h
  try simp only [hv, go_sem]
  obtain ⟨v_23, hv, h⟩ := aI h
  try simp only [hv, go_sem]
  refine aP h fun g0 h => ?_
  obtain ⟨v_24, hv, h⟩ := aI h
  try simp only [hv, go_sem]
  obtain ⟨v_25, hv, h⟩ := aI h
  try simp only [hv, go_sem]
  obtain ⟨v_27, hv, h⟩ := aI h
  try simp only [hv, go_sem]
  refine ⟨fun hc => ?_, fun hc => ?_⟩
  ·replace h := fV hc h
   exact aE hF [.cell 2 25, .tmp 3] rfl rfl rfl (aA h) (by simp only [aM, go_sem])
  ·replace h := fW hc h
   exact aE hF [.cell 2 25, .tmp 3] rfl rfl rfl (aA h) (by simp only [aM, go_sem])
attribute [go_sem] zO
noncomputable def jH (F : Md) (a_0 : (Bool × ((List Nat) × (Int × Unit)))) (b_1 : (Bool × ((List Nat) × (Int × Unit)))) (n_2 : Int) : Option Bool :=
 (aEs F n_2 (0 : Int)).bind (fun v_5 => (aCA F b_1 v_5.1).bind (fun v_7 => ck ((v_7.2.1 = (0 : Int)) → ((wQ F a_0 v_7.1).isSome = true)) (some ((decide (v_7.2.1 = (0 : Int))) && (decide (((wQ F a_0 v_7.1).getD (0 : Int)) ≤ (0 : Int)))))))
def aEX : PlR := ⟨[(0, .B [2, 3, 4]), (1, .B [3, 4, 7]), (2, .B [3, 9, 10]), (3, .A [6])], []⟩
def aG2 : Ty := .pair (.pair .bool (.pair (.sl (.u .u64)) (.pair (.i .i64) .unit))) (.pair (.pair .bool (.pair (.sl (.u .u64)) (.pair (.i .i64) .unit))) (.pair (.i .i64) .unit))
noncomputable def xE (F : Md) : aF := mSpec aG2 (.one .bool) (fun x => jH F x.1 x.2.1 x.2.2.1)
noncomputable def zP (F : Md) : List (FuncId × aF) := [(200, (aCx F)), (201, (aAY F)), (22, (tS F))]
theorem aNQ (F : Md) : bA Tryz.prog GL (zP F) := .cons (aPK F) (by kernel_rfl) (.cons (aOQ F) (by kernel_rfl) (.cons (aI3 F) (by kernel_rfl) (.nil)))
theorem aH4 (F : Md) : gam (zP F) 200 = some (aCx F) := rfl
theorem aH5 (F : Md) : gam (zP F) 201 = some (aAY F) := rfl
theorem aJL (F : Md) : gam (zP F) 22 = some (tS F) := rfl
attribute [go_sem] aG2 aEX aH4 aH5 aJL
set_option maxHeartbeats 4000000 in
theorem aMk (F : Md) : FOK Tryz.prog GL 134 (xE F) := by
 refine bF (aT (aNQ F)) mix Tryz.func134 rfl (by kernel_rfl) (by decide) aEX fun w0 S x Θ hw h hF => ?_
 obtain ⟨(a_0 : (Bool × ((List Nat) × (Int × Unit)))), (b_1 : (Bool × ((List Nat) × (Int × Unit)))), (n_2 : Int), u⟩ := x
 simp only [bJ, go_sem]
 replace h : sat (jH F a_0 b_1 n_2) _ := h
 unfold jH at h
 obtain ⟨v_5, hv, h⟩ := aI h
 try simp only [hv, go_sem]
 obtain ⟨v_7, hv, h⟩ := aI h
 try simp only [hv, go_sem]
 refine aP h fun g0 h => ?_
 exact aE hF [.tmp 6] rfl rfl rfl (aA h) (by simp only [aM, go_sem])
attribute [go_sem] xE
end Nu
end Go.Proofs
