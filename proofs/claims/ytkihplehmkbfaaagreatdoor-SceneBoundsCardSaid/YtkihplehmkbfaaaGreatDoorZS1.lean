import Derived.Test.YtkihplehmkbfaaaGreatDoorZL6
import Derived.Test.YtkihplehmkbfaaaGreatDoorProg
import Derived.KernelRfl
import Derived.Laws.Externs
set_option linter.unusedVariables false
set_option linter.unusedSimpArgs false
namespace Go.Proofs
open Go.Vc
set_option maxRecDepth 20000
namespace Nu
theorem zAA {p : Prop} (h : p := by first | with_reducible assumption | omega | (intros; first | with_reducible assumption | omega) | (simp only [go_sem] at *; first | with_reducible assumption | omega) | (intro _; exact ⟨rfl, by decide⟩) | (intro _; refine (?_ : _ = aV _); rfl) | exact ⟨rfl, rfl⟩ | decide) : p := h
theorem zAB {p : Prop} (h : p := by first | exact hc | omega | (simpa using hc) | (simp at hc ⊢; omega)) : p := h
theorem zAC {p : Prop} (h : p := by first | exact q0 | omega | (simpa using q0)) : p := h
theorem zAD {p : Prop} (h : p := by first | with_reducible assumption | omega | (intros; first | with_reducible assumption | omega) | (simp only [go_sem] at *; first | with_reducible assumption | omega) | (intro _; exact ⟨rfl, by decide⟩) | (intro _; refine (?_ : _ = aV _); rfl) | exact ⟨rfl, rfl⟩ | (intro q0; (try have e0 := g0 zAC); first | assumption | omega) | decide) : p := h
theorem zAE {p : Prop} (h : p := by first | with_reducible assumption | omega | (intros; first | with_reducible assumption | omega) | (simp only [go_sem] at *; first | with_reducible assumption | omega) | (intro _; exact ⟨rfl, by decide⟩) | (intro _; refine (?_ : _ = aV _); rfl) | exact ⟨rfl, rfl⟩ | (intro q0; (try have e0 := g0 zAC); (try have e1 := g1 zAC); first | assumption | omega) | decide) : p := h
theorem zAF {p : Prop} (h : p := by (try simp only [iI, gA, true_or, and_self, go_sem]) <;> (repeat' apply And.intro) <;> first | rfl | (left; rfl) | (right; rfl) | (left; simp only [go_sem]; done) | (right; simp only [go_sem]; done) | (simp; done) | (simp only [*]; done) | omega) : p := h
theorem zAG {p : Prop} (h : p := by (try simp only [iA, aS, go_sem]) <;> first | rfl | (simp; done)) : p := h
def aQK : List Nat := [0, 1, 56, 2, 57, 49, 28, 3, 61, 58, 42, 50, 38, 29, 17, 4, 62, 47, 59, 36, 45, 43, 51, 22, 53, 39, 33, 30, 24, 18, 12, 5, 63, 55, 48, 27, 60, 41, 37, 16, 46, 35, 44, 21, 52, 32, 23, 11, 54, 26, 40, 15, 34, 20, 31, 10, 25, 14, 19, 9, 13, 8, 7, 6]
theorem aRF : aQK = [0, 1, 56, 2, 57, 49, 28, 3, 61, 58, 42, 50, 38, 29, 17, 4, 62, 47, 59, 36, 45, 43, 51, 22, 53, 39, 33, 30, 24, 18, 12, 5, 63, 55, 48, 27, 60, 41, 37, 16, 46, 35, 44, 21, 52, 32, 23, 11, 54, 26, 40, 15, 34, 20, 31, 10, 25, 14, 19, 9, 13, 8, 7, 6] := rfl
def p10 : List Nat := [1, 10, 100, 1000, 10000, 100000, 1000000, 10000000, 100000000, 1000000000, 10000000000, 100000000000, 1000000000000, 10000000000000, 100000000000000, 1000000000000000, 10000000000000000, 100000000000000000, 1000000000000000000, 10000000000000000000]
theorem aSg : p10 = [1, 10, 100, 1000, 10000, 100000, 1000000, 10000000, 100000000, 1000000000, 10000000000, 100000000000, 1000000000000, 10000000000000, 100000000000000, 1000000000000000, 10000000000000000, 100000000000000000, 1000000000000000000, 10000000000000000000] := rfl
noncomputable def GL : Nat → AV
 | 0 => .roa (.arr 64 (.u .u8)) aQK
 | 1 => .roa (.arr 20 (.u .u64)) p10
 | _ => .junk
theorem GL0 : GL 0 = .roa (.arr 64 (.u .u8)) aQK := rfl
theorem GL3 : GL 1 = .roa (.arr 20 (.u .u64)) p10 := rfl
attribute [go_sem] GL0 GL3 mSpec
def tab : List (TypeId × Ty) := [(258, .clo 239 .unit), (2, .i .i64), (3, .i .i64), (4, .bool), (5, .u .u8), (9, .str), (21, .i .i32), (22, .sl (.pair (.i .i64) (.pair (.i .i64) (.pair (.i .i64) (.pair (.pair .bool (.pair (.sl (.u .u64)) (.pair (.i .i64) .unit))) (.pair (.pair .bool (.pair (.sl (.u .u64)) (.pair (.i .i64) .unit))) (.pair (.sl (.sl (.pair (.pair .bool (.pair (.sl (.u .u64)) (.pair (.i .i64) .unit))) (.pair (.pair .bool (.pair (.sl (.u .u64)) (.pair (.i .i64) .unit))) .unit)))) (.pair (.sl (.sl (.pair (.sl (.pair .bool (.pair (.sl (.u .u64)) (.pair (.i .i64) .unit)))) (.pair (.sl (.pair (.pair .bool (.pair (.sl (.u .u64)) (.pair (.i .i64) .unit))) (.pair (.pair .bool (.pair (.sl (.u .u64)) (.pair (.i .i64) .unit))) .unit))) .unit)))) .unit)))))))), (23, .sl (.u .u64)), (25, .pair .bool (.pair (.sl (.u .u64)) (.pair (.i .i64) .unit))), (27, .pair (.pair .bool (.pair (.sl (.u .u64)) (.pair (.i .i64) .unit))) (.pair (.pair .bool (.pair (.sl (.u .u64)) (.pair (.i .i64) .unit))) .unit)), (30, .sl (.sl (.pair (.pair .bool (.pair (.sl (.u .u64)) (.pair (.i .i64) .unit))) (.pair (.pair .bool (.pair (.sl (.u .u64)) (.pair (.i .i64) .unit))) .unit)))), (31, .sl (.sl (.pair (.sl (.pair .bool (.pair (.sl (.u .u64)) (.pair (.i .i64) .unit)))) (.pair (.sl (.pair (.pair .bool (.pair (.sl (.u .u64)) (.pair (.i .i64) .unit))) (.pair (.pair .bool (.pair (.sl (.u .u64)) (.pair (.i .i64) .unit))) .unit))) .unit)))), (33, .pair (.i .i64) (.pair (.i .i64) (.pair (.i .i64) (.pair (.pair .bool (.pair (.sl (.u .u64)) (.pair (.i .i64) .unit))) (.pair (.pair .bool (.pair (.sl (.u .u64)) (.pair (.i .i64) .unit))) (.pair (.sl (.sl (.pair (.pair .bool (.pair (.sl (.u .u64)) (.pair (.i .i64) .unit))) (.pair (.pair .bool (.pair (.sl (.u .u64)) (.pair (.i .i64) .unit))) .unit)))) (.pair (.sl (.sl (.pair (.sl (.pair .bool (.pair (.sl (.u .u64)) (.pair (.i .i64) .unit)))) (.pair (.sl (.pair (.pair .bool (.pair (.sl (.u .u64)) (.pair (.i .i64) .unit))) (.pair (.pair .bool (.pair (.sl (.u .u64)) (.pair (.i .i64) .unit))) .unit))) .unit)))) .unit))))))), (39, .u .u64), (45, .sl .expr), (47, .expr), (48, .sl .str), (51, .sl (.pair .str (.pair (.sl (.pair .str (.pair (.pair .str (.pair .str .unit)) (.pair .expr .unit)))) (.pair (.sl (.pair .str (.pair (.pair .str (.pair .str .unit)) .unit))) (.pair (.sl .str) (.pair (.sl (.pair .str (.pair .expr .unit))) .unit)))))), (52, .sl (.pair .str (.pair .str (.pair .str (.pair .str .unit))))), (54, .pair (.i .i64) (.pair (.i .i64) (.pair (.i .i64) (.pair (.i .i64) (.pair .str (.pair .str (.pair .str (.pair .str (.pair (.sl (.pair .str (.pair (.sl (.pair .str (.pair (.pair .str (.pair .str .unit)) (.pair .expr .unit)))) (.pair (.sl (.pair .str (.pair (.pair .str (.pair .str .unit)) .unit))) (.pair (.sl .str) (.pair (.sl (.pair .str (.pair .expr .unit))) .unit)))))) (.pair (.sl (.pair .str (.pair .str (.pair .str (.pair .str .unit))))) .unit)))))))))), (56, .sl (.pair .str (.pair (.pair .str (.pair .str .unit)) (.pair .expr .unit)))), (57, .sl (.pair .str (.pair (.pair .str (.pair .str .unit)) .unit))), (58, .sl (.pair .str (.pair .expr .unit))), (60, .pair .str (.pair (.sl (.pair .str (.pair (.pair .str (.pair .str .unit)) (.pair .expr .unit)))) (.pair (.sl (.pair .str (.pair (.pair .str (.pair .str .unit)) .unit))) (.pair (.sl .str) (.pair (.sl (.pair .str (.pair .expr .unit))) .unit))))), (62, .pair .str (.pair .str .unit)), (64, .pair .str (.pair (.pair .str (.pair .str .unit)) (.pair .expr .unit))), (68, .pair .str (.pair .str (.pair .str (.pair .str .unit)))), (71, .pair .str (.pair (.pair .str (.pair .str .unit)) .unit)), (73, .pair .str (.pair .expr .unit)), (81, .sl (.i .i64)), (83, .u .u64), (85, .sl (.pair (.pair .bool (.pair (.sl (.u .u64)) (.pair (.i .i64) .unit))) (.pair (.pair .bool (.pair (.sl (.u .u64)) (.pair (.i .i64) .unit))) .unit))), (86, .sl (.pair (.sl (.pair .bool (.pair (.sl (.u .u64)) (.pair (.i .i64) .unit)))) (.pair (.sl (.pair (.pair .bool (.pair (.sl (.u .u64)) (.pair (.i .i64) .unit))) (.pair (.pair .bool (.pair (.sl (.u .u64)) (.pair (.i .i64) .unit))) .unit))) .unit))), (88, .sl (.pair .bool (.pair (.sl (.u .u64)) (.pair (.i .i64) .unit)))), (90, .pair (.sl (.pair .bool (.pair (.sl (.u .u64)) (.pair (.i .i64) .unit)))) (.pair (.sl (.pair (.pair .bool (.pair (.sl (.u .u64)) (.pair (.i .i64) .unit))) (.pair (.pair .bool (.pair (.sl (.u .u64)) (.pair (.i .i64) .unit))) .unit))) .unit)), (91, .nilf), (98, .nilp), (99, .sl (.u .u8)), (101, .pair .nilp (.pair (.sl (.u .u8)) .unit)), (103, .nili), (140, .sl (.u .u32)), (146, .u .u32), (174, .arr 256 (.bool)), (202, .pair .bool (.pair (.sl (.u .u32)) (.pair (.i .i64) .unit))), (221, .nilf), (226, .sl (.sl .str)), (238, .arr 24 (.u .u8)), (242, .arr 64 (.u .u8)), (251, .pair (.i .i64) .unit), (254, .pair (.i .i64) .unit), (264, .arr 20 (.u .u64)), (265, .arr 65 (.u .u8)), (268, .arr 256 (.u .u8)), (270, .pair (.u .u8) (.pair (.u .u8) .unit)), (271, .arr 16 (.pair (.u .u8) (.pair (.u .u8) .unit))), (278, .i .i64), (284, .arr 32 (.u .u8)), (294, .pair .str .unit)]
def elT : TypeId → TypeId
 | 22 => 33
 | 23 => 83
 | 30 => 85
 | 31 => 86
 | 45 => 47
 | 48 => 9
 | 51 => 60
 | 52 => 68
 | 56 => 64
 | 57 => 71
 | 58 => 73
 | 81 => 3
 | 85 => 27
 | 86 => 90
 | 88 => 25
 | 99 => 5
 | 140 => 146
 | 226 => 48
 | _ => 0
def mpT : TypeId → Option (TypeId × TypeId)
 | 96 => some (3, 9)
 | 171 => some (9, 4)
 | _ => none
theorem aMV : gO Tryz.prog (aDQ tab) := aPt (by kernel_rfl)
theorem aSq : ∀ t ct, aDQ tab t = some (.sl ct) → Tryz.prog.underlying t = some (.slice (elT t)) := aRe (by kernel_rfl)
theorem aSr : ∀ t k e, mpT t = some (k, e) → Tryz.prog.underlying t = some (.map k e) := by
 intro t k e h
 unfold mpT at h
 split at h
 ·cases h; rfl
 ·cases h; rfl
 ·cases h
def TM : Tab := aDQ tab
noncomputable def EM (l : List (FuncId × aH)) : Env := ⟨TM, GL, fun f _ => gam l f, elT, mpT, fun _ => none, fun _ => false⟩
def dmT : TypeId → Option Mk
 | 48 => some .no
 | 51 => some (.pair .no (.pair (.sl 64 .no) (.pair (.sl 71 .no) (.pair (.sl 9 .no) (.pair (.sl 73 .no) .no)))))
 | 52 => some .no
 | 56 => some .no
 | 57 => some .no
 | 58 => some .no
 | _ => none
def dzT : TypeId → Bool
 | 54 => true
 | 60 => true
 | _ => false
noncomputable def EX (l : List (FuncId × aH)) : Env := ⟨TM, GL, fun f _ => gam l f, elT, mpT, dmT, dzT⟩
theorem aSJ (l : List (FuncId × aH)) (t : TypeId) : (EM l).T t = TM t := rfl
theorem aSK (l : List (FuncId × aH)) (t : Nat) : (EM l).G t = GL t := rfl
theorem aSL (l : List (FuncId × aH)) (f : FuncId) (vs : List AV) : (EM l).Γ f vs = gam l f := rfl
theorem aSs (l : List (FuncId × aH)) (t : TypeId) : (EM l).el t = elT t := rfl
theorem aSt (l : List (FuncId × aH)) (t : TypeId) : (EM l).mp t = mpT t := rfl
theorem aY {l : List (FuncId × aH)} (h : bD Tryz.prog GL l) : eO Tryz.prog (EM l) := aMH aMV aSq aSr h
theorem mix : Tryz.prog.follows .mixedOrders = true := by kernel_rfl
theorem aSu (l : List (FuncId × aH)) (t : TypeId) : (EM l).dm t = none := rfl
theorem aSv (l : List (FuncId × aH)) (t : TypeId) : (EM l).dz t = false := rfl
theorem aSM (l : List (FuncId × aH)) (t : TypeId) : (EX l).T t = TM t := rfl
theorem aSN (l : List (FuncId × aH)) (t : Nat) : (EX l).G t = GL t := rfl
theorem aSO (l : List (FuncId × aH)) (f : FuncId) (vs : List AV) : (EX l).Γ f vs = gam l f := rfl
theorem aSw (l : List (FuncId × aH)) (t : TypeId) : (EX l).el t = elT t := rfl
theorem aSx (l : List (FuncId × aH)) (t : TypeId) : (EX l).mp t = mpT t := rfl
theorem aSy (l : List (FuncId × aH)) (t : TypeId) : (EX l).dm t = dmT t := rfl
theorem aSz (l : List (FuncId × aH)) (t : TypeId) : (EX l).dz t = dzT t := rfl
theorem aLp {l : List (FuncId × aH)} (h : bD Tryz.prog GL l) : eO Tryz.prog (EX l) := aMH aMV aSq aSr h
attribute [go_sem] aSu aSv aSM aSN aSO aSw aSx aSy aSz dmT dzT
theorem T2 : TM 2 = some (.i .i64) := rfl
theorem T3 : TM 3 = some (.i .i64) := rfl
theorem T4 : TM 4 = some (.bool) := rfl
theorem T5 : TM 5 = some (.u .u8) := rfl
theorem T9 : TM 9 = some (.str) := rfl
theorem T21 : TM 21 = some (.i .i32) := rfl
theorem T22 : TM 22 = some (.sl (.pair (.i .i64) (.pair (.i .i64) (.pair (.i .i64) (.pair (.pair .bool (.pair (.sl (.u .u64)) (.pair (.i .i64) .unit))) (.pair (.pair .bool (.pair (.sl (.u .u64)) (.pair (.i .i64) .unit))) (.pair (.sl (.sl (.pair (.pair .bool (.pair (.sl (.u .u64)) (.pair (.i .i64) .unit))) (.pair (.pair .bool (.pair (.sl (.u .u64)) (.pair (.i .i64) .unit))) .unit)))) (.pair (.sl (.sl (.pair (.sl (.pair .bool (.pair (.sl (.u .u64)) (.pair (.i .i64) .unit)))) (.pair (.sl (.pair (.pair .bool (.pair (.sl (.u .u64)) (.pair (.i .i64) .unit))) (.pair (.pair .bool (.pair (.sl (.u .u64)) (.pair (.i .i64) .unit))) .unit))) .unit)))) .unit)))))))) := rfl
theorem T23 : TM 23 = some (.sl (.u .u64)) := rfl
theorem T25 : TM 25 = some (.pair .bool (.pair (.sl (.u .u64)) (.pair (.i .i64) .unit))) := rfl
theorem T27 : TM 27 = some (.pair (.pair .bool (.pair (.sl (.u .u64)) (.pair (.i .i64) .unit))) (.pair (.pair .bool (.pair (.sl (.u .u64)) (.pair (.i .i64) .unit))) .unit)) := rfl
theorem T30 : TM 30 = some (.sl (.sl (.pair (.pair .bool (.pair (.sl (.u .u64)) (.pair (.i .i64) .unit))) (.pair (.pair .bool (.pair (.sl (.u .u64)) (.pair (.i .i64) .unit))) .unit)))) := rfl
theorem T31 : TM 31 = some (.sl (.sl (.pair (.sl (.pair .bool (.pair (.sl (.u .u64)) (.pair (.i .i64) .unit)))) (.pair (.sl (.pair (.pair .bool (.pair (.sl (.u .u64)) (.pair (.i .i64) .unit))) (.pair (.pair .bool (.pair (.sl (.u .u64)) (.pair (.i .i64) .unit))) .unit))) .unit)))) := rfl
theorem T33 : TM 33 = some (.pair (.i .i64) (.pair (.i .i64) (.pair (.i .i64) (.pair (.pair .bool (.pair (.sl (.u .u64)) (.pair (.i .i64) .unit))) (.pair (.pair .bool (.pair (.sl (.u .u64)) (.pair (.i .i64) .unit))) (.pair (.sl (.sl (.pair (.pair .bool (.pair (.sl (.u .u64)) (.pair (.i .i64) .unit))) (.pair (.pair .bool (.pair (.sl (.u .u64)) (.pair (.i .i64) .unit))) .unit)))) (.pair (.sl (.sl (.pair (.sl (.pair .bool (.pair (.sl (.u .u64)) (.pair (.i .i64) .unit)))) (.pair (.sl (.pair (.pair .bool (.pair (.sl (.u .u64)) (.pair (.i .i64) .unit))) (.pair (.pair .bool (.pair (.sl (.u .u64)) (.pair (.i .i64) .unit))) .unit))) .unit)))) .unit))))))) := rfl
theorem T39 : TM 39 = some (.u .u64) := rfl
theorem T45 : TM 45 = some (.sl .expr) := rfl
theorem T47 : TM 47 = some (.expr) := rfl
theorem T48 : TM 48 = some (.sl .str) := rfl
theorem T51 : TM 51 = some (.sl (.pair .str (.pair (.sl (.pair .str (.pair (.pair .str (.pair .str .unit)) (.pair .expr .unit)))) (.pair (.sl (.pair .str (.pair (.pair .str (.pair .str .unit)) .unit))) (.pair (.sl .str) (.pair (.sl (.pair .str (.pair .expr .unit))) .unit)))))) := rfl
theorem T52 : TM 52 = some (.sl (.pair .str (.pair .str (.pair .str (.pair .str .unit))))) := rfl
theorem T54 : TM 54 = some (.pair (.i .i64) (.pair (.i .i64) (.pair (.i .i64) (.pair (.i .i64) (.pair .str (.pair .str (.pair .str (.pair .str (.pair (.sl (.pair .str (.pair (.sl (.pair .str (.pair (.pair .str (.pair .str .unit)) (.pair .expr .unit)))) (.pair (.sl (.pair .str (.pair (.pair .str (.pair .str .unit)) .unit))) (.pair (.sl .str) (.pair (.sl (.pair .str (.pair .expr .unit))) .unit)))))) (.pair (.sl (.pair .str (.pair .str (.pair .str (.pair .str .unit))))) .unit)))))))))) := rfl
theorem T56 : TM 56 = some (.sl (.pair .str (.pair (.pair .str (.pair .str .unit)) (.pair .expr .unit)))) := rfl
theorem T57 : TM 57 = some (.sl (.pair .str (.pair (.pair .str (.pair .str .unit)) .unit))) := rfl
theorem T58 : TM 58 = some (.sl (.pair .str (.pair .expr .unit))) := rfl
theorem T60 : TM 60 = some (.pair .str (.pair (.sl (.pair .str (.pair (.pair .str (.pair .str .unit)) (.pair .expr .unit)))) (.pair (.sl (.pair .str (.pair (.pair .str (.pair .str .unit)) .unit))) (.pair (.sl .str) (.pair (.sl (.pair .str (.pair .expr .unit))) .unit))))) := rfl
theorem T62 : TM 62 = some (.pair .str (.pair .str .unit)) := rfl
theorem T64 : TM 64 = some (.pair .str (.pair (.pair .str (.pair .str .unit)) (.pair .expr .unit))) := rfl
theorem T68 : TM 68 = some (.pair .str (.pair .str (.pair .str (.pair .str .unit)))) := rfl
theorem T71 : TM 71 = some (.pair .str (.pair (.pair .str (.pair .str .unit)) .unit)) := rfl
theorem T73 : TM 73 = some (.pair .str (.pair .expr .unit)) := rfl
theorem T81 : TM 81 = some (.sl (.i .i64)) := rfl
theorem T83 : TM 83 = some (.u .u64) := rfl
theorem T85 : TM 85 = some (.sl (.pair (.pair .bool (.pair (.sl (.u .u64)) (.pair (.i .i64) .unit))) (.pair (.pair .bool (.pair (.sl (.u .u64)) (.pair (.i .i64) .unit))) .unit))) := rfl
theorem T86 : TM 86 = some (.sl (.pair (.sl (.pair .bool (.pair (.sl (.u .u64)) (.pair (.i .i64) .unit)))) (.pair (.sl (.pair (.pair .bool (.pair (.sl (.u .u64)) (.pair (.i .i64) .unit))) (.pair (.pair .bool (.pair (.sl (.u .u64)) (.pair (.i .i64) .unit))) .unit))) .unit))) := rfl
theorem T88 : TM 88 = some (.sl (.pair .bool (.pair (.sl (.u .u64)) (.pair (.i .i64) .unit)))) := rfl
theorem T90 : TM 90 = some (.pair (.sl (.pair .bool (.pair (.sl (.u .u64)) (.pair (.i .i64) .unit)))) (.pair (.sl (.pair (.pair .bool (.pair (.sl (.u .u64)) (.pair (.i .i64) .unit))) (.pair (.pair .bool (.pair (.sl (.u .u64)) (.pair (.i .i64) .unit))) .unit))) .unit)) := rfl
theorem T91 : TM 91 = some (.nilf) := rfl
theorem T98 : TM 98 = some (.nilp) := rfl
theorem T99 : TM 99 = some (.sl (.u .u8)) := rfl
theorem aSP : TM 101 = some (.pair .nilp (.pair (.sl (.u .u8)) .unit)) := rfl
theorem aSQ : TM 103 = some (.nili) := rfl
theorem aSR : TM 140 = some (.sl (.u .u32)) := rfl
theorem aSS : TM 146 = some (.u .u32) := rfl
theorem aST : TM 174 = some (.arr 256 (.bool)) := rfl
theorem aSU : TM 202 = some (.pair .bool (.pair (.sl (.u .u32)) (.pair (.i .i64) .unit))) := rfl
theorem aSV : TM 221 = some (.nilf) := rfl
theorem aSW : TM 226 = some (.sl (.sl .str)) := rfl
theorem aSX : TM 238 = some (.arr 24 (.u .u8)) := rfl
theorem aSY : TM 242 = some (.arr 64 (.u .u8)) := rfl
theorem aSZ : TM 251 = some (.pair (.i .i64) .unit) := rfl
theorem aS0 : TM 254 = some (.pair (.i .i64) .unit) := rfl
theorem aS1 : TM 264 = some (.arr 20 (.u .u64)) := rfl
theorem aS2 : TM 265 = some (.arr 65 (.u .u8)) := rfl
theorem aS3 : TM 268 = some (.arr 256 (.u .u8)) := rfl
theorem aS4 : TM 270 = some (.pair (.u .u8) (.pair (.u .u8) .unit)) := rfl
theorem aS5 : TM 271 = some (.arr 16 (.pair (.u .u8) (.pair (.u .u8) .unit))) := rfl
theorem aS6 : TM 278 = some (.i .i64) := rfl
theorem aS7 : TM 284 = some (.arr 32 (.u .u8)) := rfl
theorem aS8 : TM 294 = some (.pair .str .unit) := rfl
theorem aS9 : TM 258 = some (.clo 239 .unit) := rfl
attribute [go_sem] aSJ aSK aSL aSs aSt elT mpT aS9 T2 T3 T4 T5 T9 T21 T22 T23 T25 T27 T30 T31 T33 T39 T45 T47 T48 T51 T52 T54 T56 T57 T58 T60 T62 T64 T68 T71 T73 T81 T83 T85 T86 T88 T90 T91 T98 T99 aSP aSQ aSR aSS aST aSU aSV aSW aSX aSY aSZ aS0 aS1 aS2 aS3 aS4 aS5 aS6 aS7 aS8
end Nu
end Go.Proofs
namespace Go.Proofs
open Go.Vc
set_option maxRecDepth 20000
namespace Nu
def aBI (x y c : Nat) : Nat × Nat × Unit := ((x + y + c) % 18446744073709551616, (x + y + c) / 18446744073709551616, ())
abbrev aLU (x y c : Nat) : Prop := c ≤ 1
def aFs : Ty := .pair (.u .u64) (.pair (.u .u64) (.pair (.u .u64) .unit))
noncomputable def nU : aH := ⟨aFs, .tup (.pair (.u .u64) (.pair (.u .u64) .unit)), fun x => aLU x.1 x.2.1 x.2.2.1, fun x => aBI x.1 x.2.1 x.2.2.1⟩
attribute [go_sem] nU aFs
theorem aLV {w : World} {S : Nat → Prop} {x : Nat} {v : Value} (h : cO w S (.u .u64) x v) : v = .int .u64 (x : Int) := by
 unfold cO at h
 rw [if_neg (by simp [Ty.isAgg])] at h
 simp only [aO, List.cons.injEq, and_true] at h
 exact h.1
theorem aNI {w : World} {S : Nat → Prop} {vs : List Value} {x : Nat × Nat × Nat × Unit} (h : lU w S (.pair (.u .u64) (.pair (.u .u64) (.pair (.u .u64) .unit))) x vs) : vs = [.int .u64 (x.1 : Int), .int .u64 (x.2.1 : Int), .int .u64 (x.2.2.1 : Int)] := by
 obtain ⟨v1, r1, rfl, h1, v2, r2, rfl, h2, v3, r3, rfl, h3, h4⟩ := h
 rw [aLV h1, aLV h2, aLV h3]
 have h4 : r3 = [] := h4
 rw [h4]
theorem aQL {w : World} {S : Nat → Prop} {x : Nat} (h : x < 18446744073709551616) : cO w S (.u .u64) x (.int .u64 (x : Int)) := by
 unfold cO
 rw [if_neg (by simp [Ty.isAgg])]
 refine ⟨rfl, rfl, ?_⟩
 simp [IntKind.max, IntKind.signed, IntKind.bits]; omega
theorem aQM {w : World} {S : Nat → Prop} {x y : Nat} (hx : x < 18446744073709551616) (hy : y < 18446744073709551616) : lU w S (.pair (.u .u64) (.pair (.u .u64) .unit)) (x, y, ()) [.int .u64 (x : Int), .int .u64 (y : Int)] :=
 ⟨_, _, rfl, aQL hx, _, _, rfl, aQL hy, rfl⟩
theorem wf_u64 {x : Nat} (h : (Ty.u .u64).wf x) : x < 18446744073709551616 := by
 simp only [Ty.wf, IntKind.max, IntKind.signed, IntKind.bits] at h
 simp at h; omega
theorem aDV : NOK Tryz.prog GL 162 nU := by
 refine aR4 fun w S vs x ha hp => ?_
 have hp : x.2.2.1 ≤ 1 := hp
 have hw := aFg _ _ _ ha
 obtain ⟨h1, h2, h3, _⟩ := hw
 have h1 := wf_u64 h1
 have h2 := wf_u64 h2
 rw [aNI ha]
 refine ⟨[.int .u64 (((x.1 + x.2.1 + x.2.2.1) % 18446744073709551616 : Nat) : Int), .int .u64 (((x.1 + x.2.1 + x.2.2.1) / 18446744073709551616 : Nat) : Int)], ?_, aQM (by omega) (by omega)⟩
 rw [run_callFunc_extern Tryz.func162 (by kernel_rfl) (by kernel_rfl) (by kernel_rfl) (e := add64Entry) (by kernel_rfl), run_add64 x.1 x.2.1 x.2.2.1 (by omega) (by omega) (by omega) (by omega)]
 simp only [Result.andThen]
 congr 5 <;> omega
abbrev aQN (s : List Nat) : Prop := s.length * 8 ≤ 140737488355328
def oA : Ty := .pair (.sl (.u .u64)) .unit
noncomputable def cB : aH := ⟨oA, .own 83 (.u .u64), fun x => aQN x.1, fun x => id x.1⟩
attribute [go_sem] cB oA
noncomputable def uG (F : Md) : List (FuncId × aH) := []
theorem uH (F : Md) : bD Tryz.prog GL (uG F) := .nil
theorem kE : FOK Tryz.prog GL 165 cB := by
 refine aNv (aY (uH none)) Tryz.func165 rfl (by kernel_rfl) (by decide) fun w0 S x hw hp => ?_
 have hF : jS (fr Tryz.prog (EM (uG none)) S w0 Tryz.f165.ntmps) := ⟨aY (uH none), mix⟩
 obtain ⟨(s : (List Nat)), u⟩ := x
 have hp : s.length * 8 ≤ 140737488355328 := hp
 simp only [bK, oA, cB]
 refine aC (aE hF [0, 2] ?_)
 simp only [go_sem]
 refine aD (aC (aC (aLm hF rfl rfl rfl fun b hb => ?_)))
 refine aD (bS rfl (fun hc => ?_) (fun hc => ?_))
 ·have hs := hb hc
  refine aC (aE hF [2] ?_)
  simp only [go_sem]
  refine aD (dE (dJ (fD hF [.tmp 2] rfl rfl rfl ?_)))
  simp only [iA, aS, go_sem, hs]
  try trivial
 ·refine cR (aD (aC (aX hF [2] ?_)))
  simp only [go_sem]
  refine ⟨by omega, ?_⟩
  refine aD (dE (fD hF [.tmp 2] rfl rfl rfl ?_))
  simp only [iA, aS, go_sem]
  try trivial
end Nu
end Go.Proofs
namespace Go.Proofs
open Go.Vc
set_option maxRecDepth 20000
namespace Nu
def aBJ : ByteArray := ⟨⟨0 :: 1 :: 2 :: 2 :: 3 :: 3 :: 3 :: 3 :: 4 :: 4 :: 4 :: 4 :: 4 :: 4 :: 4 :: 4 :: 5 :: 5 :: 5 :: 5 :: 5 :: 5 :: 5 :: 5 :: 5 :: 5 :: 5 :: 5 :: 5 :: 5 :: 5 :: 5 :: 6 :: 6 :: 6 :: 6 :: 6 :: 6 :: 6 :: 6 :: 6 :: 6 :: 6 :: 6 :: 6 :: 6 :: 6 :: 6 :: 6 :: 6 :: 6 :: 6 :: 6 :: 6 :: 6 :: 6 :: 6 :: 6 :: 6 :: 6 :: 6 :: 6 :: 6 :: 6 :: 7 :: 7 :: 7 :: 7 :: 7 :: 7 :: 7 :: 7 :: 7 :: 7 :: 7 :: 7 :: 7 :: 7 :: 7 :: 7 :: 7 :: 7 :: 7 :: 7 :: 7 :: 7 :: 7 :: 7 :: 7 :: 7 :: 7 :: 7 :: 7 :: 7 :: 7 :: 7 :: 7 :: 7 :: 7 :: 7 :: 7 :: 7 :: 7 :: 7 :: 7 :: 7 :: 7 :: 7 :: 7 :: 7 :: 7 :: 7 :: 7 :: 7 :: 7 :: 7 :: 7 :: 7 :: 7 :: 7 :: 7 :: 7 :: 7 :: 7 :: 7 :: 7 :: 7 :: 7 :: 8 :: 8 :: 8 :: 8 :: 8 :: 8 :: 8 :: 8 :: 8 :: 8 :: 8 :: 8 :: 8 :: 8 :: 8 :: 8 :: 8 :: 8 :: 8 :: 8 :: 8 :: 8 :: 8 :: 8 :: 8 :: 8 :: 8 :: 8 :: 8 :: 8 :: 8 :: 8 :: 8 :: 8 :: 8 :: 8 :: 8 :: 8 :: 8 :: 8 :: 8 :: 8 :: 8 :: 8 :: 8 :: 8 :: 8 :: 8 :: 8 :: 8 :: 8 :: 8 :: 8 :: 8 :: 8 :: 8 :: 8 :: 8 :: 8 :: 8 :: 8 :: 8 :: 8 :: 8 :: 8 :: 8 :: 8 :: 8 :: 8 :: 8 :: 8 :: 8 :: 8 :: 8 :: 8 :: 8 :: 8 :: 8 :: 8 :: 8 :: 8 :: 8 :: 8 :: 8 :: 8 :: 8 :: 8 :: 8 :: 8 :: 8 :: 8 :: 8 :: 8 :: 8 :: 8 :: 8 :: 8 :: 8 :: 8 :: 8 :: 8 :: 8 :: 8 :: 8 :: 8 :: 8 :: 8 :: 8 :: 8 :: 8 :: 8 :: 8 :: 8 :: 8 :: 8 :: 8 :: 8 :: 8 :: 8 :: 8 :: 8 :: 8 :: 8 :: 8 :: 8 :: 8 :: 8 :: 8 :: []⟩⟩
theorem aKx : (⟨⟨0 :: 1 :: 2 :: 2 :: 3 :: 3 :: 3 :: 3 :: 4 :: 4 :: 4 :: 4 :: 4 :: 4 :: 4 :: 4 :: 5 :: 5 :: 5 :: 5 :: 5 :: 5 :: 5 :: 5 :: 5 :: 5 :: 5 :: 5 :: 5 :: 5 :: 5 :: 5 :: 6 :: 6 :: 6 :: 6 :: 6 :: 6 :: 6 :: 6 :: 6 :: 6 :: 6 :: 6 :: 6 :: 6 :: 6 :: 6 :: 6 :: 6 :: 6 :: 6 :: 6 :: 6 :: 6 :: 6 :: 6 :: 6 :: 6 :: 6 :: 6 :: 6 :: 6 :: 6 :: 7 :: 7 :: 7 :: 7 :: 7 :: 7 :: 7 :: 7 :: 7 :: 7 :: 7 :: 7 :: 7 :: 7 :: 7 :: 7 :: 7 :: 7 :: 7 :: 7 :: 7 :: 7 :: 7 :: 7 :: 7 :: 7 :: 7 :: 7 :: 7 :: 7 :: 7 :: 7 :: 7 :: 7 :: 7 :: 7 :: 7 :: 7 :: 7 :: 7 :: 7 :: 7 :: 7 :: 7 :: 7 :: 7 :: 7 :: 7 :: 7 :: 7 :: 7 :: 7 :: 7 :: 7 :: 7 :: 7 :: 7 :: 7 :: 7 :: 7 :: 7 :: 7 :: 7 :: 7 :: 8 :: 8 :: 8 :: 8 :: 8 :: 8 :: 8 :: 8 :: 8 :: 8 :: 8 :: 8 :: 8 :: 8 :: 8 :: 8 :: 8 :: 8 :: 8 :: 8 :: 8 :: 8 :: 8 :: 8 :: 8 :: 8 :: 8 :: 8 :: 8 :: 8 :: 8 :: 8 :: 8 :: 8 :: 8 :: 8 :: 8 :: 8 :: 8 :: 8 :: 8 :: 8 :: 8 :: 8 :: 8 :: 8 :: 8 :: 8 :: 8 :: 8 :: 8 :: 8 :: 8 :: 8 :: 8 :: 8 :: 8 :: 8 :: 8 :: 8 :: 8 :: 8 :: 8 :: 8 :: 8 :: 8 :: 8 :: 8 :: 8 :: 8 :: 8 :: 8 :: 8 :: 8 :: 8 :: 8 :: 8 :: 8 :: 8 :: 8 :: 8 :: 8 :: 8 :: 8 :: 8 :: 8 :: 8 :: 8 :: 8 :: 8 :: 8 :: 8 :: 8 :: 8 :: 8 :: 8 :: 8 :: 8 :: 8 :: 8 :: 8 :: 8 :: 8 :: 8 :: 8 :: 8 :: 8 :: 8 :: 8 :: 8 :: 8 :: 8 :: 8 :: 8 :: 8 :: 8 :: 8 :: 8 :: 8 :: 8 :: 8 :: 8 :: 8 :: 8 :: 8 :: 8 :: 8 :: 8 :: []⟩⟩ : ByteArray) = aBJ := rfl
attribute [go_sem] aKx
noncomputable def nL (F : Md) (x_6 : Nat) (n_7 : Int) : Option (Int) :=
 ck (0 ≤ (((x_6 % 256) : Nat) : Int) ∧ (((x_6 % 256) : Nat) : Int) < (((aA aBJ).length : Nat) : Int)) (ck (I64 (n_7 + ((((aA aBJ).getD (x_6 % 256) (0 : Nat)) : Nat) : Int))) (some (n_7 + ((((aA aBJ).getD (x_6 % 256) (0 : Nat)) : Nat) : Int))))
noncomputable def nM (F : Md) (x_4 : Nat) (n_5 : Int) : Option (Int) :=
 if (256 : Nat) ≤ x_4 then ck (I64 (n_5 + (8 : Int))) (nL F (x_4 / (256 : Nat)) (n_5 + (8 : Int))) else nL F x_4 n_5
noncomputable def nN (F : Md) (x_2 : Nat) (n_3 : Int) : Option (Int) :=
 if (65536 : Nat) ≤ x_2 then ck (I64 (n_3 + (16 : Int))) (nM F (x_2 / (65536 : Nat)) (n_3 + (16 : Int))) else nM F x_2 n_3
noncomputable def xF (F : Md) (x_0 : Nat) : Option Int :=
 if (4294967296 : Nat) ≤ x_0 then nN F (x_0 / (4294967296 : Nat)) (32 : Int) else nN F x_0 (0 : Int)
def aDW : PlR := ⟨[(0, .A [0, 2]), (1, .A [0, 2, 4]), (2, .A [0]), (3, .A [0, 2]), (4, .A [0, 2, 8]), (5, .A [0, 2]), (6, .A [0, 2]), (7, .A [0, 2, 14]), (8, .A [0, 2]), (9, .A [0, 2]), (10, .A [2])], [(4, 7), (7, 10), (10, 13)]⟩
def aFt : Ty := .pair (.u .u64) .unit
noncomputable def vE (F : Md) : aH := mSpec aFt (.one (.i .i64)) (fun x => xF F x.1)
noncomputable def aLW (F : Md) : List (FuncId × aH) := []
theorem aLX (F : Md) : bD Tryz.prog GL (aLW F) := .nil
attribute [go_sem] aFt aDW
set_option maxHeartbeats 4000000 in
theorem aKy (F : Md) : FOK Tryz.prog GL 235 (vE F) := by
 refine bG (aY (aLX F)) mix Tryz.func235 rfl (by kernel_rfl) (by decide) aDW fun w0 S x Θ hw h hF => ?_
 obtain ⟨(x_0 : Nat), u⟩ := x
 simp only [bK, go_sem]
 replace h : sat (xF F x_0) _ := h
 unfold xF at h
 refine eB hF (D := Nat × Int) (fun d => sat (nN F d.1 d.2) Θ) [] (fun d => [(0, .val (.u .u64) d.1), (2, .val (.i .i64) d.2)]) (fun d => []) ?_ ?_
 ·simp only [go_sem]
  refine dT h (fun hc h => ?_) fun hc h => ?_
  ·exact aQ ((x_0 / (4294967296 : Nat)), (32 : Int)) h rfl (by simp only [go_sem])
  ·exact aQ (x_0, (0 : Int)) h rfl (by simp only [go_sem])
 ·rintro ⟨x_2, n_3⟩ h
  simp only [go_sem]
  replace h : sat (nN F x_2 n_3) _ := h
  unfold nN at h
  refine eB hF (D := Nat × Int) (fun d => sat (nM F d.1 d.2) Θ) [] (fun d => [(0, .val (.u .u64) d.1), (2, .val (.i .i64) d.2)]) (fun d => []) ?_ ?_
  ·simp only [go_sem]
   refine dT h (fun hc h => ?_) fun hc h => ?_
   ·refine aP h fun g0 h => ?_
    exact aQ ((x_2 / (65536 : Nat)), (n_3 + (16 : Int))) h rfl (by simp only [go_sem])
   ·exact aQ (x_2, n_3) h rfl (by simp only [go_sem])
  ·rintro ⟨x_4, n_5⟩ h
   simp only [go_sem]
   replace h : sat (nM F x_4 n_5) _ := h
   unfold nM at h
   refine eB hF (D := Nat × Int) (fun d => sat (nL F d.1 d.2) Θ) [] (fun d => [(0, .val (.u .u64) d.1), (2, .val (.i .i64) d.2)]) (fun d => []) ?_ ?_
   ·simp only [go_sem]
    refine dT h (fun hc h => ?_) fun hc h => ?_
    ·refine aP h fun g0 h => ?_
     exact aQ ((x_4 / (256 : Nat)), (n_5 + (8 : Int))) h rfl (by simp only [go_sem])
    ·exact aQ (x_4, n_5) h rfl (by simp only [go_sem])
   ·rintro ⟨x_6, n_7⟩ h
    simp only [go_sem]
    replace h : sat (nL F x_6 n_7) _ := h
    unfold nL at h
    refine aP h fun g0 h => aP h fun g1 h => ?_
    exact aG hF [.tmp 2] rfl rfl rfl (aB h) (by simp only [aS, go_sem])
attribute [go_sem] vE
noncomputable def bF (F : Md) (x_0 : Nat) : Option Int :=
 (xF F x_0).bind (fun v_5 => ck (I64 ((64 : Int) - v_5)) (some ((64 : Int) - v_5)))
def sZ : PlR := ⟨[(0, .A [0]), (1, .A [2])], []⟩
def uI : Ty := .pair (.u .u64) .unit
noncomputable def dQ (F : Md) : aH := mSpec uI (.one (.i .i64)) (fun x => bF F x.1)
noncomputable def uJ (F : Md) : List (FuncId × aH) := [(235, (vE F))]
theorem aCu (F : Md) : bD Tryz.prog GL (uJ F) := .cons (aKy F) (by kernel_rfl) (.nil)
theorem zQ (F : Md) : gam (uJ F) 235 = some (vE F) := rfl
attribute [go_sem] uI sZ zQ
set_option maxHeartbeats 4000000 in
theorem nB (F : Md) : FOK Tryz.prog GL 188 (dQ F) := by
 refine bG (aY (aCu F)) mix Tryz.func188 rfl (by kernel_rfl) (by decide) sZ fun w0 S x Θ hw h hF => ?_
 obtain ⟨(x_0 : Nat), u⟩ := x
 simp only [bK, go_sem]
 replace h : sat (bF F x_0) _ := h
 unfold bF at h
 obtain ⟨v_5, hv, h⟩ := aJ h
 try simp only [hv, go_sem]
 refine aP h fun g0 h => ?_
 exact aG hF [.tmp 2] rfl rfl rfl (aB h) (by simp only [aS, go_sem])
attribute [go_sem] dQ
noncomputable def kF (F : Md) (x_0 : Nat) : Option Int :=
 if x_0 = (0 : Nat) then some (64 : Int) else ck (0 ≤ ((((mulM F .u64 (x_0 &&& (aNE F .u64 x_0)) (285870213051353865 : Nat)) / (288230376151711744 : Nat)) : Nat) : Int) ∧ ((((mulM F .u64 (x_0 &&& (aNE F .u64 x_0)) (285870213051353865 : Nat)) / (288230376151711744 : Nat)) : Nat) : Int) < (64 : Int)) (some (((aQK.getD ((mulM F .u64 (x_0 &&& (aNE F .u64 x_0)) (285870213051353865 : Nat)) / (288230376151711744 : Nat)) (0 : Nat)) : Nat) : Int))
def rX : PlR := ⟨[(0, .A [0]), (1, .A [0, 4]), (2, .A [2]), (3, .A [2])], []⟩
def tA : Ty := .pair (.u .u64) .unit
noncomputable def jH (F : Md) : aH := mSpec tA (.one (.i .i64)) (fun x => kF F x.1)
noncomputable def aBK (F : Md) : List (FuncId × aH) := []
theorem aBL (F : Md) : bD Tryz.prog GL (aBK F) := .nil
attribute [go_sem] tA rX
set_option maxHeartbeats 4000000 in
theorem aAY (F : Md) : FOK Tryz.prog GL 164 (jH F) := by
 refine bG (aY (aBL F)) mix Tryz.func164 rfl (by kernel_rfl) (by decide) rX fun w0 S x Θ hw h hF => ?_
 obtain ⟨(x_0 : Nat), u⟩ := x
 simp only [bK, go_sem]
 replace h : sat (kF F x_0) _ := h
 unfold kF at h
 refine dT h (fun hc h => ?_) fun hc h => ?_
 ·exact aG hF [.tmp 2] rfl rfl rfl (aB h) (by simp only [aS, go_sem, cF F, cG F, cH F])
 ·obtain ⟨g0, h⟩ := aK h
  repeat (refine ⟨by first | with_reducible assumption | omega | (intros; first | with_reducible assumption | omega) | (simp only [go_sem, cF F, cG F, cH F] at *; first | with_reducible assumption | omega) | (intro _; exact ⟨rfl, by decide⟩) | (intro _; refine (?_ : _ = aV _); rfl) | exact ⟨rfl, rfl⟩ | decide, ?_⟩)
  exact aG hF [.tmp 2] rfl rfl rfl (aB h) (by (simp only [aS, go_sem, cF F, cG F, cH F]) <;> first | rfl | (simp; done))
attribute [go_sem] jH
noncomputable def xG (F : Md) (x_0 : Nat) (y_1 : Nat) : Option (Nat × (Nat × Unit)) :=
 some ((((((mulM F .u64 (x_0 / (4294967296 : Nat)) (y_1 / (4294967296 : Nat))) + ((((mulM F .u64 (x_0 / (4294967296 : Nat)) (y_1 &&& (4294967295 : Nat))) + ((mulM F .u64 (x_0 &&& (4294967295 : Nat)) (y_1 &&& (4294967295 : Nat))) / (4294967296 : Nat))) % 18446744073709551616) / (4294967296 : Nat))) % 18446744073709551616) + (((((((mulM F .u64 (x_0 / (4294967296 : Nat)) (y_1 &&& (4294967295 : Nat))) + ((mulM F .u64 (x_0 &&& (4294967295 : Nat)) (y_1 &&& (4294967295 : Nat))) / (4294967296 : Nat))) % 18446744073709551616) &&& (4294967295 : Nat)) + (mulM F .u64 (x_0 &&& (4294967295 : Nat)) (y_1 / (4294967296 : Nat)))) % 18446744073709551616) / (4294967296 : Nat))) % 18446744073709551616), (mulM F .u64 x_0 y_1), ())
def aDX : PlR := ⟨[(0, .A [0, 1]), (1, .A [0, 1, 6]), (2, .A [0, 1, 6, 7]), (3, .A [0, 1, 6, 7, 8]), (4, .A [0, 1, 6, 7, 8, 9]), (5, .A [0, 1, 6, 7, 8, 9, 10]), (6, .A [0, 1, 6, 7, 9, 11]), (7, .A [0, 1, 6, 7, 9, 11, 12]), (8, .A [0, 1, 6, 7, 9, 12, 13]), (9, .A [0, 1, 7, 9, 12, 13]), (10, .A [0, 1, 4]), (11, .A [4, 5])], []⟩
def aFu : Ty := .pair (.u .u64) (.pair (.u .u64) .unit)
noncomputable def vF (F : Md) : aH := mSpec aFu (.tup (.pair (.u .u64) (.pair (.u .u64) .unit))) (fun x => xG F x.1 x.2.1)
noncomputable def aLY (F : Md) : List (FuncId × aH) := []
theorem aLZ (F : Md) : bD Tryz.prog GL (aLY F) := .nil
attribute [go_sem] aFu aDX
set_option maxHeartbeats 4000000 in
theorem aKz (F : Md) : FOK Tryz.prog GL 161 (vF F) := by
 refine bG (aY (aLZ F)) mix Tryz.func161 rfl (by kernel_rfl) (by decide) aDX fun w0 S x Θ hw h hF => ?_
 obtain ⟨(x_0 : Nat), (y_1 : Nat), u⟩ := x
 simp only [bK, go_sem]
 replace h : sat (xG F x_0 y_1) _ := h
 unfold xG at h
 exact aG hF [.tmp 4, .tmp 5] rfl rfl rfl (aB h) (by simp only [aS, go_sem, cF F, cG F, cH F])
attribute [go_sem] vF
noncomputable def rB (F : Md) (x15_12 : Nat) (hi_0 : Nat) (v_7 : Int) (lo_1 : Nat) (y_2 : Nat) (x18_17 : Nat) : Option (Nat × (Nat × Unit)) :=
 some ((((mulM F .u64 x15_12 (4294967296 : Nat)) + x18_17) % 18446744073709551616), ((wA F .u64 (((mulM F .u64 (wA F .u64 (((mulM F .u64 (((hi_0 * (2 ^ (v_7 % (18446744073709551616 : Int)).toNat)) % 18446744073709551616) ||| (lo_1 / (2 ^ (wA F .u64 (64 : Nat) (v_7 % (18446744073709551616 : Int)).toNat)))) (4294967296 : Nat)) + (((lo_1 * (2 ^ (v_7 % (18446744073709551616 : Int)).toNat)) % 18446744073709551616) / (4294967296 : Nat))) % 18446744073709551616) (mulM F .u64 x15_12 ((y_2 * (2 ^ (v_7 % (18446744073709551616 : Int)).toNat)) % 18446744073709551616))) (4294967296 : Nat)) + (((lo_1 * (2 ^ (v_7 % (18446744073709551616 : Int)).toNat)) % 18446744073709551616) &&& (4294967295 : Nat))) % 18446744073709551616) (mulM F .u64 x18_17 ((y_2 * (2 ^ (v_7 % (18446744073709551616 : Int)).toNat)) % 18446744073709551616))) / (2 ^ (v_7 % (18446744073709551616 : Int)).toNat)), ())
noncomputable def uU (F : Md) (lo_1 : Nat) (v_7 : Int) (y_2 : Nat) (rhat_18 : Nat) (x18_19 : Nat) : Option ((Nat × Nat) ⊕ (Nat)) :=
 if ((4294967296 : Nat) ≤ x18_19) ∨ ((((mulM F .u64 (4294967296 : Nat) rhat_18) + (((lo_1 * (2 ^ (v_7 % (18446744073709551616 : Int)).toNat)) % 18446744073709551616) &&& (4294967295 : Nat))) % 18446744073709551616) < (mulM F .u64 x18_19 (((y_2 * (2 ^ (v_7 % (18446744073709551616 : Int)).toNat)) % 18446744073709551616) &&& (4294967295 : Nat)))) then if (4294967296 : Nat) ≤ ((rhat_18 + (((y_2 * (2 ^ (v_7 % (18446744073709551616 : Int)).toNat)) % 18446744073709551616) / (4294967296 : Nat))) % 18446744073709551616) then some (.inr (wA F .u64 x18_19 (1 : Nat))) else some (.inl (((rhat_18 + (((y_2 * (2 ^ (v_7 % (18446744073709551616 : Int)).toNat)) % 18446744073709551616) / (4294967296 : Nat))) % 18446744073709551616), (wA F .u64 x18_19 (1 : Nat)))) else some (.inr x18_19)
noncomputable def rC (F : Md) (y_2 : Nat) (v_7 : Int) (lo_1 : Nat) (hi_0 : Nat) (x15_12 : Nat) : Option (Nat × (Nat × Unit)) :=
 ck ((((y_2 * (2 ^ (v_7 % (18446744073709551616 : Int)).toNat)) % 18446744073709551616) / (4294967296 : Nat)) ≠ 0) ((dF F (fun d : Nat × Nat => uU F lo_1 v_7 y_2 d.1 d.2) ((wA F .u64 (wA F .u64 (((mulM F .u64 (((hi_0 * (2 ^ (v_7 % (18446744073709551616 : Int)).toNat)) % 18446744073709551616) ||| (lo_1 / (2 ^ (wA F .u64 (64 : Nat) (v_7 % (18446744073709551616 : Int)).toNat)))) (4294967296 : Nat)) + (((lo_1 * (2 ^ (v_7 % (18446744073709551616 : Int)).toNat)) % 18446744073709551616) / (4294967296 : Nat))) % 18446744073709551616) (mulM F .u64 x15_12 ((y_2 * (2 ^ (v_7 % (18446744073709551616 : Int)).toNat)) % 18446744073709551616))) (mulM F .u64 ((wA F .u64 (((mulM F .u64 (((hi_0 * (2 ^ (v_7 % (18446744073709551616 : Int)).toNat)) % 18446744073709551616) ||| (lo_1 / (2 ^ (wA F .u64 (64 : Nat) (v_7 % (18446744073709551616 : Int)).toNat)))) (4294967296 : Nat)) + (((lo_1 * (2 ^ (v_7 % (18446744073709551616 : Int)).toNat)) % 18446744073709551616) / (4294967296 : Nat))) % 18446744073709551616) (mulM F .u64 x15_12 ((y_2 * (2 ^ (v_7 % (18446744073709551616 : Int)).toNat)) % 18446744073709551616))) / (((y_2 * (2 ^ (v_7 % (18446744073709551616 : Int)).toNat)) % 18446744073709551616) / (4294967296 : Nat))) (((y_2 * (2 ^ (v_7 % (18446744073709551616 : Int)).toNat)) % 18446744073709551616) / (4294967296 : Nat)))), ((wA F .u64 (((mulM F .u64 (((hi_0 * (2 ^ (v_7 % (18446744073709551616 : Int)).toNat)) % 18446744073709551616) ||| (lo_1 / (2 ^ (wA F .u64 (64 : Nat) (v_7 % (18446744073709551616 : Int)).toNat)))) (4294967296 : Nat)) + (((lo_1 * (2 ^ (v_7 % (18446744073709551616 : Int)).toNat)) % 18446744073709551616) / (4294967296 : Nat))) % 18446744073709551616) (mulM F .u64 x15_12 ((y_2 * (2 ^ (v_7 % (18446744073709551616 : Int)).toNat)) % 18446744073709551616))) / (((y_2 * (2 ^ (v_7 % (18446744073709551616 : Int)).toNat)) % 18446744073709551616) / (4294967296 : Nat))))).bind (fun e => rB F x15_12 hi_0 v_7 lo_1 y_2 e))
noncomputable def uV (F : Md) (lo_1 : Nat) (v_7 : Int) (y_2 : Nat) (x15_23 : Nat) (rhat_24 : Nat) : Option ((Nat × Nat) ⊕ (Nat)) :=
 if ((4294967296 : Nat) ≤ x15_23) ∨ ((((mulM F .u64 (4294967296 : Nat) rhat_24) + (((lo_1 * (2 ^ (v_7 % (18446744073709551616 : Int)).toNat)) % 18446744073709551616) / (4294967296 : Nat))) % 18446744073709551616) < (mulM F .u64 x15_23 (((y_2 * (2 ^ (v_7 % (18446744073709551616 : Int)).toNat)) % 18446744073709551616) &&& (4294967295 : Nat)))) then if (4294967296 : Nat) ≤ ((rhat_24 + (((y_2 * (2 ^ (v_7 % (18446744073709551616 : Int)).toNat)) % 18446744073709551616) / (4294967296 : Nat))) % 18446744073709551616) then some (.inr (wA F .u64 x15_23 (1 : Nat))) else some (.inl ((wA F .u64 x15_23 (1 : Nat)), ((rhat_24 + (((y_2 * (2 ^ (v_7 % (18446744073709551616 : Int)).toNat)) % 18446744073709551616) / (4294967296 : Nat))) % 18446744073709551616))) else some (.inr x15_23)
noncomputable def xH (F : Md) (hi_0 : Nat) (lo_1 : Nat) (y_2 : Nat) : Option (Nat × (Nat × Unit)) :=
 if y_2 = (0 : Nat) then none else if y_2 ≤ hi_0 then none else if hi_0 = (0 : Nat) then ck (y_2 ≠ 0) (ck (y_2 ≠ 0) (some ((lo_1 / y_2), (lo_1 % y_2), ()))) else (bF F y_2).bind (fun v_7 => ck ((((y_2 * (2 ^ (v_7 % (18446744073709551616 : Int)).toNat)) % 18446744073709551616) / (4294967296 : Nat)) ≠ 0) ((dF F (fun d : Nat × Nat => uV F lo_1 v_7 y_2 d.1 d.2) (((((hi_0 * (2 ^ (v_7 % (18446744073709551616 : Int)).toNat)) % 18446744073709551616) ||| (lo_1 / (2 ^ (wA F .u64 (64 : Nat) (v_7 % (18446744073709551616 : Int)).toNat)))) / (((y_2 * (2 ^ (v_7 % (18446744073709551616 : Int)).toNat)) % 18446744073709551616) / (4294967296 : Nat))), (wA F .u64 (((hi_0 * (2 ^ (v_7 % (18446744073709551616 : Int)).toNat)) % 18446744073709551616) ||| (lo_1 / (2 ^ (wA F .u64 (64 : Nat) (v_7 % (18446744073709551616 : Int)).toNat)))) (mulM F .u64 ((((hi_0 * (2 ^ (v_7 % (18446744073709551616 : Int)).toNat)) % 18446744073709551616) ||| (lo_1 / (2 ^ (wA F .u64 (64 : Nat) (v_7 % (18446744073709551616 : Int)).toNat)))) / (((y_2 * (2 ^ (v_7 % (18446744073709551616 : Int)).toNat)) % 18446744073709551616) / (4294967296 : Nat))) (((y_2 * (2 ^ (v_7 % (18446744073709551616 : Int)).toNat)) % 18446744073709551616) / (4294967296 : Nat)))))).bind (fun e => rC F y_2 v_7 lo_1 hi_0 e)))
def aDY : PlR := ⟨[(0, .A [0, 1, 2]), (1, .A [0, 1, 2, 20]), (2, .stop), (3, .A [0, 1, 2, 24]), (4, .stop), (5, .A [0, 1, 2, 27]), (6, .A [6, 7]), (7, .A [0, 1, 2, 8]), (8, .A [0, 1, 2, 8]), (9, .A [0, 1, 2, 8, 9]), (10, .A [0, 1, 2, 8, 9, 10]), (11, .A [1, 2, 8, 9, 10, 11]), (12, .A [2, 8, 9, 10, 11, 12]), (13, .A [2, 8, 9, 10, 11, 12, 13]), (14, .A [2, 8, 9, 10, 11, 13, 14]), (15, .A [2, 8, 9, 10, 11, 13, 14, 15]), (16, .A [2, 8, 9, 10, 11, 13, 14, 15, 16]), (17, .A [2, 8, 9, 10, 11, 13, 14, 15, 16, 78]), (18, .A [2, 8, 9, 10, 11, 13, 14, 15, 16]), (19, .A [2, 8, 9, 10, 11, 13, 14, 15, 16]), (20, .A [2, 8, 9, 10, 11, 13, 14, 15, 16, 85]), (21, .A [2, 8, 9, 10, 14, 15, 17]), (22, .A [2, 8, 9, 10, 14, 15, 17, 18]), (23, .A [2, 8, 9, 10, 14, 15, 16, 17, 18]), (24, .A [2, 8, 9, 10, 14, 15, 16, 17, 18, 113]), (25, .A [2, 8, 9, 10, 14, 15, 16, 17, 18]), (26, .A [2, 8, 9, 10, 14, 15, 16, 17, 18]), (27, .A [2, 8, 9, 10, 14, 15, 16, 17, 18, 120]), (28, .A [6, 7])], [(20, 24), (27, 31)]⟩
def aFv : Ty := .pair (.u .u64) (.pair (.u .u64) (.pair (.u .u64) .unit))
noncomputable def vG (F : Md) : aH := mSpec aFv (.tup (.pair (.u .u64) (.pair (.u .u64) .unit))) (fun x => xH F x.1 x.2.1 x.2.2.1)
noncomputable def aFw (F : Md) : List (FuncId × aH) := [(188, (dQ F))]
theorem aL0 (F : Md) : bD Tryz.prog GL (aFw F) := .cons (nB F) (by kernel_rfl) (.nil)
theorem aGH (F : Md) : gam (aFw F) 188 = some (dQ F) := rfl
attribute [go_sem] aFv aDY aGH
set_option maxHeartbeats 4000000 in
theorem aKA (F : Md) : FOK Tryz.prog GL 252 (vG F) := by
 refine bG (aY (aL0 F)) mix Tryz.func252 rfl (by kernel_rfl) (by decide) aDY fun w0 S x Θ hw h hF => ?_
 obtain ⟨(hi_0 : Nat), (lo_1 : Nat), (y_2 : Nat), u⟩ := x
 simp only [bK, go_sem]
 replace h : sat (xH F hi_0 lo_1 y_2) _ := h
 unfold xH at h
 refine dT h (fun hc h => ?_) fun hc h => ?_
 ·exact aAX h
 ·refine dT h (fun hc h => ?_) fun hc h => ?_
  ·exact aAX h
  ·refine dT h (fun hc h => ?_) fun hc h => ?_
   ·refine aP h fun g0 h => aP h fun g1 h => ?_
    exact aG hF [.tmp 6, .tmp 7] rfl rfl rfl (aB h) (by simp only [aS, go_sem, cF F, cG F, cH F])
   ·obtain ⟨v_7, hv, h⟩ := aJ h
    try simp only [hv, go_sem, cF F, cG F, cH F]
    refine aP h fun g0 h => ?_
    refine eB hF (D := Nat) (fun d => sat (rC F y_2 v_7 lo_1 hi_0 d) Θ) [2, 8, 9, 10, 11, 13, 14] (fun d => [(15, .val (.u .u64) d)]) (fun d => []) ?_ ?_
    ·simp only [go_sem, cF F, cG F, cH F]
     refine bQ hF (D := Nat × Nat) [2, 8, 9, 10, 11, 13, 14] (fun d => [(15, .val (.u .u64) d.1), (16, .val (.u .u64) d.2)]) (fun d => []) h rfl (by simp only [go_sem, cF F, cG F, cH F]) ?_
     rintro ⟨x15_23, rhat_24⟩ A17 T17 hA17 hE17 h
     simp only [go_sem, cF F, cG F, cH F]
     replace h : sat (uV F lo_1 v_7 y_2 x15_23 rhat_24) _ := h
     unfold uV at h
     refine ⟨fun hc => ?_, fun hc => ?_⟩
     ·replace h := iW hc h
      refine dT h (fun hc h => ?_) fun hc h => ?_
      ·replace h := hE17 _ (aB h)
       try dsimp only at h
       exact aQ (wA F .u64 x15_23 (1 : Nat)) h rfl (by simp only [go_sem, cF F, cG F, cH F])
      ·replace h := hA17 _ (aB h)
       exact aQ _ h rfl (by simp only [go_sem, cF F, cG F, cH F])
     ·replace h := iX hc h
      replace h := hE17 _ (aB h)
      try dsimp only at h
      exact aQ (x15_23) h rfl (by simp only [go_sem, cF F, cG F, cH F])
    ·rintro x15_12 h
     simp only [go_sem, cF F, cG F, cH F]
     replace h : sat (rC F y_2 v_7 lo_1 hi_0 x15_12) _ := h
     unfold rC at h
     refine aP h fun g0 h => ?_
     refine eB hF (D := Nat) (fun d => sat (rB F x15_12 hi_0 v_7 lo_1 y_2 d) Θ) [2, 8, 14, 15, 17] (fun d => [(18, .val (.u .u64) d)]) (fun d => []) ?_ ?_
     ·simp only [go_sem, cF F, cG F, cH F]
      refine bQ hF (D := Nat × Nat) [2, 8, 9, 10, 14, 15, 17] (fun d => [(16, .val (.u .u64) d.1), (18, .val (.u .u64) d.2)]) (fun d => []) h rfl (by simp only [go_sem, cF F, cG F, cH F]) ?_
      rintro ⟨rhat_18, x18_19⟩ A24 T24 hA24 hE24 h
      simp only [go_sem, cF F, cG F, cH F]
      replace h : sat (uU F lo_1 v_7 y_2 rhat_18 x18_19) _ := h
      unfold uU at h
      refine ⟨fun hc => ?_, fun hc => ?_⟩
      ·replace h := iW hc h
       refine dT h (fun hc h => ?_) fun hc h => ?_
       ·replace h := hE24 _ (aB h)
        try dsimp only at h
        exact aQ (wA F .u64 x18_19 (1 : Nat)) h rfl (by simp only [go_sem, cF F, cG F, cH F])
       ·replace h := hA24 _ (aB h)
        exact aQ _ h rfl (by simp only [go_sem, cF F, cG F, cH F])
      ·replace h := iX hc h
       replace h := hE24 _ (aB h)
       try dsimp only at h
       exact aQ (x18_19) h rfl (by simp only [go_sem, cF F, cG F, cH F])
     ·rintro x18_17 h
      simp only [go_sem, cF F, cG F, cH F]
      replace h : sat (rB F x15_12 hi_0 v_7 lo_1 y_2 x18_17) _ := h
      unfold rB at h
      exact aG hF [.tmp 6, .tmp 7] rfl rfl rfl (aB h) (by simp only [aS, go_sem, cF F, cG F, cH F])
attribute [go_sem] vG
noncomputable def aDE (F : Md) (a_0 : (List Nat)) : Option Bool :=
 ck (¬ ((((a_0.length) : Nat) : Int) = (0 : Int)) → ((((a_0.length) : Nat) : Int) ≤ (64 : Int)) → (I64 ((((a_0.length) : Nat) : Int) - (1 : Int)))) (ck (¬ ((((a_0.length) : Nat) : Int) = (0 : Int)) → ((((a_0.length) : Nat) : Int) ≤ (64 : Int)) → (0 ≤ ((((a_0.length) : Nat) : Int) - (1 : Int)) ∧ ((((a_0.length) : Nat) : Int) - (1 : Int)) < (((a_0.length) : Nat) : Int))) (some ((decide ((((a_0.length) : Nat) : Int) = (0 : Int))) || ((decide ((((a_0.length) : Nat) : Int) ≤ (64 : Int))) && (!(decide ((a_0.getD ((((a_0.length) : Nat) : Int) - (1 : Int)).toNat (0 : Nat)) = (0 : Nat))))))))
def aJC : PlR := ⟨[(0, .A [0]), (1, .A [2])], []⟩
def aLq : Ty := .pair (.sl (.u .u64)) .unit
noncomputable def aBM (F : Md) : aH := mSpec aLq (.one .bool) (fun x => aDE F x.1)
noncomputable def aPi (F : Md) : List (FuncId × aH) := []
theorem aPj (F : Md) : bD Tryz.prog GL (aPi F) := .nil
attribute [go_sem] aLq aJC
set_option maxHeartbeats 4000000 in
theorem aNJ (F : Md) : FOK Tryz.prog GL 120 (aBM F) := by
 refine bG (aY (aPj F)) mix Tryz.func120 rfl (by kernel_rfl) (by decide) aJC fun w0 S x Θ hw h hF => ?_
 obtain ⟨(a_0 : (List Nat)), u⟩ := x
 simp only [bK, go_sem]
 replace h : sat (aDE F a_0) _ := h
 unfold aDE at h
 obtain ⟨g0, h⟩ := aK h
 obtain ⟨g1, h⟩ := aK h
 try simp only [I64, I32] at g0
 repeat (refine ⟨by first | with_reducible assumption | omega | (intros; first | with_reducible assumption | omega) | (simp only [go_sem] at *; first | with_reducible assumption | omega) | (intro _; exact ⟨rfl, by decide⟩) | (intro _; refine (?_ : _ = aV _); rfl) | exact ⟨rfl, rfl⟩ | (intro q0 q1; (try have e0 := g0 zAC (by first | exact q1 | omega | (simpa using q1))); (try have e1 := g1 zAC (by first | exact q1 | omega | (simpa using q1))); first | assumption | omega) | (rintro ⟨q0, q1⟩; (try have e0 := g0 zAC (by first | exact q1 | omega | (simpa using q1))); (try have e1 := g1 zAC (by first | exact q1 | omega | (simpa using q1))); first | assumption | omega) | decide, ?_⟩)
 exact aG hF [.tmp 2] rfl rfl rfl (aB h) (by simp only [aS, go_sem])
attribute [go_sem] aBM
noncomputable def aAx (F : Md) (a_4 : (List Nat)) : Option ((List Nat) ⊕ (List Nat)) :=
 ck (((0 : Int) < (((a_4.length) : Nat) : Int)) → (I64 ((((a_4.length) : Nat) : Int) - (1 : Int)))) (ck (((0 : Int) < (((a_4.length) : Nat) : Int)) → (0 ≤ ((((a_4.length) : Nat) : Int) - (1 : Int)) ∧ ((((a_4.length) : Nat) : Int) - (1 : Int)) < (((a_4.length) : Nat) : Int))) (if ((0 : Int) < (((a_4.length) : Nat) : Int)) ∧ ((a_4.getD ((((a_4.length) : Nat) : Int) - (1 : Int)).toNat (0 : Nat)) = (0 : Nat)) then ck (I64 ((((a_4.length) : Nat) : Int) - (1 : Int))) (ck (0 ≤ ((((a_4.length) : Nat) : Int) - (1 : Int)) ∧ ((((a_4.length) : Nat) : Int) - (1 : Int)) ≤ (((a_4.length) : Nat) : Int)) (some (.inl (List.take ((((a_4.length) : Nat) : Int) - (1 : Int)).toNat a_4)))) else some (.inr a_4)))
noncomputable def gM (F : Md) (a_0 : (List Nat)) : Option (List Nat) :=
 (dF F (fun d : (List Nat) => aAx F d) a_0).bind (fun e => some e)
def aHp : PlR := ⟨[(0, .A [0]), (1, .A [0, 14]), (2, .A [0]), (3, .A [2])], []⟩
def aJD : Ty := .pair (.sl (.u .u64)) .unit
noncomputable def eI (F : Md) : aH := mSpec aJD (.one (.sl (.u .u64))) (fun x => gM F x.1)
noncomputable def aNK (F : Md) : List (FuncId × aH) := []
theorem aNL (F : Md) : bD Tryz.prog GL (aNK F) := .nil
attribute [go_sem] aJD aHp
set_option maxHeartbeats 4000000 in
theorem oP (F : Md) : FOK Tryz.prog GL 163 (eI F) := by
 refine bG (aY (aNL F)) mix Tryz.func163 rfl (by kernel_rfl) (by decide) aHp fun w0 S x Θ hw h hF => ?_
 obtain ⟨(a_0 : (List Nat)), u⟩ := x
 simp only [bK, go_sem]
 replace h : sat (gM F a_0) _ := h
 unfold gM at h
 refine bQ hF (D := (List Nat)) [] (fun d => [(0, .val (.sl (.u .u64)) d)]) (fun d => []) h rfl (by simp only [go_sem]) ?_
 rintro a_4 A1 T1 hA1 hE1 h
 simp only [go_sem]
 replace h : sat (aAx F a_4) _ := h
 unfold aAx at h
 refine aP h fun g0 h => aP h fun g1 h => ?_
 refine ⟨fun hc => ?_, fun hc => ?_⟩
 ·replace h := iW hc h
  refine aP h fun g0 h => aP h fun g1 h => ?_
  replace h := hA1 _ (aB h)
  exact aQ _ h rfl (by simp only [go_sem])
 ·replace h := iX hc h
  replace h := hE1 _ (aB h)
  try dsimp only at h
  exact aG hF [.tmp 2] rfl rfl rfl (aB h) (by simp only [aS, go_sem])
attribute [go_sem] eI
noncomputable def yS (F : Md) (less_0 : Bool) : Option Int :=
 if less_0 = true then some (-1 : Int) else some (1 : Int)
def aHq : PlR := ⟨[(0, .A [0]), (1, .A [3]), (2, .A [2]), (3, .A [2])], []⟩
def aJE : Ty := .pair .bool .unit
noncomputable def aAa (F : Md) : aH := mSpec aJE (.one (.i .i64)) (fun x => yS F x.1)
noncomputable def aNM (F : Md) : List (FuncId × aH) := []
theorem aNN (F : Md) : bD Tryz.prog GL (aNM F) := .nil
attribute [go_sem] aJE aHq
set_option maxHeartbeats 4000000 in
theorem aMW (F : Md) : FOK Tryz.prog GL 189 (aAa F) := by
 refine bG (aY (aNN F)) mix Tryz.func189 rfl (by kernel_rfl) (by decide) aHq fun w0 S x Θ hw h hF => ?_
 obtain ⟨(less_0 : Bool), u⟩ := x
 simp only [bK, go_sem]
 replace h : sat (yS F less_0) _ := h
 unfold yS at h
 refine aHo h (fun hc h => ?_) fun hc h => ?_
 ·exact aG hF [.tmp 2] rfl rfl rfl (aB h) (by simp only [aS, go_sem])
 ·exact aG hF [.tmp 2] rfl rfl rfl (aB h) (by simp only [aS, go_sem])
attribute [go_sem] aAa
noncomputable def yT (F : Md) (a_0 : (List Nat)) (b_1 : (List Nat)) (i_20 : Int) : Option ((Int) ⊕ ((Unit) ⊕ Int)) :=
 if (0 : Int) ≤ i_20 then ck (0 ≤ i_20 ∧ i_20 < (((a_0.length) : Nat) : Int)) (ck (0 ≤ i_20 ∧ i_20 < (((b_1.length) : Nat) : Int)) (if ¬ ((a_0.getD (i_20.toNat) (0 : Nat)) = (b_1.getD (i_20.toNat) (0 : Nat))) then ck (0 ≤ i_20 ∧ i_20 < (((a_0.length) : Nat) : Int)) (ck (0 ≤ i_20 ∧ i_20 < (((b_1.length) : Nat) : Int)) ((yS F (decide ((a_0.getD (i_20.toNat) (0 : Nat)) < (b_1.getD (i_20.toNat) (0 : Nat))))).bind (fun v_33 => some (.inr (.inr v_33))))) else ck (I64 (i_20 - (1 : Int))) (some (.inl (i_20 - (1 : Int)))))) else some (.inr (.inl ()))
noncomputable def oQ (F : Md) (a_0 : (List Nat)) (b_1 : (List Nat)) : Option Int :=
 if ¬ ((((a_0.length) : Nat) : Int) = (((b_1.length) : Nat) : Int)) then (yS F (decide ((((a_0.length) : Nat) : Int) < (((b_1.length) : Nat) : Int)))).bind (fun v_8 => some v_8) else ck (I64 ((((a_0.length) : Nat) : Int) - (1 : Int))) ((dF F (fun d : Int => yT F a_0 b_1 d) ((((a_0.length) : Nat) : Int) - (1 : Int))).bind (fun e => match e with | (.inl e) => some (0 : Int) | (.inr e) => some e))
def aFx : PlR := ⟨[(0, .A [0, 1]), (1, .A [0, 1, 10]), (2, .A [4]), (3, .A [0, 1, 5]), (4, .A [0, 1, 5, 21]), (5, .A [0, 1, 5]), (6, .A [0, 1, 5, 32]), (7, .A [4]), (8, .A [4])], []⟩
def aHr : Ty := .pair (.sl (.u .u64)) (.pair (.sl (.u .u64)) .unit)
noncomputable def lW (F : Md) : aH := mSpec aHr (.one (.i .i64)) (fun x => oQ F x.1 x.2.1)
noncomputable def aHs (F : Md) : List (FuncId × aH) := [(189, (aAa F))]
theorem aMX (F : Md) : bD Tryz.prog GL (aHs F) := .cons (aMW F) (by kernel_rfl) (.nil)
theorem aH1 (F : Md) : gam (aHs F) 189 = some (aAa F) := rfl
attribute [go_sem] aHr aFx aH1
set_option maxHeartbeats 4000000 in
theorem aBN (F : Md) : FOK Tryz.prog GL 122 (lW F) := by
 refine bG (aY (aMX F)) mix Tryz.func122 rfl (by kernel_rfl) (by decide) aFx fun w0 S x Θ hw h hF => ?_
 obtain ⟨(a_0 : (List Nat)), (b_1 : (List Nat)), u⟩ := x
 simp only [bK, go_sem]
 replace h : sat (oQ F a_0 b_1) _ := h
 unfold oQ at h
 refine dT h (fun hc h => ?_) fun hc h => ?_
 ·obtain ⟨v_8, hv, h⟩ := aJ h
  try simp only [hv, go_sem]
  exact aG hF [.tmp 4] rfl rfl rfl (aB h) (by simp only [aS, go_sem])
 ·refine aP h fun g0 h => ?_
  refine bQ hF (D := Int) [0, 1] (fun d => [(5, .val (.i .i64) d)]) (fun d => []) h rfl (by simp only [go_sem]) ?_
  rintro i_20 A4 T4 hA4 hE4 h
  simp only [go_sem]
  replace h : sat (yT F a_0 b_1 i_20) _ := h
  unfold yT at h
  refine aNG h (fun hc h => ?_) fun hc h => ?_
  ·refine aP h fun g0 h => aP h fun g1 h => ?_
   refine dT h (fun hc h => ?_) fun hc h => ?_
   ·refine aP h fun g0 h => aP h fun g1 h => ?_
    obtain ⟨v_33, hv, h⟩ := aJ h
    try simp only [hv, go_sem]
    replace h := hE4 _ (aB h)
    try dsimp only at h
    exact aG hF [.tmp 4] rfl rfl rfl (aB h) (by simp only [aS, go_sem])
   ·refine aP h fun g0 h => ?_
    replace h := hA4 _ (aB h)
    exact aQ _ h rfl (by simp only [go_sem])
  ·replace h := hE4 _ (aB h)
   try dsimp only at h
   exact aG hF [.tmp 4] rfl rfl rfl (aB h) (by simp only [aS, go_sem])
attribute [go_sem] lW
noncomputable def yU (F : Md) (a_0 : (List Nat)) : Option Int :=
 if (((a_0.length) : Nat) : Int) = (0 : Int) then some (0 : Int) else ck (I64 ((64 : Int) * (((a_0.length) : Nat) : Int))) (ck (I64 ((((a_0.length) : Nat) : Int) - (1 : Int))) (ck (0 ≤ ((((a_0.length) : Nat) : Int) - (1 : Int)) ∧ ((((a_0.length) : Nat) : Int) - (1 : Int)) < (((a_0.length) : Nat) : Int)) ((bF F (a_0.getD ((((a_0.length) : Nat) : Int) - (1 : Int)).toNat (0 : Nat))).bind (fun v_5 => ck (I64 (((64 : Int) * (((a_0.length) : Nat) : Int)) - v_5)) (some (((64 : Int) * (((a_0.length) : Nat) : Int)) - v_5))))))
def aHt : PlR := ⟨[(0, .A [0]), (1, .A [0, 5]), (2, .A [2]), (3, .A [2])], []⟩
def aJF : Ty := .pair (.sl (.u .u64)) .unit
noncomputable def aAb (F : Md) : aH := mSpec aJF (.one (.i .i64)) (fun x => yU F x.1)
noncomputable def aJG (F : Md) : List (FuncId × aH) := [(188, (dQ F))]
theorem aNO (F : Md) : bD Tryz.prog GL (aJG F) := .cons (nB F) (by kernel_rfl) (.nil)
theorem aJH (F : Md) : gam (aJG F) 188 = some (dQ F) := rfl
attribute [go_sem] aJF aHt aJH
set_option maxHeartbeats 4000000 in
theorem aMY (F : Md) : FOK Tryz.prog GL 121 (aAb F) := by
 refine bG (aY (aNO F)) mix Tryz.func121 rfl (by kernel_rfl) (by decide) aHt fun w0 S x Θ hw h hF => ?_
 obtain ⟨(a_0 : (List Nat)), u⟩ := x
 simp only [bK, go_sem]
 replace h : sat (yU F a_0) _ := h
 unfold yU at h
 refine dT h (fun hc h => ?_) fun hc h => ?_
 ·exact aG hF [.tmp 2] rfl rfl rfl (aB h) (by simp only [aS, go_sem])
 ·refine aP h fun g0 h => aP h fun g1 h => aP h fun g2 h => ?_
  obtain ⟨v_5, hv, h⟩ := aJ h
  try simp only [hv, go_sem]
  refine aP h fun g0 h => ?_
  exact aG hF [.tmp 2] rfl rfl rfl (aB h) (by simp only [aS, go_sem])
attribute [go_sem] aAb
noncomputable def yV (F : Md) (a_0 : (List Nat)) (x7_10 : Int) : Option ((Int) ⊕ ((Unit) ⊕ Int)) :=
 if x7_10 < (((a_0.length) : Nat) : Int) then ck (0 ≤ x7_10 ∧ x7_10 < (((a_0.length) : Nat) : Int)) (if ¬ ((a_0.getD (x7_10.toNat) (0 : Nat)) = (0 : Nat)) then ck (I64 ((64 : Int) * x7_10)) ((kF F (a_0.getD (x7_10.toNat) (0 : Nat))).bind (fun v_19 => ck (I64 (((64 : Int) * x7_10) + v_19)) (some (.inr (.inr (((64 : Int) * x7_10) + v_19)))))) else ck (I64 (x7_10 + (1 : Int))) (some (.inl (x7_10 + (1 : Int))))) else some (.inr (.inl ()))
noncomputable def dR (F : Md) (a_0 : (List Nat)) : Option Int :=
 (dF F (fun d : Int => yV F a_0 d) (0 : Int)).bind (fun e => match e with | (.inl e) => some (-1 : Int) | (.inr e) => some e)
def aFy : PlR := ⟨[(0, .A [0]), (1, .A [5, 6, 7]), (2, .A [5, 6, 7, 8]), (3, .A [3, 4, 5, 6, 7]), (4, .A [3, 4, 5, 6, 7, 13]), (5, .A [2]), (6, .A [5, 6, 7]), (7, .A [2])], []⟩
def aHu : Ty := .pair (.sl (.u .u64)) .unit
noncomputable def xI (F : Md) : aH := mSpec aHu (.one (.i .i64)) (fun x => dR F x.1)
noncomputable def aHv (F : Md) : List (FuncId × aH) := [(164, (jH F))]
theorem aMZ (F : Md) : bD Tryz.prog GL (aHv F) := .cons (aAY F) (by kernel_rfl) (.nil)
theorem aH2 (F : Md) : gam (aHv F) 164 = some (jH F) := rfl
attribute [go_sem] aHu aFy aH2
set_option maxHeartbeats 4000000 in
theorem aL1 (F : Md) : FOK Tryz.prog GL 98 (xI F) := by
 refine bG (aY (aMZ F)) mix Tryz.func98 rfl (by kernel_rfl) (by decide) aFy fun w0 S x Θ hw h hF => ?_
 obtain ⟨(a_0 : (List Nat)), u⟩ := x
 simp only [bK, go_sem]
 replace h : sat (dR F a_0) _ := h
 unfold dR at h
 refine bQ hF (D := Int) [5, 6] (fun d => [(7, .val (.i .i64) d)]) (fun d => []) h rfl (by simp only [go_sem]) ?_
 rintro x7_10 A2 T2 hA2 hE2 h
 simp only [go_sem]
 replace h : sat (yV F a_0 x7_10) _ := h
 unfold yV at h
 refine eG h (fun hc h => ?_) fun hc h => ?_
 ·refine aP h fun g0 h => ?_
  refine dT h (fun hc h => ?_) fun hc h => ?_
  ·refine aP h fun g0 h => ?_
   obtain ⟨v_19, hv, h⟩ := aJ h
   try simp only [hv, go_sem]
   refine aP h fun g0 h => ?_
   replace h := hE2 _ (aB h)
   try dsimp only at h
   exact aG hF [.tmp 2] rfl rfl rfl (aB h) (by simp only [aS, go_sem])
  ·refine aP h fun g0 h => ?_
   replace h := hA2 _ (aB h)
   exact aQ _ h rfl (by simp only [go_sem])
 ·replace h := hE2 _ (aB h)
  try dsimp only at h
  exact aG hF [.tmp 2] rfl rfl rfl (aB h) (by simp only [aS, go_sem])
attribute [go_sem] xI
noncomputable def yW (F : Md) (a_0 : (List Nat)) : Option (List Nat) :=
 (gM F a_0).bind (fun v_3 => ck (aQN v_3) (some (id v_3)))
def aHw : PlR := ⟨[(0, .A [0]), (1, .B [2])], []⟩
def aJI : Ty := .pair (.sl (.u .u64)) .unit
noncomputable def rY (F : Md) : aH := mSpec aJI (.one (.sl (.u .u64))) (fun x => yW F x.1)
noncomputable def aEy (F : Md) : List (FuncId × aH) := [(163, (eI F)), (165, cB)]
theorem aNP (F : Md) : bD Tryz.prog GL (aEy F) := .cons (oP F) (by kernel_rfl) (.cons kE (by kernel_rfl) (.nil))
theorem aJJ (F : Md) : gam (aEy F) 163 = some (eI F) := rfl
theorem aJK (F : Md) : gam (aEy F) 165 = some cB := rfl
attribute [go_sem] aJI aHw aJJ aJK
set_option maxHeartbeats 4000000 in
theorem aHx (F : Md) : FOK Tryz.prog GL 231 (rY F) := by
 refine bG (aY (aNP F)) mix Tryz.func231 rfl (by kernel_rfl) (by decide) aHw fun w0 S x Θ hw h hF => ?_
 obtain ⟨(a_0 : (List Nat)), u⟩ := x
 simp only [bK, go_sem]
 replace h : sat (yW F a_0) _ := h
 unfold yW at h
 obtain ⟨v_3, hv, h⟩ := aJ h
 try simp only [hv, go_sem]
 refine aP h fun g0 h => ?_
 exact aG hF [.tmp 2] rfl rfl rfl (aB h) (by simp only [aS, go_sem])
attribute [go_sem] rY
noncomputable def qI (F : Md) (x22_13 : Int) (out_14 : (List Nat)) (carry_12 : Nat) (x_21 : Nat) : Option ((Nat × Int × (List Nat)) ⊕ (List Nat)) :=
 ck (0 ≤ x22_13 ∧ x22_13 < (((out_14.length) : Nat) : Int)) (ck (aLU (out_14.getD (x22_13.toNat) (0 : Nat)) x_21 carry_12) (ck (0 ≤ x22_13 ∧ x22_13 < (((out_14.length) : Nat) : Int)) (ck (I64 (x22_13 + (1 : Int))) (some (.inl ((aBI (out_14.getD (x22_13.toNat) (0 : Nat)) x_21 carry_12).2.1, (x22_13 + (1 : Int)), (out_14.set (x22_13.toNat) (aBI (out_14.getD (x22_13.toNat) (0 : Nat)) x_21 carry_12).1)))))))
noncomputable def aAy (F : Md) (a_3 : (List Nat)) (b_4 : (List Nat)) (carry_12 : Nat) (x22_13 : Int) (out_14 : (List Nat)) : Option ((Nat × Int × (List Nat)) ⊕ (List Nat)) :=
 if x22_13 < ((((id a_3) ++ ([0] : List Nat)).length : Nat) : Int) then if x22_13 < (((b_4.length) : Nat) : Int) then ck (0 ≤ x22_13 ∧ x22_13 < (((b_4.length) : Nat) : Int)) (qI F x22_13 out_14 carry_12 (b_4.getD (x22_13.toNat) (0 : Nat))) else if carry_12 = (0 : Nat) then some (.inr out_14) else qI F x22_13 out_14 carry_12 (0 : Nat) else some (.inr out_14)
noncomputable def qJ (F : Md) (a_3 : (List Nat)) (b_4 : (List Nat)) : Option (List Nat) :=
 ck (aQN a_3) (ck (((id a_3).length + (1 : Nat)) * 8 ≤ 140737488355328) ((dF F (fun d : Nat × Int × (List Nat) => aAy F a_3 b_4 d.1 d.2.1 d.2.2) ((0 : Nat), (0 : Int), ((id a_3) ++ ([0] : List Nat)))).bind (fun e => (gM F e).bind (fun v_27 => some v_27))))
noncomputable def aBO (F : Md) (a_0 : (List Nat)) (b_1 : (List Nat)) : Option (List Nat) :=
 if (((a_0.length) : Nat) : Int) < (((b_1.length) : Nat) : Int) then qJ F b_1 a_0 else qJ F a_0 b_1
def aHy : PlR := ⟨[(0, .A [0, 1]), (1, .A [0, 1, 13]), (2, .A [0, 1]), (3, .B [1, 5]), (4, .A [1, 5, 6]), (5, .A [1, 5, 6, 21, 22]), (6, .A [1, 5, 6, 21, 22, 23]), (7, .A [1, 5, 6, 7, 21, 22]), (8, .A [1, 5, 6, 7, 8, 21, 22]), (9, .A [1, 5, 6, 7, 8, 21, 22, 25]), (10, .A [1, 5, 6, 7, 8, 21, 22]), (11, .A [1, 5, 6, 7, 8, 21, 22, 34]), (12, .B [1, 5, 6, 21, 22]), (13, .A [1, 5, 6, 21, 22]), (14, .B [4])], [(4, 6), (12, 15)]⟩
def aJL : Ty := .pair (.sl (.u .u64)) (.pair (.sl (.u .u64)) .unit)
noncomputable def aAc (F : Md) : aH := mSpec aJL (.one (.sl (.u .u64))) (fun x => aBO F x.1 x.2.1)
noncomputable def aBP (F : Md) : List (FuncId × aH) := [(162, nU), (163, (eI F)), (165, cB)]
theorem aNQ (F : Md) : bD Tryz.prog GL (aBP F) := .nat aDV (.cons (oP F) (by kernel_rfl) (.cons kE (by kernel_rfl) (.nil)))
theorem aJM (F : Md) : gam (aBP F) 162 = some nU := rfl
theorem aJN (F : Md) : gam (aBP F) 163 = some (eI F) := rfl
theorem aJO (F : Md) : gam (aBP F) 165 = some cB := rfl
attribute [go_sem] aJL aHy aJM aJN aJO
set_option maxHeartbeats 4000000 in
theorem aM0 (F : Md) : FOK Tryz.prog GL 99 (aAc F) := by
 refine bG (aY (aNQ F)) mix Tryz.func99 rfl (by kernel_rfl) (by decide) aHy fun w0 S x Θ hw h hF => ?_
 obtain ⟨(a_0 : (List Nat)), (b_1 : (List Nat)), u⟩ := x
 simp only [bK, go_sem]
 replace h : sat (aBO F a_0 b_1) _ := h
 unfold aBO at h
 refine eB hF (D := (List Nat) × (List Nat)) (fun d => sat (qJ F d.1 d.2) Θ) [] (fun d => [(0, .val (.sl (.u .u64)) d.1), (1, .val (.sl (.u .u64)) d.2)]) (fun d => []) ?_ ?_
 ·simp only [go_sem]
  refine eG h (fun hc h => ?_) fun hc h => ?_
  ·exact aQ (b_1, a_0) h rfl (by simp only [go_sem])
  ·exact aQ (a_0, b_1) h rfl (by simp only [go_sem])
 ·rintro ⟨a_3, b_4⟩ h
  simp only [go_sem]
  replace h : sat (qJ F a_3 b_4) _ := h
  unfold qJ at h
  refine aP h fun g0 h => ?_
  obtain ⟨g0, h⟩ := aK h
  repeat (refine ⟨by omega, ?_⟩)
  refine vC [1] rfl rfl ?_
  simp only [go_sem]
  refine bQ hF (D := Nat × Int × (List Nat)) [1, 21] (fun d => [(5, .own 0), (6, .val (.u .u64) d.1), (22, .val (.i .i64) d.2.1)]) (fun d => [.inr (.row 83 (.u .u64) d.2.2)]) h rfl (by simp only [go_sem]) ?_
  rintro ⟨carry_12, x22_13, out_14⟩ A6 T6 hA6 hE6 h
  simp only [go_sem]
  replace h : sat (aAy F a_3 b_4 carry_12 x22_13 out_14) _ := h
  unfold aAy at h
  refine eG h (fun hc h => ?_) fun hc h => ?_
  ·refine eB hF (D := Nat) (fun d => sat (qI F x22_13 out_14 carry_12 d) T6) [1, 6, 7, 21, 22] (fun d => [(5, .own 0), (8, .val (.u .u64) d)]) (fun d => [.inr (.row 83 (.u .u64) out_14)]) ?_ ?_
   ·simp only [go_sem]
    refine eG h (fun hc h => ?_) fun hc h => ?_
    ·obtain ⟨g0, h⟩ := aK h
     repeat (refine ⟨by omega, ?_⟩)
     exact aQ (b_4.getD (x22_13.toNat) (0 : Nat)) h rfl (by simp only [go_sem])
    ·refine dT h (fun hc h => ?_) fun hc h => ?_
     ·replace h := hE6 _ (aB h)
      try dsimp only at h
      obtain ⟨v_23, hv, h⟩ := aJ h
      try simp only [hv, go_sem]
      exact aG hF [.tmp 4] rfl rfl rfl (aB h) (by simp only [aS, go_sem])
     ·exact aQ (0 : Nat) h rfl (by simp only [go_sem])
   ·rintro x_21 h
    simp only [go_sem]
    replace h : sat (qI F x22_13 out_14 carry_12 x_21) _ := h
    unfold qI at h
    obtain ⟨g0, h⟩ := aK h
    repeat (refine ⟨by omega, ?_⟩)
    obtain ⟨g0, h⟩ := aK h
    repeat (refine ⟨by omega, ?_⟩)
    obtain ⟨g0, h⟩ := aK h
    repeat (refine ⟨by omega, ?_⟩)
    refine aP h fun g0 h => ?_
    replace h := hA6 _ (aB h)
    exact aQ _ h rfl (by simp only [go_sem])
  ·replace h := hE6 _ (aB h)
   try dsimp only at h
   obtain ⟨v_25, hv, h⟩ := aJ h
   try simp only [hv, go_sem]
   exact aG hF [.tmp 4] rfl rfl rfl (aB h) (by simp only [aS, go_sem])
attribute [go_sem] aAc
noncomputable def tB (F : Md) (x22_46 : Int) (b_1 : (List Nat)) (carry_86 : Nat) (out_87 : (List Nat)) : Option ((Int × (List Nat)) ⊕ (List Nat)) :=
 ck (I64 (x22_46 + (((b_1.length) : Nat) : Int))) (ck (0 ≤ (x22_46 + (((b_1.length) : Nat) : Int)) ∧ (x22_46 + (((b_1.length) : Nat) : Int)) < (((out_87.length) : Nat) : Int)) (ck (I64 (x22_46 + (1 : Int))) (some (.inl ((x22_46 + (1 : Int)), (out_87.set (x22_46 + (((b_1.length) : Nat) : Int)).toNat carry_86))))))
noncomputable def yX (F : Md) (b_1 : (List Nat)) (a_0 : (List Nat)) (x22_46 : Int) (carry_90 : Nat) (x29_91 : Int) (out_92 : (List Nat)) : Option ((Nat × Int × (List Nat)) ⊕ (Nat × (List Nat))) :=
 if x29_91 < (((b_1.length) : Nat) : Int) then ck (0 ≤ x29_91 ∧ x29_91 < (((b_1.length) : Nat) : Int)) ((xG F (a_0.getD (x22_46.toNat) (0 : Nat)) (b_1.getD (x29_91.toNat) (0 : Nat))).bind (fun v_105 => ck (aLU v_105.2.1 carry_90 (0 : Nat)) (ck (I64 (x22_46 + x29_91)) (ck (I64 (x22_46 + x29_91)) (ck (0 ≤ (x22_46 + x29_91) ∧ (x22_46 + x29_91) < (((out_92.length) : Nat) : Int)) (ck (aLU (out_92.getD (x22_46 + x29_91).toNat (0 : Nat)) (aBI v_105.2.1 carry_90 (0 : Nat)).1 (0 : Nat)) (ck (0 ≤ (x22_46 + x29_91) ∧ (x22_46 + x29_91) < (((out_92.length) : Nat) : Int)) (ck (I64 (x29_91 + (1 : Int))) (some (.inl (((((v_105.1 + (aBI v_105.2.1 carry_90 (0 : Nat)).2.1) % 18446744073709551616) + (aBI (out_92.getD (x22_46 + x29_91).toNat (0 : Nat)) (aBI v_105.2.1 carry_90 (0 : Nat)).1 (0 : Nat)).2.1) % 18446744073709551616), (x29_91 + (1 : Int)), (out_92.set (x22_46 + x29_91).toNat (aBI (out_92.getD (x22_46 + x29_91).toNat (0 : Nat)) (aBI v_105.2.1 carry_90 (0 : Nat)).1 (0 : Nat)).1)))))))))))) else some (.inr (carry_90, out_92))
noncomputable def yY (F : Md) (a_0 : (List Nat)) (b_1 : (List Nat)) (x22_46 : Int) (out_47 : (List Nat)) : Option ((Int × (List Nat)) ⊕ (List Nat)) :=
 if x22_46 < (((a_0.length) : Nat) : Int) then ck (0 ≤ x22_46 ∧ x22_46 < (((a_0.length) : Nat) : Int)) ((dF F (fun d : Nat × Int × (List Nat) => yX F b_1 a_0 x22_46 d.1 d.2.1 d.2.2) ((0 : Nat), (0 : Int), out_47)).bind (fun e => tB F x22_46 b_1 e.1 e.2)) else some (.inr out_47)
noncomputable def gP (F : Md) (a_0 : (List Nat)) (b_1 : (List Nat)) : Option (List Nat) :=
 ck (I64 ((((a_0.length) : Nat) : Int) + (((b_1.length) : Nat) : Int))) (ck (0 ≤ ((((a_0.length) : Nat) : Int) + (((b_1.length) : Nat) : Int))) (ck ((8 : Int) * ((((a_0.length) : Nat) : Int) + (((b_1.length) : Nat) : Int)) ≤ 281474976710656) ((dF F (fun d : Int × (List Nat) => yY F a_0 b_1 d.1 d.2) ((0 : Int), (List.replicate ((((a_0.length) : Nat) : Int) + (((b_1.length) : Nat) : Int)).toNat (0 : Nat)))).bind (fun e => (gM F e).bind (fun v_109 => some v_109)))))
def aFz : PlR := ⟨[(0, .A [0, 1]), (1, .B [0, 1, 5]), (2, .A [1, 5, 20, 21, 22]), (3, .A [1, 5, 20, 21, 22, 23]), (4, .A [1, 5, 6, 7, 20, 21, 22]), (5, .A [1, 5, 6, 7, 8, 20, 21, 22]), (6, .A [1, 5, 6, 7, 8, 20, 21, 22, 27, 28, 29]), (7, .A [1, 5, 6, 7, 8, 20, 21, 22, 27, 28, 29, 30]), (8, .A [1, 5, 6, 7, 8, 9, 10, 20, 21, 22, 27, 28, 29]), (9, .A [1, 5, 6, 7, 8, 9, 11, 12, 20, 21, 22, 27, 28, 29]), (10, .A [1, 5, 6, 7, 8, 9, 11, 12, 20, 21, 22, 27, 28, 29]), (11, .A [1, 5, 6, 7, 9, 11, 12, 13, 20, 21, 22, 27, 28, 29]), (12, .A [1, 5, 6, 7, 9, 11, 12, 20, 21, 22, 27, 28, 29]), (13, .B [1, 5, 6, 7, 11, 13, 20, 21, 22, 27, 28, 29]), (14, .A [1, 5, 6, 7, 8, 20, 21, 22, 27, 28, 29]), (15, .A [1, 5, 6, 7, 8, 20, 21, 22, 27, 28, 29]), (16, .B [1, 5, 20, 21, 22]), (17, .A [1, 5, 20, 21, 22]), (18, .B [4])], [(9, 19)]⟩
def aHz : Ty := .pair (.sl (.u .u64)) (.pair (.sl (.u .u64)) .unit)
noncomputable def eQ (F : Md) : aH := mSpec aHz (.one (.sl (.u .u64))) (fun x => gP F x.1 x.2.1)
noncomputable def aAd (F : Md) : List (FuncId × aH) := [(161, (vF F)), (162, nU), (163, (eI F))]
theorem aM1 (F : Md) : bD Tryz.prog GL (aAd F) := .cons (aKz F) (by kernel_rfl) (.nat aDV (.cons (oP F) (by kernel_rfl) (.nil)))
theorem aH3 (F : Md) : gam (aAd F) 161 = some (vF F) := rfl
theorem aH4 (F : Md) : gam (aAd F) 162 = some nU := rfl
theorem aH5 (F : Md) : gam (aAd F) 163 = some (eI F) := rfl
attribute [go_sem] aHz aFz aH3 aH4 aH5
set_option maxHeartbeats 4000000 in
theorem pB (F : Md) : FOK Tryz.prog GL 94 (eQ F) := by
 refine bG (aY (aM1 F)) mix Tryz.func94 rfl (by kernel_rfl) (by decide) aFz fun w0 S x Θ hw h hF => ?_
 obtain ⟨(a_0 : (List Nat)), (b_1 : (List Nat)), u⟩ := x
 simp only [bK, go_sem]
 replace h : sat (gP F a_0 b_1) _ := h
 unfold gP at h
 obtain ⟨g0, h⟩ := aK h
 repeat (refine ⟨by omega, ?_⟩)
 obtain ⟨g0, h⟩ := aK h
 obtain ⟨g1, h⟩ := aK h
 repeat (refine ⟨by omega, ?_⟩)
 refine bQ hF (D := Int × (List Nat)) [1, 20, 21] (fun d => [(5, .own 0), (22, .val (.i .i64) d.1)]) (fun d => [.inr (.row 83 (.u .u64) d.2)]) h rfl (by simp only [go_sem]) ?_
 rintro ⟨x22_46, out_47⟩ A3 T3 hA3 hE3 h
 simp only [go_sem]
 replace h : sat (yY F a_0 b_1 x22_46 out_47) _ := h
 unfold yY at h
 refine eG h (fun hc h => ?_) fun hc h => ?_
 ·obtain ⟨g0, h⟩ := aK h
  repeat (refine ⟨by omega, ?_⟩)
  refine eB hF (D := Nat × (List Nat)) (fun d => sat (tB F x22_46 b_1 d.1 d.2) T3) [1, 6, 20, 21, 22] (fun d => [(5, .own 0), (8, .val (.u .u64) d.1)]) (fun d => [.inr (.row 83 (.u .u64) d.2)]) ?_ ?_
  ·simp only [go_sem]
   refine bQ hF (D := Nat × Int × (List Nat)) [1, 6, 7, 20, 21, 22, 27, 28] (fun d => [(5, .own 0), (8, .val (.u .u64) d.1), (29, .val (.i .i64) d.2.1)]) (fun d => [.inr (.row 83 (.u .u64) d.2.2)]) h rfl (by simp only [go_sem]) ?_
   rintro ⟨carry_90, x29_91, out_92⟩ A7 T7 hA7 hE7 h
   simp only [go_sem]
   replace h : sat (yX F b_1 a_0 x22_46 carry_90 x29_91 out_92) _ := h
   unfold yX at h
   refine eG h (fun hc h => ?_) fun hc h => ?_
   ·obtain ⟨g0, h⟩ := aK h
    repeat (refine ⟨by omega, ?_⟩)
    obtain ⟨v_105, hv, h⟩ := aJ h
    try simp only [hv, go_sem]
    obtain ⟨g0, h⟩ := aK h
    repeat (refine ⟨by omega, ?_⟩)
    obtain ⟨g0, h⟩ := aK h
    repeat (refine ⟨by omega, ?_⟩)
    obtain ⟨g0, h⟩ := aK h
    repeat (refine ⟨by omega, ?_⟩)
    obtain ⟨g0, h⟩ := aK h
    repeat (refine ⟨by omega, ?_⟩)
    obtain ⟨g0, h⟩ := aK h
    repeat (refine ⟨by omega, ?_⟩)
    obtain ⟨g0, h⟩ := aK h
    repeat (refine ⟨by omega, ?_⟩)
    obtain ⟨g0, h⟩ := aK h
    repeat (refine ⟨by omega, ?_⟩)
    replace h := hA7 _ (aB h)
    exact aQ _ h rfl (by simp only [go_sem])
   ·replace h := hE7 _ (aB h)
    try dsimp only at h
    exact aQ (carry_90, out_92) h rfl (by simp only [go_sem])
  ·rintro ⟨carry_86, out_87⟩ h
   simp only [go_sem]
   replace h : sat (tB F x22_46 b_1 carry_86 out_87) _ := h
   unfold tB at h
   obtain ⟨g0, h⟩ := aK h
   repeat (refine ⟨by omega, ?_⟩)
   obtain ⟨g0, h⟩ := aK h
   repeat (refine ⟨by omega, ?_⟩)
   obtain ⟨g0, h⟩ := aK h
   try simp only [I64, I32] at g0
   repeat (refine ⟨zAA, ?_⟩)
   replace h := hA3 _ (aB h)
   exact aQ _ h rfl (by simp only [go_sem])
 ·replace h := hE3 _ (aB h)
  try dsimp only at h
  obtain ⟨v_107, hv, h⟩ := aJ h
  try simp only [hv, go_sem]
  exact aG hF [.tmp 4] rfl rfl rfl (aB h) (by simp only [aS, go_sem])
attribute [go_sem] eQ
noncomputable def aAz (F : Md) (a_0 : (List Nat)) (n_1 : Int) (x20_7 : Int) (out_8 : (List Nat)) : Option ((Int × (List Nat)) ⊕ (List Nat)) :=
 if x20_7 < (((a_0.length) : Nat) : Int) then ck (0 ≤ x20_7 ∧ x20_7 < (((a_0.length) : Nat) : Int)) (ck (I64 (Int.tdiv n_1 (64 : Int))) (ck (I64 ((Int.tdiv n_1 (64 : Int)) + x20_7)) (ck (0 ≤ ((Int.tdiv n_1 (64 : Int)) + x20_7) ∧ ((Int.tdiv n_1 (64 : Int)) + x20_7) < (((out_8.length) : Nat) : Int)) (ck (0 ≤ ((Int.tdiv n_1 (64 : Int)) + x20_7) ∧ ((Int.tdiv n_1 (64 : Int)) + x20_7) < (((out_8.length) : Nat) : Int)) (ck (I64 (Int.tdiv n_1 (64 : Int))) (ck (I64 ((Int.tdiv n_1 (64 : Int)) + x20_7)) (ck (I64 (((Int.tdiv n_1 (64 : Int)) + x20_7) + (1 : Int))) (ck (0 ≤ (((Int.tdiv n_1 (64 : Int)) + x20_7) + (1 : Int)) ∧ (((Int.tdiv n_1 (64 : Int)) + x20_7) + (1 : Int)) < (((out_8.set ((Int.tdiv n_1 (64 : Int)) + x20_7).toNat ((out_8.getD ((Int.tdiv n_1 (64 : Int)) + x20_7).toNat (0 : Nat)) ||| (((a_0.getD (x20_7.toNat) (0 : Nat)) * (2 ^ ((Int.tmod n_1 (64 : Int)) % (18446744073709551616 : Int)).toNat)) % 18446744073709551616))).length : Nat) : Int)) (ck (I64 ((63 : Int) - (Int.tmod n_1 (64 : Int)))) (ck (0 ≤ (((Int.tdiv n_1 (64 : Int)) + x20_7) + (1 : Int)) ∧ (((Int.tdiv n_1 (64 : Int)) + x20_7) + (1 : Int)) < (((out_8.set ((Int.tdiv n_1 (64 : Int)) + x20_7).toNat ((out_8.getD ((Int.tdiv n_1 (64 : Int)) + x20_7).toNat (0 : Nat)) ||| (((a_0.getD (x20_7.toNat) (0 : Nat)) * (2 ^ ((Int.tmod n_1 (64 : Int)) % (18446744073709551616 : Int)).toNat)) % 18446744073709551616))).length : Nat) : Int)) (ck (I64 (x20_7 + (1 : Int))) (some (.inl ((x20_7 + (1 : Int)), ((out_8.set ((Int.tdiv n_1 (64 : Int)) + x20_7).toNat ((out_8.getD ((Int.tdiv n_1 (64 : Int)) + x20_7).toNat (0 : Nat)) ||| (((a_0.getD (x20_7.toNat) (0 : Nat)) * (2 ^ ((Int.tmod n_1 (64 : Int)) % (18446744073709551616 : Int)).toNat)) % 18446744073709551616))).set (((Int.tdiv n_1 (64 : Int)) + x20_7) + (1 : Int)).toNat (((out_8.set ((Int.tdiv n_1 (64 : Int)) + x20_7).toNat ((out_8.getD ((Int.tdiv n_1 (64 : Int)) + x20_7).toNat (0 : Nat)) ||| (((a_0.getD (x20_7.toNat) (0 : Nat)) * (2 ^ ((Int.tmod n_1 (64 : Int)) % (18446744073709551616 : Int)).toNat)) % 18446744073709551616))).getD (((Int.tdiv n_1 (64 : Int)) + x20_7) + (1 : Int)).toNat (0 : Nat)) ||| (((a_0.getD (x20_7.toNat) (0 : Nat)) / (2 : Nat)) / (2 ^ (((63 : Int) - (Int.tmod n_1 (64 : Int))) % (18446744073709551616 : Int)).toNat)))))))))))))))))) else some (.inr out_8)
noncomputable def iJ (F : Md) (a_0 : (List Nat)) (n_1 : Int) : Option (List Nat) :=
 if (((a_0.length) : Nat) : Int) = (0 : Int) then some ([] : List Nat) else ck (I64 (Int.tdiv n_1 (64 : Int))) (ck (I64 ((Int.tdiv n_1 (64 : Int)) + (((a_0.length) : Nat) : Int))) (ck (I64 (((Int.tdiv n_1 (64 : Int)) + (((a_0.length) : Nat) : Int)) + (1 : Int))) (ck (0 ≤ (((Int.tdiv n_1 (64 : Int)) + (((a_0.length) : Nat) : Int)) + (1 : Int))) (ck ((8 : Int) * (((Int.tdiv n_1 (64 : Int)) + (((a_0.length) : Nat) : Int)) + (1 : Int)) ≤ 281474976710656) ((dF F (fun d : Int × (List Nat) => aAz F a_0 n_1 d.1 d.2) ((0 : Int), (List.replicate (((Int.tdiv n_1 (64 : Int)) + (((a_0.length) : Nat) : Int)) + (1 : Int)).toNat (0 : Nat)))).bind (fun e => (gM F e).bind (fun v_15 => some v_15)))))))
def aHA : PlR := ⟨[(0, .A [0, 1]), (1, .A [0, 1, 10]), (2, .A [4]), (3, .B [0, 1, 5]), (4, .A [1, 5, 18, 19, 20]), (5, .A [1, 5, 18, 19, 20, 21]), (6, .A [1, 5, 6, 7, 18, 19, 20]), (7, .B [1, 5, 6, 7, 18, 19, 20]), (8, .B [1, 5, 18, 19, 20]), (9, .A [1, 5, 18, 19, 20]), (10, .B [4])], []⟩
def aJP : Ty := .pair (.sl (.u .u64)) (.pair (.i .i64) .unit)
noncomputable def rZ (F : Md) : aH := mSpec aJP (.one (.sl (.u .u64))) (fun x => iJ F x.1 x.2.1)
noncomputable def aJQ (F : Md) : List (FuncId × aH) := [(163, (eI F))]
theorem aNR (F : Md) : bD Tryz.prog GL (aJQ F) := .cons (oP F) (by kernel_rfl) (.nil)
theorem aJR (F : Md) : gam (aJQ F) 163 = some (eI F) := rfl
attribute [go_sem] aJP aHA aJR
set_option maxHeartbeats 4000000 in
theorem aHB (F : Md) : FOK Tryz.prog GL 95 (rZ F) := by
 refine bG (aY (aNR F)) mix Tryz.func95 rfl (by kernel_rfl) (by decide) aHA fun w0 S x Θ hw h hF => ?_
 obtain ⟨(a_0 : (List Nat)), (n_1 : Int), u⟩ := x
 simp only [bK, go_sem]
 replace h : sat (iJ F a_0 n_1) _ := h
 unfold iJ at h
 refine dT h (fun hc h => ?_) fun hc h => ?_
 ·exact aG hF [.tmp 4] rfl rfl rfl (aB h) (by simp only [aS, go_sem])
 ·obtain ⟨g0, h⟩ := aK h
  try simp only [I64, I32] at g0
  repeat (refine ⟨zAA, ?_⟩)
  obtain ⟨g0, h⟩ := aK h
  try simp only [I64, I32] at g0
  repeat (refine ⟨zAA, ?_⟩)
  obtain ⟨g0, h⟩ := aK h
  try simp only [I64, I32] at g0
  repeat (refine ⟨zAA, ?_⟩)
  obtain ⟨g0, h⟩ := aK h
  obtain ⟨g1, h⟩ := aK h
  repeat (refine ⟨zAA, ?_⟩)
  refine bQ hF (D := Int × (List Nat)) [1, 18, 19] (fun d => [(5, .own 0), (20, .val (.i .i64) d.1)]) (fun d => [.inr (.row 83 (.u .u64) d.2)]) h rfl (by simp only [go_sem]) ?_
  rintro ⟨x20_7, out_8⟩ A5 T5 hA5 hE5 h
  simp only [go_sem]
  replace h : sat (aAz F a_0 n_1 x20_7 out_8) _ := h
  unfold aAz at h
  refine eG h (fun hc h => ?_) fun hc h => ?_
  ·obtain ⟨g0, h⟩ := aK h
   repeat (refine ⟨zAA, ?_⟩)
   obtain ⟨g0, h⟩ := aK h
   try simp only [I64, I32] at g0
   repeat (refine ⟨zAA, ?_⟩)
   obtain ⟨g0, h⟩ := aK h
   try simp only [I64, I32] at g0
   repeat (refine ⟨zAA, ?_⟩)
   obtain ⟨g0, h⟩ := aK h
   repeat (refine ⟨zAA, ?_⟩)
   obtain ⟨g0, h⟩ := aK h
   repeat (refine ⟨zAA, ?_⟩)
   obtain ⟨g0, h⟩ := aK h
   try simp only [I64, I32] at g0
   repeat (refine ⟨zAA, ?_⟩)
   obtain ⟨g0, h⟩ := aK h
   try simp only [I64, I32] at g0
   repeat (refine ⟨zAA, ?_⟩)
   obtain ⟨g0, h⟩ := aK h
   try simp only [I64, I32] at g0
   repeat (refine ⟨zAA, ?_⟩)
   obtain ⟨g0, h⟩ := aK h
   repeat (refine ⟨zAA, ?_⟩)
   obtain ⟨g0, h⟩ := aK h
   try simp only [I64, I32] at g0
   repeat (refine ⟨zAA, ?_⟩)
   obtain ⟨g0, h⟩ := aK h
   repeat (refine ⟨zAA, ?_⟩)
   obtain ⟨g0, h⟩ := aK h
   try simp only [I64, I32] at g0
   repeat (refine ⟨zAA, ?_⟩)
   replace h := hA5 _ (aB h)
   exact aQ _ h rfl (by (try simp only [iI, gA, true_or, and_self, go_sem]) <;> (repeat' apply And.intro) <;> first | rfl | (left; rfl) | (right; rfl) | (left; simp only [go_sem]; done) | (right; simp only [go_sem]; done) | (simp; done) | (simp only [*]; done) | omega)
  ·replace h := hE5 _ (aB h)
   try dsimp only at h
   obtain ⟨v_13, hv, h⟩ := aJ h
   try simp only [hv, go_sem]
   exact aG hF [.tmp 4] rfl rfl rfl (aB h) (by simp only [aS, go_sem])
attribute [go_sem] rZ
noncomputable def yZ (F : Md) (n_1 : Int) (a_0 : (List Nat)) (x22_10 : Int) (out_11 : (List Nat)) : Option ((Int × (List Nat)) ⊕ (List Nat)) :=
 if x22_10 < (((List.drop (Int.tdiv n_1 (64 : Int)).toNat a_0).length : Nat) : Int) then ck (0 ≤ x22_10 ∧ x22_10 < (((List.drop (Int.tdiv n_1 (64 : Int)).toNat a_0).length : Nat) : Int)) (ck (0 ≤ x22_10 ∧ x22_10 < (((out_11.length) : Nat) : Int)) (ck (I64 (x22_10 + (1 : Int))) (if (x22_10 + (1 : Int)) < (((List.drop (Int.tdiv n_1 (64 : Int)).toNat a_0).length : Nat) : Int) then ck (0 ≤ x22_10 ∧ x22_10 < (((out_11.set (x22_10.toNat) (((List.drop (Int.tdiv n_1 (64 : Int)).toNat a_0).getD (x22_10.toNat) (0 : Nat)) / (2 ^ ((Int.tmod n_1 (64 : Int)) % (18446744073709551616 : Int)).toNat))).length : Nat) : Int)) (ck (I64 (x22_10 + (1 : Int))) (ck (0 ≤ (x22_10 + (1 : Int)) ∧ (x22_10 + (1 : Int)) < (((List.drop (Int.tdiv n_1 (64 : Int)).toNat a_0).length : Nat) : Int)) (ck (I64 ((63 : Int) - (Int.tmod n_1 (64 : Int)))) (ck (0 ≤ x22_10 ∧ x22_10 < (((out_11.set (x22_10.toNat) (((List.drop (Int.tdiv n_1 (64 : Int)).toNat a_0).getD (x22_10.toNat) (0 : Nat)) / (2 ^ ((Int.tmod n_1 (64 : Int)) % (18446744073709551616 : Int)).toNat))).length : Nat) : Int)) (ck (I64 (x22_10 + (1 : Int))) (some (.inl ((x22_10 + (1 : Int)), ((out_11.set (x22_10.toNat) (((List.drop (Int.tdiv n_1 (64 : Int)).toNat a_0).getD (x22_10.toNat) (0 : Nat)) / (2 ^ ((Int.tmod n_1 (64 : Int)) % (18446744073709551616 : Int)).toNat))).set (x22_10.toNat) (((out_11.set (x22_10.toNat) (((List.drop (Int.tdiv n_1 (64 : Int)).toNat a_0).getD (x22_10.toNat) (0 : Nat)) / (2 ^ ((Int.tmod n_1 (64 : Int)) % (18446744073709551616 : Int)).toNat))).getD (x22_10.toNat) (0 : Nat)) ||| ((((((List.drop (Int.tdiv n_1 (64 : Int)).toNat a_0).getD (x22_10 + (1 : Int)).toNat (0 : Nat)) * (2 : Nat)) % 18446744073709551616) * (2 ^ (((63 : Int) - (Int.tmod n_1 (64 : Int))) % (18446744073709551616 : Int)).toNat)) % 18446744073709551616))))))))))) else ck (I64 (x22_10 + (1 : Int))) (some (.inl ((x22_10 + (1 : Int)), (out_11.set (x22_10.toNat) (((List.drop (Int.tdiv n_1 (64 : Int)).toNat a_0).getD (x22_10.toNat) (0 : Nat)) / (2 ^ ((Int.tmod n_1 (64 : Int)) % (18446744073709551616 : Int)).toNat))))))))) else some (.inr out_11)
noncomputable def kR (F : Md) (a_0 : (List Nat)) (n_1 : Int) : Option (List Nat) :=
 ck (I64 (Int.tdiv n_1 (64 : Int))) (if (((a_0.length) : Nat) : Int) ≤ (Int.tdiv n_1 (64 : Int)) then some ([] : List Nat) else ck (I64 (Int.tdiv n_1 (64 : Int))) (ck (0 ≤ (Int.tdiv n_1 (64 : Int)) ∧ (Int.tdiv n_1 (64 : Int)) ≤ (((a_0.length) : Nat) : Int)) (ck (0 ≤ (((List.drop (Int.tdiv n_1 (64 : Int)).toNat a_0).length : Nat) : Int)) (ck ((8 : Int) * (((List.drop (Int.tdiv n_1 (64 : Int)).toNat a_0).length : Nat) : Int) ≤ 281474976710656) ((dF F (fun d : Int × (List Nat) => yZ F n_1 a_0 d.1 d.2) ((0 : Int), (List.replicate (List.drop (Int.tdiv n_1 (64 : Int)).toNat a_0).length (0 : Nat)))).bind (fun e => (gM F e).bind (fun v_19 => some v_19)))))))
def aFA : PlR := ⟨[(0, .A [0, 1]), (1, .A [0, 1, 12]), (2, .A [4]), (3, .A [0, 1]), (4, .B [0, 1, 5]), (5, .A [0, 1, 5, 20, 21, 22]), (6, .A [0, 1, 5, 20, 21, 22, 23]), (7, .A [0, 1, 5, 6, 7, 20, 21, 22]), (8, .B [0, 1, 5, 6, 20, 21, 22]), (9, .A [0, 1, 5, 6, 20, 21, 22, 39]), (10, .C 17 [0, 1, 5, 20, 21, 22]), (11, .A [0, 1, 5, 20, 21, 22]), (12, .B [4])], []⟩
def aHC : Ty := .pair (.sl (.u .u64)) (.pair (.i .i64) .unit)
noncomputable def pC (F : Md) : aH := mSpec aHC (.one (.sl (.u .u64))) (fun x => kR F x.1 x.2.1)
noncomputable def aHD (F : Md) : List (FuncId × aH) := [(163, (eI F))]
theorem aM2 (F : Md) : bD Tryz.prog GL (aHD F) := .cons (oP F) (by kernel_rfl) (.nil)
theorem aH6 (F : Md) : gam (aHD F) 163 = some (eI F) := rfl
attribute [go_sem] aHC aFA aH6
set_option maxHeartbeats 4000000 in
theorem aFB (F : Md) : FOK Tryz.prog GL 97 (pC F) := by
 refine bG (aY (aM2 F)) mix Tryz.func97 rfl (by kernel_rfl) (by decide) aFA fun w0 S x Θ hw h hF => ?_
 obtain ⟨(a_0 : (List Nat)), (n_1 : Int), u⟩ := x
 simp only [bK, go_sem]
 replace h : sat (kR F a_0 n_1) _ := h
 unfold kR at h
 obtain ⟨g0, h⟩ := aK h
 try simp only [I64, I32] at g0
 repeat (refine ⟨zAA, ?_⟩)
 refine aNG h (fun hc h => ?_) fun hc h => ?_
 ·exact aG hF [.tmp 4] rfl rfl rfl (aB h) (by simp only [aS, go_sem])
 ·obtain ⟨g0, h⟩ := aK h
  obtain ⟨g1, h⟩ := aK h
  try simp only [I64, I32] at g0
  repeat (refine ⟨zAA, ?_⟩)
  obtain ⟨g0, h⟩ := aK h
  obtain ⟨g1, h⟩ := aK h
  repeat (refine ⟨zAA, ?_⟩)
  refine bQ hF (D := Int × (List Nat)) [0, 1, 20, 21] (fun d => [(5, .own 0), (22, .val (.i .i64) d.1)]) (fun d => [.inr (.row 83 (.u .u64) d.2)]) h rfl (by simp only [go_sem]) ?_
  rintro ⟨x22_10, out_11⟩ A6 T6 hA6 hE6 h
  simp only [go_sem]
  replace h : sat (yZ F n_1 a_0 x22_10 out_11) _ := h
  unfold yZ at h
  refine eG h (fun hc h => ?_) fun hc h => ?_
  ·obtain ⟨g0, h⟩ := aK h
   repeat (refine ⟨zAA, ?_⟩)
   obtain ⟨g0, h⟩ := aK h
   repeat (refine ⟨zAA, ?_⟩)
   obtain ⟨g0, h⟩ := aK h
   try simp only [I64, I32] at g0
   repeat (refine ⟨zAA, ?_⟩)
   refine ⟨fun hc => ?_, fun hc => ?_⟩
   ·replace h := iW hc h
    obtain ⟨g0, h⟩ := aK h
    obtain ⟨g1, h⟩ := aK h
    obtain ⟨g2, h⟩ := aK h
    obtain ⟨g3, h⟩ := aK h
    obtain ⟨g4, h⟩ := aK h
    try simp only [I64, I32] at g1
    try simp only [I64, I32] at g3
    repeat (refine ⟨zAA, ?_⟩)
    obtain ⟨g0, h⟩ := aK h
    try simp only [I64, I32] at g0
    repeat (refine ⟨zAA, ?_⟩)
    replace h := hA6 _ (aB h)
    exact aQ _ h rfl (by (try simp only [iI, gA, true_or, and_self, go_sem]) <;> (repeat' apply And.intro) <;> first | rfl | (left; rfl) | (right; rfl) | (left; simp only [go_sem]; done) | (right; simp only [go_sem]; done) | (simp; done) | (simp only [*]; done) | omega)
   ·replace h := iX (by first | exact hc | omega) h
    obtain ⟨g0, h⟩ := aK h
    try simp only [I64, I32] at g0
    repeat (refine ⟨zAA, ?_⟩)
    replace h := hA6 _ (aB h)
    exact aQ _ h rfl (by simp only [go_sem])
  ·replace h := hE6 _ (aB h)
   try dsimp only at h
   obtain ⟨v_17, hv, h⟩ := aJ h
   try simp only [hv, go_sem]
   exact aG hF [.tmp 4] rfl rfl rfl (aB h) (by simp only [aS, go_sem])
attribute [go_sem] pC
noncomputable def tC (F : Md) (rest_11 : Nat) (q_12 : (List Nat)) : Option ((List Nat) × ((List Nat) × Unit)) :=
 (gM F q_12).bind (fun v_15 => (gM F ([rest_11] : List Nat)).bind (fun v_16 => some (v_15, v_16, ())))
noncomputable def zA (F : Md) (a_0 : (List Nat)) (b_1 : Nat) (rest_18 : Nat) (i_19 : Int) (q_20 : (List Nat)) : Option ((Nat × Int × (List Nat)) ⊕ (Nat × (List Nat))) :=
 if (0 : Int) ≤ i_19 then ck (0 ≤ i_19 ∧ i_19 < (((a_0.length) : Nat) : Int)) ((xH F rest_18 (a_0.getD (i_19.toNat) (0 : Nat)) b_1).bind (fun v_28 => ck (0 ≤ i_19 ∧ i_19 < (((q_20.length) : Nat) : Int)) (ck (I64 (i_19 - (1 : Int))) (some (.inl (v_28.2.1, (i_19 - (1 : Int)), (q_20.set (i_19.toNat) v_28.1))))))) else some (.inr (rest_18, q_20))
noncomputable def sA (F : Md) (a_0 : (List Nat)) (b_1 : Nat) : Option ((List Nat) × ((List Nat) × Unit)) :=
 ck (0 ≤ (((a_0.length) : Nat) : Int)) (ck ((8 : Int) * (((a_0.length) : Nat) : Int) ≤ 281474976710656) (ck (I64 ((((a_0.length) : Nat) : Int) - (1 : Int))) ((dF F (fun d : Nat × Int × (List Nat) => zA F a_0 b_1 d.1 d.2.1 d.2.2) ((0 : Nat), ((((a_0.length) : Nat) : Int) - (1 : Int)), (List.replicate (a_0.length) (0 : Nat)))).bind (fun e => tC F e.1 e.2))))
def aFC : PlR := ⟨[(0, .A [0, 1]), (1, .B [0, 1, 6]), (2, .A [0, 1, 6, 7]), (3, .A [0, 1, 6, 7, 8]), (4, .A [0, 1, 6, 7, 8, 16]), (5, .A [0, 1, 6, 7, 8]), (6, .B [0, 1, 6, 7, 8]), (7, .B [4, 5])], [(6, 10)]⟩
def aHE : Ty := .pair (.sl (.u .u64)) (.pair (.u .u64) .unit)
noncomputable def xJ (F : Md) : aH := mSpec aHE (.tup (.pair (.sl (.u .u64)) (.pair (.sl (.u .u64)) .unit))) (fun x => sA F x.1 x.2.1)
noncomputable def aC3 (F : Md) : List (FuncId × aH) := [(163, (eI F)), (252, (vG F))]
theorem aM3 (F : Md) : bD Tryz.prog GL (aC3 F) := .cons (oP F) (by kernel_rfl) (.cons (aKA F) (by kernel_rfl) (.nil))
theorem aH7 (F : Md) : gam (aC3 F) 163 = some (eI F) := rfl
theorem aH8 (F : Md) : gam (aC3 F) 252 = some (vG F) := rfl
attribute [go_sem] aHE aFC aH7 aH8
set_option maxHeartbeats 4000000 in
theorem aL2 (F : Md) : FOK Tryz.prog GL 219 (xJ F) := by
 refine bG (aY (aM3 F)) mix Tryz.func219 rfl (by kernel_rfl) (by decide) aFC fun w0 S x Θ hw h hF => ?_
 obtain ⟨(a_0 : (List Nat)), (b_1 : Nat), u⟩ := x
 simp only [bK, go_sem]
 replace h : sat (sA F a_0 b_1) _ := h
 unfold sA at h
 obtain ⟨g0, h⟩ := aK h
 obtain ⟨g1, h⟩ := aK h
 repeat (refine ⟨by omega, ?_⟩)
 refine eB hF (D := Nat × (List Nat)) (fun d => sat (tC F d.1 d.2) Θ) [] (fun d => [(6, .own 0), (7, .val (.u .u64) d.1)]) (fun d => [.inr (.row 83 (.u .u64) d.2)]) ?_ ?_
 ·simp only [go_sem]
  obtain ⟨g0, h⟩ := aK h
  repeat (refine ⟨by omega, ?_⟩)
  refine bQ hF (D := Nat × Int × (List Nat)) [0, 1] (fun d => [(6, .own 0), (7, .val (.u .u64) d.1), (8, .val (.i .i64) d.2.1)]) (fun d => [.inr (.row 83 (.u .u64) d.2.2)]) h rfl (by simp only [go_sem]) ?_
  rintro ⟨rest_18, i_19, q_20⟩ A4 T4 hA4 hE4 h
  simp only [go_sem]
  replace h : sat (zA F a_0 b_1 rest_18 i_19 q_20) _ := h
  unfold zA at h
  refine aNG h (fun hc h => ?_) fun hc h => ?_
  ·obtain ⟨g0, h⟩ := aK h
   repeat (refine ⟨by omega, ?_⟩)
   obtain ⟨v_28, hv, h⟩ := aJ h
   try simp only [hv, go_sem]
   obtain ⟨g0, h⟩ := aK h
   repeat (refine ⟨by omega, ?_⟩)
   obtain ⟨g0, h⟩ := aK h
   repeat (refine ⟨by omega, ?_⟩)
   replace h := hA4 _ (aB h)
   exact aQ _ h rfl (by simp only [go_sem])
  ·replace h := hE4 _ (aB h)
   try dsimp only at h
   exact aQ (rest_18, q_20) h rfl (by simp only [go_sem])
 ·rintro ⟨rest_11, q_12⟩ h
  simp only [go_sem]
  replace h : sat (tC F rest_11 q_12) _ := h
  unfold tC at h
  obtain ⟨v_15, hv, h⟩ := aJ h
  try simp only [hv, go_sem]
  obtain ⟨v_16, hv, h⟩ := aJ h
  try simp only [hv, go_sem]
  exact aG hF [.tmp 4, .tmp 5] rfl rfl rfl (aB h) (by simp only [aS, go_sem])
attribute [go_sem] xJ
noncomputable def kG (F : Md) (a_0 : (List Nat)) (n_1 : Int) : Option (List Nat) :=
 ck (aQN a_0) (ck (I64 (n_1 - (((a_0.length) : Nat) : Int))) (ck (0 ≤ (n_1 - (((a_0.length) : Nat) : Int))) (ck (((id a_0).length + (n_1 - (((a_0.length) : Nat) : Int)).toNat) * 8 ≤ 140737488355328) (some ((id a_0) ++ (List.replicate (n_1 - (((a_0.length) : Nat) : Int)).toNat (0 : Nat)))))))
def aDZ : PlR := ⟨[(0, .A [0, 1]), (1, .B [4])], []⟩
def aFD : Ty := .pair (.sl (.u .u64)) (.pair (.i .i64) .unit)
noncomputable def vH (F : Md) : aH := mSpec aFD (.one (.sl (.u .u64))) (fun x => kG F x.1 x.2.1)
noncomputable def aFE (F : Md) : List (FuncId × aH) := [(165, cB)]
theorem aL3 (F : Md) : bD Tryz.prog GL (aFE F) := .cons kE (by kernel_rfl) (.nil)
theorem aGI (F : Md) : gam (aFE F) 165 = some cB := rfl
attribute [go_sem] aFD aDZ aGI
set_option maxHeartbeats 4000000 in
theorem aKB (F : Md) : FOK Tryz.prog GL 220 (vH F) := by
 refine bG (aY (aL3 F)) mix Tryz.func220 rfl (by kernel_rfl) (by decide) aDZ fun w0 S x Θ hw h hF => ?_
 obtain ⟨(a_0 : (List Nat)), (n_1 : Int), u⟩ := x
 simp only [bK, go_sem]
 replace h : sat (kG F a_0 n_1) _ := h
 unfold kG at h
 refine aP h fun g0 h => ?_
 refine aP h fun g0 h => ?_
 obtain ⟨g0, h⟩ := aK h
 obtain ⟨g1, h⟩ := aK h
 repeat (refine ⟨by omega, ?_⟩)
 exact aG hF [.tmp 4] rfl rfl rfl (aB h) (by simp only [aS, go_sem])
attribute [go_sem] vH
noncomputable def wK (F : Md) (a_0 : (List Nat)) (b_1 : (List Nat)) : Option ((List Nat) × ((List Nat) × Unit)) :=
 ck ((gM F (List.replicate (((((a_0.length) : Nat) : Int) - (((b_1.length) : Nat) : Int)) + (1 : Int)).toNat (0 : Nat))).isSome = true) (ck (0 ≤ (((b_1.length) : Nat) : Int) ∧ (((b_1.length) : Nat) : Int) ≤ ((((kG F ((iJ F a_0 ((bF F (b_1.getD ((((b_1.length) : Nat) : Int) - (1 : Int)).toNat (0 : Nat))).getD (0 : Int))).getD ([] : List Nat)) ((((a_0.length) : Nat) : Int) + (1 : Int))).getD ([] : List Nat)).length : Nat) : Int)) (ck ((gM F (List.take (b_1.length) ((kG F ((iJ F a_0 ((bF F (b_1.getD ((((b_1.length) : Nat) : Int) - (1 : Int)).toNat (0 : Nat))).getD (0 : Int))).getD ([] : List Nat)) ((((a_0.length) : Nat) : Int) + (1 : Int))).getD ([] : List Nat)))).isSome = true) (ck ((kR F ((gM F (List.take (b_1.length) ((kG F ((iJ F a_0 ((bF F (b_1.getD ((((b_1.length) : Nat) : Int) - (1 : Int)).toNat (0 : Nat))).getD (0 : Int))).getD ([] : List Nat)) ((((a_0.length) : Nat) : Int) + (1 : Int))).getD ([] : List Nat)))).getD ([] : List Nat)) ((bF F (b_1.getD ((((b_1.length) : Nat) : Int) - (1 : Int)).toNat (0 : Nat))).getD (0 : Int))).isSome = true) (some (((gM F (List.replicate (((((a_0.length) : Nat) : Int) - (((b_1.length) : Nat) : Int)) + (1 : Int)).toNat (0 : Nat))).getD ([] : List Nat)), ((kR F ((gM F (List.take (b_1.length) ((kG F ((iJ F a_0 ((bF F (b_1.getD ((((b_1.length) : Nat) : Int) - (1 : Int)).toNat (0 : Nat))).getD (0 : Int))).getD ([] : List Nat)) ((((a_0.length) : Nat) : Int) + (1 : Int))).getD ([] : List Nat)))).getD ([] : List Nat)) ((bF F (b_1.getD ((((b_1.length) : Nat) : Int) - (1 : Int)).toNat (0 : Nat))).getD (0 : Int))).getD ([] : List Nat)), ())))))
noncomputable def aCf (F : Md) (a_0 : (List Nat)) (b_1 : (List Nat)) : Option ((Unit) ⊕ (Unit)) :=
 if (0 : Int) ≤ ((((a_0.length) : Nat) : Int) - (((b_1.length) : Nat) : Int)) then none else some (.inr ())
noncomputable def xK (F : Md) (a_0 : (List Nat)) (b_1 : (List Nat)) : Option ((List Nat) × ((List Nat) × Unit)) :=
 ck ((oQ F a_0 b_1).isSome = true) (if ((oQ F a_0 b_1).getD (0 : Int)) < (0 : Int) then ck (aQN a_0) (some (([] : List Nat), (id a_0), ())) else if (((b_1.length) : Nat) : Int) = (1 : Int) then ck ((0 : Int) < (((b_1.length) : Nat) : Int)) (ck ((sA F a_0 (b_1.getD (0 : Nat) (0 : Nat))).isSome = true) (some (((sA F a_0 (b_1.getD (0 : Nat) (0 : Nat))).getD (([] : List Nat), ([] : List Nat), ())).1, ((sA F a_0 (b_1.getD (0 : Nat) (0 : Nat))).getD (([] : List Nat), ([] : List Nat), ())).2.1, ()))) else ck (I64 ((((b_1.length) : Nat) : Int) - (1 : Int))) (ck (0 ≤ ((((b_1.length) : Nat) : Int) - (1 : Int)) ∧ ((((b_1.length) : Nat) : Int) - (1 : Int)) < (((b_1.length) : Nat) : Int)) (ck ((bF F (b_1.getD ((((b_1.length) : Nat) : Int) - (1 : Int)).toNat (0 : Nat))).isSome = true) (ck ((iJ F b_1 ((bF F (b_1.getD ((((b_1.length) : Nat) : Int) - (1 : Int)).toNat (0 : Nat))).getD (0 : Int))).isSome = true) (ck ((kG F ((iJ F b_1 ((bF F (b_1.getD ((((b_1.length) : Nat) : Int) - (1 : Int)).toNat (0 : Nat))).getD (0 : Int))).getD ([] : List Nat)) (((b_1.length) : Nat) : Int)).isSome = true) (ck ((iJ F a_0 ((bF F (b_1.getD ((((b_1.length) : Nat) : Int) - (1 : Int)).toNat (0 : Nat))).getD (0 : Int))).isSome = true) (ck (I64 ((((a_0.length) : Nat) : Int) + (1 : Int))) (ck ((kG F ((iJ F a_0 ((bF F (b_1.getD ((((b_1.length) : Nat) : Int) - (1 : Int)).toNat (0 : Nat))).getD (0 : Int))).getD ([] : List Nat)) ((((a_0.length) : Nat) : Int) + (1 : Int))).isSome = true) (ck (I64 ((((a_0.length) : Nat) : Int) - (((b_1.length) : Nat) : Int))) (ck (I64 (((((a_0.length) : Nat) : Int) - (((b_1.length) : Nat) : Int)) + (1 : Int))) (ck (0 ≤ (((((a_0.length) : Nat) : Int) - (((b_1.length) : Nat) : Int)) + (1 : Int))) (ck ((8 : Int) * (((((a_0.length) : Nat) : Int) - (((b_1.length) : Nat) : Int)) + (1 : Int)) ≤ 281474976710656) (ck (I64 ((((a_0.length) : Nat) : Int) - (((b_1.length) : Nat) : Int))) ((dF F (fun d : Unit => aCf F a_0 b_1) ()).bind (fun e => wK F a_0 b_1)))))))))))))))
def xL : Ty := .pair (.sl (.u .u64)) (.pair (.sl (.u .u64)) .unit)
attribute [go_sem] xL
noncomputable def vI (F : Md) : aH := mSpec xL (.tup (.pair (.sl (.u .u64)) (.pair (.sl (.u .u64)) .unit))) (fun x => xK F x.1 x.2.1)
noncomputable def iL (F : Md) : List (FuncId × aH) := [(122, (lW F)), (163, (eI F)), (165, cB), (188, (dQ F)), (219, (xJ F)), (220, (vH F)), (95, (rZ F)), (97, (pC F))]
theorem aFF (F : Md) : bD Tryz.prog GL (iL F) := .cons (aBN F) (by kernel_rfl) (.cons (oP F) (by kernel_rfl) (.cons kE (by kernel_rfl) (.cons (nB F) (by kernel_rfl) (.cons (aL2 F) (by kernel_rfl) (.cons (aKB F) (by kernel_rfl) (.cons (aHB F) (by kernel_rfl) (.cons (aFB F) (by kernel_rfl) (.nil))))))))
theorem aGJ (F : Md) : gam (iL F) 122 = some (lW F) := rfl
attribute [go_sem] aGJ
theorem aGK (F : Md) : gam (iL F) 163 = some (eI F) := rfl
attribute [go_sem] aGK
theorem aGL (F : Md) : gam (iL F) 165 = some cB := rfl
attribute [go_sem] aGL
theorem aGM (F : Md) : gam (iL F) 188 = some (dQ F) := rfl
attribute [go_sem] aGM
theorem aGN (F : Md) : gam (iL F) 219 = some (xJ F) := rfl
attribute [go_sem] aGN
theorem aGO (F : Md) : gam (iL F) 220 = some (vH F) := rfl
attribute [go_sem] aGO
theorem aH9 (F : Md) : gam (iL F) 95 = some (rZ F) := rfl
attribute [go_sem] aH9
theorem aIa (F : Md) : gam (iL F) 97 = some (pC F) := rfl
attribute [go_sem] aIa
set_option maxHeartbeats 4000000 in
theorem aKC (F : Md) : FOK Tryz.prog GL 166 (vI F) := by
 refine lR (aY (aFF F)) Tryz.func166 rfl (by kernel_rfl) (by decide) fun w0 S x r hw h => ?_
 have hF : jS (fr Tryz.prog (EM (iL F)) S w0 Tryz.f166.ntmps) := ⟨aY (aFF F), mix⟩
 obtain ⟨(a_0 : (List Nat)), (b_1 : (List Nat)), u⟩ := x
 simp only [xL, Ty.wf, mZ] at hw
 simp only [bK, xL]
 try dsimp only at h
 replace h : xK F a_0 b_1 = some r := h
 unfold xK at h
 refine aC (aE hF [0, 1] ?_)
 simp only [go_sem]
 refine aD (aC (aC (aE hF [0, 1, 15] ?_)))
 simp only [go_sem]
 obtain ⟨g0, h⟩ := aI h
 repeat (refine ⟨zAA, ?_⟩)
 refine aD (bS rfl (fun hc => ?_) (fun hc => ?_))
 ·try simp only [go_sem] at hc
  have h := gJ zAB h
  refine aC (aX hF [4, 5] ?_)
  simp only [go_sem]
  obtain ⟨g0, h⟩ := aI h
  repeat (refine ⟨zAA, ?_⟩)
  obtain rfl := Option.some.inj h
  refine aD (dE (dJ (fD hF [.tmp 4, .tmp 5] rfl rfl rfl ?_)))
  exact zAG
 ·try simp only [go_sem] at hc
  have h := gK zAB h
  refine cR (aD (aC (aC (aE hF [0, 1, 20] ?_))))
  simp only [go_sem]
  refine aD (bS rfl (fun hc => ?_) (fun hc => ?_))
  ·try simp only [go_sem] at hc
   have h := gJ zAB h
   refine aC (aE hF [4, 5] ?_)
   simp only [go_sem]
   obtain ⟨g0, h⟩ := aI h
   obtain ⟨g1, h⟩ := aI h
   repeat (refine ⟨zAA, ?_⟩)
   obtain rfl := Option.some.inj h
   refine aD (dE (dJ (fD hF [.tmp 4, .tmp 5] rfl rfl rfl ?_)))
   exact zAG
  ·try simp only [go_sem] at hc
   have h := gK zAB h
   refine cR (aD (aC (aE hF [0, 1, 6, 7] ?_)))
   simp only [go_sem]
   obtain ⟨g0, h⟩ := aI h
   obtain ⟨g1, h⟩ := aI h
   obtain ⟨g2, h⟩ := aI h
   try simp only [I64, I32] at g0
   repeat (refine ⟨zAA, ?_⟩)
   refine aD (aC (aE hF [0, 6, 7, 8, 9] ?_))
   simp only [go_sem]
   obtain ⟨g0, h⟩ := aI h
   obtain ⟨g1, h⟩ := aI h
   obtain ⟨g2, h⟩ := aI h
   obtain ⟨g3, h⟩ := aI h
   obtain ⟨g4, h⟩ := aI h
   try simp only [I64, I32] at g3
   repeat (refine ⟨zAA, ?_⟩)
   refine aD (aC (aX hF [0, 6, 7, 8, 9, 10] ?_))
   simp only [go_sem]
   obtain ⟨g0, h⟩ := aI h
   try simp only [I64, I32] at g0
   repeat (refine ⟨zAA, ?_⟩)
   obtain ⟨g0, h⟩ := aI h
   try simp only [I64, I32] at g0
   repeat (refine ⟨zAA, ?_⟩)
   obtain ⟨g0, h⟩ := aI h
   obtain ⟨g1, h⟩ := aI h
   repeat (refine ⟨zAA, ?_⟩)
   refine aD (nT (D := Unit) (fun d => wK F a_0 b_1 = some r) [6, 7, 9] (fun d => [(10, .own 0)]) (fun d => [.inr (.row 83 (.u .u64) (List.replicate (((((a_0.length) : Nat) : Int) - (((b_1.length) : Nat) : Int)) + (1 : Int)).toNat (0 : Nat)))]) ?_ ?_)
   ·refine aC (aE hF [6, 7, 8, 9, 10, 11] ?_)
    simp only [go_sem]
    obtain ⟨g0, h⟩ := aI h
    try simp only [I64, I32] at g0
    repeat (refine ⟨zAA, ?_⟩)
    refine aD (dD (lQ (D := Unit) [6, 7, 8, 9, 11] (fun d => [(10, .own 0)]) (fun d => [.inr (.row 83 (.u .u64) (List.replicate (((((a_0.length) : Nat) : Int) - (((b_1.length) : Nat) : Int)) + (1 : Int)).toNat (0 : Nat)))]) h ?_ ?_ ?_))
    ·first | rfl | (simp only [go_sem]; done)
    ·exact zAF
    rintro u s9 h hs9
    simp only [go_sem]
    try dsimp only at h
    unfold aCf at h
    refine aC (aC (aE hF [6, 7, 8, 9, 10, 11, 60] ?_))
    simp only [go_sem]
    refine aD (bS rfl (fun hc => ?_) (fun hc => ?_))
    ·try simp only [go_sem] at hc
     have h := gJ zAB h
     cases h
    ·try simp only [go_sem] at hc
     have h := gK zAB h
     obtain rfl := Option.some.inj h
     dsimp only [mG] at hs9
     have h := hs9
     try dsimp only at h
     refine mM (cA (cA (dZ (bB (aQ () h rfl ?_)))))
     ·exact zAF
   ·rintro u h
    try dsimp only at h
    simp only [go_sem]
    unfold wK at h
    refine aC (aNA 0 ?_)
    simp only [go_sem]
    refine aE hF [4, 5] ?_
    simp only [go_sem]
    obtain ⟨g0, h⟩ := aI h
    obtain ⟨g1, h⟩ := aI h
    obtain ⟨g2, h⟩ := aI h
    obtain ⟨g3, h⟩ := aI h
    repeat (refine ⟨zAA, ?_⟩)
    obtain rfl := Option.some.inj h
    refine aD (dE (fD hF [.tmp 4, .tmp 5] rfl rfl rfl ?_))
    exact zAG
attribute [go_sem] vI
end Nu
end Go.Proofs
namespace Go.Proofs
open Go.Vc
set_option maxRecDepth 20000
namespace Nu
theorem aD0 : bD Tryz.prog GL [] := .nil
noncomputable def lX (F : Md) (is_0 : Bool) (e_1 : Int) : Option (Unit ⊕ (Int × Unit)) :=
 if ¬ (is_0 = true) then some (.inr (e_1, ())) else some (.inl ())
noncomputable def eE (F : Md) : oD where
 D := Bool × Int × (Unit ⊕ (Int × Unit))
 av := fun d => [.val .bool d.1, .val (.i .i64) d.2.1]
 hp := fun d => []
 m := 0
 pre := fun d => lX F d.1 d.2.1 = some d.2.2
 out := fun d => match d.2.2 with | .inl r => .ret (.tup []) [] | .inr p => .pan ⟨251, (.pair (.i .i64) .unit), p⟩ []
noncomputable def aHF (F : Md) : List (FuncId × aH) := []
theorem aHG (F : Md) : bD Tryz.prog GL (aHF F) := .nil
set_option maxHeartbeats 4000000 in
theorem gH (F : Md) : GOK Tryz.prog GL 233 (eE F) := by
 refine yR (aY (aHG F)) Tryz.func233 rfl (by kernel_rfl) (fun _ => Nat.le_of_ble_eq_true rfl) fun c0 w0 d hw1 hw2 h hn => ?_
 have hF : jS ⟨Tryz.prog, EM (aHF F), GM (eE F) c0 d, w0, Tryz.f233.ntmps, []⟩ := ⟨aY (aHG F), mix⟩
 obtain ⟨(is_0 : Bool), (e_1 : Int), r⟩ := d
 replace h : lX F is_0 e_1 = some r := h
 have hw1 : AV.wfL [.val .bool is_0, .val (.i .i64) e_1] := hw1
 simp only [AV.wfL, AV.wfV, Ty.wf, mZ] at hw1
 show Tri _ _ _ [(0, .val .bool is_0), (1, .val (.i .i64) e_1)] []
 unfold lX at h
 refine aC (aE hF [1, 5] ?_)
 simp only [go_sem]
 refine aD (bS rfl (fun hc => ?_) (fun hc => ?_))
 ·try simp only [go_sem] at hc
  have h := gJ zAB h
  refine bT hF (eD (l := []) (.nil)) [] [] ?_
  simp only [go_sem]
  repeat (refine ⟨zAA, ?_⟩)
  obtain rfl := Option.some.inj h
  refine sY rfl rfl rfl rfl
 ·try simp only [go_sem] at hc
  have h := gK zAB h
  obtain rfl := Option.some.inj h
  refine cR (aIO (aFo hF [] rfl rfl rfl rfl rfl rfl ?_))
  (try simp only [aS, aFn, aEw, gA, rR, AV.isAgg, go_sem]) <;> first | trivial | rfl | (simp; done)
attribute [go_sem] eE
noncomputable def vJ (F : Md) (e_2 : Int) (m_1 : (List Nat)) (neg_0 : Bool) : Option ((Bool × ((List Nat) × (Int × Unit))) ⊕ (Int × Unit)) :=
 ck (I64 (e_2 + ((dR F m_1).getD (0 : Int)))) ((lX F (decide ((e_2 + ((dR F m_1).getD (0 : Int))) ≤ (1048576 : Int))) (3 : Int)).bind (fun e => match e with | .inl r_22 => ck (I64 (e_2 + ((dR F m_1).getD (0 : Int)))) (some (.inl (neg_0, ((kR F m_1 ((dR F m_1).getD (0 : Int))).getD ([] : List Nat)), (e_2 + ((dR F m_1).getD (0 : Int))), ()))) | .inr p_23 => some (.inr p_23)))
noncomputable def zB (F : Md) (neg_0 : Bool) (m_1 : (List Nat)) (e_2 : Int) : Option ((Bool × ((List Nat) × (Int × Unit))) ⊕ (Int × Unit)) :=
 if (((m_1.length) : Nat) : Int) = (0 : Int) then some (.inl (false, ([] : List Nat), (0 : Int), ())) else ck ((dR F m_1).isSome = true) (ck ((kR F m_1 ((dR F m_1).getD (0 : Int))).isSome = true) ((lX F (decide (((((kR F m_1 ((dR F m_1).getD (0 : Int))).getD ([] : List Nat)).length : Nat) : Int) ≤ (64 : Int))) (2 : Int)).bind (fun e => match e with | .inl r_8 => if e_2 ≤ (1048576 : Int) then ck (I64 ((-1048576 : Int) - ((dR F m_1).getD (0 : Int)))) ((lX F ((decide (e_2 ≤ (1048576 : Int))) && (decide (((-1048576 : Int) - ((dR F m_1).getD (0 : Int))) ≤ e_2))) (3 : Int)).bind (fun e => match e with | .inl r_24 => vJ F e_2 m_1 neg_0 | .inr p_25 => some (.inr p_25))) else (lX F false (3 : Int)).bind (fun e => match e with | .inl r_26 => vJ F e_2 m_1 neg_0 | .inr p_27 => some (.inr p_27)) | .inr p_9 => some (.inr p_9))))
noncomputable def oR (F : Md) : oD where
 D := Bool × (List Nat) × Int × ((Bool × ((List Nat) × (Int × Unit))) ⊕ (Int × Unit))
 av := fun d => [.val .bool d.1, .val (.sl (.u .u64)) d.2.1, .val (.i .i64) d.2.2.1]
 hp := fun d => []
 m := 0
 pre := fun d => zB F d.1 d.2.1 d.2.2.1 = some d.2.2.2
 out := fun d => match d.2.2.2 with | .inl r => .ret (.val (.pair .bool (.pair (.sl (.u .u64)) (.pair (.i .i64) .unit))) r) [] | .inr p => .pan ⟨251, (.pair (.i .i64) .unit), p⟩ []
noncomputable def aBQ (F : Md) : List (FuncId × aH) := [(97, (pC F)), (98, (xI F))]
theorem aJS (F : Md) : bD Tryz.prog GL (aBQ F) := .cons (aFB F) (by kernel_rfl) (.cons (aL1 F) (by kernel_rfl) (.nil))
theorem aKD (F : Md) : gam (aBQ F) 97 = some (pC F) := rfl
attribute [go_sem] aKD
theorem aKE (F : Md) : gam (aBQ F) 98 = some (xI F) := rfl
attribute [go_sem] aKE
set_option maxHeartbeats 4000000 in
theorem aAe (F : Md) : GOK Tryz.prog GL 182 (oR F) := by
 refine yR (aY (aJS F)) Tryz.func182 rfl (by kernel_rfl) (fun _ => Nat.le_of_ble_eq_true rfl) fun c0 w0 d hw1 hw2 h hn => ?_
 have hF : jS ⟨Tryz.prog, EM (aBQ F), GM (oR F) c0 d, w0, Tryz.f182.ntmps, []⟩ := ⟨aY (aJS F), mix⟩
 obtain ⟨(neg_0 : Bool), (m_1 : (List Nat)), (e_2 : Int), r⟩ := d
 replace h : zB F neg_0 m_1 e_2 = some r := h
 have hw1 : AV.wfL [.val .bool neg_0, .val (.sl (.u .u64)) m_1, .val (.i .i64) e_2] := hw1
 simp only [AV.wfL, AV.wfV, Ty.wf, mZ] at hw1
 show Tri _ _ _ [(0, .val .bool neg_0), (1, .val (.sl (.u .u64)) m_1), (2, .val (.i .i64) e_2)] []
 unfold zB at h
 refine aC (aX hF [0, 1, 2, 6] ?_)
 simp only [go_sem]
 refine aD (aC (aC (aE hF [0, 1, 2, 6, 10] ?_)))
 simp only [go_sem]
 refine aD (bS rfl (fun hc => ?_) (fun hc => ?_))
 ·try simp only [go_sem] at hc
  have h := gJ zAB h
  refine aC (aX hF [6] ?_)
  simp only [go_sem]
  obtain rfl := Option.some.inj h
  refine aD (dE (dJ (aAW hF [.cell 6 25] [] rfl rfl rfl rfl rfl rfl rfl rfl rfl ?_)))
  (try simp only [aS, aFn, aEw, gA, rR, AV.isAgg, go_sem]) <;> first | trivial | rfl | (simp; done)
 ·try simp only [go_sem] at hc
  have h := gK zAB h
  refine cR (aD (aC (aE hF [0, 1, 2, 6, 7] ?_)))
  simp only [go_sem]
  obtain ⟨g0, h⟩ := aI h
  repeat (refine ⟨zAA, ?_⟩)
  refine aD (aC (aE hF [0, 1, 2, 6, 7] ?_))
  simp only [go_sem]
  obtain ⟨g0, h⟩ := aI h
  repeat (refine ⟨zAA, ?_⟩)
  obtain ⟨e, he1, h⟩ := bind_some h
  rcases e with r_8 | p_9
  ·try dsimp only at h
   refine aD (aC (bT hF (eD (l := [(233, ⟨eE F, [], ((decide (((((kR F m_1 ((dR F m_1).getD (0 : Int))).getD ([] : List Nat)).length : Nat) : Int) ≤ (64 : Int))), (2 : Int), .inl r_8)⟩)]) (.cons (gH F) (by kernel_rfl) (.nil))) [0, 1, 2, 6, 7] [] ?_))
   simp only [go_sem]
   repeat (refine ⟨zAA, ?_⟩)
   refine aD (nT (D := Unit) (fun d => vJ F e_2 m_1 neg_0 = some r) [0, 1, 2, 7] (fun d => [(6, .ptr 0 [])]) (fun d => [.inr (.box 3 (.val (.pair .bool (.pair (.sl (.u .u64)) (.pair (.i .i64) .unit))) (false, ([] : List Nat), (0 : Int), ())))]) ?_ ?_)
   ·by_cases hq : e_2 ≤ (1048576 : Int)
    ·have h := gJ hq h
     obtain ⟨g0, h⟩ := aI h
     try simp only [I64, I32] at g0
     obtain ⟨e, he3, h⟩ := bind_some h
     rcases e with r_24 | p_25
     ·try dsimp only at h
      refine bT hF (eD (l := [(233, ⟨eE F, [], (((decide (e_2 ≤ (1048576 : Int))) && (decide (((-1048576 : Int) - ((dR F m_1).getD (0 : Int))) ≤ e_2))), (3 : Int), .inl r_24)⟩)]) (.cons (gH F) (by kernel_rfl) (.nil))) [0, 1, 2, 6, 7] [] ?_
      simp only [go_sem]
      repeat (refine ⟨zAA, ?_⟩)
      refine ⟨fun _ => ?_, fun hx => by first | (exfalso; omega) | (exfalso; simp_all; done)⟩
      repeat (refine ⟨zAA, ?_⟩)
      refine ⟨fun _ => ?_, fun hx => by first | (exfalso; omega) | (exfalso; simp_all; done)⟩
      repeat (refine ⟨zAA, ?_⟩)
      refine ⟨fun _ => ?_, fun hx => by first | (exfalso; omega) | (exfalso; simp_all; done)⟩
      repeat (refine ⟨zAA, ?_⟩)
      refine ⟨fun _ => ?_, fun hx => by first | (exfalso; omega) | (exfalso; simp_all; done)⟩
      repeat (refine ⟨zAA, ?_⟩)
      refine bB (aQ () h rfl ?_)
      ·exact zAF
     ·try dsimp only at h
      refine bT hF (eD (l := [(233, ⟨eE F, [], (((decide (e_2 ≤ (1048576 : Int))) && (decide (((-1048576 : Int) - ((dR F m_1).getD (0 : Int))) ≤ e_2))), (3 : Int), .inr p_25)⟩)]) (.cons (gH F) (by kernel_rfl) (.nil))) [0, 1, 2, 6, 7] [] ?_
      simp only [go_sem]
      repeat (refine ⟨zAA, ?_⟩)
      refine ⟨fun _ => ?_, fun hx => by first | (exfalso; omega) | (exfalso; simp_all; done)⟩
      repeat (refine ⟨zAA, ?_⟩)
      refine ⟨fun _ => ?_, fun hx => by first | (exfalso; omega) | (exfalso; simp_all; done)⟩
      repeat (refine ⟨zAA, ?_⟩)
      refine ⟨fun _ => ?_, fun hx => by first | (exfalso; omega) | (exfalso; simp_all; done)⟩
      repeat (refine ⟨zAA, ?_⟩)
      refine ⟨fun _ => ?_, fun hx => by first | (exfalso; omega) | (exfalso; simp_all; done)⟩
      repeat (refine ⟨zAA, ?_⟩)
      obtain rfl := Option.some.inj h
      refine nK (vD [] rfl rfl ?_)
      simp only [ren, fU, iV, posOf, dL, go_sem]
      refine sY rfl rfl rfl rfl
    ·have h := gK hq h
     obtain ⟨e, he4, h⟩ := bind_some h
     rcases e with r_26 | p_27
     ·try dsimp only at h
      refine bT hF (eD (l := [(233, ⟨eE F, [], (false, (3 : Int), .inl r_26)⟩)]) (.cons (gH F) (by kernel_rfl) (.nil))) [0, 1, 2, 6, 7] [] ?_
      simp only [go_sem]
      repeat (refine ⟨zAA, ?_⟩)
      first | (refine ⟨fun hx => by first | (exfalso; omega) | (exfalso; simp_all; done), fun _ => ?_⟩) | intro _
      repeat (refine ⟨zAA, ?_⟩)
      first | (refine ⟨fun hx => by first | (exfalso; omega) | (exfalso; simp_all; done), fun _ => ?_⟩) | intro _
      repeat (refine ⟨zAA, ?_⟩)
      first | (refine ⟨fun hx => by first | (exfalso; omega) | (exfalso; simp_all; done), fun _ => ?_⟩) | intro _
      repeat (refine ⟨zAA, ?_⟩)
      first | (refine ⟨fun hx => by first | (exfalso; omega) | (exfalso; simp_all; done), fun _ => ?_⟩) | intro _
      repeat (refine ⟨zAA, ?_⟩)
      refine bB (aQ () h rfl ?_)
      ·exact zAF
     ·try dsimp only at h
      refine bT hF (eD (l := [(233, ⟨eE F, [], (false, (3 : Int), .inr p_27)⟩)]) (.cons (gH F) (by kernel_rfl) (.nil))) [0, 1, 2, 6, 7] [] ?_
      simp only [go_sem]
      repeat (refine ⟨zAA, ?_⟩)
      first | (refine ⟨fun hx => by first | (exfalso; omega) | (exfalso; simp_all; done), fun _ => ?_⟩) | intro _
      repeat (refine ⟨zAA, ?_⟩)
      first | (refine ⟨fun hx => by first | (exfalso; omega) | (exfalso; simp_all; done), fun _ => ?_⟩) | intro _
      repeat (refine ⟨zAA, ?_⟩)
      first | (refine ⟨fun hx => by first | (exfalso; omega) | (exfalso; simp_all; done), fun _ => ?_⟩) | intro _
      repeat (refine ⟨zAA, ?_⟩)
      first | (refine ⟨fun hx => by first | (exfalso; omega) | (exfalso; simp_all; done), fun _ => ?_⟩) | intro _
      repeat (refine ⟨zAA, ?_⟩)
      obtain rfl := Option.some.inj h
      refine nK (vD [] rfl rfl ?_)
      simp only [ren, fU, iV, posOf, dL, go_sem]
      refine sY rfl rfl rfl rfl
   ·rintro u h
    try dsimp only at h
    simp only [go_sem]
    unfold vJ at h
    obtain ⟨g0, h⟩ := aI h
    try simp only [I64, I32] at g0
    obtain ⟨e, he2, h⟩ := bind_some h
    rcases e with r_22 | p_23
    ·try dsimp only at h
     refine aC (bT hF (eD (l := [(233, ⟨eE F, [], ((decide ((e_2 + ((dR F m_1).getD (0 : Int))) ≤ (1048576 : Int))), (3 : Int), .inl r_22)⟩)]) (.cons (gH F) (by kernel_rfl) (.nil))) [0, 1, 2, 6, 7] [] ?_)
     simp only [go_sem]
     repeat (refine ⟨zAA, ?_⟩)
     refine aD (aC (aX hF [6] ?_))
     simp only [go_sem]
     obtain ⟨g0, h⟩ := aI h
     try simp only [I64, I32] at g0
     repeat (refine ⟨zAA, ?_⟩)
     obtain rfl := Option.some.inj h
     refine aD (dE (aAW hF [.cell 6 25] [] rfl rfl rfl rfl rfl rfl rfl rfl rfl ?_))
     (try simp only [aS, aFn, aEw, gA, rR, AV.isAgg, go_sem]) <;> first | trivial | rfl | (simp; done)
    ·try dsimp only at h
     refine aC (bT hF (eD (l := [(233, ⟨eE F, [], ((decide ((e_2 + ((dR F m_1).getD (0 : Int))) ≤ (1048576 : Int))), (3 : Int), .inr p_23)⟩)]) (.cons (gH F) (by kernel_rfl) (.nil))) [0, 1, 2, 6, 7] [] ?_)
     simp only [go_sem]
     repeat (refine ⟨zAA, ?_⟩)
     obtain rfl := Option.some.inj h
     refine nK (vD [] rfl rfl ?_)
     simp only [ren, fU, iV, posOf, dL, go_sem]
     refine sY rfl rfl rfl rfl
  ·try dsimp only at h
   refine aD (aC (bT hF (eD (l := [(233, ⟨eE F, [], ((decide (((((kR F m_1 ((dR F m_1).getD (0 : Int))).getD ([] : List Nat)).length : Nat) : Int) ≤ (64 : Int))), (2 : Int), .inr p_9)⟩)]) (.cons (gH F) (by kernel_rfl) (.nil))) [0, 1, 2, 6, 7] [] ?_))
   simp only [go_sem]
   repeat (refine ⟨zAA, ?_⟩)
   obtain rfl := Option.some.inj h
   refine nK (vD [] rfl rfl ?_)
   simp only [ren, fU, iV, posOf, dL, go_sem]
   refine sY rfl rfl rfl rfl
attribute [go_sem] oR
noncomputable def xM (F : Md) (a0_0 : Bool) (a1_1 : (List Nat)) (a2_2 : Int) : Option ((Bool × ((List Nat) × (Int × Unit))) ⊕ (Int × Unit)) :=
 (zB F a0_0 a1_1 a2_2).bind (fun e => match e with | .inl r_8 => some (.inl r_8) | .inr p_9 => some (.inr p_9))
noncomputable def qK (F : Md) : oD where
 D := Bool × (List Nat) × Int × ((Bool × ((List Nat) × (Int × Unit))) ⊕ (Int × Unit))
 av := fun d => [.val (.rp .bool) d.1, .val (.rp (.sl (.u .u64))) d.2.1, .val (.rp (.i .i64)) d.2.2.1]
 hp := fun d => []
 m := 0
 pre := fun d => xM F d.1 d.2.1 d.2.2.1 = some d.2.2.2
 out := fun d => match d.2.2.2 with | .inl r => .ret (.val (.pair .bool (.pair (.sl (.u .u64)) (.pair (.i .i64) .unit))) r) [] | .inr p => .pan ⟨251, (.pair (.i .i64) .unit), p⟩ []
noncomputable def aFG (F : Md) : List (FuncId × aH) := []
theorem aFH (F : Md) : bD Tryz.prog GL (aFG F) := .nil
set_option maxHeartbeats 4000000 in
theorem aD1 (F : Md) : GOK Tryz.prog GL 181 (qK F) := by
 refine yR (aY (aFH F)) Tryz.func181 rfl (by kernel_rfl) (fun _ => Nat.le_of_ble_eq_true rfl) fun c0 w0 d hw1 hw2 h hn => ?_
 have hF : jS ⟨Tryz.prog, EM (aFG F), GM (qK F) c0 d, w0, Tryz.f181.ntmps, []⟩ := ⟨aY (aFH F), mix⟩
 obtain ⟨(a0_0 : Bool), (a1_1 : (List Nat)), (a2_2 : Int), r⟩ := d
 replace h : xM F a0_0 a1_1 a2_2 = some r := h
 have hw1 : AV.wfL [.val (.rp .bool) a0_0, .val (.rp (.sl (.u .u64))) a1_1, .val (.rp (.i .i64)) a2_2] := hw1
 simp only [AV.wfL, AV.wfV, Ty.wf, mZ] at hw1
 show Tri _ _ _ [(0, .roa .bool a0_0), (1, .roa (.sl (.u .u64)) a1_1), (2, .roa (.i .i64) a2_2)] []
 unfold xM at h
 refine aC (aX hF [0, 1, 2, 3] ?_)
 simp only [go_sem]
 obtain ⟨e, he1, h⟩ := bind_some h
 rcases e with r_8 | p_9
 ·try dsimp only at h
  refine aD (aC (bT hF (eD (l := [(182, ⟨oR F, [], (a0_0, a1_1, a2_2, .inl r_8)⟩)]) (.cons (aAe F) (by kernel_rfl) (.nil))) [3] [] ?_))
  simp only [go_sem]
  repeat (refine ⟨zAA, ?_⟩)
  obtain rfl := Option.some.inj h
  refine aD (dE (aAW hF [.cell 3 25] [] rfl rfl rfl rfl rfl rfl rfl rfl rfl ?_))
  (try simp only [aS, aFn, aEw, gA, rR, AV.isAgg, go_sem]) <;> first | trivial | rfl | (simp; done)
 ·try dsimp only at h
  refine aD (aC (bT hF (eD (l := [(182, ⟨oR F, [], (a0_0, a1_1, a2_2, .inr p_9)⟩)]) (.cons (aAe F) (by kernel_rfl) (.nil))) [3] [] ?_))
  simp only [go_sem]
  repeat (refine ⟨zAA, ?_⟩)
  obtain rfl := Option.some.inj h
  refine nK (vD [] rfl rfl ?_)
  simp only [ren, fU, iV, posOf, dL, go_sem]
  refine sY rfl rfl rfl rfl
attribute [go_sem] qK
def kS : oD where
 D := (Bool × ((List Nat) × (Int × Unit))) × Int
 av := fun _ => [.ptr 0 [], .ptr 1 []]
 hp := fun d => [.box 3 (.val (.pair .bool (.pair (.sl (.u .u64)) (.pair (.i .i64) .unit))) d.1), .box 1 (.val (.i .i64) d.2)]
 m := 2
 pre := fun _ => True
 out := fun d => .ret (.tup []) [.box 3 (.val (.pair .bool (.pair (.sl (.u .u64)) (.pair (.i .i64) .unit))) d.1), .box 1 (.val (.i .i64) d.2)]
def kT (x : (Int × Unit)) : oD where
 D := (Bool × ((List Nat) × (Int × Unit))) × Int
 av := fun _ => [.ptr 0 [], .ptr 1 []]
 hp := fun d => [.box 3 (.val (.pair .bool (.pair (.sl (.u .u64)) (.pair (.i .i64) .unit))) d.1), .box 1 (.val (.i .i64) d.2)]
 m := 2
 pre := fun _ => True
 out := fun d => .ret (.tup []) [.box 3 (.val (.pair .bool (.pair (.sl (.u .u64)) (.pair (.i .i64) .unit))) (false, ([] : List Nat), (0 : Int), ())), .box 1 (.val (.i .i64) x.1)]
theorem aC4 : DOK Tryz.prog GL 232 none kS := by
 refine aQi (aY aD0) Tryz.func232 rfl (by kernel_rfl) (fun _ => Nat.le_of_ble_eq_true rfl) rfl fun c w d hw1 hw2 hp hn => ?_
 have hF : jS ⟨Tryz.prog, EM [], GM kS c d, w, Tryz.f232.ntmps, []⟩ := ⟨aY aD0, mix⟩
 obtain ⟨d, e⟩ := d
 show oZ _ _ _ [(5, .val .nili ()), (0, .ptr 0 []), (1, .ptr 1 [])] [.box 3 (.val (.pair .bool (.pair (.sl (.u .u64)) (.pair (.i .i64) .unit))) d), .box 1 (.val (.i .i64) e)] _
 simp only [go_sem]
 refine aC (aE hF [0, 1, 2, 9] ?_)
 simp only [go_sem]
 refine aD (bS rfl (fun hc => absurd hc (by decide)) (fun hc => ?_))
 refine cR ?_
 refine gL [0, 1] rfl rfl ?_
 simp only [ren, fU, iV, posOf, dL, go_sem]
 refine aIO (aFo hF [] rfl rfl rfl rfl rfl rfl ?_)
 simp only [aS, aFn, aEw, go_sem]
 try decide
theorem aC5 (x : (Int × Unit)) : DOK Tryz.prog GL 232 (some ⟨251, (.pair (.i .i64) .unit), x⟩) (kT x) := by
 refine aQi (aY aD0) Tryz.func232 rfl (by kernel_rfl) (fun _ => Nat.le_of_ble_eq_true rfl) rfl fun c w d hw1 hw2 hp hn => ?_
 have hF : jS ⟨Tryz.prog, EM [], GM (kT x) c d, w, Tryz.f232.ntmps, []⟩ := ⟨aY aD0, mix⟩
 obtain ⟨d, e⟩ := d
 show oZ _ _ _ [(5, .val (.ifc 251 (.pair (.i .i64) .unit)) x), (0, .ptr 0 []), (1, .ptr 1 [])] [.box 3 (.val (.pair .bool (.pair (.sl (.u .u64)) (.pair (.i .i64) .unit))) d), .box 1 (.val (.i .i64) e)] _
 simp only [go_sem]
 refine aC (aE hF [0, 1, 2, 9] ?_)
 simp only [go_sem]
 refine aD (bS rfl (fun hc => ?_) (fun hc => absurd hc (by decide)))
 refine aHn hF [] [] [.box 3 (.val (.pair .bool (.pair (.sl (.u .u64)) (.pair (.i .i64) .unit))) (false, ([] : List Nat), (0 : Int), ())), .box 1 (.val (.i .i64) x.1), .box 1 (.val (.pair (.i .i64) .unit) x)] (by decide) ?_ ?_
 ·simp only [go_sem]
  unfold anyS
  intro i hi
  have hi : i = 0 ∨ i = 1 := by revert hi; revert i; decide
  rcases hi with rfl | rfl
  ·simp only [go_sem]
   skip
   unfold anyS
   intro i hi
   have hi : i = 1 ∨ i = 3 := by revert hi; revert i; decide
   rcases hi with rfl | rfl
   ·simp only [go_sem]
    skip
    unfold anyS
    intro i hi
    have hi : i = 2 ∨ i = 3 := by revert hi; revert i; decide
    rcases hi with rfl | rfl
    ·simp only [go_sem]
     skip
     unfold anyS
     intro i hi
     have hi : i = 3 := by revert hi; revert i; decide
     subst hi
     simp only [go_sem]
     skip
     unfold anyS
     intro i hi
     have hi : i = 4 := by revert hi; revert i; decide
     subst hi
     simp only [go_sem]
     skip
     (simp only [anyS, go_sem]) <;> first | exact ⟨rfl, rfl⟩ | trivial
    ·simp only [go_sem]
     skip
     unfold anyS
     intro i hi
     have hi : i = 2 := by revert hi; revert i; decide
     subst hi
     simp only [go_sem]
     skip
     unfold anyS
     intro i hi
     have hi : i = 4 := by revert hi; revert i; decide
     subst hi
     simp only [go_sem]
     skip
     (simp only [anyS, go_sem]) <;> first | exact ⟨rfl, rfl⟩ | trivial
   ·simp only [go_sem]
    skip
    unfold anyS
    intro i hi
    have hi : i = 1 := by revert hi; revert i; decide
    subst hi
    simp only [go_sem]
    skip
    unfold anyS
    intro i hi
    have hi : i = 2 := by revert hi; revert i; decide
    subst hi
    simp only [go_sem]
    skip
    unfold anyS
    intro i hi
    have hi : i = 4 := by revert hi; revert i; decide
    subst hi
    simp only [go_sem]
    skip
    (simp only [anyS, go_sem]) <;> first | exact ⟨rfl, rfl⟩ | trivial
  ·simp only [go_sem]
   skip
   unfold anyS
   intro i hi
   have hi : i = 0 ∨ i = 2 := by revert hi; revert i; decide
   rcases hi with rfl | rfl
   ·simp only [go_sem]
    skip
    unfold anyS
    intro i hi
    have hi : i = 2 ∨ i = 3 := by revert hi; revert i; decide
    rcases hi with rfl | rfl
    ·simp only [go_sem]
     skip
     unfold anyS
     intro i hi
     have hi : i = 3 := by revert hi; revert i; decide
     subst hi
     simp only [go_sem]
     skip
     unfold anyS
     intro i hi
     have hi : i = 4 := by revert hi; revert i; decide
     subst hi
     simp only [go_sem]
     skip
     (simp only [anyS, go_sem]) <;> first | exact ⟨rfl, rfl⟩ | trivial
    ·simp only [go_sem]
     skip
     unfold anyS
     intro i hi
     have hi : i = 2 := by revert hi; revert i; decide
     subst hi
     simp only [go_sem]
     skip
     unfold anyS
     intro i hi
     have hi : i = 4 := by revert hi; revert i; decide
     subst hi
     simp only [go_sem]
     skip
     (simp only [anyS, go_sem]) <;> first | exact ⟨rfl, rfl⟩ | trivial
   ·simp only [go_sem]
    skip
    unfold anyS
    intro i hi
    have hi : i = 0 := by revert hi; revert i; decide
    subst hi
    simp only [go_sem]
    skip
    unfold anyS
    intro i hi
    have hi : i = 3 := by revert hi; revert i; decide
    subst hi
    simp only [go_sem]
    skip
    unfold anyS
    intro i hi
    have hi : i = 4 := by revert hi; revert i; decide
    subst hi
    simp only [go_sem]
    skip
    (simp only [anyS, go_sem]) <;> first | exact ⟨rfl, rfl⟩ | trivial
 refine gL [0, 1] rfl rfl ?_
 simp only [ren, fU, iV, posOf, dL, go_sem]
 refine aIO (aFo hF [] rfl rfl rfl rfl rfl rfl ?_)
 simp only [aS, aFn, aEw, go_sem]
 try decide
noncomputable def fA (F : Md) (c0 : Bool) (c1 : (List Nat)) (c2 : Int) : Option ((Bool × ((List Nat) × (Int × Unit))) × Int × Unit) :=
 (xM F c0 c1 c2).bind fun q => some (match q with | .inl r => (r, 0, ()) | .inr p => ((false, ([] : List Nat), (0 : Int), ()), p.1, ()))
def sB : Ty := .pair (.clo 181 (.pair (.rp .bool) (.pair (.rp (.sl (.u .u64))) (.pair (.rp (.i .i64)) .unit)))) .unit
noncomputable def iM (F : Md) : aH := mSpec sB (.tup (.pair (.pair .bool (.pair (.sl (.u .u64)) (.pair (.i .i64) .unit))) (.pair (.i .i64) .unit))) (fun x => fA F x.1.1 x.1.2.1 x.1.2.2.1)
set_option maxHeartbeats 4000000 in
theorem aAA (F : Md) : FOK Tryz.prog GL 180 (iM F) := by
 refine aJB (aY aD0) Tryz.func180 rfl (by kernel_rfl) (by decide) fun w0 S x r hw h => ?_
 have hF : jS (fr Tryz.prog (EM []) S w0 Tryz.f180.ntmps) := ⟨aY aD0, mix⟩
 obtain ⟨⟨(c0 : Bool), (c1 : (List Nat)), (c2 : Int), u1⟩, u⟩ := x
 replace h : fA F c0 c1 c2 = some r := h
 show Tri _ _ _ [(0, .val (.clo 181 (.pair (.rp .bool) (.pair (.rp (.sl (.u .u64))) (.pair (.rp (.i .i64)) .unit)))) (c0, c1, c2, u1))] []
 unfold fA at h
 obtain ⟨q, hq, h⟩ := bind_some h
 obtain rfl := Option.some.inj h
 refine aC (aX hF [0, 2, 3] ?_)
 simp only [go_sem]
 refine aD (aDU 2 [0, 1] rfl rfl (Nat.zero_le _) (by decide) fun roots hroots => ?_)
 have hF' : jS { fr Tryz.prog (EM []) S w0 Tryz.f180.ntmps with M := ⟨nothing, S, 2, roots⟩, ds := [⟨.fn (.func 232) ([0, 1].map roots).toArray, #[]⟩] } := ⟨aY aD0, mix⟩
 rcases q with q | q
 ·refine aC (bT hF' (eD (l := [(181, ⟨qK F, [], (c0, c1, c2, .inl q)⟩)]) (.cons (aD1 F) (by kernel_rfl) .nil)) [2, 3] [] ?_)
  simp only [go_sem]
  refine ⟨hq, ?_⟩
  refine aD (dE ?_)
  refine aOB (fn := Tryz.f180) (k := 2) (l2 := [0, 1]) hF' rfl rfl (by decide) rfl (aFp (by kernel_rfl)) ⟨kS, [0, 1], (q, 0)⟩ aC4 rfl [.cell 2 25, .cell 3 3] rfl ?_ ?_
  ·(simp only [kS, go_sem]) <;> first | decide | trivial
  ·(simp only [kS, aS, iA, go_sem]) <;> first | decide | trivial
 ·refine aC (bT hF' (eD (l := [(181, ⟨qK F, [], (c0, c1, c2, .inr q)⟩)]) (.cons (aD1 F) (by kernel_rfl) .nil)) [2, 3] [] ?_)
  simp only [go_sem]
  refine ⟨hq, ?_⟩
  refine nK ?_
  refine aOC (fn := Tryz.f180) (k := 2) (l2 := [0, 1]) hF' rfl rfl (by decide) rfl (aFp (by kernel_rfl)) ⟨kT q, [0, 1], ((false, ([] : List Nat), (0 : Int), ()), 0)⟩ (aC5 q) rfl [.cell 2 25, .cell 3 3] rfl ?_ ?_
  ·(simp only [kT, go_sem]) <;> first | decide | trivial
  ·(simp only [kT, aS, iA, go_sem]) <;> first | decide | trivial
attribute [go_sem] iM sB
noncomputable def zC (F : Md) (neg_0 : Bool) (m_1 : (List Nat)) (e_2 : Int) : Option ((Bool × ((List Nat) × (Int × Unit))) × (Int × Unit)) :=
 ck ((fA F neg_0 m_1 e_2).isSome = true) (some (((fA F neg_0 m_1 e_2).getD ((false, ([] : List Nat), (0 : Int), ()), (0 : Int), ())).1, ((fA F neg_0 m_1 e_2).getD ((false, ([] : List Nat), (0 : Int), ()), (0 : Int), ())).2.1, ()))
def aBR : Ty := .pair .bool (.pair (.sl (.u .u64)) (.pair (.i .i64) .unit))
attribute [go_sem] aBR
noncomputable def sC (F : Md) : aH := mSpec aBR (.tup (.pair (.pair .bool (.pair (.sl (.u .u64)) (.pair (.i .i64) .unit))) (.pair (.i .i64) .unit))) (fun x => zC F x.1 x.2.1 x.2.2.1)
noncomputable def aEz (F : Md) : List (FuncId × aH) := [(180, (iM F))]
theorem aJT (F : Md) : bD Tryz.prog GL (aEz F) := .cons (aAA F) (by kernel_rfl) (.nil)
theorem aJU (F : Md) : gam (aEz F) 180 = some (iM F) := rfl
attribute [go_sem] aJU
set_option maxHeartbeats 4000000 in
theorem aHH (F : Md) : FOK Tryz.prog GL 117 (sC F) := by
 refine lR (aY (aJT F)) Tryz.func117 rfl (by kernel_rfl) (by decide) fun w0 S x r hw h => ?_
 have hF : jS (fr Tryz.prog (EM (aEz F)) S w0 Tryz.f117.ntmps) := ⟨aY (aJT F), mix⟩
 obtain ⟨(neg_0 : Bool), (m_1 : (List Nat)), (e_2 : Int), u⟩ := x
 simp only [aBR, Ty.wf, mZ] at hw
 simp only [bK, aBR]
 try dsimp only at h
 replace h : zC F neg_0 m_1 e_2 = some r := h
 unfold zC at h
 refine aC (aX hF [3, 4, 5, 6] ?_)
 simp only [go_sem]
 refine aD (aC (wB 0 rfl ?_))
 simp only [go_sem]
 refine wB 1 rfl ?_
 simp only [go_sem]
 refine wB 2 rfl ?_
 simp only [go_sem]
 refine aX hF [6, 7] ?_
 simp only [go_sem]
 obtain ⟨g0, h⟩ := aI h
 repeat (refine ⟨zAA, ?_⟩)
 obtain rfl := Option.some.inj h
 refine aD (dE (fD hF [.cell 6 25, .tmp 7] rfl rfl rfl ?_))
 exact zAG
attribute [go_sem] sC
noncomputable def fF (F : Md) (d_0 : (Bool × ((List Nat) × (Int × Unit)))) : Option Bool :=
 if (((d_0.2.1.length) : Nat) : Int) = (0 : Int) then some ((!d_0.1) && (decide (d_0.2.2.1 = (0 : Int)))) else (aDE F d_0.2.1).bind (fun v_5 => ck ((v_5 = true) → ((0 : Int) < (((d_0.2.1.length) : Nat) : Int))) (some (((v_5 && (decide (((d_0.2.1.getD (0 : Nat) (0 : Nat)) &&& (1 : Nat)) = (1 : Nat)))) && (decide ((-1048576 : Int) ≤ d_0.2.2.1))) && (decide (d_0.2.2.1 ≤ (1048576 : Int))))))
def aHI : PlR := ⟨[(0, .B [1]), (1, .A [1, 6]), (2, .A [2]), (3, .A [2])], []⟩
def aJV : Ty := .pair (.pair .bool (.pair (.sl (.u .u64)) (.pair (.i .i64) .unit))) .unit
noncomputable def mX (F : Md) : aH := mSpec aJV (.one .bool) (fun x => fF F x.1)
noncomputable def aJW (F : Md) : List (FuncId × aH) := [(120, (aBM F))]
theorem aNS (F : Md) : bD Tryz.prog GL (aJW F) := .cons (aNJ F) (by kernel_rfl) (.nil)
theorem aJX (F : Md) : gam (aJW F) 120 = some (aBM F) := rfl
attribute [go_sem] aJV aHI aJX
set_option maxHeartbeats 4000000 in
theorem aC6 (F : Md) : FOK Tryz.prog GL 58 (mX F) := by
 refine bG (aY (aNS F)) mix Tryz.func58 rfl (by kernel_rfl) (by decide) aHI fun w0 S x Θ hw h hF => ?_
 obtain ⟨(d_0 : (Bool × ((List Nat) × (Int × Unit)))), u⟩ := x
 simp only [bK, go_sem]
 replace h : sat (fF F d_0) _ := h
 unfold fF at h
 refine dT h (fun hc h => ?_) fun hc h => ?_
 ·exact aG hF [.tmp 2] rfl rfl rfl (aB h) (by simp only [aS, go_sem])
 ·obtain ⟨v_5, hv, h⟩ := aJ h
  try simp only [hv, go_sem]
  refine aP h fun g0 h => ?_
  exact aG hF [.tmp 2] rfl rfl rfl (aB h) (by simp only [aS, go_sem])
attribute [go_sem] mX
noncomputable def oS (F : Md) (d_0 : (Bool × ((List Nat) × (Int × Unit)))) : Option Int :=
 (fF F d_0).bind (fun v_7 => if (¬ (v_7 = true)) ∨ ((((d_0.2.1.length) : Nat) : Int) = (0 : Int)) then some (0 : Int) else if d_0.1 = true then some (-1 : Int) else some (1 : Int))
def aFI : PlR := ⟨[(0, .B [1]), (1, .A [1, 3]), (2, .A [2]), (3, .A [13]), (4, .A [2]), (5, .A [2])], []⟩
def aHJ : Ty := .pair (.pair .bool (.pair (.sl (.u .u64)) (.pair (.i .i64) .unit))) .unit
noncomputable def pD (F : Md) : aH := mSpec aHJ (.one (.i .i64)) (fun x => oS F x.1)
noncomputable def aHK (F : Md) : List (FuncId × aH) := [(58, (mX F))]
theorem aM4 (F : Md) : bD Tryz.prog GL (aHK F) := .cons (aC6 F) (by kernel_rfl) (.nil)
theorem aJY (F : Md) : gam (aHK F) 58 = some (mX F) := rfl
attribute [go_sem] aHJ aFI aJY
set_option maxHeartbeats 4000000 in
theorem aFJ (F : Md) : FOK Tryz.prog GL 57 (pD F) := by
 refine bG (aY (aM4 F)) mix Tryz.func57 rfl (by kernel_rfl) (by decide) aFI fun w0 S x Θ hw h hF => ?_
 obtain ⟨(d_0 : (Bool × ((List Nat) × (Int × Unit)))), u⟩ := x
 simp only [bK, go_sem]
 replace h : sat (oS F d_0) _ := h
 unfold oS at h
 obtain ⟨v_7, hv, h⟩ := aJ h
 try simp only [hv, go_sem]
 refine ⟨fun hc => ?_, fun hc => ?_⟩
 ·replace h := iW zAB h
  exact aG hF [.tmp 2] rfl rfl rfl (aB h) (by simp only [aS, go_sem])
 ·replace h := iX zAB h
  refine aHo h (fun hc h => ?_) fun hc h => ?_
  ·exact aG hF [.tmp 2] rfl rfl rfl (aB h) (by simp only [aS, go_sem])
  ·exact aG hF [.tmp 2] rfl rfl rfl (aB h) (by simp only [aS, go_sem])
attribute [go_sem] pD
noncomputable def aAf (F : Md) (a_0 : (Bool × ((List Nat) × (Int × Unit)))) (b_1 : (Bool × ((List Nat) × (Int × Unit)))) : Option Int :=
 (yU F a_0.2.1).bind (fun v_13 => ck (I64 (v_13 + a_0.2.2.1)) ((yU F b_1.2.1).bind (fun v_14 => ck (I64 (v_14 + b_1.2.2.1)) (if (v_13 + a_0.2.2.1) < (v_14 + b_1.2.2.1) then some (-1 : Int) else if (v_14 + b_1.2.2.1) < (v_13 + a_0.2.2.1) then some (1 : Int) else ck (I64 (a_0.2.2.1 - (min a_0.2.2.1 b_1.2.2.1))) ((iJ F a_0.2.1 (a_0.2.2.1 - (min a_0.2.2.1 b_1.2.2.1))).bind (fun v_30 => ck (I64 (b_1.2.2.1 - (min a_0.2.2.1 b_1.2.2.1))) ((iJ F b_1.2.1 (b_1.2.2.1 - (min a_0.2.2.1 b_1.2.2.1))).bind (fun v_31 => (oQ F v_30 v_31).bind (fun v_32 => some v_32)))))))))
def aFK : PlR := ⟨[(0, .B [2, 3]), (1, .A [2, 3, 5, 6]), (2, .A [2, 3, 5, 6, 20]), (3, .A [4]), (4, .A [2, 3, 24]), (5, .A [4]), (6, .A [2, 3, 7]), (7, .A [4])], []⟩
def aHL : Ty := .pair (.pair .bool (.pair (.sl (.u .u64)) (.pair (.i .i64) .unit))) (.pair (.pair .bool (.pair (.sl (.u .u64)) (.pair (.i .i64) .unit))) .unit)
noncomputable def xN (F : Md) : aH := mSpec aHL (.one (.i .i64)) (fun x => aAf F x.1 x.2.1)
noncomputable def aAg (F : Md) : List (FuncId × aH) := [(121, (aAb F)), (122, (lW F)), (95, (rZ F))]
theorem aM5 (F : Md) : bD Tryz.prog GL (aAg F) := .cons (aMY F) (by kernel_rfl) (.cons (aBN F) (by kernel_rfl) (.cons (aHB F) (by kernel_rfl) (.nil)))
theorem aIb (F : Md) : gam (aAg F) 121 = some (aAb F) := rfl
theorem aIc (F : Md) : gam (aAg F) 122 = some (lW F) := rfl
theorem aJZ (F : Md) : gam (aAg F) 95 = some (rZ F) := rfl
attribute [go_sem] aHL aFK aIb aIc aJZ
set_option maxHeartbeats 4000000 in
theorem aL4 (F : Md) : FOK Tryz.prog GL 59 (xN F) := by
 refine bG (aY (aM5 F)) mix Tryz.func59 rfl (by kernel_rfl) (by decide) aFK fun w0 S x Θ hw h hF => ?_
 obtain ⟨(a_0 : (Bool × ((List Nat) × (Int × Unit)))), (b_1 : (Bool × ((List Nat) × (Int × Unit)))), u⟩ := x
 simp only [bK, go_sem]
 replace h : sat (aAf F a_0 b_1) _ := h
 unfold aAf at h
 obtain ⟨v_13, hv, h⟩ := aJ h
 try simp only [hv, go_sem]
 refine aP h fun g0 h => ?_
 obtain ⟨v_14, hv, h⟩ := aJ h
 try simp only [hv, go_sem]
 refine aP h fun g0 h => ?_
 refine eG h (fun hc h => ?_) fun hc h => ?_
 ·exact aG hF [.tmp 4] rfl rfl rfl (aB h) (by simp only [aS, go_sem])
 ·refine eG h (fun hc h => ?_) fun hc h => ?_
  ·exact aG hF [.tmp 4] rfl rfl rfl (aB h) (by simp only [aS, go_sem])
  ·refine aP h fun g0 h => ?_
   obtain ⟨v_30, hv, h⟩ := aJ h
   try simp only [hv, go_sem]
   refine aP h fun g0 h => ?_
   obtain ⟨v_31, hv, h⟩ := aJ h
   try simp only [hv, go_sem]
   obtain ⟨v_32, hv, h⟩ := aJ h
   try simp only [hv, go_sem]
   exact aG hF [.tmp 4] rfl rfl rfl (aB h) (by simp only [aS, go_sem])
attribute [go_sem] xN
noncomputable def uW (F : Md) (a_0 : (Bool × ((List Nat) × (Int × Unit)))) (b_1 : (Bool × ((List Nat) × (Int × Unit)))) : Option Int :=
 (oS F a_0).bind (fun v_13 => (oS F b_1).bind (fun v_14 => (fF F a_0).bind (fun v_20 => ck (¬ (¬ (v_20 = true)) → ((fF F b_1).isSome = true)) (if (¬ (v_20 = true)) ∨ (¬ (((fF F b_1).getD false) = true)) then some (0 : Int) else if (¬ (v_13 = v_14)) ∧ (v_13 < v_14) then some (-1 : Int) else if ¬ (v_13 = v_14) then some (1 : Int) else if v_13 = (0 : Int) then some (0 : Int) else (aAf F a_0 b_1).bind (fun v_24 => ck (I64 (v_13 * v_24)) (some (v_13 * v_24)))))))
def aHM : PlR := ⟨[(0, .B [2, 3]), (1, .A [2, 3, 5, 6]), (2, .A [2, 3, 5, 6, 11]), (3, .A [4]), (4, .A [2, 3, 5, 6, 20]), (5, .A [4]), (6, .A [2, 3, 5, 29]), (7, .A [4]), (8, .A [2, 3, 5, 33]), (9, .A [4]), (10, .A [4])], []⟩
def aJ0 : Ty := .pair (.pair .bool (.pair (.sl (.u .u64)) (.pair (.i .i64) .unit))) (.pair (.pair .bool (.pair (.sl (.u .u64)) (.pair (.i .i64) .unit))) .unit)
noncomputable def sD (F : Md) : aH := mSpec aJ0 (.one (.i .i64)) (fun x => uW F x.1 x.2.1)
noncomputable def aBS (F : Md) : List (FuncId × aH) := [(57, (pD F)), (58, (mX F)), (59, (xN F))]
theorem aNT (F : Md) : bD Tryz.prog GL (aBS F) := .cons (aFJ F) (by kernel_rfl) (.cons (aC6 F) (by kernel_rfl) (.cons (aL4 F) (by kernel_rfl) (.nil)))
theorem aKF (F : Md) : gam (aBS F) 57 = some (pD F) := rfl
theorem aKG (F : Md) : gam (aBS F) 58 = some (mX F) := rfl
theorem aKH (F : Md) : gam (aBS F) 59 = some (xN F) := rfl
attribute [go_sem] aJ0 aHM aKF aKG aKH
set_option maxHeartbeats 4000000 in
theorem aHN (F : Md) : FOK Tryz.prog GL 22 (sD F) := by
 refine bG (aY (aNT F)) mix Tryz.func22 rfl (by kernel_rfl) (by decide) aHM fun w0 S x Θ hw h hF => ?_
 obtain ⟨(a_0 : (Bool × ((List Nat) × (Int × Unit)))), (b_1 : (Bool × ((List Nat) × (Int × Unit)))), u⟩ := x
 simp only [bK, go_sem]
 replace h : sat (uW F a_0 b_1) _ := h
 unfold uW at h
 obtain ⟨v_13, hv, h⟩ := aJ h
 try simp only [hv, go_sem]
 obtain ⟨v_14, hv, h⟩ := aJ h
 try simp only [hv, go_sem]
 obtain ⟨v_20, hv, h⟩ := aJ h
 try simp only [hv, go_sem]
 obtain ⟨g0, h⟩ := aK h
 repeat (refine ⟨zAD, ?_⟩)
 refine ⟨fun hc => ?_, fun hc => ?_⟩
 ·replace h := iW zAB h
  exact aG hF [.tmp 4] rfl rfl rfl (aB h) (by simp only [aS, go_sem])
 ·replace h := iX zAB h
  refine ⟨fun hc => ?_, fun hc => ?_⟩
  ·replace h := iW hc h
   exact aG hF [.tmp 4] rfl rfl rfl (aB h) (by simp only [aS, go_sem])
  ·replace h := iX hc h
   refine dT h (fun hc h => ?_) fun hc h => ?_
   ·exact aG hF [.tmp 4] rfl rfl rfl (aB h) (by simp only [aS, go_sem])
   ·refine dT h (fun hc h => ?_) fun hc h => ?_
    ·exact aG hF [.tmp 4] rfl rfl rfl (aB h) (by simp only [aS, go_sem])
    ·obtain ⟨v_24, hv, h⟩ := aJ h
     try simp only [hv, go_sem]
     obtain ⟨g0, h⟩ := aK h
     try simp only [I64, I32] at g0
     repeat (refine ⟨zAA, ?_⟩)
     exact aG hF [.tmp 4] rfl rfl rfl (aB h) (by simp only [aS, go_sem])
attribute [go_sem] sD
noncomputable def tD (F : Md) (n_0 : Int) (e_1 : Int) (m_3 : Nat) : Option ((Bool × ((List Nat) × (Int × Unit))) × (Int × Unit)) :=
 (yW F ([m_3] : List Nat)).bind (fun v_6 => (zC F (decide (n_0 < (0 : Int))) v_6 e_1).bind (fun v_7 => some (v_7.1, v_7.2.1, ())))
noncomputable def aDF (F : Md) (n_0 : Int) (e_1 : Int) : Option ((Bool × ((List Nat) × (Int × Unit))) × (Int × Unit)) :=
 if n_0 < (0 : Int) then tD F n_0 e_1 (aNE F .u64 (n_0 % (18446744073709551616 : Int)).toNat) else tD F n_0 e_1 (n_0 % (18446744073709551616 : Int)).toNat
def aJ1 : PlR := ⟨[(0, .B [0, 1, 4]), (1, .A [0, 1, 4, 6]), (2, .A [0, 1, 4, 6, 10]), (3, .A [0, 1, 4, 6]), (4, .B [4, 5])], [(5, 7)]⟩
def aLr : Ty := .pair (.i .i64) (.pair (.i .i64) .unit)
noncomputable def aBT (F : Md) : aH := mSpec aLr (.tup (.pair (.pair .bool (.pair (.sl (.u .u64)) (.pair (.i .i64) .unit))) (.pair (.i .i64) .unit))) (fun x => aDF F x.1 x.2.1)
noncomputable def aGP (F : Md) : List (FuncId × aH) := [(117, (sC F)), (231, (rY F))]
theorem aPk (F : Md) : bD Tryz.prog GL (aGP F) := .cons (aHH F) (by kernel_rfl) (.cons (aHx F) (by kernel_rfl) (.nil))
theorem aKI (F : Md) : gam (aGP F) 117 = some (sC F) := rfl
theorem aKJ (F : Md) : gam (aGP F) 231 = some (rY F) := rfl
attribute [go_sem] aLr aJ1 aKI aKJ
set_option maxHeartbeats 4000000 in
theorem aNU (F : Md) : FOK Tryz.prog GL 200 (aBT F) := by
 refine bG (aY (aPk F)) mix Tryz.func200 rfl (by kernel_rfl) (by decide) aJ1 fun w0 S x Θ hw h hF => ?_
 obtain ⟨(n_0 : Int), (e_1 : Int), u⟩ := x
 simp only [bK, go_sem]
 replace h : sat (aDF F n_0 e_1) _ := h
 unfold aDF at h
 refine eB hF (D := Nat) (fun d => sat (tD F n_0 e_1 d) Θ) [0, 1] (fun d => [(4, .ptr 0 []), (6, .val (.u .u64) d)]) (fun d => [.inr (.box 3 (.val (.pair .bool (.pair (.sl (.u .u64)) (.pair (.i .i64) .unit))) (false, ([] : List Nat), (0 : Int), ())))]) ?_ ?_
 ·simp only [go_sem, cF F, cG F, cH F]
  refine eG h (fun hc h => ?_) fun hc h => ?_
  ·exact aQ (aNE F .u64 (n_0 % (18446744073709551616 : Int)).toNat) h rfl (by simp only [go_sem, cF F, cG F, cH F])
  ·exact aQ (n_0 % (18446744073709551616 : Int)).toNat h rfl (by simp only [go_sem, cF F, cG F, cH F])
 ·rintro m_3 h
  simp only [go_sem, cF F, cG F, cH F]
  replace h : sat (tD F n_0 e_1 m_3) _ := h
  unfold tD at h
  obtain ⟨v_6, hv, h⟩ := aJ h
  try simp only [hv, go_sem, cF F, cG F, cH F]
  obtain ⟨v_7, hv, h⟩ := aJ h
  try simp only [hv, go_sem, cF F, cG F, cH F]
  exact aG hF [.cell 4 25, .tmp 5] rfl rfl rfl (aB h) (by simp only [aS, go_sem, cF F, cG F, cH F])
attribute [go_sem] aBT
noncomputable def tE (F : Md) (a_0 : (Bool × ((List Nat) × (Int × Unit)))) (b_1 : (Bool × ((List Nat) × (Int × Unit)))) : Option ((Bool × ((List Nat) × (Int × Unit))) ⊕ (Int × Unit)) :=
 ck ((gP F a_0.2.1 b_1.2.1).isSome = true) (ck (I64 (a_0.2.2.1 + b_1.2.2.1)) ((zB F (a_0.1 != b_1.1) ((gP F a_0.2.1 b_1.2.1).getD ([] : List Nat)) (a_0.2.2.1 + b_1.2.2.1)).bind (fun e => match e with | .inl r_7 => some (.inl r_7) | .inr p_8 => some (.inr p_8))))
noncomputable def mC (F : Md) : oD where
 D := (Bool × ((List Nat) × (Int × Unit))) × (Bool × ((List Nat) × (Int × Unit))) × ((Bool × ((List Nat) × (Int × Unit))) ⊕ (Int × Unit))
 av := fun d => [.val (.pair .bool (.pair (.sl (.u .u64)) (.pair (.i .i64) .unit))) d.1, .val (.pair .bool (.pair (.sl (.u .u64)) (.pair (.i .i64) .unit))) d.2.1]
 hp := fun d => []
 m := 0
 pre := fun d => tE F d.1 d.2.1 = some d.2.2
 out := fun d => match d.2.2 with | .inl r => .ret (.val (.pair .bool (.pair (.sl (.u .u64)) (.pair (.i .i64) .unit))) r) [] | .inr p => .pan ⟨251, (.pair (.i .i64) .unit), p⟩ []
noncomputable def aBU (F : Md) : List (FuncId × aH) := [(94, (eQ F))]
theorem aFL (F : Md) : bD Tryz.prog GL (aBU F) := .cons (pB F) (by kernel_rfl) (.nil)
theorem aId (F : Md) : gam (aBU F) 94 = some (eQ F) := rfl
attribute [go_sem] aId
set_option maxHeartbeats 4000000 in
theorem vK (F : Md) : GOK Tryz.prog GL 239 (mC F) := by
 refine yR (aY (aFL F)) Tryz.func239 rfl (by kernel_rfl) (fun _ => Nat.le_of_ble_eq_true rfl) fun c0 w0 d hw1 hw2 h hn => ?_
 have hF : jS ⟨Tryz.prog, EM (aBU F), GM (mC F) c0 d, w0, Tryz.f239.ntmps, []⟩ := ⟨aY (aFL F), mix⟩
 obtain ⟨(a_0 : (Bool × ((List Nat) × (Int × Unit)))), (b_1 : (Bool × ((List Nat) × (Int × Unit)))), r⟩ := d
 replace h : tE F a_0 b_1 = some r := h
 have hw1 : AV.wfL [.val (.pair .bool (.pair (.sl (.u .u64)) (.pair (.i .i64) .unit))) a_0, .val (.pair .bool (.pair (.sl (.u .u64)) (.pair (.i .i64) .unit))) b_1] := hw1
 simp only [AV.wfL, AV.wfV, Ty.wf, mZ] at hw1
 show Tri _ _ _ [(0, .val (.pair .bool (.pair (.sl (.u .u64)) (.pair (.i .i64) .unit))) a_0), (1, .val (.pair .bool (.pair (.sl (.u .u64)) (.pair (.i .i64) .unit))) b_1)] []
 unfold tE at h
 refine aC (aX hF [2, 3, 4] ?_)
 simp only [go_sem]
 obtain ⟨g0, h⟩ := aI h
 obtain ⟨g1, h⟩ := aI h
 try simp only [I64, I32] at g1
 obtain ⟨e, he1, h⟩ := bind_some h
 rcases e with r_7 | p_8
 ·try dsimp only at h
  refine aD (aC (aFr hF (eD (l := [(182, ⟨oR F, [], ((a_0.1 != b_1.1), ((gP F a_0.2.1 b_1.2.1).getD ([] : List Nat)), (a_0.2.2.1 + b_1.2.2.1), .inl r_7)⟩)]) (.cons (aAe F) (by kernel_rfl) (.nil))) 15 (by decide) [4] [] ?_))
  simp only [go_sem]
  repeat (refine ⟨zAA, ?_⟩)
  simp only [aQk, go_sem]
  repeat (refine ⟨zAA, ?_⟩)
  obtain rfl := Option.some.inj h
  refine aD (dE (aAW hF [.cell 4 25] [] rfl rfl rfl rfl rfl rfl rfl rfl rfl ?_))
  (try simp only [aS, aFn, aEw, gA, rR, AV.isAgg, go_sem]) <;> first | trivial | rfl | (simp; done)
 ·try dsimp only at h
  refine aD (aC (aFr hF (eD (l := [(182, ⟨oR F, [], ((a_0.1 != b_1.1), ((gP F a_0.2.1 b_1.2.1).getD ([] : List Nat)), (a_0.2.2.1 + b_1.2.2.1), .inr p_8)⟩)]) (.cons (aAe F) (by kernel_rfl) (.nil))) 15 (by decide) [4] [] ?_))
  simp only [go_sem]
  repeat (refine ⟨zAA, ?_⟩)
  simp only [aQk, go_sem]
  repeat (refine ⟨zAA, ?_⟩)
  obtain rfl := Option.some.inj h
  refine nK (vD [] rfl rfl ?_)
  simp only [ren, fU, iV, posOf, dL, go_sem]
  refine sY rfl rfl rfl rfl
attribute [go_sem] mC
noncomputable def jI (F : Md) (a0_0 : (Bool × ((List Nat) × (Int × Unit)))) (a1_1 : (Bool × ((List Nat) × (Int × Unit)))) (a2_2 : Unit) : Option ((Bool × ((List Nat) × (Int × Unit))) ⊕ (Int × Unit)) :=
 ck ((fF F a0_0).isSome = true) (if ((fF F a0_0).getD false) = true then ck ((fF F a1_1).isSome = true) ((lX F (((fF F a0_0).getD false) && ((fF F a1_1).getD false)) (1 : Int)).bind (fun e => match e with | .inl r_12 => (tE F a0_0 a1_1).bind (fun e => match e with | .inl r_20 => some (.inl r_20) | .inr p_21 => some (.inr p_21)) | .inr p_13 => some (.inr p_13))) else (lX F false (1 : Int)).bind (fun e => match e with | .inl r_14 => (tE F a0_0 a1_1).bind (fun e => match e with | .inl r_26 => some (.inl r_26) | .inr p_27 => some (.inr p_27)) | .inr p_15 => some (.inr p_15)))
noncomputable def gB (F : Md) : oD where
 D := (Bool × ((List Nat) × (Int × Unit))) × (Bool × ((List Nat) × (Int × Unit))) × Unit × ((Bool × ((List Nat) × (Int × Unit))) ⊕ (Int × Unit))
 av := fun d => [.val (.rp (.pair .bool (.pair (.sl (.u .u64)) (.pair (.i .i64) .unit)))) d.1, .val (.rp (.pair .bool (.pair (.sl (.u .u64)) (.pair (.i .i64) .unit)))) d.2.1, .val (.rp (.clo 239 .unit)) d.2.2.1]
 hp := fun d => []
 m := 0
 pre := fun d => jI F d.1 d.2.1 d.2.2.1 = some d.2.2.2
 out := fun d => match d.2.2.2 with | .inl r => .ret (.val (.pair .bool (.pair (.sl (.u .u64)) (.pair (.i .i64) .unit))) r) [] | .inr p => .pan ⟨251, (.pair (.i .i64) .unit), p⟩ []
noncomputable def mN (F : Md) : List (FuncId × aH) := [(58, (mX F))]
theorem sE (F : Md) : bD Tryz.prog GL (mN F) := .cons (aC6 F) (by kernel_rfl) (.nil)
theorem zD (F : Md) : gam (mN F) 58 = some (mX F) := rfl
attribute [go_sem] zD
set_option maxHeartbeats 4000000 in
theorem qL (F : Md) : GOK Tryz.prog GL 256 (gB F) := by
 refine yR (aY (sE F)) Tryz.func256 rfl (by kernel_rfl) (fun _ => Nat.le_of_ble_eq_true rfl) fun c0 w0 d hw1 hw2 h hn => ?_
 have hF : jS ⟨Tryz.prog, EM (mN F), GM (gB F) c0 d, w0, Tryz.f256.ntmps, []⟩ := ⟨aY (sE F), mix⟩
 obtain ⟨(a0_0 : (Bool × ((List Nat) × (Int × Unit)))), (a1_1 : (Bool × ((List Nat) × (Int × Unit)))), (a2_2 : Unit), r⟩ := d
 replace h : jI F a0_0 a1_1 a2_2 = some r := h
 have hw1 : AV.wfL [.val (.rp (.pair .bool (.pair (.sl (.u .u64)) (.pair (.i .i64) .unit)))) a0_0, .val (.rp (.pair .bool (.pair (.sl (.u .u64)) (.pair (.i .i64) .unit)))) a1_1, .val (.rp (.clo 239 .unit)) a2_2] := hw1
 simp only [AV.wfL, AV.wfV, Ty.wf, mZ] at hw1
 show Tri _ _ _ [(0, .roa (.pair .bool (.pair (.sl (.u .u64)) (.pair (.i .i64) .unit))) a0_0), (1, .roa (.pair .bool (.pair (.sl (.u .u64)) (.pair (.i .i64) .unit))) a1_1), (2, .roa (.clo 239 .unit) a2_2)] []
 unfold jI at h
 refine aC (aX hF [0, 1, 2, 3] ?_)
 simp only [go_sem]
 obtain ⟨g0, h⟩ := aI h
 by_cases hq : ((fF F a0_0).getD false) = true
 ·have h := gJ hq h
  obtain ⟨g1, h⟩ := aI h
  obtain ⟨e, he1, h⟩ := bind_some h
  rcases e with r_12 | p_13
  ·try dsimp only at h
   refine aD (aC (bT hF (eD (l := [(233, ⟨eE F, [], ((((fF F a0_0).getD false) && ((fF F a1_1).getD false)), (1 : Int), .inl r_12)⟩)]) (.cons (gH F) (by kernel_rfl) (.nil))) [0, 1, 2, 3] [] ?_))
   simp only [go_sem]
   repeat (refine ⟨zAA, ?_⟩)
   refine ⟨fun _ => ?_, fun hx => by first | (exfalso; omega) | (exfalso; simp_all; done)⟩
   repeat (refine ⟨zAA, ?_⟩)
   refine ⟨fun _ => ?_, fun hx => by first | (exfalso; omega) | (exfalso; simp_all; done)⟩
   repeat (refine ⟨zAA, ?_⟩)
   obtain ⟨e, he2, h⟩ := bind_some h
   rcases e with r_20 | p_21
   ·try dsimp only at h
    refine aD (aC (bT hF (eD (l := [(239, ⟨mC F, [], (a0_0, a1_1, .inl r_20)⟩)]) (.cons (vK F) (by kernel_rfl) (.nil))) [3] [] ?_))
    simp only [go_sem]
    repeat (refine ⟨zAA, ?_⟩)
    obtain rfl := Option.some.inj h
    refine aD (dE (aAW hF [.cell 3 25] [] rfl rfl rfl rfl rfl rfl rfl rfl rfl ?_))
    (try simp only [aS, aFn, aEw, gA, rR, AV.isAgg, go_sem]) <;> first | trivial | rfl | (simp; done)
   ·try dsimp only at h
    refine aD (aC (bT hF (eD (l := [(239, ⟨mC F, [], (a0_0, a1_1, .inr p_21)⟩)]) (.cons (vK F) (by kernel_rfl) (.nil))) [3] [] ?_))
    simp only [go_sem]
    repeat (refine ⟨zAA, ?_⟩)
    obtain rfl := Option.some.inj h
    refine nK (vD [] rfl rfl ?_)
    simp only [ren, fU, iV, posOf, dL, go_sem]
    refine sY rfl rfl rfl rfl
  ·try dsimp only at h
   refine aD (aC (bT hF (eD (l := [(233, ⟨eE F, [], ((((fF F a0_0).getD false) && ((fF F a1_1).getD false)), (1 : Int), .inr p_13)⟩)]) (.cons (gH F) (by kernel_rfl) (.nil))) [0, 1, 2, 3] [] ?_))
   simp only [go_sem]
   repeat (refine ⟨zAA, ?_⟩)
   refine ⟨fun _ => ?_, fun hx => by first | (exfalso; omega) | (exfalso; simp_all; done)⟩
   repeat (refine ⟨zAA, ?_⟩)
   refine ⟨fun _ => ?_, fun hx => by first | (exfalso; omega) | (exfalso; simp_all; done)⟩
   repeat (refine ⟨zAA, ?_⟩)
   obtain rfl := Option.some.inj h
   refine nK (vD [] rfl rfl ?_)
   simp only [ren, fU, iV, posOf, dL, go_sem]
   refine sY rfl rfl rfl rfl
 ·have h := gK hq h
  obtain ⟨e, he3, h⟩ := bind_some h
  rcases e with r_14 | p_15
  ·try dsimp only at h
   refine aD (aC (bT hF (eD (l := [(233, ⟨eE F, [], (false, (1 : Int), .inl r_14)⟩)]) (.cons (gH F) (by kernel_rfl) (.nil))) [0, 1, 2, 3] [] ?_))
   simp only [go_sem]
   repeat (refine ⟨zAA, ?_⟩)
   first | (refine ⟨fun hx => by first | (exfalso; omega) | (exfalso; simp_all; done), fun _ => ?_⟩) | intro _
   repeat (refine ⟨zAA, ?_⟩)
   first | (refine ⟨fun hx => by first | (exfalso; omega) | (exfalso; simp_all; done), fun _ => ?_⟩) | intro _
   repeat (refine ⟨zAA, ?_⟩)
   obtain ⟨e, he4, h⟩ := bind_some h
   rcases e with r_26 | p_27
   ·try dsimp only at h
    refine aD (aC (bT hF (eD (l := [(239, ⟨mC F, [], (a0_0, a1_1, .inl r_26)⟩)]) (.cons (vK F) (by kernel_rfl) (.nil))) [3] [] ?_))
    simp only [go_sem]
    repeat (refine ⟨zAA, ?_⟩)
    obtain rfl := Option.some.inj h
    refine aD (dE (aAW hF [.cell 3 25] [] rfl rfl rfl rfl rfl rfl rfl rfl rfl ?_))
    (try simp only [aS, aFn, aEw, gA, rR, AV.isAgg, go_sem]) <;> first | trivial | rfl | (simp; done)
   ·try dsimp only at h
    refine aD (aC (bT hF (eD (l := [(239, ⟨mC F, [], (a0_0, a1_1, .inr p_27)⟩)]) (.cons (vK F) (by kernel_rfl) (.nil))) [3] [] ?_))
    simp only [go_sem]
    repeat (refine ⟨zAA, ?_⟩)
    obtain rfl := Option.some.inj h
    refine nK (vD [] rfl rfl ?_)
    simp only [ren, fU, iV, posOf, dL, go_sem]
    refine sY rfl rfl rfl rfl
  ·try dsimp only at h
   refine aD (aC (bT hF (eD (l := [(233, ⟨eE F, [], (false, (1 : Int), .inr p_15)⟩)]) (.cons (gH F) (by kernel_rfl) (.nil))) [0, 1, 2, 3] [] ?_))
   simp only [go_sem]
   repeat (refine ⟨zAA, ?_⟩)
   first | (refine ⟨fun hx => by first | (exfalso; omega) | (exfalso; simp_all; done), fun _ => ?_⟩) | intro _
   repeat (refine ⟨zAA, ?_⟩)
   first | (refine ⟨fun hx => by first | (exfalso; omega) | (exfalso; simp_all; done), fun _ => ?_⟩) | intro _
   repeat (refine ⟨zAA, ?_⟩)
   obtain rfl := Option.some.inj h
   refine nK (vD [] rfl rfl ?_)
   simp only [ren, fU, iV, posOf, dL, go_sem]
   refine sY rfl rfl rfl rfl
attribute [go_sem] gB
noncomputable def cP (F : Md) (c0 : (Bool × ((List Nat) × (Int × Unit)))) (c1 : (Bool × ((List Nat) × (Int × Unit)))) (c2 : Unit) : Option ((Bool × ((List Nat) × (Int × Unit))) × Int × Unit) :=
 (jI F c0 c1 c2).bind fun q => some (match q with | .inl r => (r, 0, ()) | .inr p => ((false, ([] : List Nat), (0 : Int), ()), p.1, ()))
def kX : Ty := .pair (.clo 256 (.pair (.rp (.pair .bool (.pair (.sl (.u .u64)) (.pair (.i .i64) .unit)))) (.pair (.rp (.pair .bool (.pair (.sl (.u .u64)) (.pair (.i .i64) .unit)))) (.pair (.rp (.clo 239 .unit)) .unit)))) .unit
noncomputable def eA (F : Md) : aH := mSpec kX (.tup (.pair (.pair .bool (.pair (.sl (.u .u64)) (.pair (.i .i64) .unit))) (.pair (.i .i64) .unit))) (fun x => cP F x.1.1 x.1.2.1 x.1.2.2.1)
set_option maxHeartbeats 4000000 in
theorem qM (F : Md) : FOK Tryz.prog GL 180 (eA F) := by
 refine aJB (aY aD0) Tryz.func180 rfl (by kernel_rfl) (by decide) fun w0 S x r hw h => ?_
 have hF : jS (fr Tryz.prog (EM []) S w0 Tryz.f180.ntmps) := ⟨aY aD0, mix⟩
 obtain ⟨⟨(c0 : (Bool × ((List Nat) × (Int × Unit)))), (c1 : (Bool × ((List Nat) × (Int × Unit)))), (c2 : Unit), u1⟩, u⟩ := x
 replace h : cP F c0 c1 c2 = some r := h
 show Tri _ _ _ [(0, .val (.clo 256 (.pair (.rp (.pair .bool (.pair (.sl (.u .u64)) (.pair (.i .i64) .unit)))) (.pair (.rp (.pair .bool (.pair (.sl (.u .u64)) (.pair (.i .i64) .unit)))) (.pair (.rp (.clo 239 .unit)) .unit)))) (c0, c1, c2, u1))] []
 unfold cP at h
 obtain ⟨q, hq, h⟩ := bind_some h
 obtain rfl := Option.some.inj h
 refine aC (aX hF [0, 2, 3] ?_)
 simp only [go_sem]
 refine aD (aDU 2 [0, 1] rfl rfl (Nat.zero_le _) (by decide) fun roots hroots => ?_)
 have hF' : jS { fr Tryz.prog (EM []) S w0 Tryz.f180.ntmps with M := ⟨nothing, S, 2, roots⟩, ds := [⟨.fn (.func 232) ([0, 1].map roots).toArray, #[]⟩] } := ⟨aY aD0, mix⟩
 rcases q with q | q
 ·refine aC (bT hF' (eD (l := [(256, ⟨gB F, [], (c0, c1, c2, .inl q)⟩)]) (.cons (qL F) (by kernel_rfl) .nil)) [2, 3] [] ?_)
  simp only [go_sem]
  refine ⟨hq, ?_⟩
  refine aD (dE ?_)
  refine aOB (fn := Tryz.f180) (k := 2) (l2 := [0, 1]) hF' rfl rfl (by decide) rfl (aFp (by kernel_rfl)) ⟨kS, [0, 1], (q, 0)⟩ aC4 rfl [.cell 2 25, .cell 3 3] rfl ?_ ?_
  ·(simp only [kS, go_sem]) <;> first | decide | trivial
  ·(simp only [kS, aS, iA, go_sem]) <;> first | decide | trivial
 ·refine aC (bT hF' (eD (l := [(256, ⟨gB F, [], (c0, c1, c2, .inr q)⟩)]) (.cons (qL F) (by kernel_rfl) .nil)) [2, 3] [] ?_)
  simp only [go_sem]
  refine ⟨hq, ?_⟩
  refine nK ?_
  refine aOC (fn := Tryz.f180) (k := 2) (l2 := [0, 1]) hF' rfl rfl (by decide) rfl (aFp (by kernel_rfl)) ⟨kT q, [0, 1], ((false, ([] : List Nat), (0 : Int), ()), 0)⟩ (aC5 q) rfl [.cell 2 25, .cell 3 3] rfl ?_ ?_
  ·(simp only [kT, go_sem]) <;> first | decide | trivial
  ·(simp only [kT, aS, iA, go_sem]) <;> first | decide | trivial
attribute [go_sem] eA kX
noncomputable def lF (F : Md) (a_0 : (Bool × ((List Nat) × (Int × Unit)))) (b_1 : (Bool × ((List Nat) × (Int × Unit)))) (do_2 : Unit) : Option ((Bool × ((List Nat) × (Int × Unit))) × (Int × Unit)) :=
 ck ((cP F a_0 b_1 do_2).isSome = true) (some (((cP F a_0 b_1 do_2).getD ((false, ([] : List Nat), (0 : Int), ()), (0 : Int), ())).1, ((cP F a_0 b_1 do_2).getD ((false, ([] : List Nat), (0 : Int), ()), (0 : Int), ())).2.1, ()))
def lG : Ty := .pair (.pair .bool (.pair (.sl (.u .u64)) (.pair (.i .i64) .unit))) (.pair (.pair .bool (.pair (.sl (.u .u64)) (.pair (.i .i64) .unit))) (.pair (.clo 239 .unit) .unit))
attribute [go_sem] lG
noncomputable def kH (F : Md) : aH := mSpec lG (.tup (.pair (.pair .bool (.pair (.sl (.u .u64)) (.pair (.i .i64) .unit))) (.pair (.i .i64) .unit))) (fun x => lF F x.1 x.2.1 x.2.2.1)
noncomputable def oB (F : Md) : List (FuncId × aH) := [(180, (eA F))]
theorem uK (F : Md) : bD Tryz.prog GL (oB F) := .cons (qM F) (by kernel_rfl) (.nil)
theorem zR (F : Md) : gam (oB F) 180 = some (eA F) := rfl
attribute [go_sem] zR
set_option maxHeartbeats 4000000 in
theorem aBV (F : Md) : FOK Tryz.prog GL 238 (kH F) := by
 refine lR (aY (uK F)) Tryz.func238 rfl (by kernel_rfl) (by decide) fun w0 S x r hw h => ?_
 have hF : jS (fr Tryz.prog (EM (oB F)) S w0 Tryz.f238.ntmps) := ⟨aY (uK F), mix⟩
 obtain ⟨(a_0 : (Bool × ((List Nat) × (Int × Unit)))), (b_1 : (Bool × ((List Nat) × (Int × Unit)))), (do_2 : Unit), u⟩ := x
 simp only [lG, Ty.wf, mZ] at hw
 simp only [bK, lG]
 try dsimp only at h
 replace h : lF F a_0 b_1 do_2 = some r := h
 unfold lF at h
 refine aC (aX hF [3, 4, 5, 6] ?_)
 simp only [go_sem]
 refine aD (aC (wB 0 rfl ?_))
 simp only [go_sem]
 refine wB 1 rfl ?_
 simp only [go_sem]
 refine wB 2 rfl ?_
 simp only [go_sem]
 refine aX hF [6, 7] ?_
 simp only [go_sem]
 obtain ⟨g0, h⟩ := aI h
 repeat (refine ⟨zAA, ?_⟩)
 obtain rfl := Option.some.inj h
 refine aD (dE (fD hF [.cell 6 25, .tmp 7] rfl rfl rfl ?_))
 exact zAG
attribute [go_sem] kH
noncomputable def aBW (F : Md) (a_0 : (Bool × ((List Nat) × (Int × Unit)))) (b_1 : (Bool × ((List Nat) × (Int × Unit)))) : Option ((Bool × ((List Nat) × (Int × Unit))) × (Int × Unit)) :=
 (lF F a_0 b_1 ()).bind (fun v_4 => some (v_4.1, v_4.2.1, ()))
def aHO : PlR := ⟨[(0, .B [2, 3, 4]), (1, .B [4, 5])], []⟩
def aJ2 : Ty := .pair (.pair .bool (.pair (.sl (.u .u64)) (.pair (.i .i64) .unit))) (.pair (.pair .bool (.pair (.sl (.u .u64)) (.pair (.i .i64) .unit))) .unit)
noncomputable def aAh (F : Md) : aH := mSpec aJ2 (.tup (.pair (.pair .bool (.pair (.sl (.u .u64)) (.pair (.i .i64) .unit))) (.pair (.i .i64) .unit))) (fun x => aBW F x.1 x.2.1)
noncomputable def aJ3 (F : Md) : List (FuncId × aH) := [(238, (kH F))]
theorem aNV (F : Md) : bD Tryz.prog GL (aJ3 F) := .cons (aBV F) (by kernel_rfl) (.nil)
theorem aJ4 (F : Md) : gam (aJ3 F) 238 = some (kH F) := rfl
attribute [go_sem] aJ2 aHO aJ4
set_option maxHeartbeats 4000000 in
theorem aM6 (F : Md) : FOK Tryz.prog GL 201 (aAh F) := by
 refine bG (aY (aNV F)) mix Tryz.func201 rfl (by kernel_rfl) (by decide) aHO fun w0 S x Θ hw h hF => ?_
 obtain ⟨(a_0 : (Bool × ((List Nat) × (Int × Unit)))), (b_1 : (Bool × ((List Nat) × (Int × Unit)))), u⟩ := x
 simp only [bK, go_sem]
 replace h : sat (aBW F a_0 b_1) _ := h
 unfold aBW at h
 obtain ⟨v_4, hv, h⟩ := aJ h
 try simp only [hv, go_sem]
 exact aG hF [.cell 4 25, .tmp 5] rfl rfl rfl (aB h) (by simp only [aS, go_sem])
attribute [go_sem] aAh
end Nu
end Go.Proofs
namespace Go.Proofs
open Go.Vc
set_option maxRecDepth 20000
namespace Nu
def aJ5 : ByteArray := ⟨⟨97 :: 98 :: 99 :: 100 :: 101 :: 102 :: 103 :: 104 :: 105 :: 106 :: 107 :: 108 :: 109 :: 110 :: 111 :: 112 :: 113 :: 114 :: 115 :: 116 :: 117 :: 118 :: 119 :: 120 :: 121 :: 122 :: 48 :: 49 :: 50 :: 51 :: 52 :: 53 :: 54 :: 55 :: 56 :: 57 :: 95 :: []⟩⟩
theorem aKK : (⟨⟨97 :: 98 :: 99 :: 100 :: 101 :: 102 :: 103 :: 104 :: 105 :: 106 :: 107 :: 108 :: 109 :: 110 :: 111 :: 112 :: 113 :: 114 :: 115 :: 116 :: 117 :: 118 :: 119 :: 120 :: 121 :: 122 :: 48 :: 49 :: 50 :: 51 :: 52 :: 53 :: 54 :: 55 :: 56 :: 57 :: 95 :: []⟩⟩ : ByteArray) = aJ5 := rfl
attribute [go_sem] aKK
noncomputable def kY (F : Md) (c_1 : Nat) (s_5 : (List Nat)) : Option ((List Nat) ⊕ (List Nat)) :=
 ck (((0 : Int) < (((s_5.length) : Nat) : Int)) → (I64 ((((s_5.length) : Nat) : Int) - (1 : Int)))) (ck (((0 : Int) < (((s_5.length) : Nat) : Int)) → (0 ≤ ((((s_5.length) : Nat) : Int) - (1 : Int)) ∧ ((((s_5.length) : Nat) : Int) - (1 : Int)) < (((s_5.length) : Nat) : Int))) (if ((0 : Int) < (((s_5.length) : Nat) : Int)) ∧ ((s_5.getD ((((s_5.length) : Nat) : Int) - (1 : Int)).toNat (0 : Nat)) = c_1) then ck (I64 ((((s_5.length) : Nat) : Int) - (1 : Int))) (ck (0 ≤ ((((s_5.length) : Nat) : Int) - (1 : Int)) ∧ ((((s_5.length) : Nat) : Int) - (1 : Int)) ≤ (((s_5.length) : Nat) : Int)) (some (.inl (List.take ((((s_5.length) : Nat) : Int) - (1 : Int)).toNat s_5)))) else some (.inr s_5)))
noncomputable def jJ (F : Md) (s_0 : (List Nat)) (c_1 : Nat) : Option (List Nat) :=
 (dF F (fun d : (List Nat) => kY F c_1 d) s_0).bind (fun e => some e)
def qN : PlR := ⟨[(0, .A [0, 1]), (1, .A [0, 1, 16]), (2, .A [0, 1]), (3, .A [4])], []⟩
def sF : Ty := .pair .str (.pair (.u .u8) .unit)
noncomputable def iN (F : Md) : aH := mSpec sF (.one .str) (fun x => jJ F x.1 x.2.1)
noncomputable def aAZ (F : Md) : List (FuncId × aH) := []
theorem aA0 (F : Md) : bD Tryz.prog GL (aAZ F) := .nil
attribute [go_sem] sF qN
set_option maxHeartbeats 4000000 in
theorem aAB (F : Md) : FOK Tryz.prog GL 143 (iN F) := by
 refine bG (aY (aA0 F)) mix Tryz.func143 rfl (by kernel_rfl) (by decide) qN fun w0 S x Θ hw h hF => ?_
 obtain ⟨(s_0 : (List Nat)), (c_1 : Nat), u⟩ := x
 simp only [bK, go_sem]
 replace h : sat (jJ F s_0 c_1) _ := h
 unfold jJ at h
 refine bQ hF (D := (List Nat)) [1] (fun d => [(0, .val .str d)]) (fun d => []) h rfl (by simp only [go_sem]) ?_
 rintro s_5 A1 T1 hA1 hE1 h
 simp only [go_sem]
 replace h : sat (kY F c_1 s_5) _ := h
 unfold kY at h
 refine aP h fun g0 h => aP h fun g1 h => ?_
 refine ⟨fun hc => ?_, fun hc => ?_⟩
 ·replace h := iW hc h
  refine aP h fun g0 h => aP h fun g1 h => ?_
  replace h := hA1 _ (aB h)
  exact aQ _ h rfl (by simp only [go_sem])
 ·replace h := iX hc h
  replace h := hE1 _ (aB h)
  try dsimp only at h
  exact aG hF [.tmp 4] rfl rfl rfl (aB h) (by simp only [aS, go_sem])
attribute [go_sem] iN
noncomputable def lM (F : Md) (c_1 : Nat) (s_5 : (List Nat)) : Option ((List Nat) ⊕ (List Nat)) :=
 ck (((0 : Int) < (((s_5.length) : Nat) : Int)) → ((0 : Int) < (((s_5.length) : Nat) : Int))) (if ((0 : Int) < (((s_5.length) : Nat) : Int)) ∧ ((s_5.getD (0 : Nat) (0 : Nat)) = c_1) then ck ((1 : Int) ≤ (((s_5.length) : Nat) : Int)) (some (.inl (List.drop (1 : Nat) s_5))) else some (.inr s_5))
noncomputable def kI (F : Md) (s_0 : (List Nat)) (c_1 : Nat) : Option (List Nat) :=
 (dF F (fun d : (List Nat) => lM F c_1 d) s_0).bind (fun e => some e)
def sG : PlR := ⟨[(0, .A [0, 1]), (1, .A [0, 1, 13]), (2, .A [0, 1]), (3, .A [4])], []⟩
def tF : Ty := .pair .str (.pair (.u .u8) .unit)
noncomputable def jK (F : Md) : aH := mSpec tF (.one .str) (fun x => kI F x.1 x.2.1)
noncomputable def aBX (F : Md) : List (FuncId × aH) := []
theorem aBY (F : Md) : bD Tryz.prog GL (aBX F) := .nil
attribute [go_sem] tF sG
set_option maxHeartbeats 4000000 in
theorem aA1 (F : Md) : FOK Tryz.prog GL 142 (jK F) := by
 refine bG (aY (aBY F)) mix Tryz.func142 rfl (by kernel_rfl) (by decide) sG fun w0 S x Θ hw h hF => ?_
 obtain ⟨(s_0 : (List Nat)), (c_1 : Nat), u⟩ := x
 simp only [bK, go_sem]
 replace h : sat (kI F s_0 c_1) _ := h
 unfold kI at h
 refine bQ hF (D := (List Nat)) [1] (fun d => [(0, .val .str d)]) (fun d => []) h rfl (by simp only [go_sem]) ?_
 rintro s_5 A1 T1 hA1 hE1 h
 simp only [go_sem]
 replace h : sat (lM F c_1 s_5) _ := h
 unfold lM at h
 refine aP h fun g0 h => ?_
 refine ⟨fun hc => ?_, fun hc => ?_⟩
 ·replace h := iW hc h
  refine aP h fun g0 h => ?_
  replace h := hA1 _ (aB h)
  exact aQ _ h rfl (by simp only [go_sem])
 ·replace h := iX hc h
  replace h := hE1 _ (aB h)
  try dsimp only at h
  exact aG hF [.tmp 4] rfl rfl rfl (aB h) (by simp only [aS, go_sem])
attribute [go_sem] jK
noncomputable def eR (F : Md) (as_0 : (List Bool)) (c_1 : Nat) : Option Bool :=
 ck (0 ≤ ((c_1 : Nat) : Int) ∧ ((c_1 : Nat) : Int) < (256 : Int)) (some (as_0.getD c_1 false))
def nO : PlR := ⟨[(0, .A [0, 1]), (1, .A [4])], []⟩
def oE : Ty := .pair (.rp (.arr 256 .bool)) (.pair (.u .u8) .unit)
noncomputable def dO (F : Md) : aH := mSpec oE (.one .bool) (fun x => eR F x.1 x.2.1)
noncomputable def xO (F : Md) : List (FuncId × aH) := []
theorem xP (F : Md) : bD Tryz.prog GL (xO F) := .nil
attribute [go_sem] oE nO
set_option maxHeartbeats 4000000 in
theorem nP (F : Md) : FOK Tryz.prog GL 205 (dO F) := by
 refine bG (aY (xP F)) mix Tryz.func205 rfl (by kernel_rfl) (by decide) nO fun w0 S x Θ hw h hF => ?_
 obtain ⟨(as_0 : (List Bool)), (c_1 : Nat), u⟩ := x
 simp only [bK, go_sem]
 replace h : sat (eR F as_0 c_1) _ := h
 unfold eR at h
 refine aP h fun g0 h => ?_
 exact aG hF [.tmp 4] rfl rfl rfl (aB h) (by simp only [aS, go_sem])
attribute [go_sem] dO
noncomputable def lN (F : Md) (chars_0 : (List Nat)) (i_6 : Int) (as_7 : (List Bool)) : Option ((Int × (List Bool)) ⊕ ((List Bool) ⊕ ((List Bool) × (Bool × Unit)))) :=
 if i_6 < (((chars_0.length) : Nat) : Int) then ck (0 ≤ i_6 ∧ i_6 < (((chars_0.length) : Nat) : Int)) (if (128 : Nat) ≤ (chars_0.getD (i_6.toNat) (0 : Nat)) then some (.inr (.inr (as_7, false, ()))) else ck (0 ≤ (((chars_0.getD (i_6.toNat) (0 : Nat)) : Nat) : Int) ∧ (((chars_0.getD (i_6.toNat) (0 : Nat)) : Nat) : Int) < (256 : Int)) (ck (I64 (i_6 + (1 : Int))) (some (.inl ((i_6 + (1 : Int)), (as_7.set (chars_0.getD (i_6.toNat) (0 : Nat)) true)))))) else some (.inr (.inl as_7))
noncomputable def kJ (F : Md) (chars_0 : (List Nat)) : Option ((List Bool) × (Bool × Unit)) :=
 (dF F (fun d : Int × (List Bool) => lN F chars_0 d.1 d.2) ((0 : Int), (List.replicate 256 false))).bind (fun e => match e with | (.inl e) => some (e, true, ()) | (.inr e) => some e)
def sH : PlR := ⟨[(0, .B [0, 2]), (1, .A [0, 2, 4]), (2, .A [0, 2, 4, 9]), (3, .A [0, 2, 4]), (4, .A [0, 2, 4, 5]), (5, .A [0, 2, 4, 5, 16]), (6, .B [2, 3]), (7, .B [0, 2, 4]), (8, .B [2, 3])], []⟩
def tG : Ty := .pair .str .unit
noncomputable def jL (F : Md) : aH := mSpec tG (.tup (.pair (.arr 256 .bool) (.pair .bool .unit))) (fun x => kJ F x.1)
noncomputable def aBZ (F : Md) : List (FuncId × aH) := []
theorem aB0 (F : Md) : bD Tryz.prog GL (aBZ F) := .nil
attribute [go_sem] tG sH
set_option maxHeartbeats 4000000 in
theorem aA2 (F : Md) : FOK Tryz.prog GL 144 (jL F) := by
 refine bG (aY (aB0 F)) mix Tryz.func144 rfl (by kernel_rfl) (by decide) sH fun w0 S x Θ hw h hF => ?_
 obtain ⟨(chars_0 : (List Nat)), u⟩ := x
 simp only [bK, go_sem]
 replace h : sat (kJ F chars_0) _ := h
 unfold kJ at h
 refine bQ hF (D := Int × (List Bool)) [0] (fun d => [(2, .ptr 0 []), (4, .val (.i .i64) d.1)]) (fun d => [.inr (.box 256 (.val (.arr 256 .bool) d.2))]) h rfl (by simp only [go_sem]) ?_
 rintro ⟨i_6, as_7⟩ A2 T2 hA2 hE2 h
 simp only [go_sem]
 replace h : sat (lN F chars_0 i_6 as_7) _ := h
 unfold lN at h
 refine eG h (fun hc h => ?_) fun hc h => ?_
 ·obtain ⟨g0, h⟩ := aK h
  repeat (refine ⟨by omega, ?_⟩)
  refine dT h (fun hc h => ?_) fun hc h => ?_
  ·replace h := hE2 _ (aB h)
   try dsimp only at h
   exact aG hF [.cell 2 174, .tmp 3] rfl rfl rfl (aB h) (by simp only [aS, go_sem])
  ·obtain ⟨g0, h⟩ := aK h
   repeat (refine ⟨by omega, ?_⟩)
   obtain ⟨g0, h⟩ := aK h
   repeat (refine ⟨by omega, ?_⟩)
   replace h := hA2 _ (aB h)
   exact aQ _ h rfl (by simp only [go_sem])
 ·replace h := hE2 _ (aB h)
  try dsimp only at h
  exact aG hF [.cell 2 174, .tmp 3] rfl rfl rfl (aB h) (by simp only [aS, go_sem])
attribute [go_sem] jL
noncomputable def kK (F : Md) (as_1 : (List Bool)) (s_11 : (List Nat)) : Option ((List Nat) ⊕ (List Nat)) :=
 if (0 : Int) < (((s_11.length) : Nat) : Int) then ck (I64 ((((s_11.length) : Nat) : Int) - (1 : Int))) (ck (0 ≤ ((((s_11.length) : Nat) : Int) - (1 : Int)) ∧ ((((s_11.length) : Nat) : Int) - (1 : Int)) < (((s_11.length) : Nat) : Int)) ((eR F as_1 (s_11.getD ((((s_11.length) : Nat) : Int) - (1 : Int)).toNat (0 : Nat))).bind (fun v_21 => if ¬ (v_21 = true) then some (.inr s_11) else ck (I64 ((((s_11.length) : Nat) : Int) - (1 : Int))) (ck (0 ≤ ((((s_11.length) : Nat) : Int) - (1 : Int)) ∧ ((((s_11.length) : Nat) : Int) - (1 : Int)) ≤ (((s_11.length) : Nat) : Int)) (some (.inl (List.take ((((s_11.length) : Nat) : Int) - (1 : Int)).toNat s_11))))))) else some (.inr s_11)
noncomputable def iO (F : Md) (s_0 : (List Nat)) (as_1 : (List Bool)) : Option (List Nat) :=
 (dF F (fun d : (List Nat) => kK F as_1 d) s_0).bind (fun e => some e)
def pW : PlR := ⟨[(0, .A [0, 1]), (1, .A [0, 1, 7]), (2, .A [0, 1, 15]), (3, .A [0, 1]), (4, .A [4])], []⟩
def qO : Ty := .pair .str (.pair (.rp (.arr 256 .bool)) .unit)
noncomputable def iD (F : Md) : aH := mSpec qO (.one .str) (fun x => iO F x.1 x.2.1)
noncomputable def qP (F : Md) : List (FuncId × aH) := [(205, (dO F))]
theorem aAC (F : Md) : bD Tryz.prog GL (qP F) := .cons (nP F) (by kernel_rfl) (.nil)
theorem wL (F : Md) : gam (qP F) 205 = some (dO F) := rfl
attribute [go_sem] qO pW wL
set_option maxHeartbeats 4000000 in
theorem zS (F : Md) : FOK Tryz.prog GL 146 (iD F) := by
 refine bG (aY (aAC F)) mix Tryz.func146 rfl (by kernel_rfl) (by decide) pW fun w0 S x Θ hw h hF => ?_
 obtain ⟨(s_0 : (List Nat)), (as_1 : (List Bool)), u⟩ := x
 simp only [bK, go_sem]
 replace h : sat (iO F s_0 as_1) _ := h
 unfold iO at h
 refine bQ hF (D := (List Nat)) [1] (fun d => [(0, .val .str d)]) (fun d => []) h rfl (by simp only [go_sem]) ?_
 rintro s_11 A1 T1 hA1 hE1 h
 simp only [go_sem]
 replace h : sat (kK F as_1 s_11) _ := h
 unfold kK at h
 refine eG h (fun hc h => ?_) fun hc h => ?_
 ·refine aP h fun g0 h => aP h fun g1 h => ?_
  obtain ⟨v_21, hv, h⟩ := aJ h
  try simp only [hv, go_sem]
  refine aAw h (fun hc h => ?_) fun hc h => ?_
  ·replace h := hE1 _ (aB h)
   try dsimp only at h
   exact aG hF [.tmp 4] rfl rfl rfl (aB h) (by simp only [aS, go_sem])
  ·refine aP h fun g0 h => aP h fun g1 h => ?_
   replace h := hA1 _ (aB h)
   exact aQ _ h rfl (by simp only [go_sem])
 ·replace h := hE1 _ (aB h)
  try dsimp only at h
  exact aG hF [.tmp 4] rfl rfl rfl (aB h) (by simp only [aS, go_sem])
attribute [go_sem] iD
noncomputable def kZ (F : Md) (as_1 : (List Bool)) (s_11 : (List Nat)) : Option ((List Nat) ⊕ (List Nat)) :=
 if (0 : Int) < (((s_11.length) : Nat) : Int) then ck ((0 : Int) < (((s_11.length) : Nat) : Int)) ((eR F as_1 (s_11.getD (0 : Nat) (0 : Nat))).bind (fun v_21 => if ¬ (v_21 = true) then some (.inr s_11) else ck ((1 : Int) ≤ (((s_11.length) : Nat) : Int)) (some (.inl (List.drop (1 : Nat) s_11))))) else some (.inr s_11)
noncomputable def jM (F : Md) (s_0 : (List Nat)) (as_1 : (List Bool)) : Option (List Nat) :=
 (dF F (fun d : (List Nat) => kZ F as_1 d) s_0).bind (fun e => some e)
def qQ : PlR := ⟨[(0, .A [0, 1]), (1, .A [0, 1, 7]), (2, .A [0, 1, 12]), (3, .A [0, 1]), (4, .A [4])], []⟩
def sI : Ty := .pair .str (.pair (.rp (.arr 256 .bool)) .unit)
noncomputable def iP (F : Md) : aH := mSpec sI (.one .str) (fun x => jM F x.1 x.2.1)
noncomputable def sJ (F : Md) : List (FuncId × aH) := [(205, (dO F))]
theorem aA3 (F : Md) : bD Tryz.prog GL (sJ F) := .cons (nP F) (by kernel_rfl) (.nil)
theorem xQ (F : Md) : gam (sJ F) 205 = some (dO F) := rfl
attribute [go_sem] sI qQ xQ
set_option maxHeartbeats 4000000 in
theorem aAD (F : Md) : FOK Tryz.prog GL 145 (iP F) := by
 refine bG (aY (aA3 F)) mix Tryz.func145 rfl (by kernel_rfl) (by decide) qQ fun w0 S x Θ hw h hF => ?_
 obtain ⟨(s_0 : (List Nat)), (as_1 : (List Bool)), u⟩ := x
 simp only [bK, go_sem]
 replace h : sat (jM F s_0 as_1) _ := h
 unfold jM at h
 refine bQ hF (D := (List Nat)) [1] (fun d => [(0, .val .str d)]) (fun d => []) h rfl (by simp only [go_sem]) ?_
 rintro s_11 A1 T1 hA1 hE1 h
 simp only [go_sem]
 replace h : sat (kZ F as_1 s_11) _ := h
 unfold kZ at h
 refine eG h (fun hc h => ?_) fun hc h => ?_
 ·refine aP h fun g0 h => ?_
  obtain ⟨v_21, hv, h⟩ := aJ h
  try simp only [hv, go_sem]
  refine aAw h (fun hc h => ?_) fun hc h => ?_
  ·replace h := hE1 _ (aB h)
   try dsimp only at h
   exact aG hF [.tmp 4] rfl rfl rfl (aB h) (by simp only [aS, go_sem])
  ·refine aP h fun g0 h => ?_
   replace h := hA1 _ (aB h)
   exact aQ _ h rfl (by simp only [go_sem])
 ·replace h := hE1 _ (aB h)
  try dsimp only at h
  exact aG hF [.tmp 4] rfl rfl rfl (aB h) (by simp only [aS, go_sem])
attribute [go_sem] iP
noncomputable def tH (F : Md) (s_0 : (List Nat)) (cutset_1 : (List Nat)) : Option (List Nat) :=
 if (s_0 = (aA ⟨#[]⟩)) ∨ (cutset_1 = (aA ⟨#[]⟩)) then some s_0 else ck (((((cutset_1.length) : Nat) : Int) = (1 : Int)) → ((0 : Int) < (((cutset_1.length) : Nat) : Int))) (if ((((cutset_1.length) : Nat) : Int) = (1 : Int)) ∧ ((cutset_1.getD (0 : Nat) (0 : Nat)) < (128 : Nat)) then ck ((0 : Int) < (((cutset_1.length) : Nat) : Int)) ((jJ F s_0 (cutset_1.getD (0 : Nat) (0 : Nat))).bind (fun v_19 => ck ((0 : Int) < (((cutset_1.length) : Nat) : Int)) ((kI F v_19 (cutset_1.getD (0 : Nat) (0 : Nat))).bind (fun v_20 => some v_20)))) else (kJ F cutset_1).bind (fun v_27 => if v_27.2.1 = true then (iO F s_0 v_27.1).bind (fun v_34 => (jM F v_34 v_27.1).bind (fun v_35 => some v_35)) else none))
def aCg : PlR := ⟨[(0, .A [0, 1]), (1, .A [0, 1, 12]), (2, .A [4]), (3, .A [0, 1, 21]), (4, .A [4]), (5, .B [0, 1, 5, 6]), (6, .A [0, 1, 5, 34]), (7, .A [4]), (8, .stop)], []⟩
def aC7 : Ty := .pair .str (.pair .str .unit)
noncomputable def rD (F : Md) : aH := mSpec aC7 (.one .str) (fun x => tH F x.1 x.2.1)
noncomputable def mO (F : Md) : List (FuncId × aH) := [(142, (jK F)), (143, (iN F)), (144, (jL F)), (145, (iP F)), (146, (iD F))]
theorem aJ6 (F : Md) : bD Tryz.prog GL (mO F) := .cons (aA1 F) (by kernel_rfl) (.cons (aAB F) (by kernel_rfl) (.cons (aA2 F) (by kernel_rfl) (.cons (aAD F) (by kernel_rfl) (.cons (zS F) (by kernel_rfl) (.nil)))))
theorem aEA (F : Md) : gam (mO F) 142 = some (jK F) := rfl
theorem aEB (F : Md) : gam (mO F) 143 = some (iN F) := rfl
theorem aEC (F : Md) : gam (mO F) 144 = some (jL F) := rfl
theorem aED (F : Md) : gam (mO F) 145 = some (iP F) := rfl
theorem aEE (F : Md) : gam (mO F) 146 = some (iD F) := rfl
attribute [go_sem] aC7 aCg aEA aEB aEC aED aEE
set_option maxHeartbeats 4000000 in
theorem aIe (F : Md) : FOK Tryz.prog GL 70 (rD F) := by
 refine bG (aY (aJ6 F)) mix Tryz.func70 rfl (by kernel_rfl) (by decide) aCg fun w0 S x Θ hw h hF => ?_
 obtain ⟨(s_0 : (List Nat)), (cutset_1 : (List Nat)), u⟩ := x
 simp only [bK, go_sem]
 replace h : sat (tH F s_0 cutset_1) _ := h
 unfold tH at h
 refine ⟨fun hc => ?_, fun hc => ?_⟩
 ·replace h := iW hc h
  exact aG hF [.tmp 4] rfl rfl rfl (aB h) (by simp only [aS, go_sem])
 ·replace h := iX hc h
  refine aP h fun g0 h => ?_
  refine ⟨fun hc => ?_, fun hc => ?_⟩
  ·replace h := iW hc h
   refine aP h fun g0 h => ?_
   obtain ⟨v_19, hv, h⟩ := aJ h
   try simp only [hv, go_sem]
   refine aP h fun g0 h => ?_
   obtain ⟨v_20, hv, h⟩ := aJ h
   try simp only [hv, go_sem]
   exact aG hF [.tmp 4] rfl rfl rfl (aB h) (by simp only [aS, go_sem])
  ·replace h := iX hc h
   obtain ⟨v_27, hv, h⟩ := aJ h
   try simp only [hv, go_sem]
   refine aHo h (fun hc h => ?_) fun hc h => ?_
   ·obtain ⟨v_34, hv, h⟩ := aJ h
    try simp only [hv, go_sem]
    obtain ⟨v_35, hv, h⟩ := aJ h
    try simp only [hv, go_sem]
    exact aG hF [.tmp 4] rfl rfl rfl (aB h) (by simp only [aS, go_sem])
   ·exact aAX h
attribute [go_sem] rD
noncomputable def kU (F : Md) : Option (List (List Nat)) :=
 some ([(aA ⟨#[116]⟩), (aA ⟨#[115, 113, 114]⟩), (aA ⟨#[115, 113, 114, 116]⟩), (aA ⟨#[101, 120, 112]⟩), (aA ⟨#[112, 114, 101, 99]⟩), (aA ⟨#[101, 110, 100]⟩), (aA ⟨#[115, 116, 101, 112]⟩), (aA ⟨#[116, 111, 108]⟩), (aA ⟨#[116, 114, 105, 101, 115]⟩), (aA ⟨#[111, 114, 100, 101, 114]⟩), (aA ⟨#[106, 97, 99, 111, 98, 105]⟩), (aA ⟨#[115, 101, 105, 100, 101, 108]⟩), (aA ⟨#[115, 117, 98]⟩), (aA ⟨#[115, 116, 97, 116, 101]⟩), (aA ⟨#[112, 97, 114]⟩), (aA ⟨#[105, 110]⟩), (aA ⟨#[111, 117, 116]⟩), (aA ⟨#[100, 101, 114]⟩), (aA ⟨#[108, 105, 110, 107]⟩)] : List (List Nat))
def aAi : PlR := ⟨[(0, .A []), (1, .A [0])], []⟩
def aA4 : Ty := .unit
noncomputable def oF (F : Md) : aH := mSpec aA4 (.one (.sl .str)) (fun x => kU F )
noncomputable def aGQ (F : Md) : List (FuncId × aH) := []
theorem aGR (F : Md) : bD Tryz.prog GL (aGQ F) := .nil
attribute [go_sem] aA4 aAi
set_option maxHeartbeats 4000000 in
theorem aFM (F : Md) : FOK Tryz.prog GL 72 (oF F) := by
 refine bG (aY (aGR F)) mix Tryz.func72 rfl (by kernel_rfl) (by decide) aAi fun w0 S x Θ hw h hF => ?_
 simp only [bK, go_sem]
 replace h : sat (kU F) _ := h
 unfold kU at h
 exact aG hF [.tmp 0] rfl rfl rfl (aB h) (by (simp only [aS, go_sem]) <;> first | rfl | (simp; done))
attribute [go_sem] oF
noncomputable def mD (F : Md) (s_0 : (List (List Nat))) (v_1 : (List Nat)) (x8_5 : Int) : Option ((Int) ⊕ ((Unit) ⊕ Int)) :=
 if x8_5 < (((s_0.length) : Nat) : Int) then ck (0 ≤ x8_5 ∧ x8_5 < (((s_0.length) : Nat) : Int)) (if v_1 = (s_0.getD (x8_5.toNat) ([] : List Nat)) then some (.inr (.inr x8_5)) else ck (I64 (x8_5 + (1 : Int))) (some (.inl (x8_5 + (1 : Int))))) else some (.inr (.inl ()))
noncomputable def lH (F : Md) (s_0 : (List (List Nat))) (v_1 : (List Nat)) : Option Int :=
 (dF F (fun d : Int => mD F s_0 v_1 d) (0 : Int)).bind (fun e => match e with | (.inl e) => some (-1 : Int) | (.inr e) => some e)
def tI : PlR := ⟨[(0, .A [0, 1]), (1, .A [0, 1, 7, 8]), (2, .A [0, 1, 7, 8, 9]), (3, .A [0, 1, 5, 7, 8]), (4, .A [0, 1, 5, 7, 8, 16]), (5, .A [4]), (6, .A [0, 1, 7, 8]), (7, .A [4])], []⟩
def uL : Ty := .pair (.sl .str) (.pair .str .unit)
noncomputable def kL (F : Md) : aH := mSpec uL (.one (.i .i64)) (fun x => lH F x.1 x.2.1)
noncomputable def aCv (F : Md) : List (FuncId × aH) := []
theorem aCw (F : Md) : bD Tryz.prog GL (aCv F) := .nil
attribute [go_sem] uL tI
set_option maxHeartbeats 4000000 in
theorem aB1 (F : Md) : FOK Tryz.prog GL 149 (kL F) := by
 refine bG (aY (aCw F)) mix Tryz.func149 rfl (by kernel_rfl) (by decide) tI fun w0 S x Θ hw h hF => ?_
 obtain ⟨(s_0 : (List (List Nat))), (v_1 : (List Nat)), u⟩ := x
 simp only [bK, go_sem]
 replace h : sat (lH F s_0 v_1) _ := h
 unfold lH at h
 refine bQ hF (D := Int) [0, 1, 7] (fun d => [(8, .val (.i .i64) d)]) (fun d => []) h rfl (by simp only [go_sem]) ?_
 rintro x8_5 A2 T2 hA2 hE2 h
 simp only [go_sem]
 replace h : sat (mD F s_0 v_1 x8_5) _ := h
 unfold mD at h
 refine eG h (fun hc h => ?_) fun hc h => ?_
 ·refine aP h fun g0 h => ?_
  refine dT h (fun hc h => ?_) fun hc h => ?_
  ·replace h := hE2 _ (aB h)
   try dsimp only at h
   exact aG hF [.tmp 4] rfl rfl rfl (aB h) (by simp only [aS, go_sem])
  ·refine aP h fun g0 h => ?_
   replace h := hA2 _ (aB h)
   exact aQ _ h rfl (by simp only [go_sem])
 ·replace h := hE2 _ (aB h)
  try dsimp only at h
  exact aG hF [.tmp 4] rfl rfl rfl (aB h) (by simp only [aS, go_sem])
attribute [go_sem] kL
noncomputable def dS (F : Md) (s_0 : (List (List Nat))) (v_1 : (List Nat)) : Option Bool :=
 (lH F s_0 v_1).bind (fun v_6 => some (decide ((0 : Int) ≤ v_6)))
def pX : PlR := ⟨[(0, .A [0, 1]), (1, .A [4])], []⟩
def qR : Ty := .pair (.sl .str) (.pair .str .unit)
noncomputable def eC (F : Md) : aH := mSpec qR (.one .bool) (fun x => dS F x.1 x.2.1)
noncomputable def qS (F : Md) : List (FuncId × aH) := [(149, (kL F))]
theorem aAE (F : Md) : bD Tryz.prog GL (qS F) := .cons (aB1 F) (by kernel_rfl) (.nil)
theorem wM (F : Md) : gam (qS F) 149 = some (kL F) := rfl
attribute [go_sem] qR pX wM
set_option maxHeartbeats 4000000 in
theorem pY (F : Md) : FOK Tryz.prog GL 71 (eC F) := by
 refine bG (aY (aAE F)) mix Tryz.func71 rfl (by kernel_rfl) (by decide) pX fun w0 S x Θ hw h hF => ?_
 obtain ⟨(s_0 : (List (List Nat))), (v_1 : (List Nat)), u⟩ := x
 simp only [bK, go_sem]
 replace h : sat (dS F s_0 v_1) _ := h
 unfold dS at h
 obtain ⟨v_6, hv, h⟩ := aJ h
 try simp only [hv, go_sem]
 exact aG hF [.tmp 4] rfl rfl rfl (aB h) (by simp only [aS, go_sem])
attribute [go_sem] eC
noncomputable def aU (F : Md) (s_0 : (List Nat)) : Option Bool :=
 ck (¬ (((((s_0.length) : Nat) : Int) < (1 : Int)) ∨ ((20 : Int) < (((s_0.length) : Nat) : Int))) → ((0 : Int) < (((s_0.length) : Nat) : Int))) (ck (¬ ((((((s_0.length) : Nat) : Int) < (1 : Int)) ∨ ((20 : Int) < (((s_0.length) : Nat) : Int))) ∨ ((s_0.getD (0 : Nat) (0 : Nat)) < (97 : Nat))) → ((0 : Int) < (((s_0.length) : Nat) : Int))) (if ((((((s_0.length) : Nat) : Int) < (1 : Int)) ∨ ((20 : Int) < (((s_0.length) : Nat) : Int))) ∨ ((s_0.getD (0 : Nat) (0 : Nat)) < (97 : Nat))) ∨ ((122 : Nat) < (s_0.getD (0 : Nat) (0 : Nat))) then some false else (tH F s_0 (aA aJ5)).bind (fun v_5 => ck ((v_5 = (aA ⟨#[]⟩)) → ((kU F).isSome = true)) (ck ((v_5 = (aA ⟨#[]⟩)) → ((dS F ((kU F).getD ([] : List (List Nat))) s_0).isSome = true)) (some ((decide (v_5 = (aA ⟨#[]⟩))) && (!((dS F ((kU F).getD ([] : List (List Nat))) s_0).getD false))))))))
def aD2 : PlR := ⟨[(0, .A [0]), (1, .A [0, 20]), (2, .A [2]), (3, .A [2])], []⟩
def aFN : Ty := .pair .str .unit
noncomputable def nV (F : Md) : aH := mSpec aFN (.one .bool) (fun x => aU F x.1)
noncomputable def xR (F : Md) : List (FuncId × aH) := [(70, (rD F)), (71, (eC F)), (72, (oF F))]
theorem aL5 (F : Md) : bD Tryz.prog GL (xR F) := .cons (aIe F) (by kernel_rfl) (.cons (pY F) (by kernel_rfl) (.cons (aFM F) (by kernel_rfl) (.nil)))
theorem aIf (F : Md) : gam (xR F) 70 = some (rD F) := rfl
theorem aIg (F : Md) : gam (xR F) 71 = some (eC F) := rfl
theorem aIh (F : Md) : gam (xR F) 72 = some (oF F) := rfl
attribute [go_sem] aFN aD2 aIf aIg aIh
set_option maxHeartbeats 4000000 in
theorem aD3 (F : Md) : FOK Tryz.prog GL 29 (nV F) := by
 refine bG (aY (aL5 F)) mix Tryz.func29 rfl (by kernel_rfl) (by decide) aD2 fun w0 S x Θ hw h hF => ?_
 obtain ⟨(s_0 : (List Nat)), u⟩ := x
 simp only [bK, go_sem]
 replace h : sat (aU F s_0) _ := h
 unfold aU at h
 obtain ⟨g0, h⟩ := aK h
 obtain ⟨g1, h⟩ := aK h
 repeat (refine ⟨zAE, ?_⟩)
 refine ⟨fun hc => ?_, fun hc => ?_⟩
 ·replace h := iW hc h
  exact aG hF [.tmp 2] rfl rfl rfl (aB h) (by simp only [aS, go_sem])
 ·replace h := iX hc h
  obtain ⟨v_5, hv, h⟩ := aJ h
  try simp only [hv, go_sem]
  obtain ⟨g0, h⟩ := aK h
  obtain ⟨g1, h⟩ := aK h
  repeat (refine ⟨zAE, ?_⟩)
  exact aG hF [.tmp 2] rfl rfl rfl (aB h) (by simp only [aS, go_sem])
attribute [go_sem] nV
end Nu
end Go.Proofs
namespace Go.Proofs
open Go.Vc
set_option maxRecDepth 20000
namespace Nu
noncomputable def nC (F : Md) : Option (Int × (Unit × Unit)) :=
 none
noncomputable def nD (F : Md) (s_0 : (List Nat)) (n_14 : Int) : Option (Int × (Unit × Unit)) :=
 ck ((0 : Int) < (((s_0.length) : Nat) : Int)) (if (s_0.getD (0 : Nat) (0 : Nat)) = (45 : Nat) then ck (I64 (0 - n_14)) (some ((0 - n_14), (), ())) else some (n_14, (), ()))
noncomputable def qD (F : Md) (s_9 : (List Nat)) (n_15 : Int) (x49_16 : Int) : Option ((Int × Int) ⊕ ((Int) ⊕ (Int × (Unit × Unit)))) :=
 if x49_16 < (((s_9.length) : Nat) : Int) then ck (0 ≤ x49_16 ∧ x49_16 < (((s_9.length) : Nat) : Int)) (if (9 : Nat) < (wA F .u8 (s_9.getD (x49_16.toNat) (0 : Nat)) (48 : Nat)) then none else ck (I64 (n_15 * (10 : Int))) (ck (I64 ((n_15 * (10 : Int)) + (((wA F .u8 (s_9.getD (x49_16.toNat) (0 : Nat)) (48 : Nat)) : Nat) : Int))) (ck (I64 (x49_16 + (1 : Int))) (some (.inl (((n_15 * (10 : Int)) + (((wA F .u8 (s_9.getD (x49_16.toNat) (0 : Nat)) (48 : Nat)) : Nat) : Int)), (x49_16 + (1 : Int)))))))) else some (.inr (.inl n_15))
noncomputable def lA (F : Md) (s_0 : (List Nat)) (s_9 : (List Nat)) : Option (Int × (Unit × Unit)) :=
 (dF F (fun d : Int × Int => qD F s_9 d.1 d.2) ((0 : Int), (0 : Int))).bind (fun e => match e with | (.inl e) => nD F s_0 e | (.inr e) => some e)
noncomputable def rE (F : Md) (s_0 : (List Nat)) : Option (Int × (Unit × Unit)) :=
 if ((False) ∧ (((0 : Int) < (((s_0.length) : Nat) : Int)) ∧ ((((s_0.length) : Nat) : Int) < (10 : Int)))) ∨ ((True) ∧ (((0 : Int) < (((s_0.length) : Nat) : Int)) ∧ ((((s_0.length) : Nat) : Int) < (19 : Int)))) then ck ((0 : Int) < (((s_0.length) : Nat) : Int)) (ck (¬ ((s_0.getD (0 : Nat) (0 : Nat)) = (45 : Nat)) → ((0 : Int) < (((s_0.length) : Nat) : Int))) (if ((s_0.getD (0 : Nat) (0 : Nat)) = (45 : Nat)) ∨ ((s_0.getD (0 : Nat) (0 : Nat)) = (43 : Nat)) then ck ((1 : Int) ≤ (((s_0.length) : Nat) : Int)) (if (((List.drop (1 : Nat) s_0).length : Nat) : Int) < (1 : Int) then none else lA F s_0 (List.drop (1 : Nat) s_0)) else lA F s_0 s_0)) else nC F
def aA5 : PlR := ⟨[(0, .A [0]), (1, .A [0, 4]), (2, .A [0, 30]), (3, .A [0, 5]), (4, .A [0, 5, 39]), (5, .A [0, 5]), (6, .A [0, 5, 44]), (7, .A [2, 3]), (8, .A [0, 5, 6]), (9, .A [5, 6, 47, 48, 49]), (10, .A [5, 6, 47, 48, 49, 50]), (11, .A [5, 6, 8, 47, 48, 49]), (12, .A [5, 6, 8, 47, 48, 49]), (13, .A [5, 6, 8, 47, 48, 49, 56]), (14, .A [2, 3]), (15, .A [5, 6, 47, 48, 49]), (16, .A [5, 6, 47, 48, 49]), (17, .A [6, 66]), (18, .A [6]), (19, .A [2, 3]), (20, .stop)], [(5, 23), (7, 11), (12, 20)]⟩
def aCh : Ty := .pair .str .unit
noncomputable def pE (F : Md) : aH := mSpec aCh (.tup (.pair (.i .i64) (.pair .nili .unit))) (fun x => rE F x.1)
noncomputable def aIi (F : Md) : List (FuncId × aH) := []
theorem aIj (F : Md) : bD Tryz.prog GL (aIi F) := .nil
attribute [go_sem] aCh aA5
set_option maxHeartbeats 4000000 in
theorem aGS (F : Md) : FOK Tryz.prog GL 254 (pE F) := by
 refine bG (aY (aIj F)) mix Tryz.func254 rfl (by kernel_rfl) (by decide) aA5 fun w0 S x Θ hw h hF => ?_
 obtain ⟨(s_0 : (List Nat)), u⟩ := x
 simp only [bK, go_sem]
 replace h : sat (rE F s_0) _ := h
 unfold rE at h
 refine eB hF (D := Unit) (fun d => sat (nC F) Θ) [0] (fun d => []) (fun d => []) ?_ ?_
 ·simp only [go_sem, cF F, cG F, cH F]
  refine ⟨fun hc => ?_, fun hc => ?_⟩
  ·replace h := iW zAB h
   refine eB hF (D := (List Nat)) (fun d => sat (lA F s_0 d) Θ) [5] (fun d => [(0, .val .str d)]) (fun d => []) ?_ ?_
   ·simp only [go_sem, cF F, cG F, cH F]
    refine aP h fun g0 h => aP h fun g1 h => ?_
    refine ⟨fun hc => ?_, fun hc => ?_⟩
    ·replace h := iW hc h
     refine aP h fun g0 h => ?_
     refine eG h (fun hc h => ?_) fun hc h => ?_
     ·exact aAX h
     ·exact aQ (List.drop (1 : Nat) s_0) h rfl (by simp only [go_sem, cF F, cG F, cH F])
    ·replace h := iX hc h
     exact aQ (s_0) h rfl (by simp only [go_sem, cF F, cG F, cH F])
   ·rintro s_9 h
    simp only [go_sem, cF F, cG F, cH F]
    replace h : sat (lA F s_0 s_9) _ := h
    unfold lA at h
    refine eB hF (D := Int) (fun d => sat (nD F s_0 d) Θ) [5] (fun d => [(6, .val (.i .i64) d)]) (fun d => []) ?_ ?_
    ·simp only [go_sem, cF F, cG F, cH F]
     refine bQ hF (D := Int × Int) [5, 47, 48] (fun d => [(6, .val (.i .i64) d.1), (49, .val (.i .i64) d.2)]) (fun d => []) h rfl (by simp only [go_sem, cF F, cG F, cH F]) ?_
     rintro ⟨n_15, x49_16⟩ A10 T10 hA10 hE10 h
     simp only [go_sem, cF F, cG F, cH F]
     replace h : sat (qD F s_9 n_15 x49_16) _ := h
     unfold qD at h
     refine eG h (fun hc h => ?_) fun hc h => ?_
     ·refine aP h fun g0 h => ?_
      refine dT h (fun hc h => ?_) fun hc h => ?_
      ·exact aAX h
      ·refine aP h fun g0 h => aP h fun g1 h => ?_
       refine aP h fun g0 h => ?_
       replace h := hA10 _ (aB h)
       exact aQ _ h rfl (by simp only [go_sem, cF F, cG F, cH F])
     ·replace h := hE10 _ (aB h)
      try dsimp only at h
      exact aQ (n_15) h rfl (by simp only [go_sem, cF F, cG F, cH F])
    ·rintro n_14 h
     simp only [go_sem, cF F, cG F, cH F]
     replace h : sat (nD F s_0 n_14) _ := h
     unfold nD at h
     refine aP h fun g0 h => ?_
     refine dT h (fun hc h => ?_) fun hc h => ?_
     ·refine aP h fun g0 h => ?_
      exact aG hF [.tmp 2, .tmp 3] rfl rfl rfl (aB h) (by simp only [aS, go_sem, cF F, cG F, cH F])
     ·exact aG hF [.tmp 2, .tmp 3] rfl rfl rfl (aB h) (by simp only [aS, go_sem, cF F, cG F, cH F])
  ·replace h := iX zAB h
   exact aQ () h rfl (by simp only [go_sem, cF F, cG F, cH F])
 ·rintro u h
  simp only [go_sem, cF F, cG F, cH F]
  replace h : sat (nC F) _ := h
  unfold nC at h
  exact aAX h
attribute [go_sem] pE
noncomputable def tJ (F : Md) (s_0 : (List Nat)) : Option (Int × (Unit × Unit)) :=
 (rE F s_0).bind (fun v_5 => some (v_5.1, (), ()))
def aCi : PlR := ⟨[(0, .A [0]), (1, .A [0, 4, 5]), (2, .A [0, 4, 5, 12]), (4, .A [2, 3])], []⟩
def aC8 : Ty := .pair .str .unit
noncomputable def rF (F : Md) : aH := mSpec aC8 (.tup (.pair (.i .i64) (.pair .nili .unit))) (fun x => tJ F x.1)
noncomputable def aC9 (F : Md) : List (FuncId × aH) := [(254, (pE F))]
theorem aJ7 (F : Md) : bD Tryz.prog GL (aC9 F) := .cons (aGS F) (by kernel_rfl) (.nil)
theorem aEF (F : Md) : gam (aC9 F) 254 = some (pE F) := rfl
attribute [go_sem] aC8 aCi aEF
set_option maxHeartbeats 4000000 in
theorem aIk (F : Md) : FOK Tryz.prog GL 230 (rF F) := by
 refine bG (aY (aJ7 F)) mix Tryz.func230 rfl (by kernel_rfl) (by decide) aCi fun w0 S x Θ hw h hF => ?_
 obtain ⟨(s_0 : (List Nat)), u⟩ := x
 simp only [bK, go_sem]
 replace h : sat (tJ F s_0) _ := h
 unfold tJ at h
 obtain ⟨v_5, hv, h⟩ := aJ h
 try simp only [hv, go_sem]
 exact aG hF [.tmp 2, .tmp 3] rfl rfl rfl (aB h) (by simp only [aS, go_sem])
attribute [go_sem] rF
noncomputable def wN (F : Md) (at_1 : Int) (s_0 : (List Nat)) (n_5 : Int) : Option ((Int) ⊕ (Int)) :=
 ck (I64 (at_1 + n_5)) (ck (((at_1 + n_5) < (((s_0.length) : Nat) : Int)) → (I64 (at_1 + n_5))) (ck (((at_1 + n_5) < (((s_0.length) : Nat) : Int)) → (0 ≤ (at_1 + n_5) ∧ (at_1 + n_5) < (((s_0.length) : Nat) : Int))) (ck ((((at_1 + n_5) < (((s_0.length) : Nat) : Int)) ∧ ((48 : Nat) ≤ (s_0.getD (at_1 + n_5).toNat (0 : Nat)))) → (I64 (at_1 + n_5))) (ck ((((at_1 + n_5) < (((s_0.length) : Nat) : Int)) ∧ ((48 : Nat) ≤ (s_0.getD (at_1 + n_5).toNat (0 : Nat)))) → (0 ≤ (at_1 + n_5) ∧ (at_1 + n_5) < (((s_0.length) : Nat) : Int))) (if (((at_1 + n_5) < (((s_0.length) : Nat) : Int)) ∧ ((48 : Nat) ≤ (s_0.getD (at_1 + n_5).toNat (0 : Nat)))) ∧ ((s_0.getD (at_1 + n_5).toNat (0 : Nat)) ≤ (57 : Nat)) then ck (I64 (n_5 + (1 : Int))) (some (.inl (n_5 + (1 : Int)))) else some (.inr n_5))))))
noncomputable def pF (F : Md) (s_0 : (List Nat)) (at_1 : Int) : Option Int :=
 (dF F (fun d : Int => wN F at_1 s_0 d) (0 : Int)).bind (fun e => some e)
def aD4 : PlR := ⟨[(0, .A [0, 1]), (1, .A [0, 1, 5]), (2, .A [0, 1, 5, 27]), (3, .A [0, 1, 5]), (4, .A [4])], []⟩
def aFO : Ty := .pair .str (.pair (.i .i64) .unit)
noncomputable def vL (F : Md) : aH := mSpec aFO (.one (.i .i64)) (fun x => pF F x.1 x.2.1)
noncomputable def aL6 (F : Md) : List (FuncId × aH) := []
theorem aL7 (F : Md) : bD Tryz.prog GL (aL6 F) := .nil
attribute [go_sem] aFO aD4
set_option maxHeartbeats 4000000 in
theorem aKL (F : Md) : FOK Tryz.prog GL 229 (vL F) := by
 refine bG (aY (aL7 F)) mix Tryz.func229 rfl (by kernel_rfl) (by decide) aD4 fun w0 S x Θ hw h hF => ?_
 obtain ⟨(s_0 : (List Nat)), (at_1 : Int), u⟩ := x
 simp only [bK, go_sem]
 replace h : sat (pF F s_0 at_1) _ := h
 unfold pF at h
 refine bQ hF (D := Int) [0, 1] (fun d => [(5, .val (.i .i64) d)]) (fun d => []) h rfl (by simp only [go_sem]) ?_
 rintro n_5 A2 T2 hA2 hE2 h
 simp only [go_sem]
 replace h : sat (wN F at_1 s_0 n_5) _ := h
 unfold wN at h
 refine aP h fun g0 h => aP h fun g1 h => aP h fun g2 h => aP h fun g3 h => aP h fun g4 h => ?_
 refine ⟨fun hc => ?_, fun hc => ?_⟩
 ·replace h := iW hc h
  refine aP h fun g0 h => ?_
  replace h := hA2 _ (aB h)
  exact aQ _ h rfl (by simp only [go_sem])
 ·replace h := iX hc h
  replace h := hE2 _ (aB h)
  try dsimp only at h
  exact aG hF [.tmp 4] rfl rfl rfl (aB h) (by simp only [aS, go_sem])
attribute [go_sem] vL
noncomputable def mP (F : Md) (all_9 : (List Nat)) (s_0 : (List Nat)) (at_17 : Int) (pow_18 : Int) : Option ((List Nat) × (Int × (Bool × Unit))) :=
 some (all_9, pow_18, (decide (at_17 = (((s_0.length) : Nat) : Int))), ())
noncomputable def mQ (F : Md) (pow_10 : Int) (at_19 : Int) (v_23 : Int) (all_9 : (List Nat)) (s_0 : (List Nat)) (x_28 : Int) : Option ((List Nat) × (Int × (Bool × Unit))) :=
 ck (I64 (pow_10 + x_28)) (ck (I64 (at_19 + v_23)) (mP F all_9 s_0 (at_19 + v_23) (pow_10 + x_28)))
noncomputable def mR (F : Md) (s_0 : (List Nat)) (at_8 : Int) (pow_10 : Int) (all_9 : (List Nat)) (at_19 : Int) : Option ((List Nat) × (Int × (Bool × Unit))) :=
 (pF F s_0 at_19).bind (fun v_23 => if (v_23 < (1 : Int)) ∨ ((3 : Int) < v_23) then some ((aA ⟨#[]⟩), (0 : Int), false, ()) else ck (I64 (at_19 + v_23)) (ck (0 ≤ at_19 ∧ at_19 ≤ (at_19 + v_23) ∧ (at_19 + v_23) ≤ (((s_0.length) : Nat) : Int)) ((tJ F (List.drop (at_19.toNat) (List.take (at_19 + v_23).toNat s_0))).bind (fun v_27 => if (100 : Int) < v_27.1 then some ((aA ⟨#[]⟩), (0 : Int), false, ()) else if ((at_8 + (1 : Int)) < (((s_0.length) : Nat) : Int)) ∧ ((s_0.getD (at_8 + (1 : Int)).toNat (0 : Nat)) = (45 : Nat)) then ck (I64 (0 - v_27.1)) (mQ F pow_10 at_19 v_23 all_9 s_0 (0 - v_27.1)) else mQ F pow_10 at_19 v_23 all_9 s_0 v_27.1))))
noncomputable def mS (F : Md) (s_0 : (List Nat)) (at_8 : Int) (all_9 : (List Nat)) (pow_10 : Int) : Option ((List Nat) × (Int × (Bool × Unit))) :=
 ck ((at_8 < (((s_0.length) : Nat) : Int)) → (0 ≤ at_8 ∧ at_8 < (((s_0.length) : Nat) : Int))) (if (at_8 < (((s_0.length) : Nat) : Int)) ∧ ((s_0.getD (at_8.toNat) (0 : Nat)) = (101 : Nat)) then ck (I64 (at_8 + (1 : Int))) (ck (((at_8 + (1 : Int)) < (((s_0.length) : Nat) : Int)) → (0 ≤ (at_8 + (1 : Int)) ∧ (at_8 + (1 : Int)) < (((s_0.length) : Nat) : Int))) (ck (¬ (((at_8 + (1 : Int)) < (((s_0.length) : Nat) : Int)) ∧ ((s_0.getD (at_8 + (1 : Int)).toNat (0 : Nat)) = (45 : Nat))) → ((at_8 + (1 : Int)) < (((s_0.length) : Nat) : Int)) → (0 ≤ (at_8 + (1 : Int)) ∧ (at_8 + (1 : Int)) < (((s_0.length) : Nat) : Int))) (if (((at_8 + (1 : Int)) < (((s_0.length) : Nat) : Int)) ∧ ((s_0.getD (at_8 + (1 : Int)).toNat (0 : Nat)) = (45 : Nat))) ∨ (((at_8 + (1 : Int)) < (((s_0.length) : Nat) : Int)) ∧ ((s_0.getD (at_8 + (1 : Int)).toNat (0 : Nat)) = (43 : Nat))) then ck (I64 ((at_8 + (1 : Int)) + (1 : Int))) (mR F s_0 at_8 pow_10 all_9 ((at_8 + (1 : Int)) + (1 : Int))) else mR F s_0 at_8 pow_10 all_9 (at_8 + (1 : Int))))) else mP F all_9 s_0 at_8 pow_10)
noncomputable def nW (F : Md) (s_0 : (List Nat)) : Option ((List Nat) × (Int × (Bool × Unit))) :=
 (pF F s_0 (0 : Int)).bind (fun v_5 => ck (0 ≤ v_5 ∧ v_5 ≤ (((s_0.length) : Nat) : Int)) (if ((60 : Int) < (((s_0.length) : Nat) : Int)) ∨ (v_5 = (0 : Int)) then some ((aA ⟨#[]⟩), (0 : Int), false, ()) else ck ((v_5 < (((s_0.length) : Nat) : Int)) → (0 ≤ v_5 ∧ v_5 < (((s_0.length) : Nat) : Int))) (if (v_5 < (((s_0.length) : Nat) : Int)) ∧ ((s_0.getD (v_5.toNat) (0 : Nat)) = (46 : Nat)) then ck (I64 (v_5 + (1 : Int))) ((pF F s_0 (v_5 + (1 : Int))).bind (fun v_32 => if v_32 = (0 : Int) then some ((aA ⟨#[]⟩), (0 : Int), false, ()) else ck (I64 (v_5 + (1 : Int))) (ck (I64 (v_5 + (1 : Int))) (ck (I64 ((v_5 + (1 : Int)) + v_32)) (ck (0 ≤ (v_5 + (1 : Int)) ∧ (v_5 + (1 : Int)) ≤ ((v_5 + (1 : Int)) + v_32) ∧ ((v_5 + (1 : Int)) + v_32) ≤ (((s_0.length) : Nat) : Int)) (ck ((List.take (v_5.toNat) s_0).length + (List.drop (v_5 + (1 : Int)).toNat (List.take ((v_5 + (1 : Int)) + v_32).toNat s_0)).length ≤ 9223372036854775807) (ck (I64 (0 - v_32)) (ck (I64 (v_5 + (1 : Int))) (ck (I64 ((v_5 + (1 : Int)) + v_32)) (mS F s_0 ((v_5 + (1 : Int)) + v_32) ((List.take (v_5.toNat) s_0) ++ (List.drop (v_5 + (1 : Int)).toNat (List.take ((v_5 + (1 : Int)) + v_32).toNat s_0))) (0 - v_32))))))))))) else mS F s_0 v_5 (List.take (v_5.toNat) s_0) (0 : Int))))
def aDa : PlR := ⟨[(0, .A [0]), (1, .A [0, 5]), (2, .A [0, 5, 6, 7]), (3, .A [0, 5, 6, 7, 24]), (4, .A [2, 3, 4]), (5, .A [0, 5, 6, 7, 34]), (6, .A [0, 5, 6, 8]), (7, .A [0, 5, 6, 8, 40]), (8, .A [2, 3, 4]), (9, .A [0, 5, 6, 7]), (10, .A [0, 5, 6, 7, 66]), (11, .A [0, 5, 6, 7]), (12, .A [0, 5, 6, 7, 9]), (13, .A [0, 5, 6, 7, 9, 91]), (14, .A [0, 5, 6, 7, 9]), (15, .A [0, 5, 6, 7, 9, 10]), (16, .A [0, 5, 6, 7, 9, 10, 102]), (17, .A [2, 3, 4]), (18, .A [0, 5, 6, 7, 9, 10, 11]), (19, .A [0, 5, 6, 7, 9, 10, 11, 114]), (20, .A [2, 3, 4]), (21, .A [0, 5, 6, 7, 10, 11, 115]), (22, .A [0, 5, 6, 7, 10, 11]), (23, .A [0, 5, 6, 7]), (24, .A [2, 3, 4])], [(8, 13), (13, 27), (16, 18), (24, 26)]⟩
def aD5 : Ty := .pair .str .unit
noncomputable def iY (F : Md) : aH := mSpec aD5 (.tup (.pair .str (.pair (.i .i64) (.pair .bool .unit)))) (fun x => nW F x.1)
noncomputable def aAF (F : Md) : List (FuncId × aH) := [(229, (vL F)), (230, (rF F))]
theorem aKM (F : Md) : bD Tryz.prog GL (aAF F) := .cons (aKL F) (by kernel_rfl) (.cons (aIk F) (by kernel_rfl) (.nil))
theorem aFP (F : Md) : gam (aAF F) 229 = some (vL F) := rfl
theorem aFQ (F : Md) : gam (aAF F) 230 = some (rF F) := rfl
attribute [go_sem] aD5 aDa aFP aFQ
set_option maxHeartbeats 4000000 in
theorem zE (F : Md) : FOK Tryz.prog GL 178 (iY F) := by
 refine bG (aY (aKM F)) mix Tryz.func178 rfl (by kernel_rfl) (by decide) aDa fun w0 S x Θ hw h hF => ?_
 obtain ⟨(s_0 : (List Nat)), u⟩ := x
 simp only [bK, go_sem]
 replace h : sat (nW F s_0) _ := h
 unfold nW at h
 obtain ⟨v_5, hv, h⟩ := aJ h
 try simp only [hv, go_sem]
 obtain ⟨g0, h⟩ := aK h
 repeat (refine ⟨by omega, ?_⟩)
 refine ⟨fun hc => ?_, fun hc => ?_⟩
 ·replace h := iW hc h
  exact aG hF [.tmp 2, .tmp 3, .tmp 4] rfl rfl rfl (aB h) (by simp only [aS, go_sem])
 ·replace h := iX hc h
  refine eB hF (D := Int × (List Nat) × Int) (fun d => sat (mS F s_0 d.1 d.2.1 d.2.2) Θ) [0] (fun d => [(5, .val (.i .i64) d.1), (6, .val .str d.2.1), (7, .val (.i .i64) d.2.2)]) (fun d => []) ?_ ?_
  ·simp only [go_sem]
   obtain ⟨g0, h⟩ := aK h
   repeat (refine ⟨by omega, ?_⟩)
   refine ⟨fun hc => ?_, fun hc => ?_⟩
   ·replace h := iW hc h
    obtain ⟨g0, h⟩ := aK h
    repeat (refine ⟨by omega, ?_⟩)
    obtain ⟨v_32, hv, h⟩ := aJ h
    try simp only [hv, go_sem]
    refine dT h (fun hc h => ?_) fun hc h => ?_
    ·exact aG hF [.tmp 2, .tmp 3, .tmp 4] rfl rfl rfl (aB h) (by simp only [aS, go_sem])
    ·obtain ⟨g0, h⟩ := aK h
     obtain ⟨g1, h⟩ := aK h
     obtain ⟨g2, h⟩ := aK h
     obtain ⟨g3, h⟩ := aK h
     obtain ⟨g4, h⟩ := aK h
     obtain ⟨g5, h⟩ := aK h
     obtain ⟨g6, h⟩ := aK h
     obtain ⟨g7, h⟩ := aK h
     repeat (refine ⟨by omega, ?_⟩)
     exact aQ (((v_5 + (1 : Int)) + v_32), ((List.take (v_5.toNat) s_0) ++ (List.drop (v_5 + (1 : Int)).toNat (List.take ((v_5 + (1 : Int)) + v_32).toNat s_0))), (0 - v_32)) h rfl (by simp only [go_sem])
   ·replace h := iX hc h
    exact aQ (v_5, (List.take (v_5.toNat) s_0), (0 : Int)) h rfl (by simp only [go_sem])
  ·rintro ⟨at_8, all_9, pow_10⟩ h
   simp only [go_sem]
   replace h : sat (mS F s_0 at_8 all_9 pow_10) _ := h
   unfold mS at h
   refine eB hF (D := Int × Int) (fun d => sat (mP F all_9 s_0 d.1 d.2) Θ) [0, 6] (fun d => [(5, .val (.i .i64) d.1), (7, .val (.i .i64) d.2)]) (fun d => []) ?_ ?_
   ·simp only [go_sem]
    obtain ⟨g0, h⟩ := aK h
    repeat (refine ⟨by omega, ?_⟩)
    refine ⟨fun hc => ?_, fun hc => ?_⟩
    ·replace h := iW hc h
     obtain ⟨g0, h⟩ := aK h
     repeat (refine ⟨by omega, ?_⟩)
     obtain ⟨g0, h⟩ := aK h
     repeat (refine ⟨by omega, ?_⟩)
     refine eB hF (D := Int) (fun d => sat (mR F s_0 at_8 pow_10 all_9 d) Θ) [0, 6, 7, 9] (fun d => [(5, .val (.i .i64) d)]) (fun d => []) ?_ ?_
     ·simp only [go_sem]
      obtain ⟨g0, h⟩ := aK h
      repeat (refine ⟨by omega, ?_⟩)
      refine ⟨fun hc => ?_, fun hc => ?_⟩
      ·replace h := iW hc h
       obtain ⟨g0, h⟩ := aK h
       repeat (refine ⟨by omega, ?_⟩)
       exact aQ ((at_8 + (1 : Int)) + (1 : Int)) h rfl (by simp only [go_sem])
      ·replace h := iX hc h
       exact aQ (at_8 + (1 : Int)) h rfl (by simp only [go_sem])
     ·rintro at_19 h
      simp only [go_sem]
      replace h : sat (mR F s_0 at_8 pow_10 all_9 at_19) _ := h
      unfold mR at h
      obtain ⟨v_23, hv, h⟩ := aJ h
      try simp only [hv, go_sem]
      refine ⟨fun hc => ?_, fun hc => ?_⟩
      ·replace h := iW hc h
       exact aG hF [.tmp 2, .tmp 3, .tmp 4] rfl rfl rfl (aB h) (by simp only [aS, go_sem])
      ·replace h := iX hc h
       obtain ⟨g0, h⟩ := aK h
       obtain ⟨g1, h⟩ := aK h
       repeat (refine ⟨by omega, ?_⟩)
       obtain ⟨v_27, hv, h⟩ := aJ h
       try simp only [hv, go_sem]
       refine eG h (fun hc h => ?_) fun hc h => ?_
       ·exact aG hF [.tmp 2, .tmp 3, .tmp 4] rfl rfl rfl (aB h) (by simp only [aS, go_sem])
       ·refine eB hF (D := Int) (fun d => sat (mQ F pow_10 at_19 v_23 all_9 s_0 d) Θ) [0, 5, 6, 7, 10] (fun d => [(11, .val (.i .i64) d)]) (fun d => []) ?_ ?_
        ·simp only [go_sem]
         refine ⟨fun hc => ?_, fun hc => ?_⟩
         ·replace h := iW hc h
          obtain ⟨g0, h⟩ := aK h
          repeat (refine ⟨by omega, ?_⟩)
          exact aQ (0 - v_27.1) h rfl (by simp only [go_sem])
         ·replace h := iX hc h
          exact aQ v_27.1 h rfl (by simp only [go_sem])
        ·rintro x_28 h
         simp only [go_sem]
         replace h : sat (mQ F pow_10 at_19 v_23 all_9 s_0 x_28) _ := h
         unfold mQ at h
         obtain ⟨g0, h⟩ := aK h
         obtain ⟨g1, h⟩ := aK h
         repeat (refine ⟨by omega, ?_⟩)
         exact aQ ((at_19 + v_23), (pow_10 + x_28)) h rfl (by simp only [go_sem])
    ·replace h := iX hc h
     exact aQ (at_8, pow_10) h rfl (by simp only [go_sem])
   ·rintro ⟨at_17, pow_18⟩ h
    simp only [go_sem]
    replace h : sat (mP F all_9 s_0 at_17 pow_18) _ := h
    unfold mP at h
    exact aG hF [.tmp 2, .tmp 3, .tmp 4] rfl rfl rfl (aB h) (by simp only [aS, go_sem])
attribute [go_sem] iY
noncomputable def zF (F : Md) (n_1 : Int) (b_0 : Nat) (m_13 : (List Nat)) (x8_14 : Int) : Option (((List Nat) × Int) ⊕ (List Nat)) :=
 if x8_14 < n_1 then (gP F m_13 ([b_0] : List Nat)).bind (fun v_23 => ck (I64 (x8_14 + (1 : Int))) (some (.inl (v_23, (x8_14 + (1 : Int)))))) else some (.inr m_13)
noncomputable def oT (F : Md) (b_0 : Nat) (n_1 : Int) : Option (List Nat) :=
 (dF F (fun d : (List Nat) × Int => zF F n_1 b_0 d.1 d.2) (([1] : List Nat), (0 : Int))).bind (fun e => some e)
def aFR : PlR := ⟨[], []⟩
def aHP : Ty := .pair (.u .u64) (.pair (.i .i64) .unit)
noncomputable def pG (F : Md) : aH := mSpec aHP (.one (.sl (.u .u64))) (fun x => oT F x.1 x.2.1)
noncomputable def aHQ (F : Md) : List (FuncId × aH) := [(94, (eQ F))]
theorem aM7 (F : Md) : bD Tryz.prog GL (aHQ F) := .cons (pB F) (by kernel_rfl) (.nil)
theorem aJ8 (F : Md) : gam (aHQ F) 94 = some (eQ F) := rfl
attribute [go_sem] aHP aFR aJ8
set_option maxHeartbeats 4000000 in
theorem aFS (F : Md) : FOK Tryz.prog GL 96 (pG F) := by
 refine bG (aY (aM7 F)) mix Tryz.func96 rfl (by kernel_rfl) (by decide) aFR fun w0 S x Θ hw h hF => ?_
 obtain ⟨(b_0 : Nat), (n_1 : Int), u⟩ := x
 simp only [bK, go_sem]
 replace h : sat (oT F b_0 n_1) _ := h
 unfold oT at h
 refine rS hF [0, 1] ?_
 simp only [go_sem]
 refine rS hF [0, 1, 5] ?_
 simp only [go_sem]
 refine rS hF [0, 5, 7, 8] ?_
 simp only [go_sem]
 refine bQ hF (D := (List Nat) × Int) [0, 7] (fun d => [(5, .val (.sl (.u .u64)) d.1), (8, .val (.i .i64) d.2)]) (fun d => []) h rfl (by simp only [go_sem]) ?_
 rintro ⟨m_13, x8_14⟩ A3 T3 hA3 hE3 h
 simp only [go_sem]
 replace h : sat (zF F n_1 b_0 m_13 x8_14) _ := h
 unfold zF at h
 refine rS hF [0, 5, 7, 8, 9] ?_
 simp only [go_sem]
 refine eG h (fun hc h => ?_) fun hc h => ?_
 ·refine rS hF [0, 5, 7, 8] ?_
  simp only [go_sem]
  obtain ⟨v_23, hv, h⟩ := aJ h
  try simp only [hv, go_sem]
  refine rS hF [0, 5, 7, 8] ?_
  simp only [go_sem]
  refine aP h fun g0 h => ?_
  replace h := hA3 _ (aB h)
  exact aQ _ h rfl (by simp only [go_sem])
 ·replace h := hE3 _ (aB h)
  try dsimp only at h
  refine rS hF [4] ?_
  simp only [go_sem]
  exact aG hF [.tmp 4] rfl rfl rfl (aB h) (by simp only [aS, go_sem])
attribute [go_sem] pG
noncomputable def wO (F : Md) (s_0 : (List Nat)) (m_24 : (List Nat)) (x9_25 : Int) : Option (((List Nat) × Int) ⊕ (List Nat)) :=
 if x9_25 < (((s_0.length) : Nat) : Int) then ck (0 ≤ x9_25 ∧ x9_25 < (((s_0.length) : Nat) : Int)) ((gP F m_24 ([10] : List Nat)).bind (fun v_44 => (yW F ([(wA F .u8 (s_0.getD (x9_25.toNat) (0 : Nat)) (48 : Nat))] : List Nat)).bind (fun v_45 => (aBO F v_44 v_45).bind (fun v_46 => ck (I64 (x9_25 + (1 : Int))) (some (.inl (v_46, (x9_25 + (1 : Int))))))))) else some (.inr m_24)
noncomputable def tK (F : Md) (s_0 : (List Nat)) : Option (List Nat) :=
 (dF F (fun d : (List Nat) × Int => wO F s_0 d.1 d.2) (([] : List Nat), (0 : Int))).bind (fun e => some e)
def aD6 : PlR := ⟨[], []⟩
def aFT : Ty := .pair .str .unit
noncomputable def nX (F : Md) : aH := mSpec aFT (.one (.sl (.u .u64))) (fun x => tK F x.1)
noncomputable def xS (F : Md) : List (FuncId × aH) := [(231, (rY F)), (94, (eQ F)), (99, (aAc F))]
theorem aL8 (F : Md) : bD Tryz.prog GL (xS F) := .cons (aHx F) (by kernel_rfl) (.cons (pB F) (by kernel_rfl) (.cons (aM0 F) (by kernel_rfl) (.nil)))
theorem aGT (F : Md) : gam (xS F) 231 = some (rY F) := rfl
theorem aIl (F : Md) : gam (xS F) 94 = some (eQ F) := rfl
theorem aIm (F : Md) : gam (xS F) 99 = some (aAc F) := rfl
attribute [go_sem] aFT aD6 aGT aIl aIm
set_option maxHeartbeats 4000000 in
theorem aD7 (F : Md) : FOK Tryz.prog GL 179 (nX F) := by
 refine bG (aY (aL8 F)) mix Tryz.func179 rfl (by kernel_rfl) (by decide) aD6 fun w0 S x Θ hw h hF => ?_
 obtain ⟨(s_0 : (List Nat)), u⟩ := x
 simp only [bK, go_sem]
 replace h : sat (tK F s_0) _ := h
 unfold tK at h
 refine rS hF [0] ?_
 simp only [go_sem, cF F, cG F, cH F]
 refine rS hF [0, 3] ?_
 simp only [go_sem, cF F, cG F, cH F]
 refine rS hF [3, 7, 8, 9] ?_
 simp only [go_sem, cF F, cG F, cH F]
 refine bQ hF (D := (List Nat) × Int) [7, 8] (fun d => [(3, .val (.sl (.u .u64)) d.1), (9, .val (.i .i64) d.2)]) (fun d => []) h rfl (by simp only [go_sem, cF F, cG F, cH F]) ?_
 rintro ⟨m_24, x9_25⟩ A3 T3 hA3 hE3 h
 simp only [go_sem, cF F, cG F, cH F]
 replace h : sat (wO F s_0 m_24 x9_25) _ := h
 unfold wO at h
 refine rS hF [3, 7, 8, 9, 10] ?_
 simp only [go_sem, cF F, cG F, cH F]
 refine eG h (fun hc h => ?_) fun hc h => ?_
 ·refine rS hF [3, 5, 7, 8, 9] ?_
  simp only [go_sem, cF F, cG F, cH F]
  refine aP h fun g0 h => ?_
  refine rS hF [3, 7, 8, 9] ?_
  simp only [go_sem, cF F, cG F, cH F]
  obtain ⟨v_44, hv, h⟩ := aJ h
  try simp only [hv, go_sem, cF F, cG F, cH F]
  obtain ⟨v_45, hv, h⟩ := aJ h
  try simp only [hv, go_sem, cF F, cG F, cH F]
  obtain ⟨v_46, hv, h⟩ := aJ h
  try simp only [hv, go_sem, cF F, cG F, cH F]
  refine rS hF [3, 7, 8, 9] ?_
  simp only [go_sem, cF F, cG F, cH F]
  refine aP h fun g0 h => ?_
  replace h := hA3 _ (aB h)
  exact aQ _ h rfl (by simp only [go_sem, cF F, cG F, cH F])
 ·replace h := hE3 _ (aB h)
  try dsimp only at h
  refine rS hF [2] ?_
  simp only [go_sem, cF F, cG F, cH F]
  exact aG hF [.tmp 2] rfl rfl rfl (aB h) (by simp only [aS, go_sem, cF F, cG F, cH F])
attribute [go_sem] nX
noncomputable def zG (F : Md) (s_0 : (List Nat)) : Option Bool :=
 (nW F s_0).bind (fun v_5 => some v_5.2.2.1)
def aHR : PlR := ⟨[(0, .A [0]), (1, .A [5]), (2, .A [2])], []⟩
def aJ9 : Ty := .pair .str .unit
noncomputable def aAj (F : Md) : aH := mSpec aJ9 (.one .bool) (fun x => zG F x.1)
noncomputable def aKa (F : Md) : List (FuncId × aH) := [(178, (iY F))]
theorem aNW (F : Md) : bD Tryz.prog GL (aKa F) := .cons (zE F) (by kernel_rfl) (.nil)
theorem aKb (F : Md) : gam (aKa F) 178 = some (iY F) := rfl
attribute [go_sem] aJ9 aHR aKb
set_option maxHeartbeats 4000000 in
theorem aM8 (F : Md) : FOK Tryz.prog GL 128 (aAj F) := by
 refine bG (aY (aNW F)) mix Tryz.func128 rfl (by kernel_rfl) (by decide) aHR fun w0 S x Θ hw h hF => ?_
 obtain ⟨(s_0 : (List Nat)), u⟩ := x
 simp only [bK, go_sem]
 replace h : sat (zG F s_0) _ := h
 unfold zG at h
 obtain ⟨v_5, hv, h⟩ := aJ h
 try simp only [hv, go_sem]
 exact aG hF [.tmp 2] rfl rfl rfl (aB h) (by simp only [aS, go_sem])
attribute [go_sem] aAj
noncomputable def aAk (F : Md) (s_0 : (List Nat)) : Option ((List Nat) × ((List Nat) × (Bool × Unit))) :=
 (nW F s_0).bind (fun v_5 => if ¬ (v_5.2.2.1 = true) then some (([] : List Nat), ([] : List Nat), false, ()) else (tK F v_5.1).bind (fun v_18 => (oT F (10 : Nat) (max v_5.2.1 (0 : Int))).bind (fun v_19 => (gP F v_18 v_19).bind (fun v_20 => ck (I64 (0 - v_5.2.1)) ((oT F (10 : Nat) (max (0 - v_5.2.1) (0 : Int))).bind (fun v_21 => some (v_20, v_21, true, ())))))))
def aFU : PlR := ⟨[(0, .A [0]), (1, .A [5, 6, 7]), (2, .A [5, 6, 15]), (3, .A [2, 3, 4]), (4, .A [2, 3, 4])], []⟩
def aHS : Ty := .pair .str .unit
noncomputable def xT (F : Md) : aH := mSpec aHS (.tup (.pair (.sl (.u .u64)) (.pair (.sl (.u .u64)) (.pair .bool .unit)))) (fun x => aAk F x.1)
noncomputable def wD (F : Md) : List (FuncId × aH) := [(178, (iY F)), (179, (nX F)), (94, (eQ F)), (96, (pG F))]
theorem aM9 (F : Md) : bD Tryz.prog GL (wD F) := .cons (zE F) (by kernel_rfl) (.cons (aD7 F) (by kernel_rfl) (.cons (pB F) (by kernel_rfl) (.cons (aFS F) (by kernel_rfl) (.nil))))
theorem aIn (F : Md) : gam (wD F) 178 = some (iY F) := rfl
theorem aIo (F : Md) : gam (wD F) 179 = some (nX F) := rfl
theorem aKc (F : Md) : gam (wD F) 94 = some (eQ F) := rfl
theorem aKd (F : Md) : gam (wD F) 96 = some (pG F) := rfl
attribute [go_sem] aHS aFU aIn aIo aKc aKd
set_option maxHeartbeats 4000000 in
theorem aL9 (F : Md) : FOK Tryz.prog GL 116 (xT F) := by
 refine bG (aY (aM9 F)) mix Tryz.func116 rfl (by kernel_rfl) (by decide) aFU fun w0 S x Θ hw h hF => ?_
 obtain ⟨(s_0 : (List Nat)), u⟩ := x
 simp only [bK, go_sem]
 replace h : sat (aAk F s_0) _ := h
 unfold aAk at h
 obtain ⟨v_5, hv, h⟩ := aJ h
 try simp only [hv, go_sem]
 refine aAw h (fun hc h => ?_) fun hc h => ?_
 ·exact aG hF [.tmp 2, .tmp 3, .tmp 4] rfl rfl rfl (aB h) (by simp only [aS, go_sem])
 ·obtain ⟨v_18, hv, h⟩ := aJ h
  try simp only [hv, go_sem]
  obtain ⟨v_19, hv, h⟩ := aJ h
  try simp only [hv, go_sem]
  obtain ⟨v_20, hv, h⟩ := aJ h
  try simp only [hv, go_sem]
  refine aP h fun g0 h => ?_
  obtain ⟨v_21, hv, h⟩ := aJ h
  try simp only [hv, go_sem]
  exact aG hF [.tmp 2, .tmp 3, .tmp 4] rfl rfl rfl (aB h) (by simp only [aS, go_sem])
attribute [go_sem] xT
noncomputable def aAl (F : Md) (s_0 : (List Nat)) : Option ((Bool × ((List Nat) × (Int × Unit))) × (Int × Unit)) :=
 (nW F s_0).bind (fun v_5 => if ¬ (v_5.2.2.1 = true) then some ((false, ([] : List Nat), (0 : Int), ()), (6 : Int), ()) else (tK F v_5.1).bind (fun v_21 => (oT F (5 : Nat) (max v_5.2.1 (0 : Int))).bind (fun v_22 => (gP F v_21 v_22).bind (fun v_23 => ck (I64 (0 - v_5.2.1)) ((oT F (5 : Nat) (max (0 - v_5.2.1) (0 : Int))).bind (fun v_24 => (xK F v_23 v_24).bind (fun v_25 => (zC F false v_25.1 v_5.2.1).bind (fun v_27 => if ((0 : Int) < (((v_25.2.1.length) : Nat) : Int)) ∨ (¬ (v_27.2.1 = (0 : Int))) then some ((false, ([] : List Nat), (0 : Int), ()), (6 : Int), ()) else some (v_27.1, (0 : Int), ())))))))))
def aFV : PlR := ⟨[(0, .B [0, 2]), (1, .A [2, 4, 5, 6]), (2, .A [2, 4, 5, 18]), (3, .B [2, 3]), (4, .A [2, 5, 7, 8]), (5, .B [2, 8, 9, 10]), (6, .A [2, 9, 46]), (7, .B [2, 3]), (8, .B [2, 3])], []⟩
def aHT : Ty := .pair .str .unit
noncomputable def xU (F : Md) : aH := mSpec aHT (.tup (.pair (.pair .bool (.pair (.sl (.u .u64)) (.pair (.i .i64) .unit))) (.pair (.i .i64) .unit))) (fun x => aAl F x.1)
noncomputable def oU (F : Md) : List (FuncId × aH) := [(117, (sC F)), (166, (vI F)), (178, (iY F)), (179, (nX F)), (94, (eQ F)), (96, (pG F))]
theorem aNa (F : Md) : bD Tryz.prog GL (oU F) := .cons (aHH F) (by kernel_rfl) (.cons (aKC F) (by kernel_rfl) (.cons (zE F) (by kernel_rfl) (.cons (aD7 F) (by kernel_rfl) (.cons (pB F) (by kernel_rfl) (.cons (aFS F) (by kernel_rfl) (.nil))))))
theorem aIp (F : Md) : gam (oU F) 117 = some (sC F) := rfl
theorem aIq (F : Md) : gam (oU F) 166 = some (vI F) := rfl
theorem aIr (F : Md) : gam (oU F) 178 = some (iY F) := rfl
theorem aIs (F : Md) : gam (oU F) 179 = some (nX F) := rfl
theorem aKe (F : Md) : gam (oU F) 94 = some (eQ F) := rfl
theorem aKf (F : Md) : gam (oU F) 96 = some (pG F) := rfl
attribute [go_sem] aHT aFV aIp aIq aIr aIs aKe aKf
set_option maxHeartbeats 4000000 in
theorem aMa (F : Md) : FOK Tryz.prog GL 133 (xU F) := by
 refine bG (aY (aNa F)) mix Tryz.func133 rfl (by kernel_rfl) (by decide) aFV fun w0 S x Θ hw h hF => ?_
 obtain ⟨(s_0 : (List Nat)), u⟩ := x
 simp only [bK, go_sem]
 replace h : sat (aAl F s_0) _ := h
 unfold aAl at h
 obtain ⟨v_5, hv, h⟩ := aJ h
 try simp only [hv, go_sem]
 refine aAw h (fun hc h => ?_) fun hc h => ?_
 ·exact aG hF [.cell 2 25, .tmp 3] rfl rfl rfl (aB h) (by simp only [aS, go_sem])
 ·obtain ⟨v_21, hv, h⟩ := aJ h
  try simp only [hv, go_sem]
  obtain ⟨v_22, hv, h⟩ := aJ h
  try simp only [hv, go_sem]
  obtain ⟨v_23, hv, h⟩ := aJ h
  try simp only [hv, go_sem]
  refine aP h fun g0 h => ?_
  obtain ⟨v_24, hv, h⟩ := aJ h
  try simp only [hv, go_sem]
  obtain ⟨v_25, hv, h⟩ := aJ h
  try simp only [hv, go_sem]
  obtain ⟨v_27, hv, h⟩ := aJ h
  try simp only [hv, go_sem]
  refine ⟨fun hc => ?_, fun hc => ?_⟩
  ·replace h := iW hc h
   exact aG hF [.cell 2 25, .tmp 3] rfl rfl rfl (aB h) (by simp only [aS, go_sem])
  ·replace h := iX hc h
   exact aG hF [.cell 2 25, .tmp 3] rfl rfl rfl (aB h) (by simp only [aS, go_sem])
attribute [go_sem] xU
noncomputable def iQ (F : Md) (a_0 : (Bool × ((List Nat) × (Int × Unit)))) (b_1 : (Bool × ((List Nat) × (Int × Unit)))) (n_2 : Int) : Option Bool :=
 (aDF F n_2 (0 : Int)).bind (fun v_5 => (aBW F b_1 v_5.1).bind (fun v_7 => ck ((v_7.2.1 = (0 : Int)) → ((uW F a_0 v_7.1).isSome = true)) (some ((decide (v_7.2.1 = (0 : Int))) && (decide (((uW F a_0 v_7.1).getD (0 : Int)) ≤ (0 : Int)))))))
def aD8 : PlR := ⟨[(0, .B [2, 3, 4]), (1, .B [3, 4, 7]), (2, .B [3, 9, 10]), (3, .A [6])], []⟩
def aFW : Ty := .pair (.pair .bool (.pair (.sl (.u .u64)) (.pair (.i .i64) .unit))) (.pair (.pair .bool (.pair (.sl (.u .u64)) (.pair (.i .i64) .unit))) (.pair (.i .i64) .unit))
noncomputable def vM (F : Md) : aH := mSpec aFW (.one .bool) (fun x => iQ F x.1 x.2.1 x.2.2.1)
noncomputable def xV (F : Md) : List (FuncId × aH) := [(200, (aBT F)), (201, (aAh F)), (22, (sD F))]
theorem aMb (F : Md) : bD Tryz.prog GL (xV F) := .cons (aNU F) (by kernel_rfl) (.cons (aM6 F) (by kernel_rfl) (.cons (aHN F) (by kernel_rfl) (.nil)))
theorem aGU (F : Md) : gam (xV F) 200 = some (aBT F) := rfl
theorem aGV (F : Md) : gam (xV F) 201 = some (aAh F) := rfl
theorem aIt (F : Md) : gam (xV F) 22 = some (sD F) := rfl
attribute [go_sem] aFW aD8 aGU aGV aIt
set_option maxHeartbeats 4000000 in
theorem aKN (F : Md) : FOK Tryz.prog GL 134 (vM F) := by
 refine bG (aY (aMb F)) mix Tryz.func134 rfl (by kernel_rfl) (by decide) aD8 fun w0 S x Θ hw h hF => ?_
 obtain ⟨(a_0 : (Bool × ((List Nat) × (Int × Unit)))), (b_1 : (Bool × ((List Nat) × (Int × Unit)))), (n_2 : Int), u⟩ := x
 simp only [bK, go_sem]
 replace h : sat (iQ F a_0 b_1 n_2) _ := h
 unfold iQ at h
 obtain ⟨v_5, hv, h⟩ := aJ h
 try simp only [hv, go_sem]
 obtain ⟨v_7, hv, h⟩ := aJ h
 try simp only [hv, go_sem]
 refine aP h fun g0 h => ?_
 exact aG hF [.tmp 6] rfl rfl rfl (aB h) (by simp only [aS, go_sem])
attribute [go_sem] vM
end Nu
end Go.Proofs
