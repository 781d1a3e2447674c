import Derived.Test.YtkihplehmkbfaaaGreatDoorZL6
import Derived.Test.YtkihplehmkbfaaaGreatDoorProg
import Derived.KernelRfl
import Derived.Laws.Externs
set_option linter.unusedVariables false
set_option linter.unusedSimpArgs false
namespace Go.Proofs
open Go.Vc
set_option maxRecDepth 20000
namespace Nu
theorem zAA {p : Prop} (h : p := by first | with_reducible assumption | omega | (intros; first | with_reducible assumption | omega) | (simp only [go_sem] at *; first | with_reducible assumption | omega) | (intro _; exact ⟨rfl, by decide⟩) | (intro _; refine (?_ : _ = aX _); rfl) | exact ⟨rfl, rfl⟩ | decide) : p := h
theorem zAB {p : Prop} (h : p := by first | exact hc | omega | (simpa using hc) | (simp at hc ⊢; omega)) : p := h
theorem zAC {p : Prop} (h : p := by first | exact q0 | omega | (simpa using q0)) : p := h
theorem zAD {p : Prop} (h : p := by first | with_reducible assumption | omega | (intros; first | with_reducible assumption | omega) | (simp only [go_sem] at *; first | with_reducible assumption | omega) | (intro _; exact ⟨rfl, by decide⟩) | (intro _; refine (?_ : _ = aX _); rfl) | exact ⟨rfl, rfl⟩ | (intro q0; (try have e0 := g0 zAC); first | assumption | omega) | decide) : p := h
theorem zAE {p : Prop} (h : p := by first | with_reducible assumption | omega | (intros; first | with_reducible assumption | omega) | (simp only [go_sem] at *; first | with_reducible assumption | omega) | (intro _; exact ⟨rfl, by decide⟩) | (intro _; refine (?_ : _ = aX _); rfl) | exact ⟨rfl, rfl⟩ | (intro q0; (try have e0 := g0 zAC); (try have e1 := g1 zAC); first | assumption | omega) | decide) : p := h
theorem zAF {p : Prop} (h : p := by (try simp only [kR, hN, true_or, and_self, go_sem]) <;> (repeat' apply And.intro) <;> first | rfl | (left; rfl) | (right; rfl) | (left; simp only [go_sem]; done) | (right; simp only [go_sem]; done) | (simp; done) | (simp only [*]; done) | omega) : p := h
theorem zAG {p : Prop} (h : p := by (try simp only [hO, aR, go_sem]) <;> first | rfl | (simp; done)) : p := h
def aQU : List Nat := [0, 1, 56, 2, 57, 49, 28, 3, 61, 58, 42, 50, 38, 29, 17, 4, 62, 47, 59, 36, 45, 43, 51, 22, 53, 39, 33, 30, 24, 18, 12, 5, 63, 55, 48, 27, 60, 41, 37, 16, 46, 35, 44, 21, 52, 32, 23, 11, 54, 26, 40, 15, 34, 20, 31, 10, 25, 14, 19, 9, 13, 8, 7, 6]
theorem aRO : aQU = [0, 1, 56, 2, 57, 49, 28, 3, 61, 58, 42, 50, 38, 29, 17, 4, 62, 47, 59, 36, 45, 43, 51, 22, 53, 39, 33, 30, 24, 18, 12, 5, 63, 55, 48, 27, 60, 41, 37, 16, 46, 35, 44, 21, 52, 32, 23, 11, 54, 26, 40, 15, 34, 20, 31, 10, 25, 14, 19, 9, 13, 8, 7, 6] := rfl
def p10 : List Nat := [1, 10, 100, 1000, 10000, 100000, 1000000, 10000000, 100000000, 1000000000, 10000000000, 100000000000, 1000000000000, 10000000000000, 100000000000000, 1000000000000000, 10000000000000000, 100000000000000000, 1000000000000000000, 10000000000000000000]
theorem aSo : p10 = [1, 10, 100, 1000, 10000, 100000, 1000000, 10000000, 100000000, 1000000000, 10000000000, 100000000000, 1000000000000, 10000000000000, 100000000000000, 1000000000000000, 10000000000000000, 100000000000000000, 1000000000000000000, 10000000000000000000] := rfl
noncomputable def GL : Nat → AV
 | 0 => .roa (.arr 64 (.u .u8)) aQU
 | 1 => .roa (.arr 20 (.u .u64)) p10
 | _ => .junk
theorem GL0 : GL 0 = .roa (.arr 64 (.u .u8)) aQU := rfl
theorem GL3 : GL 1 = .roa (.arr 20 (.u .u64)) p10 := rfl
attribute [go_sem] GL0 GL3 mSpec
def tab : List (TypeId × Ty) := [(258, .clo 239 .unit), (2, .i .i64), (3, .i .i64), (4, .bool), (5, .u .u8), (9, .str), (21, .i .i32), (22, .sl (.pair (.i .i64) (.pair (.i .i64) (.pair (.i .i64) (.pair (.pair .bool (.pair (.sl (.u .u64)) (.pair (.i .i64) .unit))) (.pair (.pair .bool (.pair (.sl (.u .u64)) (.pair (.i .i64) .unit))) (.pair (.sl (.sl (.pair (.pair .bool (.pair (.sl (.u .u64)) (.pair (.i .i64) .unit))) (.pair (.pair .bool (.pair (.sl (.u .u64)) (.pair (.i .i64) .unit))) .unit)))) (.pair (.sl (.sl (.pair (.sl (.pair .bool (.pair (.sl (.u .u64)) (.pair (.i .i64) .unit)))) (.pair (.sl (.pair (.pair .bool (.pair (.sl (.u .u64)) (.pair (.i .i64) .unit))) (.pair (.pair .bool (.pair (.sl (.u .u64)) (.pair (.i .i64) .unit))) .unit))) .unit)))) .unit)))))))), (23, .sl (.u .u64)), (25, .pair .bool (.pair (.sl (.u .u64)) (.pair (.i .i64) .unit))), (27, .pair (.pair .bool (.pair (.sl (.u .u64)) (.pair (.i .i64) .unit))) (.pair (.pair .bool (.pair (.sl (.u .u64)) (.pair (.i .i64) .unit))) .unit)), (30, .sl (.sl (.pair (.pair .bool (.pair (.sl (.u .u64)) (.pair (.i .i64) .unit))) (.pair (.pair .bool (.pair (.sl (.u .u64)) (.pair (.i .i64) .unit))) .unit)))), (31, .sl (.sl (.pair (.sl (.pair .bool (.pair (.sl (.u .u64)) (.pair (.i .i64) .unit)))) (.pair (.sl (.pair (.pair .bool (.pair (.sl (.u .u64)) (.pair (.i .i64) .unit))) (.pair (.pair .bool (.pair (.sl (.u .u64)) (.pair (.i .i64) .unit))) .unit))) .unit)))), (33, .pair (.i .i64) (.pair (.i .i64) (.pair (.i .i64) (.pair (.pair .bool (.pair (.sl (.u .u64)) (.pair (.i .i64) .unit))) (.pair (.pair .bool (.pair (.sl (.u .u64)) (.pair (.i .i64) .unit))) (.pair (.sl (.sl (.pair (.pair .bool (.pair (.sl (.u .u64)) (.pair (.i .i64) .unit))) (.pair (.pair .bool (.pair (.sl (.u .u64)) (.pair (.i .i64) .unit))) .unit)))) (.pair (.sl (.sl (.pair (.sl (.pair .bool (.pair (.sl (.u .u64)) (.pair (.i .i64) .unit)))) (.pair (.sl (.pair (.pair .bool (.pair (.sl (.u .u64)) (.pair (.i .i64) .unit))) (.pair (.pair .bool (.pair (.sl (.u .u64)) (.pair (.i .i64) .unit))) .unit))) .unit)))) .unit))))))), (39, .u .u64), (45, .sl .expr), (47, .expr), (48, .sl .str), (51, .sl (.pair .str (.pair (.sl (.pair .str (.pair (.pair .str (.pair .str .unit)) (.pair .expr .unit)))) (.pair (.sl (.pair .str (.pair (.pair .str (.pair .str .unit)) .unit))) (.pair (.sl .str) (.pair (.sl (.pair .str (.pair .expr .unit))) .unit)))))), (52, .sl (.pair .str (.pair .str (.pair .str (.pair .str .unit))))), (54, .pair (.i .i64) (.pair (.i .i64) (.pair (.i .i64) (.pair (.i .i64) (.pair .str (.pair .str (.pair .str (.pair .str (.pair (.sl (.pair .str (.pair (.sl (.pair .str (.pair (.pair .str (.pair .str .unit)) (.pair .expr .unit)))) (.pair (.sl (.pair .str (.pair (.pair .str (.pair .str .unit)) .unit))) (.pair (.sl .str) (.pair (.sl (.pair .str (.pair .expr .unit))) .unit)))))) (.pair (.sl (.pair .str (.pair .str (.pair .str (.pair .str .unit))))) .unit)))))))))), (56, .sl (.pair .str (.pair (.pair .str (.pair .str .unit)) (.pair .expr .unit)))), (57, .sl (.pair .str (.pair (.pair .str (.pair .str .unit)) .unit))), (58, .sl (.pair .str (.pair .expr .unit))), (60, .pair .str (.pair (.sl (.pair .str (.pair (.pair .str (.pair .str .unit)) (.pair .expr .unit)))) (.pair (.sl (.pair .str (.pair (.pair .str (.pair .str .unit)) .unit))) (.pair (.sl .str) (.pair (.sl (.pair .str (.pair .expr .unit))) .unit))))), (62, .pair .str (.pair .str .unit)), (64, .pair .str (.pair (.pair .str (.pair .str .unit)) (.pair .expr .unit))), (68, .pair .str (.pair .str (.pair .str (.pair .str .unit)))), (71, .pair .str (.pair (.pair .str (.pair .str .unit)) .unit)), (73, .pair .str (.pair .expr .unit)), (81, .sl (.i .i64)), (83, .u .u64), (85, .sl (.pair (.pair .bool (.pair (.sl (.u .u64)) (.pair (.i .i64) .unit))) (.pair (.pair .bool (.pair (.sl (.u .u64)) (.pair (.i .i64) .unit))) .unit))), (86, .sl (.pair (.sl (.pair .bool (.pair (.sl (.u .u64)) (.pair (.i .i64) .unit)))) (.pair (.sl (.pair (.pair .bool (.pair (.sl (.u .u64)) (.pair (.i .i64) .unit))) (.pair (.pair .bool (.pair (.sl (.u .u64)) (.pair (.i .i64) .unit))) .unit))) .unit))), (88, .sl (.pair .bool (.pair (.sl (.u .u64)) (.pair (.i .i64) .unit)))), (90, .pair (.sl (.pair .bool (.pair (.sl (.u .u64)) (.pair (.i .i64) .unit)))) (.pair (.sl (.pair (.pair .bool (.pair (.sl (.u .u64)) (.pair (.i .i64) .unit))) (.pair (.pair .bool (.pair (.sl (.u .u64)) (.pair (.i .i64) .unit))) .unit))) .unit)), (91, .nilf), (98, .nilp), (99, .sl (.u .u8)), (101, .pair .nilp (.pair (.sl (.u .u8)) .unit)), (103, .nili), (140, .sl (.u .u32)), (146, .u .u32), (174, .arr 256 (.bool)), (202, .pair .bool (.pair (.sl (.u .u32)) (.pair (.i .i64) .unit))), (221, .nilf), (226, .sl (.sl .str)), (238, .arr 24 (.u .u8)), (242, .arr 64 (.u .u8)), (251, .pair (.i .i64) .unit), (254, .pair (.i .i64) .unit), (264, .arr 20 (.u .u64)), (265, .arr 65 (.u .u8)), (268, .arr 256 (.u .u8)), (270, .pair (.u .u8) (.pair (.u .u8) .unit)), (271, .arr 16 (.pair (.u .u8) (.pair (.u .u8) .unit))), (278, .i .i64), (284, .arr 32 (.u .u8)), (294, .pair .str .unit)]
def elT : TypeId → TypeId
 | 22 => 33
 | 23 => 83
 | 30 => 85
 | 31 => 86
 | 45 => 47
 | 48 => 9
 | 51 => 60
 | 52 => 68
 | 56 => 64
 | 57 => 71
 | 58 => 73
 | 81 => 3
 | 85 => 27
 | 86 => 90
 | 88 => 25
 | 99 => 5
 | 140 => 146
 | 226 => 48
 | _ => 0
def mpT : TypeId → Option (TypeId × TypeId)
 | 96 => some (3, 9)
 | 171 => some (9, 4)
 | _ => none
theorem aMT : gI Tryz.prog (aDI tab) := aPz (by kernel_rfl)
theorem aSx : ∀ t ct, aDI tab t = some (.sl ct) → Tryz.prog.underlying t = some (.slice (elT t)) := aRp (by kernel_rfl)
theorem aSy : ∀ t k e, mpT t = some (k, e) → Tryz.prog.underlying t = some (.map k e) := by
 intro t k e h
 unfold mpT at h
 split at h
 ·cases h; rfl
 ·cases h; rfl
 ·cases h
def TM : Tab := aDI tab
noncomputable def EM (l : List (FuncId × aG)) : Env := ⟨TM, GL, fun f _ => gam l f, elT, mpT, fun _ => none, fun _ => false⟩
def dmT : TypeId → Option Mk
 | 48 => some .no
 | 51 => some (.pair .no (.pair (.sl 64 .no) (.pair (.sl 71 .no) (.pair (.sl 9 .no) (.pair (.sl 73 .no) .no)))))
 | 52 => some .no
 | 56 => some .no
 | 57 => some .no
 | 58 => some .no
 | _ => none
def dzT : TypeId → Bool
 | 54 => true
 | 60 => true
 | _ => false
noncomputable def EX (l : List (FuncId × aG)) : Env := ⟨TM, GL, fun f _ => gam l f, elT, mpT, dmT, dzT⟩
theorem aSN (l : List (FuncId × aG)) (t : TypeId) : (EM l).T t = TM t := rfl
theorem aSO (l : List (FuncId × aG)) (t : Nat) : (EM l).G t = GL t := rfl
theorem aSP (l : List (FuncId × aG)) (f : FuncId) (vs : List AV) : (EM l).Γ f vs = gam l f := rfl
theorem aSz (l : List (FuncId × aG)) (t : TypeId) : (EM l).el t = elT t := rfl
theorem aSA (l : List (FuncId × aG)) (t : TypeId) : (EM l).mp t = mpT t := rfl
theorem aY {l : List (FuncId × aG)} (h : bD Tryz.prog GL l) : eM Tryz.prog (EM l) := aMD aMT aSx aSy h
theorem mix : Tryz.prog.follows .mixedOrders = true := by kernel_rfl
theorem aSB (l : List (FuncId × aG)) (t : TypeId) : (EM l).dm t = none := rfl
theorem aSC (l : List (FuncId × aG)) (t : TypeId) : (EM l).dz t = false := rfl
theorem aSQ (l : List (FuncId × aG)) (t : TypeId) : (EX l).T t = TM t := rfl
theorem aSR (l : List (FuncId × aG)) (t : Nat) : (EX l).G t = GL t := rfl
theorem aSS (l : List (FuncId × aG)) (f : FuncId) (vs : List AV) : (EX l).Γ f vs = gam l f := rfl
theorem aSD (l : List (FuncId × aG)) (t : TypeId) : (EX l).el t = elT t := rfl
theorem aSE (l : List (FuncId × aG)) (t : TypeId) : (EX l).mp t = mpT t := rfl
theorem aSF (l : List (FuncId × aG)) (t : TypeId) : (EX l).dm t = dmT t := rfl
theorem aSG (l : List (FuncId × aG)) (t : TypeId) : (EX l).dz t = dzT t := rfl
theorem aLl {l : List (FuncId × aG)} (h : bD Tryz.prog GL l) : eM Tryz.prog (EX l) := aMD aMT aSx aSy h
attribute [go_sem] aSB aSC aSQ aSR aSS aSD aSE aSF aSG dmT dzT
theorem T2 : TM 2 = some (.i .i64) := rfl
theorem T3 : TM 3 = some (.i .i64) := rfl
theorem T4 : TM 4 = some (.bool) := rfl
theorem T5 : TM 5 = some (.u .u8) := rfl
theorem T9 : TM 9 = some (.str) := rfl
theorem T21 : TM 21 = some (.i .i32) := rfl
theorem T22 : TM 22 = some (.sl (.pair (.i .i64) (.pair (.i .i64) (.pair (.i .i64) (.pair (.pair .bool (.pair (.sl (.u .u64)) (.pair (.i .i64) .unit))) (.pair (.pair .bool (.pair (.sl (.u .u64)) (.pair (.i .i64) .unit))) (.pair (.sl (.sl (.pair (.pair .bool (.pair (.sl (.u .u64)) (.pair (.i .i64) .unit))) (.pair (.pair .bool (.pair (.sl (.u .u64)) (.pair (.i .i64) .unit))) .unit)))) (.pair (.sl (.sl (.pair (.sl (.pair .bool (.pair (.sl (.u .u64)) (.pair (.i .i64) .unit)))) (.pair (.sl (.pair (.pair .bool (.pair (.sl (.u .u64)) (.pair (.i .i64) .unit))) (.pair (.pair .bool (.pair (.sl (.u .u64)) (.pair (.i .i64) .unit))) .unit))) .unit)))) .unit)))))))) := rfl
theorem T23 : TM 23 = some (.sl (.u .u64)) := rfl
theorem T25 : TM 25 = some (.pair .bool (.pair (.sl (.u .u64)) (.pair (.i .i64) .unit))) := rfl
theorem T27 : TM 27 = some (.pair (.pair .bool (.pair (.sl (.u .u64)) (.pair (.i .i64) .unit))) (.pair (.pair .bool (.pair (.sl (.u .u64)) (.pair (.i .i64) .unit))) .unit)) := rfl
theorem T30 : TM 30 = some (.sl (.sl (.pair (.pair .bool (.pair (.sl (.u .u64)) (.pair (.i .i64) .unit))) (.pair (.pair .bool (.pair (.sl (.u .u64)) (.pair (.i .i64) .unit))) .unit)))) := rfl
theorem T31 : TM 31 = some (.sl (.sl (.pair (.sl (.pair .bool (.pair (.sl (.u .u64)) (.pair (.i .i64) .unit)))) (.pair (.sl (.pair (.pair .bool (.pair (.sl (.u .u64)) (.pair (.i .i64) .unit))) (.pair (.pair .bool (.pair (.sl (.u .u64)) (.pair (.i .i64) .unit))) .unit))) .unit)))) := rfl
theorem T33 : TM 33 = some (.pair (.i .i64) (.pair (.i .i64) (.pair (.i .i64) (.pair (.pair .bool (.pair (.sl (.u .u64)) (.pair (.i .i64) .unit))) (.pair (.pair .bool (.pair (.sl (.u .u64)) (.pair (.i .i64) .unit))) (.pair (.sl (.sl (.pair (.pair .bool (.pair (.sl (.u .u64)) (.pair (.i .i64) .unit))) (.pair (.pair .bool (.pair (.sl (.u .u64)) (.pair (.i .i64) .unit))) .unit)))) (.pair (.sl (.sl (.pair (.sl (.pair .bool (.pair (.sl (.u .u64)) (.pair (.i .i64) .unit)))) (.pair (.sl (.pair (.pair .bool (.pair (.sl (.u .u64)) (.pair (.i .i64) .unit))) (.pair (.pair .bool (.pair (.sl (.u .u64)) (.pair (.i .i64) .unit))) .unit))) .unit)))) .unit))))))) := rfl
theorem T39 : TM 39 = some (.u .u64) := rfl
theorem T45 : TM 45 = some (.sl .expr) := rfl
theorem T47 : TM 47 = some (.expr) := rfl
theorem T48 : TM 48 = some (.sl .str) := rfl
theorem T51 : TM 51 = some (.sl (.pair .str (.pair (.sl (.pair .str (.pair (.pair .str (.pair .str .unit)) (.pair .expr .unit)))) (.pair (.sl (.pair .str (.pair (.pair .str (.pair .str .unit)) .unit))) (.pair (.sl .str) (.pair (.sl (.pair .str (.pair .expr .unit))) .unit)))))) := rfl
theorem T52 : TM 52 = some (.sl (.pair .str (.pair .str (.pair .str (.pair .str .unit))))) := rfl
theorem T54 : TM 54 = some (.pair (.i .i64) (.pair (.i .i64) (.pair (.i .i64) (.pair (.i .i64) (.pair .str (.pair .str (.pair .str (.pair .str (.pair (.sl (.pair .str (.pair (.sl (.pair .str (.pair (.pair .str (.pair .str .unit)) (.pair .expr .unit)))) (.pair (.sl (.pair .str (.pair (.pair .str (.pair .str .unit)) .unit))) (.pair (.sl .str) (.pair (.sl (.pair .str (.pair .expr .unit))) .unit)))))) (.pair (.sl (.pair .str (.pair .str (.pair .str (.pair .str .unit))))) .unit)))))))))) := rfl
theorem T56 : TM 56 = some (.sl (.pair .str (.pair (.pair .str (.pair .str .unit)) (.pair .expr .unit)))) := rfl
theorem T57 : TM 57 = some (.sl (.pair .str (.pair (.pair .str (.pair .str .unit)) .unit))) := rfl
theorem T58 : TM 58 = some (.sl (.pair .str (.pair .expr .unit))) := rfl
theorem T60 : TM 60 = some (.pair .str (.pair (.sl (.pair .str (.pair (.pair .str (.pair .str .unit)) (.pair .expr .unit)))) (.pair (.sl (.pair .str (.pair (.pair .str (.pair .str .unit)) .unit))) (.pair (.sl .str) (.pair (.sl (.pair .str (.pair .expr .unit))) .unit))))) := rfl
theorem T62 : TM 62 = some (.pair .str (.pair .str .unit)) := rfl
theorem T64 : TM 64 = some (.pair .str (.pair (.pair .str (.pair .str .unit)) (.pair .expr .unit))) := rfl
theorem T68 : TM 68 = some (.pair .str (.pair .str (.pair .str (.pair .str .unit)))) := rfl
theorem T71 : TM 71 = some (.pair .str (.pair (.pair .str (.pair .str .unit)) .unit)) := rfl
theorem T73 : TM 73 = some (.pair .str (.pair .expr .unit)) := rfl
theorem T81 : TM 81 = some (.sl (.i .i64)) := rfl
theorem T83 : TM 83 = some (.u .u64) := rfl
theorem T85 : TM 85 = some (.sl (.pair (.pair .bool (.pair (.sl (.u .u64)) (.pair (.i .i64) .unit))) (.pair (.pair .bool (.pair (.sl (.u .u64)) (.pair (.i .i64) .unit))) .unit))) := rfl
theorem T86 : TM 86 = some (.sl (.pair (.sl (.pair .bool (.pair (.sl (.u .u64)) (.pair (.i .i64) .unit)))) (.pair (.sl (.pair (.pair .bool (.pair (.sl (.u .u64)) (.pair (.i .i64) .unit))) (.pair (.pair .bool (.pair (.sl (.u .u64)) (.pair (.i .i64) .unit))) .unit))) .unit))) := rfl
theorem T88 : TM 88 = some (.sl (.pair .bool (.pair (.sl (.u .u64)) (.pair (.i .i64) .unit)))) := rfl
theorem T90 : TM 90 = some (.pair (.sl (.pair .bool (.pair (.sl (.u .u64)) (.pair (.i .i64) .unit)))) (.pair (.sl (.pair (.pair .bool (.pair (.sl (.u .u64)) (.pair (.i .i64) .unit))) (.pair (.pair .bool (.pair (.sl (.u .u64)) (.pair (.i .i64) .unit))) .unit))) .unit)) := rfl
theorem T91 : TM 91 = some (.nilf) := rfl
theorem T98 : TM 98 = some (.nilp) := rfl
theorem T99 : TM 99 = some (.sl (.u .u8)) := rfl
theorem aST : TM 101 = some (.pair .nilp (.pair (.sl (.u .u8)) .unit)) := rfl
theorem aSU : TM 103 = some (.nili) := rfl
theorem aSV : TM 140 = some (.sl (.u .u32)) := rfl
theorem aSW : TM 146 = some (.u .u32) := rfl
theorem aSX : TM 174 = some (.arr 256 (.bool)) := rfl
theorem aSY : TM 202 = some (.pair .bool (.pair (.sl (.u .u32)) (.pair (.i .i64) .unit))) := rfl
theorem aSZ : TM 221 = some (.nilf) := rfl
theorem aS0 : TM 226 = some (.sl (.sl .str)) := rfl
theorem aS1 : TM 238 = some (.arr 24 (.u .u8)) := rfl
theorem aS2 : TM 242 = some (.arr 64 (.u .u8)) := rfl
theorem aS3 : TM 251 = some (.pair (.i .i64) .unit) := rfl
theorem aS4 : TM 254 = some (.pair (.i .i64) .unit) := rfl
theorem aS5 : TM 264 = some (.arr 20 (.u .u64)) := rfl
theorem aS6 : TM 265 = some (.arr 65 (.u .u8)) := rfl
theorem aS7 : TM 268 = some (.arr 256 (.u .u8)) := rfl
theorem aS8 : TM 270 = some (.pair (.u .u8) (.pair (.u .u8) .unit)) := rfl
theorem aS9 : TM 271 = some (.arr 16 (.pair (.u .u8) (.pair (.u .u8) .unit))) := rfl
theorem aTa : TM 278 = some (.i .i64) := rfl
theorem aTb : TM 284 = some (.arr 32 (.u .u8)) := rfl
theorem aTc : TM 294 = some (.pair .str .unit) := rfl
theorem aTd : TM 258 = some (.clo 239 .unit) := rfl
attribute [go_sem] aSN aSO aSP aSz aSA elT mpT aTd T2 T3 T4 T5 T9 T21 T22 T23 T25 T27 T30 T31 T33 T39 T45 T47 T48 T51 T52 T54 T56 T57 T58 T60 T62 T64 T68 T71 T73 T81 T83 T85 T86 T88 T90 T91 T98 T99 aST aSU aSV aSW aSX aSY aSZ aS0 aS1 aS2 aS3 aS4 aS5 aS6 aS7 aS8 aS9 aTa aTb aTc
end Nu
end Go.Proofs
namespace Go.Proofs
open Go.Vc
set_option maxRecDepth 20000
namespace Nu
def aBB (x y c : Nat) : Nat × Nat × Unit := ((x + y + c) % 18446744073709551616, (x + y + c) / 18446744073709551616, ())
abbrev aLQ (x y c : Nat) : Prop := c ≤ 1
def aFl : Ty := .pair (.u .u64) (.pair (.u .u64) (.pair (.u .u64) .unit))
noncomputable def nU : aG := ⟨aFl, .tup (.pair (.u .u64) (.pair (.u .u64) .unit)), fun x => aLQ x.1 x.2.1 x.2.2.1, fun x => aBB x.1 x.2.1 x.2.2.1⟩
attribute [go_sem] nU aFl
theorem aLR {w : World} {S : Nat → Prop} {x : Nat} {v : Value} (h : cM w S (.u .u64) x v) : v = .int .u64 (x : Int) := by
 unfold cM at h
 rw [if_neg (by simp [Ty.isAgg])] at h
 simp only [aN, List.cons.injEq, and_true] at h
 exact h.1
theorem aNH {w : World} {S : Nat → Prop} {vs : List Value} {x : Nat × Nat × Nat × Unit} (h : lX w S (.pair (.u .u64) (.pair (.u .u64) (.pair (.u .u64) .unit))) x vs) : vs = [.int .u64 (x.1 : Int), .int .u64 (x.2.1 : Int), .int .u64 (x.2.2.1 : Int)] := by
 obtain ⟨v1, r1, rfl, h1, v2, r2, rfl, h2, v3, r3, rfl, h3, h4⟩ := h
 rw [aLR h1, aLR h2, aLR h3]
 have h4 : r3 = [] := h4
 rw [h4]
theorem aQV {w : World} {S : Nat → Prop} {x : Nat} (h : x < 18446744073709551616) : cM w S (.u .u64) x (.int .u64 (x : Int)) := by
 unfold cM
 rw [if_neg (by simp [Ty.isAgg])]
 refine ⟨rfl, rfl, ?_⟩
 simp [IntKind.max, IntKind.signed, IntKind.bits]; omega
theorem aQW {w : World} {S : Nat → Prop} {x y : Nat} (hx : x < 18446744073709551616) (hy : y < 18446744073709551616) : lX w S (.pair (.u .u64) (.pair (.u .u64) .unit)) (x, y, ()) [.int .u64 (x : Int), .int .u64 (y : Int)] :=
 ⟨_, _, rfl, aQV hx, _, _, rfl, aQV hy, rfl⟩
theorem wf_u64 {x : Nat} (h : (Ty.u .u64).wf x) : x < 18446744073709551616 := by
 simp only [Ty.wf, IntKind.max, IntKind.signed, IntKind.bits] at h
 simp at h; omega
theorem aDN : NOK Tryz.prog GL 162 nU := by
 refine aSd fun w S vs x ha hp => ?_
 have hp : x.2.2.1 ≤ 1 := hp
 have hw := aE9 _ _ _ ha
 obtain ⟨h1, h2, h3, _⟩ := hw
 have h1 := wf_u64 h1
 have h2 := wf_u64 h2
 rw [aNH ha]
 refine ⟨[.int .u64 (((x.1 + x.2.1 + x.2.2.1) % 18446744073709551616 : Nat) : Int), .int .u64 (((x.1 + x.2.1 + x.2.2.1) / 18446744073709551616 : Nat) : Int)], ?_, aQW (by omega) (by omega)⟩
 rw [run_callFunc_extern Tryz.func162 (by kernel_rfl) (by kernel_rfl) (by kernel_rfl) (e := add64Entry) (by kernel_rfl), run_add64 x.1 x.2.1 x.2.2.1 (by omega) (by omega) (by omega) (by omega)]
 simp only [Result.andThen]
 congr 5 <;> omega
abbrev aQX (s : List Nat) : Prop := s.length * 8 ≤ 140737488355328
def oA : Ty := .pair (.sl (.u .u64)) .unit
noncomputable def cB : aG := ⟨oA, .own 83 (.u .u64), fun x => aQX x.1, fun x => id x.1⟩
attribute [go_sem] cB oA
noncomputable def uD (F : Md) : List (FuncId × aG) := []
theorem uF (F : Md) : bD Tryz.prog GL (uD F) := .nil
theorem kB : FOK Tryz.prog GL 165 cB := by
 refine aNt (aY (uF none)) Tryz.func165 rfl (by kernel_rfl) (by decide) fun w0 S x hw hp => ?_
 have hF : jP (fr Tryz.prog (EM (uD none)) S w0 Tryz.f165.ntmps) := ⟨aY (uF none), mix⟩
 obtain ⟨(s : (List Nat)), u⟩ := x
 have hp : s.length * 8 ≤ 140737488355328 := hp
 simp only [bL, oA, cB]
 refine aB (aD hF [0, 2] ?_)
 simp only [go_sem]
 refine aC (aB (aB (aLe hF rfl rfl rfl fun b hb => ?_)))
 refine aC (cA rfl (fun hc => ?_) (fun hc => ?_))
 ·have hs := hb hc
  refine aB (aD hF [2] ?_)
  simp only [go_sem]
  refine aC (dB (dF (fC hF [.tmp 2] rfl rfl rfl ?_)))
  simp only [hO, aR, go_sem, hs]
  try trivial
 ·refine dH (aC (aB (aO hF [2] ?_)))
  simp only [go_sem]
  refine ⟨by omega, ?_⟩
  refine aC (dB (fC hF [.tmp 2] rfl rfl rfl ?_))
  simp only [hO, aR, go_sem]
  try trivial
end Nu
end Go.Proofs
namespace Go.Proofs
open Go.Vc
set_option maxRecDepth 20000
namespace Nu
def aBC : ByteArray := ⟨⟨0 :: 1 :: 2 :: 2 :: 3 :: 3 :: 3 :: 3 :: 4 :: 4 :: 4 :: 4 :: 4 :: 4 :: 4 :: 4 :: 5 :: 5 :: 5 :: 5 :: 5 :: 5 :: 5 :: 5 :: 5 :: 5 :: 5 :: 5 :: 5 :: 5 :: 5 :: 5 :: 6 :: 6 :: 6 :: 6 :: 6 :: 6 :: 6 :: 6 :: 6 :: 6 :: 6 :: 6 :: 6 :: 6 :: 6 :: 6 :: 6 :: 6 :: 6 :: 6 :: 6 :: 6 :: 6 :: 6 :: 6 :: 6 :: 6 :: 6 :: 6 :: 6 :: 6 :: 6 :: 7 :: 7 :: 7 :: 7 :: 7 :: 7 :: 7 :: 7 :: 7 :: 7 :: 7 :: 7 :: 7 :: 7 :: 7 :: 7 :: 7 :: 7 :: 7 :: 7 :: 7 :: 7 :: 7 :: 7 :: 7 :: 7 :: 7 :: 7 :: 7 :: 7 :: 7 :: 7 :: 7 :: 7 :: 7 :: 7 :: 7 :: 7 :: 7 :: 7 :: 7 :: 7 :: 7 :: 7 :: 7 :: 7 :: 7 :: 7 :: 7 :: 7 :: 7 :: 7 :: 7 :: 7 :: 7 :: 7 :: 7 :: 7 :: 7 :: 7 :: 7 :: 7 :: 7 :: 7 :: 8 :: 8 :: 8 :: 8 :: 8 :: 8 :: 8 :: 8 :: 8 :: 8 :: 8 :: 8 :: 8 :: 8 :: 8 :: 8 :: 8 :: 8 :: 8 :: 8 :: 8 :: 8 :: 8 :: 8 :: 8 :: 8 :: 8 :: 8 :: 8 :: 8 :: 8 :: 8 :: 8 :: 8 :: 8 :: 8 :: 8 :: 8 :: 8 :: 8 :: 8 :: 8 :: 8 :: 8 :: 8 :: 8 :: 8 :: 8 :: 8 :: 8 :: 8 :: 8 :: 8 :: 8 :: 8 :: 8 :: 8 :: 8 :: 8 :: 8 :: 8 :: 8 :: 8 :: 8 :: 8 :: 8 :: 8 :: 8 :: 8 :: 8 :: 8 :: 8 :: 8 :: 8 :: 8 :: 8 :: 8 :: 8 :: 8 :: 8 :: 8 :: 8 :: 8 :: 8 :: 8 :: 8 :: 8 :: 8 :: 8 :: 8 :: 8 :: 8 :: 8 :: 8 :: 8 :: 8 :: 8 :: 8 :: 8 :: 8 :: 8 :: 8 :: 8 :: 8 :: 8 :: 8 :: 8 :: 8 :: 8 :: 8 :: 8 :: 8 :: 8 :: 8 :: 8 :: 8 :: 8 :: 8 :: 8 :: 8 :: 8 :: 8 :: 8 :: 8 :: 8 :: 8 :: 8 :: 8 :: []⟩⟩
theorem aKp : (⟨⟨0 :: 1 :: 2 :: 2 :: 3 :: 3 :: 3 :: 3 :: 4 :: 4 :: 4 :: 4 :: 4 :: 4 :: 4 :: 4 :: 5 :: 5 :: 5 :: 5 :: 5 :: 5 :: 5 :: 5 :: 5 :: 5 :: 5 :: 5 :: 5 :: 5 :: 5 :: 5 :: 6 :: 6 :: 6 :: 6 :: 6 :: 6 :: 6 :: 6 :: 6 :: 6 :: 6 :: 6 :: 6 :: 6 :: 6 :: 6 :: 6 :: 6 :: 6 :: 6 :: 6 :: 6 :: 6 :: 6 :: 6 :: 6 :: 6 :: 6 :: 6 :: 6 :: 6 :: 6 :: 7 :: 7 :: 7 :: 7 :: 7 :: 7 :: 7 :: 7 :: 7 :: 7 :: 7 :: 7 :: 7 :: 7 :: 7 :: 7 :: 7 :: 7 :: 7 :: 7 :: 7 :: 7 :: 7 :: 7 :: 7 :: 7 :: 7 :: 7 :: 7 :: 7 :: 7 :: 7 :: 7 :: 7 :: 7 :: 7 :: 7 :: 7 :: 7 :: 7 :: 7 :: 7 :: 7 :: 7 :: 7 :: 7 :: 7 :: 7 :: 7 :: 7 :: 7 :: 7 :: 7 :: 7 :: 7 :: 7 :: 7 :: 7 :: 7 :: 7 :: 7 :: 7 :: 7 :: 7 :: 8 :: 8 :: 8 :: 8 :: 8 :: 8 :: 8 :: 8 :: 8 :: 8 :: 8 :: 8 :: 8 :: 8 :: 8 :: 8 :: 8 :: 8 :: 8 :: 8 :: 8 :: 8 :: 8 :: 8 :: 8 :: 8 :: 8 :: 8 :: 8 :: 8 :: 8 :: 8 :: 8 :: 8 :: 8 :: 8 :: 8 :: 8 :: 8 :: 8 :: 8 :: 8 :: 8 :: 8 :: 8 :: 8 :: 8 :: 8 :: 8 :: 8 :: 8 :: 8 :: 8 :: 8 :: 8 :: 8 :: 8 :: 8 :: 8 :: 8 :: 8 :: 8 :: 8 :: 8 :: 8 :: 8 :: 8 :: 8 :: 8 :: 8 :: 8 :: 8 :: 8 :: 8 :: 8 :: 8 :: 8 :: 8 :: 8 :: 8 :: 8 :: 8 :: 8 :: 8 :: 8 :: 8 :: 8 :: 8 :: 8 :: 8 :: 8 :: 8 :: 8 :: 8 :: 8 :: 8 :: 8 :: 8 :: 8 :: 8 :: 8 :: 8 :: 8 :: 8 :: 8 :: 8 :: 8 :: 8 :: 8 :: 8 :: 8 :: 8 :: 8 :: 8 :: 8 :: 8 :: 8 :: 8 :: 8 :: 8 :: 8 :: 8 :: 8 :: 8 :: 8 :: 8 :: 8 :: 8 :: []⟩⟩ : ByteArray) = aBC := rfl
attribute [go_sem] aKp
noncomputable def nM (F : Md) (x_6 : Nat) (n_7 : Int) : Option (Int) :=
 ck (0 ≤ (((x_6 % 256) : Nat) : Int) ∧ (((x_6 % 256) : Nat) : Int) < (((aH aBC).length : Nat) : Int)) (ck (I64 (n_7 + ((((aH aBC).getD (x_6 % 256) (0 : Nat)) : Nat) : Int))) (some (n_7 + ((((aH aBC).getD (x_6 % 256) (0 : Nat)) : Nat) : Int))))
noncomputable def nN (F : Md) (x_4 : Nat) (n_5 : Int) : Option (Int) :=
 if (256 : Nat) ≤ x_4 then ck (I64 (n_5 + (8 : Int))) (nM F (x_4 / (256 : Nat)) (n_5 + (8 : Int))) else nM F x_4 n_5
noncomputable def nO (F : Md) (x_2 : Nat) (n_3 : Int) : Option (Int) :=
 if (65536 : Nat) ≤ x_2 then ck (I64 (n_3 + (16 : Int))) (nN F (x_2 / (65536 : Nat)) (n_3 + (16 : Int))) else nN F x_2 n_3
noncomputable def xC (F : Md) (x_0 : Nat) : Option Int :=
 if (4294967296 : Nat) ≤ x_0 then nO F (x_0 / (4294967296 : Nat)) (32 : Int) else nO F x_0 (0 : Int)
def aDO : PlR := ⟨[(0, .A [0, 2]), (1, .A [0, 2, 4]), (2, .A [0]), (3, .A [0, 2]), (4, .A [0, 2, 8]), (5, .A [0, 2]), (6, .A [0, 2]), (7, .A [0, 2, 14]), (8, .A [0, 2]), (9, .A [0, 2]), (10, .A [2])], [(4, 7), (7, 10), (10, 13)]⟩
def aFm : Ty := .pair (.u .u64) .unit
noncomputable def vC (F : Md) : aG := mSpec aFm (.one (.i .i64)) (fun x => xC F x.1)
noncomputable def aLS (F : Md) : List (FuncId × aG) := []
theorem aLT (F : Md) : bD Tryz.prog GL (aLS F) := .nil
attribute [go_sem] aFm aDO
set_option maxHeartbeats 4000000 in
theorem aKq (F : Md) : FOK Tryz.prog GL 235 (vC F) := by
 refine bH (aY (aLT F)) mix Tryz.func235 rfl (by kernel_rfl) (by decide) aDO fun w0 S x Θ hw h hF => ?_
 obtain ⟨(x_0 : Nat), u⟩ := x
 simp only [bL, go_sem]
 replace h : sat (xC F x_0) _ := h
 unfold xC at h
 refine dZ hF (D := Nat × Int) (fun d => sat (nO F d.1 d.2) Θ) [] (fun d => [(0, .val (.u .u64) d.1), (2, .val (.i .i64) d.2)]) (fun d => []) ?_ ?_
 ·simp only [go_sem]
  refine dR h (fun hc h => ?_) fun hc h => ?_
  ·exact aS ((x_0 / (4294967296 : Nat)), (32 : Int)) h rfl (by simp only [go_sem])
  ·exact aS (x_0, (0 : Int)) h rfl (by simp only [go_sem])
 ·rintro ⟨x_2, n_3⟩ h
  simp only [go_sem]
  replace h : sat (nO F x_2 n_3) _ := h
  unfold nO at h
  refine dZ hF (D := Nat × Int) (fun d => sat (nN F d.1 d.2) Θ) [] (fun d => [(0, .val (.u .u64) d.1), (2, .val (.i .i64) d.2)]) (fun d => []) ?_ ?_
  ·simp only [go_sem]
   refine dR h (fun hc h => ?_) fun hc h => ?_
   ·refine aP h fun g0 h => ?_
    exact aS ((x_2 / (65536 : Nat)), (n_3 + (16 : Int))) h rfl (by simp only [go_sem])
   ·exact aS (x_2, n_3) h rfl (by simp only [go_sem])
  ·rintro ⟨x_4, n_5⟩ h
   simp only [go_sem]
   replace h : sat (nN F x_4 n_5) _ := h
   unfold nN at h
   refine dZ hF (D := Nat × Int) (fun d => sat (nM F d.1 d.2) Θ) [] (fun d => [(0, .val (.u .u64) d.1), (2, .val (.i .i64) d.2)]) (fun d => []) ?_ ?_
   ·simp only [go_sem]
    refine dR h (fun hc h => ?_) fun hc h => ?_
    ·refine aP h fun g0 h => ?_
     exact aS ((x_4 / (256 : Nat)), (n_5 + (8 : Int))) h rfl (by simp only [go_sem])
    ·exact aS (x_4, n_5) h rfl (by simp only [go_sem])
   ·rintro ⟨x_6, n_7⟩ h
    simp only [go_sem]
    replace h : sat (nM F x_6 n_7) _ := h
    unfold nM at h
    refine aP h fun g0 h => aP h fun g1 h => ?_
    exact aF hF [.tmp 2] rfl rfl rfl (aA h) (by simp only [aR, go_sem])
attribute [go_sem] vC
noncomputable def bG (F : Md) (x_0 : Nat) : Option Int :=
 (xC F x_0).bind (fun v_5 => ck (I64 ((64 : Int) - v_5)) (some ((64 : Int) - v_5)))
def sX : PlR := ⟨[(0, .A [0]), (1, .A [2])], []⟩
def uG : Ty := .pair (.u .u64) .unit
noncomputable def dN (F : Md) : aG := mSpec uG (.one (.i .i64)) (fun x => bG F x.1)
noncomputable def uH (F : Md) : List (FuncId × aG) := [(235, (vC F))]
theorem aCk (F : Md) : bD Tryz.prog GL (uH F) := .cons (aKq F) (by kernel_rfl) (.nil)
theorem zN (F : Md) : gam (uH F) 235 = some (vC F) := rfl
attribute [go_sem] uG sX zN
set_option maxHeartbeats 4000000 in
theorem nC (F : Md) : FOK Tryz.prog GL 188 (dN F) := by
 refine bH (aY (aCk F)) mix Tryz.func188 rfl (by kernel_rfl) (by decide) sX fun w0 S x Θ hw h hF => ?_
 obtain ⟨(x_0 : Nat), u⟩ := x
 simp only [bL, go_sem]
 replace h : sat (bG F x_0) _ := h
 unfold bG at h
 obtain ⟨v_5, hv, h⟩ := aI h
 try simp only [hv, go_sem]
 refine aP h fun g0 h => ?_
 exact aF hF [.tmp 2] rfl rfl rfl (aA h) (by simp only [aR, go_sem])
attribute [go_sem] dN
noncomputable def kC (F : Md) (x_0 : Nat) : Option Int :=
 if x_0 = (0 : Nat) then some (64 : Int) else ck (0 ≤ ((((mulM F .u64 (x_0 &&& (aNC F .u64 x_0)) (285870213051353865 : Nat)) / (288230376151711744 : Nat)) : Nat) : Int) ∧ ((((mulM F .u64 (x_0 &&& (aNC F .u64 x_0)) (285870213051353865 : Nat)) / (288230376151711744 : Nat)) : Nat) : Int) < (64 : Int)) (some (((aQU.getD ((mulM F .u64 (x_0 &&& (aNC F .u64 x_0)) (285870213051353865 : Nat)) / (288230376151711744 : Nat)) (0 : Nat)) : Nat) : Int))
def rY : PlR := ⟨[(0, .A [0]), (1, .A [0, 4]), (2, .A [2]), (3, .A [2])], []⟩
def sY : Ty := .pair (.u .u64) .unit
noncomputable def jF (F : Md) : aG := mSpec sY (.one (.i .i64)) (fun x => kC F x.1)
noncomputable def aBD (F : Md) : List (FuncId × aG) := []
theorem aBE (F : Md) : bD Tryz.prog GL (aBD F) := .nil
attribute [go_sem] sY rY
set_option maxHeartbeats 4000000 in
theorem aAT (F : Md) : FOK Tryz.prog GL 164 (jF F) := by
 refine bH (aY (aBE F)) mix Tryz.func164 rfl (by kernel_rfl) (by decide) rY fun w0 S x Θ hw h hF => ?_
 obtain ⟨(x_0 : Nat), u⟩ := x
 simp only [bL, go_sem]
 replace h : sat (kC F x_0) _ := h
 unfold kC at h
 refine dR h (fun hc h => ?_) fun hc h => ?_
 ·exact aF hF [.tmp 2] rfl rfl rfl (aA h) (by simp only [aR, go_sem, cF F, cG F, cH F])
 ·obtain ⟨g0, h⟩ := aJ h
  repeat (refine ⟨by first | with_reducible assumption | omega | (intros; first | with_reducible assumption | omega) | (simp only [go_sem, cF F, cG F, cH F] at *; first | with_reducible assumption | omega) | (intro _; exact ⟨rfl, by decide⟩) | (intro _; refine (?_ : _ = aX _); rfl) | exact ⟨rfl, rfl⟩ | decide, ?_⟩)
  exact aF hF [.tmp 2] rfl rfl rfl (aA h) (by (simp only [aR, go_sem, cF F, cG F, cH F]) <;> first | rfl | (simp; done))
attribute [go_sem] jF
noncomputable def xD (F : Md) (x_0 : Nat) (y_1 : Nat) : Option (Nat × (Nat × Unit)) :=
 some ((((((mulM F .u64 (x_0 / (4294967296 : Nat)) (y_1 / (4294967296 : Nat))) + ((((mulM F .u64 (x_0 / (4294967296 : Nat)) (y_1 &&& (4294967295 : Nat))) + ((mulM F .u64 (x_0 &&& (4294967295 : Nat)) (y_1 &&& (4294967295 : Nat))) / (4294967296 : Nat))) % 18446744073709551616) / (4294967296 : Nat))) % 18446744073709551616) + (((((((mulM F .u64 (x_0 / (4294967296 : Nat)) (y_1 &&& (4294967295 : Nat))) + ((mulM F .u64 (x_0 &&& (4294967295 : Nat)) (y_1 &&& (4294967295 : Nat))) / (4294967296 : Nat))) % 18446744073709551616) &&& (4294967295 : Nat)) + (mulM F .u64 (x_0 &&& (4294967295 : Nat)) (y_1 / (4294967296 : Nat)))) % 18446744073709551616) / (4294967296 : Nat))) % 18446744073709551616), (mulM F .u64 x_0 y_1), ())
def aDP : PlR := ⟨[(0, .A [0, 1]), (1, .A [0, 1, 6]), (2, .A [0, 1, 6, 7]), (3, .A [0, 1, 6, 7, 8]), (4, .A [0, 1, 6, 7, 8, 9]), (5, .A [0, 1, 6, 7, 8, 9, 10]), (6, .A [0, 1, 6, 7, 9, 11]), (7, .A [0, 1, 6, 7, 9, 11, 12]), (8, .A [0, 1, 6, 7, 9, 12, 13]), (9, .A [0, 1, 7, 9, 12, 13]), (10, .A [0, 1, 4]), (11, .A [4, 5])], []⟩
def aFn : Ty := .pair (.u .u64) (.pair (.u .u64) .unit)
noncomputable def vD (F : Md) : aG := mSpec aFn (.tup (.pair (.u .u64) (.pair (.u .u64) .unit))) (fun x => xD F x.1 x.2.1)
noncomputable def aLU (F : Md) : List (FuncId × aG) := []
theorem aLV (F : Md) : bD Tryz.prog GL (aLU F) := .nil
attribute [go_sem] aFn aDP
set_option maxHeartbeats 4000000 in
theorem aKr (F : Md) : FOK Tryz.prog GL 161 (vD F) := by
 refine bH (aY (aLV F)) mix Tryz.func161 rfl (by kernel_rfl) (by decide) aDP fun w0 S x Θ hw h hF => ?_
 obtain ⟨(x_0 : Nat), (y_1 : Nat), u⟩ := x
 simp only [bL, go_sem]
 replace h : sat (xD F x_0 y_1) _ := h
 unfold xD at h
 exact aF hF [.tmp 4, .tmp 5] rfl rfl rfl (aA h) (by simp only [aR, go_sem, cF F, cG F, cH F])
attribute [go_sem] vD
noncomputable def rB (F : Md) (x15_12 : Nat) (hi_0 : Nat) (v_7 : Int) (lo_1 : Nat) (y_2 : Nat) (x18_17 : Nat) : Option (Nat × (Nat × Unit)) :=
 some ((((mulM F .u64 x15_12 (4294967296 : Nat)) + x18_17) % 18446744073709551616), ((vZ F .u64 (((mulM F .u64 (vZ F .u64 (((mulM F .u64 (((hi_0 * (2 ^ (v_7 % (18446744073709551616 : Int)).toNat)) % 18446744073709551616) ||| (lo_1 / (2 ^ (vZ F .u64 (64 : Nat) (v_7 % (18446744073709551616 : Int)).toNat)))) (4294967296 : Nat)) + (((lo_1 * (2 ^ (v_7 % (18446744073709551616 : Int)).toNat)) % 18446744073709551616) / (4294967296 : Nat))) % 18446744073709551616) (mulM F .u64 x15_12 ((y_2 * (2 ^ (v_7 % (18446744073709551616 : Int)).toNat)) % 18446744073709551616))) (4294967296 : Nat)) + (((lo_1 * (2 ^ (v_7 % (18446744073709551616 : Int)).toNat)) % 18446744073709551616) &&& (4294967295 : Nat))) % 18446744073709551616) (mulM F .u64 x18_17 ((y_2 * (2 ^ (v_7 % (18446744073709551616 : Int)).toNat)) % 18446744073709551616))) / (2 ^ (v_7 % (18446744073709551616 : Int)).toNat)), ())
noncomputable def uT (F : Md) (lo_1 : Nat) (v_7 : Int) (y_2 : Nat) (rhat_18 : Nat) (x18_19 : Nat) : Option ((Nat × Nat) ⊕ (Nat)) :=
 if ((4294967296 : Nat) ≤ x18_19) ∨ ((((mulM F .u64 (4294967296 : Nat) rhat_18) + (((lo_1 * (2 ^ (v_7 % (18446744073709551616 : Int)).toNat)) % 18446744073709551616) &&& (4294967295 : Nat))) % 18446744073709551616) < (mulM F .u64 x18_19 (((y_2 * (2 ^ (v_7 % (18446744073709551616 : Int)).toNat)) % 18446744073709551616) &&& (4294967295 : Nat)))) then if (4294967296 : Nat) ≤ ((rhat_18 + (((y_2 * (2 ^ (v_7 % (18446744073709551616 : Int)).toNat)) % 18446744073709551616) / (4294967296 : Nat))) % 18446744073709551616) then some (.inr (vZ F .u64 x18_19 (1 : Nat))) else some (.inl (((rhat_18 + (((y_2 * (2 ^ (v_7 % (18446744073709551616 : Int)).toNat)) % 18446744073709551616) / (4294967296 : Nat))) % 18446744073709551616), (vZ F .u64 x18_19 (1 : Nat)))) else some (.inr x18_19)
noncomputable def rC (F : Md) (y_2 : Nat) (v_7 : Int) (lo_1 : Nat) (hi_0 : Nat) (x15_12 : Nat) : Option (Nat × (Nat × Unit)) :=
 ck ((((y_2 * (2 ^ (v_7 % (18446744073709551616 : Int)).toNat)) % 18446744073709551616) / (4294967296 : Nat)) ≠ 0) ((dM F (fun d : Nat × Nat => uT F lo_1 v_7 y_2 d.1 d.2) ((vZ F .u64 (vZ F .u64 (((mulM F .u64 (((hi_0 * (2 ^ (v_7 % (18446744073709551616 : Int)).toNat)) % 18446744073709551616) ||| (lo_1 / (2 ^ (vZ F .u64 (64 : Nat) (v_7 % (18446744073709551616 : Int)).toNat)))) (4294967296 : Nat)) + (((lo_1 * (2 ^ (v_7 % (18446744073709551616 : Int)).toNat)) % 18446744073709551616) / (4294967296 : Nat))) % 18446744073709551616) (mulM F .u64 x15_12 ((y_2 * (2 ^ (v_7 % (18446744073709551616 : Int)).toNat)) % 18446744073709551616))) (mulM F .u64 ((vZ F .u64 (((mulM F .u64 (((hi_0 * (2 ^ (v_7 % (18446744073709551616 : Int)).toNat)) % 18446744073709551616) ||| (lo_1 / (2 ^ (vZ F .u64 (64 : Nat) (v_7 % (18446744073709551616 : Int)).toNat)))) (4294967296 : Nat)) + (((lo_1 * (2 ^ (v_7 % (18446744073709551616 : Int)).toNat)) % 18446744073709551616) / (4294967296 : Nat))) % 18446744073709551616) (mulM F .u64 x15_12 ((y_2 * (2 ^ (v_7 % (18446744073709551616 : Int)).toNat)) % 18446744073709551616))) / (((y_2 * (2 ^ (v_7 % (18446744073709551616 : Int)).toNat)) % 18446744073709551616) / (4294967296 : Nat))) (((y_2 * (2 ^ (v_7 % (18446744073709551616 : Int)).toNat)) % 18446744073709551616) / (4294967296 : Nat)))), ((vZ F .u64 (((mulM F .u64 (((hi_0 * (2 ^ (v_7 % (18446744073709551616 : Int)).toNat)) % 18446744073709551616) ||| (lo_1 / (2 ^ (vZ F .u64 (64 : Nat) (v_7 % (18446744073709551616 : Int)).toNat)))) (4294967296 : Nat)) + (((lo_1 * (2 ^ (v_7 % (18446744073709551616 : Int)).toNat)) % 18446744073709551616) / (4294967296 : Nat))) % 18446744073709551616) (mulM F .u64 x15_12 ((y_2 * (2 ^ (v_7 % (18446744073709551616 : Int)).toNat)) % 18446744073709551616))) / (((y_2 * (2 ^ (v_7 % (18446744073709551616 : Int)).toNat)) % 18446744073709551616) / (4294967296 : Nat))))).bind (fun e => rB F x15_12 hi_0 v_7 lo_1 y_2 e))
noncomputable def uU (F : Md) (lo_1 : Nat) (v_7 : Int) (y_2 : Nat) (x15_23 : Nat) (rhat_24 : Nat) : Option ((Nat × Nat) ⊕ (Nat)) :=
 if ((4294967296 : Nat) ≤ x15_23) ∨ ((((mulM F .u64 (4294967296 : Nat) rhat_24) + (((lo_1 * (2 ^ (v_7 % (18446744073709551616 : Int)).toNat)) % 18446744073709551616) / (4294967296 : Nat))) % 18446744073709551616) < (mulM F .u64 x15_23 (((y_2 * (2 ^ (v_7 % (18446744073709551616 : Int)).toNat)) % 18446744073709551616) &&& (4294967295 : Nat)))) then if (4294967296 : Nat) ≤ ((rhat_24 + (((y_2 * (2 ^ (v_7 % (18446744073709551616 : Int)).toNat)) % 18446744073709551616) / (4294967296 : Nat))) % 18446744073709551616) then some (.inr (vZ F .u64 x15_23 (1 : Nat))) else some (.inl ((vZ F .u64 x15_23 (1 : Nat)), ((rhat_24 + (((y_2 * (2 ^ (v_7 % (18446744073709551616 : Int)).toNat)) % 18446744073709551616) / (4294967296 : Nat))) % 18446744073709551616))) else some (.inr x15_23)
noncomputable def xE (F : Md) (hi_0 : Nat) (lo_1 : Nat) (y_2 : Nat) : Option (Nat × (Nat × Unit)) :=
 if y_2 = (0 : Nat) then none else if y_2 ≤ hi_0 then none else if hi_0 = (0 : Nat) then ck (y_2 ≠ 0) (ck (y_2 ≠ 0) (some ((lo_1 / y_2), (lo_1 % y_2), ()))) else (bG F y_2).bind (fun v_7 => ck ((((y_2 * (2 ^ (v_7 % (18446744073709551616 : Int)).toNat)) % 18446744073709551616) / (4294967296 : Nat)) ≠ 0) ((dM F (fun d : Nat × Nat => uU F lo_1 v_7 y_2 d.1 d.2) (((((hi_0 * (2 ^ (v_7 % (18446744073709551616 : Int)).toNat)) % 18446744073709551616) ||| (lo_1 / (2 ^ (vZ F .u64 (64 : Nat) (v_7 % (18446744073709551616 : Int)).toNat)))) / (((y_2 * (2 ^ (v_7 % (18446744073709551616 : Int)).toNat)) % 18446744073709551616) / (4294967296 : Nat))), (vZ F .u64 (((hi_0 * (2 ^ (v_7 % (18446744073709551616 : Int)).toNat)) % 18446744073709551616) ||| (lo_1 / (2 ^ (vZ F .u64 (64 : Nat) (v_7 % (18446744073709551616 : Int)).toNat)))) (mulM F .u64 ((((hi_0 * (2 ^ (v_7 % (18446744073709551616 : Int)).toNat)) % 18446744073709551616) ||| (lo_1 / (2 ^ (vZ F .u64 (64 : Nat) (v_7 % (18446744073709551616 : Int)).toNat)))) / (((y_2 * (2 ^ (v_7 % (18446744073709551616 : Int)).toNat)) % 18446744073709551616) / (4294967296 : Nat))) (((y_2 * (2 ^ (v_7 % (18446744073709551616 : Int)).toNat)) % 18446744073709551616) / (4294967296 : Nat)))))).bind (fun e => rC F y_2 v_7 lo_1 hi_0 e)))
def aDQ : PlR := ⟨[(0, .A [0, 1, 2]), (1, .A [0, 1, 2, 20]), (2, .stop), (3, .A [0, 1, 2, 24]), (4, .stop), (5, .A [0, 1, 2, 27]), (6, .A [6, 7]), (7, .A [0, 1, 2, 8]), (8, .A [0, 1, 2, 8]), (9, .A [0, 1, 2, 8, 9]), (10, .A [0, 1, 2, 8, 9, 10]), (11, .A [1, 2, 8, 9, 10, 11]), (12, .A [2, 8, 9, 10, 11, 12]), (13, .A [2, 8, 9, 10, 11, 12, 13]), (14, .A [2, 8, 9, 10, 11, 13, 14]), (15, .A [2, 8, 9, 10, 11, 13, 14, 15]), (16, .A [2, 8, 9, 10, 11, 13, 14, 15, 16]), (17, .A [2, 8, 9, 10, 11, 13, 14, 15, 16, 78]), (18, .A [2, 8, 9, 10, 11, 13, 14, 15, 16]), (19, .A [2, 8, 9, 10, 11, 13, 14, 15, 16]), (20, .A [2, 8, 9, 10, 11, 13, 14, 15, 16, 85]), (21, .A [2, 8, 9, 10, 14, 15, 17]), (22, .A [2, 8, 9, 10, 14, 15, 17, 18]), (23, .A [2, 8, 9, 10, 14, 15, 16, 17, 18]), (24, .A [2, 8, 9, 10, 14, 15, 16, 17, 18, 113]), (25, .A [2, 8, 9, 10, 14, 15, 16, 17, 18]), (26, .A [2, 8, 9, 10, 14, 15, 16, 17, 18]), (27, .A [2, 8, 9, 10, 14, 15, 16, 17, 18, 120]), (28, .A [6, 7])], [(20, 24), (27, 31)]⟩
def aFo : Ty := .pair (.u .u64) (.pair (.u .u64) (.pair (.u .u64) .unit))
noncomputable def vE (F : Md) : aG := mSpec aFo (.tup (.pair (.u .u64) (.pair (.u .u64) .unit))) (fun x => xE F x.1 x.2.1 x.2.2.1)
noncomputable def aFp (F : Md) : List (FuncId × aG) := [(188, (dN F))]
theorem aLW (F : Md) : bD Tryz.prog GL (aFp F) := .cons (nC F) (by kernel_rfl) (.nil)
theorem aGA (F : Md) : gam (aFp F) 188 = some (dN F) := rfl
attribute [go_sem] aFo aDQ aGA
set_option maxHeartbeats 4000000 in
theorem aKs (F : Md) : FOK Tryz.prog GL 252 (vE F) := by
 refine bH (aY (aLW F)) mix Tryz.func252 rfl (by kernel_rfl) (by decide) aDQ fun w0 S x Θ hw h hF => ?_
 obtain ⟨(hi_0 : Nat), (lo_1 : Nat), (y_2 : Nat), u⟩ := x
 simp only [bL, go_sem]
 replace h : sat (xE F hi_0 lo_1 y_2) _ := h
 unfold xE at h
 refine dR h (fun hc h => ?_) fun hc h => ?_
 ·exact aAS h
 ·refine dR h (fun hc h => ?_) fun hc h => ?_
  ·exact aAS h
  ·refine dR h (fun hc h => ?_) fun hc h => ?_
   ·refine aP h fun g0 h => aP h fun g1 h => ?_
    exact aF hF [.tmp 6, .tmp 7] rfl rfl rfl (aA h) (by simp only [aR, go_sem, cF F, cG F, cH F])
   ·obtain ⟨v_7, hv, h⟩ := aI h
    try simp only [hv, go_sem, cF F, cG F, cH F]
    refine aP h fun g0 h => ?_
    refine dZ hF (D := Nat) (fun d => sat (rC F y_2 v_7 lo_1 hi_0 d) Θ) [2, 8, 9, 10, 11, 13, 14] (fun d => [(15, .val (.u .u64) d)]) (fun d => []) ?_ ?_
    ·simp only [go_sem, cF F, cG F, cH F]
     refine bR hF (D := Nat × Nat) [2, 8, 9, 10, 11, 13, 14] (fun d => [(15, .val (.u .u64) d.1), (16, .val (.u .u64) d.2)]) (fun d => []) h rfl (by simp only [go_sem, cF F, cG F, cH F]) ?_
     rintro ⟨x15_23, rhat_24⟩ A17 T17 hA17 hE17 h
     simp only [go_sem, cF F, cG F, cH F]
     replace h : sat (uU F lo_1 v_7 y_2 x15_23 rhat_24) _ := h
     unfold uU at h
     refine ⟨fun hc => ?_, fun hc => ?_⟩
     ·replace h := iU hc h
      refine dR h (fun hc h => ?_) fun hc h => ?_
      ·replace h := hE17 _ (aA h)
       try dsimp only at h
       exact aS (vZ F .u64 x15_23 (1 : Nat)) h rfl (by simp only [go_sem, cF F, cG F, cH F])
      ·replace h := hA17 _ (aA h)
       exact aS _ h rfl (by simp only [go_sem, cF F, cG F, cH F])
     ·replace h := iV hc h
      replace h := hE17 _ (aA h)
      try dsimp only at h
      exact aS (x15_23) h rfl (by simp only [go_sem, cF F, cG F, cH F])
    ·rintro x15_12 h
     simp only [go_sem, cF F, cG F, cH F]
     replace h : sat (rC F y_2 v_7 lo_1 hi_0 x15_12) _ := h
     unfold rC at h
     refine aP h fun g0 h => ?_
     refine dZ hF (D := Nat) (fun d => sat (rB F x15_12 hi_0 v_7 lo_1 y_2 d) Θ) [2, 8, 14, 15, 17] (fun d => [(18, .val (.u .u64) d)]) (fun d => []) ?_ ?_
     ·simp only [go_sem, cF F, cG F, cH F]
      refine bR hF (D := Nat × Nat) [2, 8, 9, 10, 14, 15, 17] (fun d => [(16, .val (.u .u64) d.1), (18, .val (.u .u64) d.2)]) (fun d => []) h rfl (by simp only [go_sem, cF F, cG F, cH F]) ?_
      rintro ⟨rhat_18, x18_19⟩ A24 T24 hA24 hE24 h
      simp only [go_sem, cF F, cG F, cH F]
      replace h : sat (uT F lo_1 v_7 y_2 rhat_18 x18_19) _ := h
      unfold uT at h
      refine ⟨fun hc => ?_, fun hc => ?_⟩
      ·replace h := iU hc h
       refine dR h (fun hc h => ?_) fun hc h => ?_
       ·replace h := hE24 _ (aA h)
        try dsimp only at h
        exact aS (vZ F .u64 x18_19 (1 : Nat)) h rfl (by simp only [go_sem, cF F, cG F, cH F])
       ·replace h := hA24 _ (aA h)
        exact aS _ h rfl (by simp only [go_sem, cF F, cG F, cH F])
      ·replace h := iV hc h
       replace h := hE24 _ (aA h)
       try dsimp only at h
       exact aS (x18_19) h rfl (by simp only [go_sem, cF F, cG F, cH F])
     ·rintro x18_17 h
      simp only [go_sem, cF F, cG F, cH F]
      replace h : sat (rB F x15_12 hi_0 v_7 lo_1 y_2 x18_17) _ := h
      unfold rB at h
      exact aF hF [.tmp 6, .tmp 7] rfl rfl rfl (aA h) (by simp only [aR, go_sem, cF F, cG F, cH F])
attribute [go_sem] vE
noncomputable def aDv (F : Md) (a_0 : (List Nat)) : Option Bool :=
 ck (¬ ((((a_0.length) : Nat) : Int) = (0 : Int)) → ((((a_0.length) : Nat) : Int) ≤ (64 : Int)) → (I64 ((((a_0.length) : Nat) : Int) - (1 : Int)))) (ck (¬ ((((a_0.length) : Nat) : Int) = (0 : Int)) → ((((a_0.length) : Nat) : Int) ≤ (64 : Int)) → (0 ≤ ((((a_0.length) : Nat) : Int) - (1 : Int)) ∧ ((((a_0.length) : Nat) : Int) - (1 : Int)) < (((a_0.length) : Nat) : Int))) (some ((decide ((((a_0.length) : Nat) : Int) = (0 : Int))) || ((decide ((((a_0.length) : Nat) : Int) ≤ (64 : Int))) && (!(decide ((a_0.getD ((((a_0.length) : Nat) : Int) - (1 : Int)).toNat (0 : Nat)) = (0 : Nat))))))))
def aJw : PlR := ⟨[(0, .A [0]), (1, .A [2])], []⟩
def aLm : Ty := .pair (.sl (.u .u64)) .unit
noncomputable def aBF (F : Md) : aG := mSpec aLm (.one .bool) (fun x => aDv F x.1)
noncomputable def aPo (F : Md) : List (FuncId × aG) := []
theorem aPp (F : Md) : bD Tryz.prog GL (aPo F) := .nil
attribute [go_sem] aLm aJw
set_option maxHeartbeats 4000000 in
theorem aNI (F : Md) : FOK Tryz.prog GL 120 (aBF F) := by
 refine bH (aY (aPp F)) mix Tryz.func120 rfl (by kernel_rfl) (by decide) aJw fun w0 S x Θ hw h hF => ?_
 obtain ⟨(a_0 : (List Nat)), u⟩ := x
 simp only [bL, go_sem]
 replace h : sat (aDv F a_0) _ := h
 unfold aDv at h
 obtain ⟨g0, h⟩ := aJ h
 obtain ⟨g1, h⟩ := aJ h
 try simp only [I64, I32] at g0
 repeat (refine ⟨by first | with_reducible assumption | omega | (intros; first | with_reducible assumption | omega) | (simp only [go_sem] at *; first | with_reducible assumption | omega) | (intro _; exact ⟨rfl, by decide⟩) | (intro _; refine (?_ : _ = aX _); rfl) | exact ⟨rfl, rfl⟩ | (intro q0 q1; (try have e0 := g0 zAC (by first | exact q1 | omega | (simpa using q1))); (try have e1 := g1 zAC (by first | exact q1 | omega | (simpa using q1))); first | assumption | omega) | (rintro ⟨q0, q1⟩; (try have e0 := g0 zAC (by first | exact q1 | omega | (simpa using q1))); (try have e1 := g1 zAC (by first | exact q1 | omega | (simpa using q1))); first | assumption | omega) | decide, ?_⟩)
 exact aF hF [.tmp 2] rfl rfl rfl (aA h) (by simp only [aR, go_sem])
attribute [go_sem] aBF
noncomputable def aAu (F : Md) (a_4 : (List Nat)) : Option ((List Nat) ⊕ (List Nat)) :=
 ck (((0 : Int) < (((a_4.length) : Nat) : Int)) → (I64 ((((a_4.length) : Nat) : Int) - (1 : Int)))) (ck (((0 : Int) < (((a_4.length) : Nat) : Int)) → (0 ≤ ((((a_4.length) : Nat) : Int) - (1 : Int)) ∧ ((((a_4.length) : Nat) : Int) - (1 : Int)) < (((a_4.length) : Nat) : Int))) (if ((0 : Int) < (((a_4.length) : Nat) : Int)) ∧ ((a_4.getD ((((a_4.length) : Nat) : Int) - (1 : Int)).toNat (0 : Nat)) = (0 : Nat)) then ck (I64 ((((a_4.length) : Nat) : Int) - (1 : Int))) (ck (0 ≤ ((((a_4.length) : Nat) : Int) - (1 : Int)) ∧ ((((a_4.length) : Nat) : Int) - (1 : Int)) ≤ (((a_4.length) : Nat) : Int)) (some (.inl (List.take ((((a_4.length) : Nat) : Int) - (1 : Int)).toNat a_4)))) else some (.inr a_4)))
noncomputable def gG (F : Md) (a_0 : (List Nat)) : Option (List Nat) :=
 (dM F (fun d : (List Nat) => aAu F d) a_0).bind (fun e => some e)
def aHh : PlR := ⟨[(0, .A [0]), (1, .A [0, 14]), (2, .A [0]), (3, .A [2])], []⟩
def aJx : Ty := .pair (.sl (.u .u64)) .unit
noncomputable def eG (F : Md) : aG := mSpec aJx (.one (.sl (.u .u64))) (fun x => gG F x.1)
noncomputable def aNJ (F : Md) : List (FuncId × aG) := []
theorem aNK (F : Md) : bD Tryz.prog GL (aNJ F) := .nil
attribute [go_sem] aJx aHh
set_option maxHeartbeats 4000000 in
theorem oP (F : Md) : FOK Tryz.prog GL 163 (eG F) := by
 refine bH (aY (aNK F)) mix Tryz.func163 rfl (by kernel_rfl) (by decide) aHh fun w0 S x Θ hw h hF => ?_
 obtain ⟨(a_0 : (List Nat)), u⟩ := x
 simp only [bL, go_sem]
 replace h : sat (gG F a_0) _ := h
 unfold gG at h
 refine bR hF (D := (List Nat)) [] (fun d => [(0, .val (.sl (.u .u64)) d)]) (fun d => []) h rfl (by simp only [go_sem]) ?_
 rintro a_4 A1 T1 hA1 hE1 h
 simp only [go_sem]
 replace h : sat (aAu F a_4) _ := h
 unfold aAu at h
 refine aP h fun g0 h => aP h fun g1 h => ?_
 refine ⟨fun hc => ?_, fun hc => ?_⟩
 ·replace h := iU hc h
  refine aP h fun g0 h => aP h fun g1 h => ?_
  replace h := hA1 _ (aA h)
  exact aS _ h rfl (by simp only [go_sem])
 ·replace h := iV hc h
  replace h := hE1 _ (aA h)
  try dsimp only at h
  exact aF hF [.tmp 2] rfl rfl rfl (aA h) (by simp only [aR, go_sem])
attribute [go_sem] eG
noncomputable def yP (F : Md) (less_0 : Bool) : Option Int :=
 if less_0 = true then some (-1 : Int) else some (1 : Int)
def aHi : PlR := ⟨[(0, .A [0]), (1, .A [3]), (2, .A [2]), (3, .A [2])], []⟩
def aJy : Ty := .pair .bool .unit
noncomputable def zX (F : Md) : aG := mSpec aJy (.one (.i .i64)) (fun x => yP F x.1)
noncomputable def aNL (F : Md) : List (FuncId × aG) := []
theorem aNM (F : Md) : bD Tryz.prog GL (aNL F) := .nil
attribute [go_sem] aJy aHi
set_option maxHeartbeats 4000000 in
theorem aMU (F : Md) : FOK Tryz.prog GL 189 (zX F) := by
 refine bH (aY (aNM F)) mix Tryz.func189 rfl (by kernel_rfl) (by decide) aHi fun w0 S x Θ hw h hF => ?_
 obtain ⟨(less_0 : Bool), u⟩ := x
 simp only [bL, go_sem]
 replace h : sat (yP F less_0) _ := h
 unfold yP at h
 refine aHg h (fun hc h => ?_) fun hc h => ?_
 ·exact aF hF [.tmp 2] rfl rfl rfl (aA h) (by simp only [aR, go_sem])
 ·exact aF hF [.tmp 2] rfl rfl rfl (aA h) (by simp only [aR, go_sem])
attribute [go_sem] zX
noncomputable def yQ (F : Md) (a_0 : (List Nat)) (b_1 : (List Nat)) (i_20 : Int) : Option ((Int) ⊕ ((Unit) ⊕ Int)) :=
 if (0 : Int) ≤ i_20 then ck (0 ≤ i_20 ∧ i_20 < (((a_0.length) : Nat) : Int)) (ck (0 ≤ i_20 ∧ i_20 < (((b_1.length) : Nat) : Int)) (if ¬ ((a_0.getD (i_20.toNat) (0 : Nat)) = (b_1.getD (i_20.toNat) (0 : Nat))) then ck (0 ≤ i_20 ∧ i_20 < (((a_0.length) : Nat) : Int)) (ck (0 ≤ i_20 ∧ i_20 < (((b_1.length) : Nat) : Int)) ((yP F (decide ((a_0.getD (i_20.toNat) (0 : Nat)) < (b_1.getD (i_20.toNat) (0 : Nat))))).bind (fun v_33 => some (.inr (.inr v_33))))) else ck (I64 (i_20 - (1 : Int))) (some (.inl (i_20 - (1 : Int)))))) else some (.inr (.inl ()))
noncomputable def oQ (F : Md) (a_0 : (List Nat)) (b_1 : (List Nat)) : Option Int :=
 if ¬ ((((a_0.length) : Nat) : Int) = (((b_1.length) : Nat) : Int)) then (yP F (decide ((((a_0.length) : Nat) : Int) < (((b_1.length) : Nat) : Int)))).bind (fun v_8 => some v_8) else ck (I64 ((((a_0.length) : Nat) : Int) - (1 : Int))) ((dM F (fun d : Int => yQ F a_0 b_1 d) ((((a_0.length) : Nat) : Int) - (1 : Int))).bind (fun e => match e with | (.inl e) => some (0 : Int) | (.inr e) => some e))
def aFq : PlR := ⟨[(0, .A [0, 1]), (1, .A [0, 1, 10]), (2, .A [4]), (3, .A [0, 1, 5]), (4, .A [0, 1, 5, 21]), (5, .A [0, 1, 5]), (6, .A [0, 1, 5, 32]), (7, .A [4]), (8, .A [4])], []⟩
def aHj : Ty := .pair (.sl (.u .u64)) (.pair (.sl (.u .u64)) .unit)
noncomputable def lZ (F : Md) : aG := mSpec aHj (.one (.i .i64)) (fun x => oQ F x.1 x.2.1)
noncomputable def aHk (F : Md) : List (FuncId × aG) := [(189, (zX F))]
theorem aMV (F : Md) : bD Tryz.prog GL (aHk F) := .cons (aMU F) (by kernel_rfl) (.nil)
theorem aHT (F : Md) : gam (aHk F) 189 = some (zX F) := rfl
attribute [go_sem] aHj aFq aHT
set_option maxHeartbeats 4000000 in
theorem aBG (F : Md) : FOK Tryz.prog GL 122 (lZ F) := by
 refine bH (aY (aMV F)) mix Tryz.func122 rfl (by kernel_rfl) (by decide) aFq fun w0 S x Θ hw h hF => ?_
 obtain ⟨(a_0 : (List Nat)), (b_1 : (List Nat)), u⟩ := x
 simp only [bL, go_sem]
 replace h : sat (oQ F a_0 b_1) _ := h
 unfold oQ at h
 refine dR h (fun hc h => ?_) fun hc h => ?_
 ·obtain ⟨v_8, hv, h⟩ := aI h
  try simp only [hv, go_sem]
  exact aF hF [.tmp 4] rfl rfl rfl (aA h) (by simp only [aR, go_sem])
 ·refine aP h fun g0 h => ?_
  refine bR hF (D := Int) [0, 1] (fun d => [(5, .val (.i .i64) d)]) (fun d => []) h rfl (by simp only [go_sem]) ?_
  rintro i_20 A4 T4 hA4 hE4 h
  simp only [go_sem]
  replace h : sat (yQ F a_0 b_1 i_20) _ := h
  unfold yQ at h
  refine aNE h (fun hc h => ?_) fun hc h => ?_
  ·refine aP h fun g0 h => aP h fun g1 h => ?_
   refine dR h (fun hc h => ?_) fun hc h => ?_
   ·refine aP h fun g0 h => aP h fun g1 h => ?_
    obtain ⟨v_33, hv, h⟩ := aI h
    try simp only [hv, go_sem]
    replace h := hE4 _ (aA h)
    try dsimp only at h
    exact aF hF [.tmp 4] rfl rfl rfl (aA h) (by simp only [aR, go_sem])
   ·refine aP h fun g0 h => ?_
    replace h := hA4 _ (aA h)
    exact aS _ h rfl (by simp only [go_sem])
  ·replace h := hE4 _ (aA h)
   try dsimp only at h
   exact aF hF [.tmp 4] rfl rfl rfl (aA h) (by simp only [aR, go_sem])
attribute [go_sem] lZ
noncomputable def yR (F : Md) (a_0 : (List Nat)) : Option Int :=
 if (((a_0.length) : Nat) : Int) = (0 : Int) then some (0 : Int) else ck (I64 ((64 : Int) * (((a_0.length) : Nat) : Int))) (ck (I64 ((((a_0.length) : Nat) : Int) - (1 : Int))) (ck (0 ≤ ((((a_0.length) : Nat) : Int) - (1 : Int)) ∧ ((((a_0.length) : Nat) : Int) - (1 : Int)) < (((a_0.length) : Nat) : Int)) ((bG F (a_0.getD ((((a_0.length) : Nat) : Int) - (1 : Int)).toNat (0 : Nat))).bind (fun v_5 => ck (I64 (((64 : Int) * (((a_0.length) : Nat) : Int)) - v_5)) (some (((64 : Int) * (((a_0.length) : Nat) : Int)) - v_5))))))
def aHl : PlR := ⟨[(0, .A [0]), (1, .A [0, 5]), (2, .A [2]), (3, .A [2])], []⟩
def aJz : Ty := .pair (.sl (.u .u64)) .unit
noncomputable def zY (F : Md) : aG := mSpec aJz (.one (.i .i64)) (fun x => yR F x.1)
noncomputable def aJA (F : Md) : List (FuncId × aG) := [(188, (dN F))]
theorem aNN (F : Md) : bD Tryz.prog GL (aJA F) := .cons (nC F) (by kernel_rfl) (.nil)
theorem aJB (F : Md) : gam (aJA F) 188 = some (dN F) := rfl
attribute [go_sem] aJz aHl aJB
set_option maxHeartbeats 4000000 in
theorem aMW (F : Md) : FOK Tryz.prog GL 121 (zY F) := by
 refine bH (aY (aNN F)) mix Tryz.func121 rfl (by kernel_rfl) (by decide) aHl fun w0 S x Θ hw h hF => ?_
 obtain ⟨(a_0 : (List Nat)), u⟩ := x
 simp only [bL, go_sem]
 replace h : sat (yR F a_0) _ := h
 unfold yR at h
 refine dR h (fun hc h => ?_) fun hc h => ?_
 ·exact aF hF [.tmp 2] rfl rfl rfl (aA h) (by simp only [aR, go_sem])
 ·refine aP h fun g0 h => aP h fun g1 h => aP h fun g2 h => ?_
  obtain ⟨v_5, hv, h⟩ := aI h
  try simp only [hv, go_sem]
  refine aP h fun g0 h => ?_
  exact aF hF [.tmp 2] rfl rfl rfl (aA h) (by simp only [aR, go_sem])
attribute [go_sem] zY
noncomputable def yS (F : Md) (a_0 : (List Nat)) (x7_10 : Int) : Option ((Int) ⊕ ((Unit) ⊕ Int)) :=
 if x7_10 < (((a_0.length) : Nat) : Int) then ck (0 ≤ x7_10 ∧ x7_10 < (((a_0.length) : Nat) : Int)) (if ¬ ((a_0.getD (x7_10.toNat) (0 : Nat)) = (0 : Nat)) then ck (I64 ((64 : Int) * x7_10)) ((kC F (a_0.getD (x7_10.toNat) (0 : Nat))).bind (fun v_19 => ck (I64 (((64 : Int) * x7_10) + v_19)) (some (.inr (.inr (((64 : Int) * x7_10) + v_19)))))) else ck (I64 (x7_10 + (1 : Int))) (some (.inl (x7_10 + (1 : Int))))) else some (.inr (.inl ()))
noncomputable def dO (F : Md) (a_0 : (List Nat)) : Option Int :=
 (dM F (fun d : Int => yS F a_0 d) (0 : Int)).bind (fun e => match e with | (.inl e) => some (-1 : Int) | (.inr e) => some e)
def aFr : PlR := ⟨[(0, .A [0]), (1, .A [5, 6, 7]), (2, .A [5, 6, 7, 8]), (3, .A [3, 4, 5, 6, 7]), (4, .A [3, 4, 5, 6, 7, 13]), (5, .A [2]), (6, .A [5, 6, 7]), (7, .A [2])], []⟩
def aHm : Ty := .pair (.sl (.u .u64)) .unit
noncomputable def xF (F : Md) : aG := mSpec aHm (.one (.i .i64)) (fun x => dO F x.1)
noncomputable def aHn (F : Md) : List (FuncId × aG) := [(164, (jF F))]
theorem aMX (F : Md) : bD Tryz.prog GL (aHn F) := .cons (aAT F) (by kernel_rfl) (.nil)
theorem aHU (F : Md) : gam (aHn F) 164 = some (jF F) := rfl
attribute [go_sem] aHm aFr aHU
set_option maxHeartbeats 4000000 in
theorem aLX (F : Md) : FOK Tryz.prog GL 98 (xF F) := by
 refine bH (aY (aMX F)) mix Tryz.func98 rfl (by kernel_rfl) (by decide) aFr fun w0 S x Θ hw h hF => ?_
 obtain ⟨(a_0 : (List Nat)), u⟩ := x
 simp only [bL, go_sem]
 replace h : sat (dO F a_0) _ := h
 unfold dO at h
 refine bR hF (D := Int) [5, 6] (fun d => [(7, .val (.i .i64) d)]) (fun d => []) h rfl (by simp only [go_sem]) ?_
 rintro x7_10 A2 T2 hA2 hE2 h
 simp only [go_sem]
 replace h : sat (yS F a_0 x7_10) _ := h
 unfold yS at h
 refine eE h (fun hc h => ?_) fun hc h => ?_
 ·refine aP h fun g0 h => ?_
  refine dR h (fun hc h => ?_) fun hc h => ?_
  ·refine aP h fun g0 h => ?_
   obtain ⟨v_19, hv, h⟩ := aI h
   try simp only [hv, go_sem]
   refine aP h fun g0 h => ?_
   replace h := hE2 _ (aA h)
   try dsimp only at h
   exact aF hF [.tmp 2] rfl rfl rfl (aA h) (by simp only [aR, go_sem])
  ·refine aP h fun g0 h => ?_
   replace h := hA2 _ (aA h)
   exact aS _ h rfl (by simp only [go_sem])
 ·replace h := hE2 _ (aA h)
  try dsimp only at h
  exact aF hF [.tmp 2] rfl rfl rfl (aA h) (by simp only [aR, go_sem])
attribute [go_sem] xF
noncomputable def yT (F : Md) (a_0 : (List Nat)) : Option (List Nat) :=
 (gG F a_0).bind (fun v_3 => ck (aQX v_3) (some (id v_3)))
def aHo : PlR := ⟨[(0, .A [0]), (1, .B [2])], []⟩
def aJC : Ty := .pair (.sl (.u .u64)) .unit
noncomputable def rZ (F : Md) : aG := mSpec aJC (.one (.sl (.u .u64))) (fun x => yT F x.1)
noncomputable def aEr (F : Md) : List (FuncId × aG) := [(163, (eG F)), (165, cB)]
theorem aNO (F : Md) : bD Tryz.prog GL (aEr F) := .cons (oP F) (by kernel_rfl) (.cons kB (by kernel_rfl) (.nil))
theorem aJD (F : Md) : gam (aEr F) 163 = some (eG F) := rfl
theorem aJE (F : Md) : gam (aEr F) 165 = some cB := rfl
attribute [go_sem] aJC aHo aJD aJE
set_option maxHeartbeats 4000000 in
theorem aHp (F : Md) : FOK Tryz.prog GL 231 (rZ F) := by
 refine bH (aY (aNO F)) mix Tryz.func231 rfl (by kernel_rfl) (by decide) aHo fun w0 S x Θ hw h hF => ?_
 obtain ⟨(a_0 : (List Nat)), u⟩ := x
 simp only [bL, go_sem]
 replace h : sat (yT F a_0) _ := h
 unfold yT at h
 obtain ⟨v_3, hv, h⟩ := aI h
 try simp only [hv, go_sem]
 refine aP h fun g0 h => ?_
 exact aF hF [.tmp 2] rfl rfl rfl (aA h) (by simp only [aR, go_sem])
attribute [go_sem] rZ
noncomputable def qI (F : Md) (x22_13 : Int) (out_14 : (List Nat)) (carry_12 : Nat) (x_21 : Nat) : Option ((Nat × Int × (List Nat)) ⊕ (List Nat)) :=
 ck (0 ≤ x22_13 ∧ x22_13 < (((out_14.length) : Nat) : Int)) (ck (aLQ (out_14.getD (x22_13.toNat) (0 : Nat)) x_21 carry_12) (ck (0 ≤ x22_13 ∧ x22_13 < (((out_14.length) : Nat) : Int)) (ck (I64 (x22_13 + (1 : Int))) (some (.inl ((aBB (out_14.getD (x22_13.toNat) (0 : Nat)) x_21 carry_12).2.1, (x22_13 + (1 : Int)), (out_14.set (x22_13.toNat) (aBB (out_14.getD (x22_13.toNat) (0 : Nat)) x_21 carry_12).1)))))))
noncomputable def aAv (F : Md) (a_3 : (List Nat)) (b_4 : (List Nat)) (carry_12 : Nat) (x22_13 : Int) (out_14 : (List Nat)) : Option ((Nat × Int × (List Nat)) ⊕ (List Nat)) :=
 if x22_13 < ((((id a_3) ++ ([0] : List Nat)).length : Nat) : Int) then if x22_13 < (((b_4.length) : Nat) : Int) then ck (0 ≤ x22_13 ∧ x22_13 < (((b_4.length) : Nat) : Int)) (qI F x22_13 out_14 carry_12 (b_4.getD (x22_13.toNat) (0 : Nat))) else if carry_12 = (0 : Nat) then some (.inr out_14) else qI F x22_13 out_14 carry_12 (0 : Nat) else some (.inr out_14)
noncomputable def qJ (F : Md) (a_3 : (List Nat)) (b_4 : (List Nat)) : Option (List Nat) :=
 ck (aQX a_3) (ck (((id a_3).length + (1 : Nat)) * 8 ≤ 140737488355328) ((dM F (fun d : Nat × Int × (List Nat) => aAv F a_3 b_4 d.1 d.2.1 d.2.2) ((0 : Nat), (0 : Int), ((id a_3) ++ ([0] : List Nat)))).bind (fun e => (gG F e).bind (fun v_27 => some v_27))))
noncomputable def aBH (F : Md) (a_0 : (List Nat)) (b_1 : (List Nat)) : Option (List Nat) :=
 if (((a_0.length) : Nat) : Int) < (((b_1.length) : Nat) : Int) then qJ F b_1 a_0 else qJ F a_0 b_1
def aHq : PlR := ⟨[(0, .A [0, 1]), (1, .A [0, 1, 13]), (2, .A [0, 1]), (3, .B [1, 5]), (4, .A [1, 5, 6]), (5, .A [1, 5, 6, 21, 22]), (6, .A [1, 5, 6, 21, 22, 23]), (7, .A [1, 5, 6, 7, 21, 22]), (8, .A [1, 5, 6, 7, 8, 21, 22]), (9, .A [1, 5, 6, 7, 8, 21, 22, 25]), (10, .A [1, 5, 6, 7, 8, 21, 22]), (11, .A [1, 5, 6, 7, 8, 21, 22, 34]), (12, .B [1, 5, 6, 21, 22]), (13, .A [1, 5, 6, 21, 22]), (14, .B [4])], [(4, 6), (12, 15)]⟩
def aJF : Ty := .pair (.sl (.u .u64)) (.pair (.sl (.u .u64)) .unit)
noncomputable def zZ (F : Md) : aG := mSpec aJF (.one (.sl (.u .u64))) (fun x => aBH F x.1 x.2.1)
noncomputable def aBI (F : Md) : List (FuncId × aG) := [(162, nU), (163, (eG F)), (165, cB)]
theorem aNP (F : Md) : bD Tryz.prog GL (aBI F) := .nat aDN (.cons (oP F) (by kernel_rfl) (.cons kB (by kernel_rfl) (.nil)))
theorem aJG (F : Md) : gam (aBI F) 162 = some nU := rfl
theorem aJH (F : Md) : gam (aBI F) 163 = some (eG F) := rfl
theorem aJI (F : Md) : gam (aBI F) 165 = some cB := rfl
attribute [go_sem] aJF aHq aJG aJH aJI
set_option maxHeartbeats 4000000 in
theorem aMY (F : Md) : FOK Tryz.prog GL 99 (zZ F) := by
 refine bH (aY (aNP F)) mix Tryz.func99 rfl (by kernel_rfl) (by decide) aHq fun w0 S x Θ hw h hF => ?_
 obtain ⟨(a_0 : (List Nat)), (b_1 : (List Nat)), u⟩ := x
 simp only [bL, go_sem]
 replace h : sat (aBH F a_0 b_1) _ := h
 unfold aBH at h
 refine dZ hF (D := (List Nat) × (List Nat)) (fun d => sat (qJ F d.1 d.2) Θ) [] (fun d => [(0, .val (.sl (.u .u64)) d.1), (1, .val (.sl (.u .u64)) d.2)]) (fun d => []) ?_ ?_
 ·simp only [go_sem]
  refine eE h (fun hc h => ?_) fun hc h => ?_
  ·exact aS (b_1, a_0) h rfl (by simp only [go_sem])
  ·exact aS (a_0, b_1) h rfl (by simp only [go_sem])
 ·rintro ⟨a_3, b_4⟩ h
  simp only [go_sem]
  replace h : sat (qJ F a_3 b_4) _ := h
  unfold qJ at h
  refine aP h fun g0 h => ?_
  obtain ⟨g0, h⟩ := aJ h
  repeat (refine ⟨by omega, ?_⟩)
  refine aFe [1] rfl rfl ?_
  simp only [go_sem]
  refine bR hF (D := Nat × Int × (List Nat)) [1, 21] (fun d => [(5, .own 0), (6, .val (.u .u64) d.1), (22, .val (.i .i64) d.2.1)]) (fun d => [.inr (.row 83 (.u .u64) d.2.2)]) h rfl (by simp only [go_sem]) ?_
  rintro ⟨carry_12, x22_13, out_14⟩ A6 T6 hA6 hE6 h
  simp only [go_sem]
  replace h : sat (aAv F a_3 b_4 carry_12 x22_13 out_14) _ := h
  unfold aAv at h
  refine eE h (fun hc h => ?_) fun hc h => ?_
  ·refine dZ hF (D := Nat) (fun d => sat (qI F x22_13 out_14 carry_12 d) T6) [1, 6, 7, 21, 22] (fun d => [(5, .own 0), (8, .val (.u .u64) d)]) (fun d => [.inr (.row 83 (.u .u64) out_14)]) ?_ ?_
   ·simp only [go_sem]
    refine eE h (fun hc h => ?_) fun hc h => ?_
    ·obtain ⟨g0, h⟩ := aJ h
     repeat (refine ⟨by omega, ?_⟩)
     exact aS (b_4.getD (x22_13.toNat) (0 : Nat)) h rfl (by simp only [go_sem])
    ·refine dR h (fun hc h => ?_) fun hc h => ?_
     ·replace h := hE6 _ (aA h)
      try dsimp only at h
      obtain ⟨v_23, hv, h⟩ := aI h
      try simp only [hv, go_sem]
      exact aF hF [.tmp 4] rfl rfl rfl (aA h) (by simp only [aR, go_sem])
     ·exact aS (0 : Nat) h rfl (by simp only [go_sem])
   ·rintro x_21 h
    simp only [go_sem]
    replace h : sat (qI F x22_13 out_14 carry_12 x_21) _ := h
    unfold qI at h
    obtain ⟨g0, h⟩ := aJ h
    repeat (refine ⟨by omega, ?_⟩)
    obtain ⟨g0, h⟩ := aJ h
    repeat (refine ⟨by omega, ?_⟩)
    obtain ⟨g0, h⟩ := aJ h
    repeat (refine ⟨by omega, ?_⟩)
    refine aP h fun g0 h => ?_
    replace h := hA6 _ (aA h)
    exact aS _ h rfl (by simp only [go_sem])
  ·replace h := hE6 _ (aA h)
   try dsimp only at h
   obtain ⟨v_25, hv, h⟩ := aI h
   try simp only [hv, go_sem]
   exact aF hF [.tmp 4] rfl rfl rfl (aA h) (by simp only [aR, go_sem])
attribute [go_sem] zZ
noncomputable def sZ (F : Md) (x22_46 : Int) (b_1 : (List Nat)) (carry_86 : Nat) (out_87 : (List Nat)) : Option ((Int × (List Nat)) ⊕ (List Nat)) :=
 ck (I64 (x22_46 + (((b_1.length) : Nat) : Int))) (ck (0 ≤ (x22_46 + (((b_1.length) : Nat) : Int)) ∧ (x22_46 + (((b_1.length) : Nat) : Int)) < (((out_87.length) : Nat) : Int)) (ck (I64 (x22_46 + (1 : Int))) (some (.inl ((x22_46 + (1 : Int)), (out_87.set (x22_46 + (((b_1.length) : Nat) : Int)).toNat carry_86))))))
noncomputable def yU (F : Md) (b_1 : (List Nat)) (a_0 : (List Nat)) (x22_46 : Int) (carry_90 : Nat) (x29_91 : Int) (out_92 : (List Nat)) : Option ((Nat × Int × (List Nat)) ⊕ (Nat × (List Nat))) :=
 if x29_91 < (((b_1.length) : Nat) : Int) then ck (0 ≤ x29_91 ∧ x29_91 < (((b_1.length) : Nat) : Int)) ((xD F (a_0.getD (x22_46.toNat) (0 : Nat)) (b_1.getD (x29_91.toNat) (0 : Nat))).bind (fun v_105 => ck (aLQ v_105.2.1 carry_90 (0 : Nat)) (ck (I64 (x22_46 + x29_91)) (ck (I64 (x22_46 + x29_91)) (ck (0 ≤ (x22_46 + x29_91) ∧ (x22_46 + x29_91) < (((out_92.length) : Nat) : Int)) (ck (aLQ (out_92.getD (x22_46 + x29_91).toNat (0 : Nat)) (aBB v_105.2.1 carry_90 (0 : Nat)).1 (0 : Nat)) (ck (0 ≤ (x22_46 + x29_91) ∧ (x22_46 + x29_91) < (((out_92.length) : Nat) : Int)) (ck (I64 (x29_91 + (1 : Int))) (some (.inl (((((v_105.1 + (aBB v_105.2.1 carry_90 (0 : Nat)).2.1) % 18446744073709551616) + (aBB (out_92.getD (x22_46 + x29_91).toNat (0 : Nat)) (aBB v_105.2.1 carry_90 (0 : Nat)).1 (0 : Nat)).2.1) % 18446744073709551616), (x29_91 + (1 : Int)), (out_92.set (x22_46 + x29_91).toNat (aBB (out_92.getD (x22_46 + x29_91).toNat (0 : Nat)) (aBB v_105.2.1 carry_90 (0 : Nat)).1 (0 : Nat)).1)))))))))))) else some (.inr (carry_90, out_92))
noncomputable def yV (F : Md) (a_0 : (List Nat)) (b_1 : (List Nat)) (x22_46 : Int) (out_47 : (List Nat)) : Option ((Int × (List Nat)) ⊕ (List Nat)) :=
 if x22_46 < (((a_0.length) : Nat) : Int) then ck (0 ≤ x22_46 ∧ x22_46 < (((a_0.length) : Nat) : Int)) ((dM F (fun d : Nat × Int × (List Nat) => yU F b_1 a_0 x22_46 d.1 d.2.1 d.2.2) ((0 : Nat), (0 : Int), out_47)).bind (fun e => sZ F x22_46 b_1 e.1 e.2)) else some (.inr out_47)
noncomputable def gK (F : Md) (a_0 : (List Nat)) (b_1 : (List Nat)) : Option (List Nat) :=
 ck (I64 ((((a_0.length) : Nat) : Int) + (((b_1.length) : Nat) : Int))) (ck (0 ≤ ((((a_0.length) : Nat) : Int) + (((b_1.length) : Nat) : Int))) (ck ((8 : Int) * ((((a_0.length) : Nat) : Int) + (((b_1.length) : Nat) : Int)) ≤ 281474976710656) ((dM F (fun d : Int × (List Nat) => yV F a_0 b_1 d.1 d.2) ((0 : Int), (List.replicate ((((a_0.length) : Nat) : Int) + (((b_1.length) : Nat) : Int)).toNat (0 : Nat)))).bind (fun e => (gG F e).bind (fun v_109 => some v_109)))))
def aFs : PlR := ⟨[(0, .A [0, 1]), (1, .B [0, 1, 5]), (2, .A [1, 5, 20, 21, 22]), (3, .A [1, 5, 20, 21, 22, 23]), (4, .A [1, 5, 6, 7, 20, 21, 22]), (5, .A [1, 5, 6, 7, 8, 20, 21, 22]), (6, .A [1, 5, 6, 7, 8, 20, 21, 22, 27, 28, 29]), (7, .A [1, 5, 6, 7, 8, 20, 21, 22, 27, 28, 29, 30]), (8, .A [1, 5, 6, 7, 8, 9, 10, 20, 21, 22, 27, 28, 29]), (9, .A [1, 5, 6, 7, 8, 9, 11, 12, 20, 21, 22, 27, 28, 29]), (10, .A [1, 5, 6, 7, 8, 9, 11, 12, 20, 21, 22, 27, 28, 29]), (11, .A [1, 5, 6, 7, 9, 11, 12, 13, 20, 21, 22, 27, 28, 29]), (12, .A [1, 5, 6, 7, 9, 11, 12, 20, 21, 22, 27, 28, 29]), (13, .B [1, 5, 6, 7, 11, 13, 20, 21, 22, 27, 28, 29]), (14, .A [1, 5, 6, 7, 8, 20, 21, 22, 27, 28, 29]), (15, .A [1, 5, 6, 7, 8, 20, 21, 22, 27, 28, 29]), (16, .B [1, 5, 20, 21, 22]), (17, .A [1, 5, 20, 21, 22]), (18, .B [4])], [(9, 19)]⟩
def aHr : Ty := .pair (.sl (.u .u64)) (.pair (.sl (.u .u64)) .unit)
noncomputable def eP (F : Md) : aG := mSpec aHr (.one (.sl (.u .u64))) (fun x => gK F x.1 x.2.1)
noncomputable def aAa (F : Md) : List (FuncId × aG) := [(161, (vD F)), (162, nU), (163, (eG F))]
theorem aMZ (F : Md) : bD Tryz.prog GL (aAa F) := .cons (aKr F) (by kernel_rfl) (.nat aDN (.cons (oP F) (by kernel_rfl) (.nil)))
theorem aHV (F : Md) : gam (aAa F) 161 = some (vD F) := rfl
theorem aHW (F : Md) : gam (aAa F) 162 = some nU := rfl
theorem aHX (F : Md) : gam (aAa F) 163 = some (eG F) := rfl
attribute [go_sem] aHr aFs aHV aHW aHX
set_option maxHeartbeats 4000000 in
theorem pB (F : Md) : FOK Tryz.prog GL 94 (eP F) := by
 refine bH (aY (aMZ F)) mix Tryz.func94 rfl (by kernel_rfl) (by decide) aFs fun w0 S x Θ hw h hF => ?_
 obtain ⟨(a_0 : (List Nat)), (b_1 : (List Nat)), u⟩ := x
 simp only [bL, go_sem]
 replace h : sat (gK F a_0 b_1) _ := h
 unfold gK at h
 obtain ⟨g0, h⟩ := aJ h
 repeat (refine ⟨by omega, ?_⟩)
 obtain ⟨g0, h⟩ := aJ h
 obtain ⟨g1, h⟩ := aJ h
 repeat (refine ⟨by omega, ?_⟩)
 refine bR hF (D := Int × (List Nat)) [1, 20, 21] (fun d => [(5, .own 0), (22, .val (.i .i64) d.1)]) (fun d => [.inr (.row 83 (.u .u64) d.2)]) h rfl (by simp only [go_sem]) ?_
 rintro ⟨x22_46, out_47⟩ A3 T3 hA3 hE3 h
 simp only [go_sem]
 replace h : sat (yV F a_0 b_1 x22_46 out_47) _ := h
 unfold yV at h
 refine eE h (fun hc h => ?_) fun hc h => ?_
 ·obtain ⟨g0, h⟩ := aJ h
  repeat (refine ⟨by omega, ?_⟩)
  refine dZ hF (D := Nat × (List Nat)) (fun d => sat (sZ F x22_46 b_1 d.1 d.2) T3) [1, 6, 20, 21, 22] (fun d => [(5, .own 0), (8, .val (.u .u64) d.1)]) (fun d => [.inr (.row 83 (.u .u64) d.2)]) ?_ ?_
  ·simp only [go_sem]
   refine bR hF (D := Nat × Int × (List Nat)) [1, 6, 7, 20, 21, 22, 27, 28] (fun d => [(5, .own 0), (8, .val (.u .u64) d.1), (29, .val (.i .i64) d.2.1)]) (fun d => [.inr (.row 83 (.u .u64) d.2.2)]) h rfl (by simp only [go_sem]) ?_
   rintro ⟨carry_90, x29_91, out_92⟩ A7 T7 hA7 hE7 h
   simp only [go_sem]
   replace h : sat (yU F b_1 a_0 x22_46 carry_90 x29_91 out_92) _ := h
   unfold yU at h
   refine eE h (fun hc h => ?_) fun hc h => ?_
   ·obtain ⟨g0, h⟩ := aJ h
    repeat (refine ⟨by omega, ?_⟩)
    obtain ⟨v_105, hv, h⟩ := aI h
    try simp only [hv, go_sem]
    obtain ⟨g0, h⟩ := aJ h
    repeat (refine ⟨by omega, ?_⟩)
    obtain ⟨g0, h⟩ := aJ h
    repeat (refine ⟨by omega, ?_⟩)
    obtain ⟨g0, h⟩ := aJ h
    repeat (refine ⟨by omega, ?_⟩)
    obtain ⟨g0, h⟩ := aJ h
    repeat (refine ⟨by omega, ?_⟩)
    obtain ⟨g0, h⟩ := aJ h
    repeat (refine ⟨by omega, ?_⟩)
    obtain ⟨g0, h⟩ := aJ h
    repeat (refine ⟨by omega, ?_⟩)
    obtain ⟨g0, h⟩ := aJ h
    repeat (refine ⟨by omega, ?_⟩)
    replace h := hA7 _ (aA h)
    exact aS _ h rfl (by simp only [go_sem])
   ·replace h := hE7 _ (aA h)
    try dsimp only at h
    exact aS (carry_90, out_92) h rfl (by simp only [go_sem])
  ·rintro ⟨carry_86, out_87⟩ h
   simp only [go_sem]
   replace h : sat (sZ F x22_46 b_1 carry_86 out_87) _ := h
   unfold sZ at h
   obtain ⟨g0, h⟩ := aJ h
   repeat (refine ⟨by omega, ?_⟩)
   obtain ⟨g0, h⟩ := aJ h
   repeat (refine ⟨by omega, ?_⟩)
   obtain ⟨g0, h⟩ := aJ h
   try simp only [I64, I32] at g0
   repeat (refine ⟨zAA, ?_⟩)
   replace h := hA3 _ (aA h)
   exact aS _ h rfl (by simp only [go_sem])
 ·replace h := hE3 _ (aA h)
  try dsimp only at h
  obtain ⟨v_107, hv, h⟩ := aI h
  try simp only [hv, go_sem]
  exact aF hF [.tmp 4] rfl rfl rfl (aA h) (by simp only [aR, go_sem])
attribute [go_sem] eP
noncomputable def aAw (F : Md) (a_0 : (List Nat)) (n_1 : Int) (x20_7 : Int) (out_8 : (List Nat)) : Option ((Int × (List Nat)) ⊕ (List Nat)) :=
 if x20_7 < (((a_0.length) : Nat) : Int) then ck (0 ≤ x20_7 ∧ x20_7 < (((a_0.length) : Nat) : Int)) (ck (I64 (Int.tdiv n_1 (64 : Int))) (ck (I64 ((Int.tdiv n_1 (64 : Int)) + x20_7)) (ck (0 ≤ ((Int.tdiv n_1 (64 : Int)) + x20_7) ∧ ((Int.tdiv n_1 (64 : Int)) + x20_7) < (((out_8.length) : Nat) : Int)) (ck (0 ≤ ((Int.tdiv n_1 (64 : Int)) + x20_7) ∧ ((Int.tdiv n_1 (64 : Int)) + x20_7) < (((out_8.length) : Nat) : Int)) (ck (I64 (Int.tdiv n_1 (64 : Int))) (ck (I64 ((Int.tdiv n_1 (64 : Int)) + x20_7)) (ck (I64 (((Int.tdiv n_1 (64 : Int)) + x20_7) + (1 : Int))) (ck (0 ≤ (((Int.tdiv n_1 (64 : Int)) + x20_7) + (1 : Int)) ∧ (((Int.tdiv n_1 (64 : Int)) + x20_7) + (1 : Int)) < (((out_8.set ((Int.tdiv n_1 (64 : Int)) + x20_7).toNat ((out_8.getD ((Int.tdiv n_1 (64 : Int)) + x20_7).toNat (0 : Nat)) ||| (((a_0.getD (x20_7.toNat) (0 : Nat)) * (2 ^ ((Int.tmod n_1 (64 : Int)) % (18446744073709551616 : Int)).toNat)) % 18446744073709551616))).length : Nat) : Int)) (ck (I64 ((63 : Int) - (Int.tmod n_1 (64 : Int)))) (ck (0 ≤ (((Int.tdiv n_1 (64 : Int)) + x20_7) + (1 : Int)) ∧ (((Int.tdiv n_1 (64 : Int)) + x20_7) + (1 : Int)) < (((out_8.set ((Int.tdiv n_1 (64 : Int)) + x20_7).toNat ((out_8.getD ((Int.tdiv n_1 (64 : Int)) + x20_7).toNat (0 : Nat)) ||| (((a_0.getD (x20_7.toNat) (0 : Nat)) * (2 ^ ((Int.tmod n_1 (64 : Int)) % (18446744073709551616 : Int)).toNat)) % 18446744073709551616))).length : Nat) : Int)) (ck (I64 (x20_7 + (1 : Int))) (some (.inl ((x20_7 + (1 : Int)), ((out_8.set ((Int.tdiv n_1 (64 : Int)) + x20_7).toNat ((out_8.getD ((Int.tdiv n_1 (64 : Int)) + x20_7).toNat (0 : Nat)) ||| (((a_0.getD (x20_7.toNat) (0 : Nat)) * (2 ^ ((Int.tmod n_1 (64 : Int)) % (18446744073709551616 : Int)).toNat)) % 18446744073709551616))).set (((Int.tdiv n_1 (64 : Int)) + x20_7) + (1 : Int)).toNat (((out_8.set ((Int.tdiv n_1 (64 : Int)) + x20_7).toNat ((out_8.getD ((Int.tdiv n_1 (64 : Int)) + x20_7).toNat (0 : Nat)) ||| (((a_0.getD (x20_7.toNat) (0 : Nat)) * (2 ^ ((Int.tmod n_1 (64 : Int)) % (18446744073709551616 : Int)).toNat)) % 18446744073709551616))).getD (((Int.tdiv n_1 (64 : Int)) + x20_7) + (1 : Int)).toNat (0 : Nat)) ||| (((a_0.getD (x20_7.toNat) (0 : Nat)) / (2 : Nat)) / (2 ^ (((63 : Int) - (Int.tmod n_1 (64 : Int))) % (18446744073709551616 : Int)).toNat)))))))))))))))))) else some (.inr out_8)
noncomputable def iG (F : Md) (a_0 : (List Nat)) (n_1 : Int) : Option (List Nat) :=
 if (((a_0.length) : Nat) : Int) = (0 : Int) then some ([] : List Nat) else ck (I64 (Int.tdiv n_1 (64 : Int))) (ck (I64 ((Int.tdiv n_1 (64 : Int)) + (((a_0.length) : Nat) : Int))) (ck (I64 (((Int.tdiv n_1 (64 : Int)) + (((a_0.length) : Nat) : Int)) + (1 : Int))) (ck (0 ≤ (((Int.tdiv n_1 (64 : Int)) + (((a_0.length) : Nat) : Int)) + (1 : Int))) (ck ((8 : Int) * (((Int.tdiv n_1 (64 : Int)) + (((a_0.length) : Nat) : Int)) + (1 : Int)) ≤ 281474976710656) ((dM F (fun d : Int × (List Nat) => aAw F a_0 n_1 d.1 d.2) ((0 : Int), (List.replicate (((Int.tdiv n_1 (64 : Int)) + (((a_0.length) : Nat) : Int)) + (1 : Int)).toNat (0 : Nat)))).bind (fun e => (gG F e).bind (fun v_15 => some v_15)))))))
def aHs : PlR := ⟨[(0, .A [0, 1]), (1, .A [0, 1, 10]), (2, .A [4]), (3, .B [0, 1, 5]), (4, .A [1, 5, 18, 19, 20]), (5, .A [1, 5, 18, 19, 20, 21]), (6, .A [1, 5, 6, 7, 18, 19, 20]), (7, .B [1, 5, 6, 7, 18, 19, 20]), (8, .B [1, 5, 18, 19, 20]), (9, .A [1, 5, 18, 19, 20]), (10, .B [4])], []⟩
def aJJ : Ty := .pair (.sl (.u .u64)) (.pair (.i .i64) .unit)
noncomputable def sA (F : Md) : aG := mSpec aJJ (.one (.sl (.u .u64))) (fun x => iG F x.1 x.2.1)
noncomputable def aJK (F : Md) : List (FuncId × aG) := [(163, (eG F))]
theorem aNQ (F : Md) : bD Tryz.prog GL (aJK F) := .cons (oP F) (by kernel_rfl) (.nil)
theorem aJL (F : Md) : gam (aJK F) 163 = some (eG F) := rfl
attribute [go_sem] aJJ aHs aJL
set_option maxHeartbeats 4000000 in
theorem aHt (F : Md) : FOK Tryz.prog GL 95 (sA F) := by
 refine bH (aY (aNQ F)) mix Tryz.func95 rfl (by kernel_rfl) (by decide) aHs fun w0 S x Θ hw h hF => ?_
 obtain ⟨(a_0 : (List Nat)), (n_1 : Int), u⟩ := x
 simp only [bL, go_sem]
 replace h : sat (iG F a_0 n_1) _ := h
 unfold iG at h
 refine dR h (fun hc h => ?_) fun hc h => ?_
 ·exact aF hF [.tmp 4] rfl rfl rfl (aA h) (by simp only [aR, go_sem])
 ·obtain ⟨g0, h⟩ := aJ h
  try simp only [I64, I32] at g0
  repeat (refine ⟨zAA, ?_⟩)
  obtain ⟨g0, h⟩ := aJ h
  try simp only [I64, I32] at g0
  repeat (refine ⟨zAA, ?_⟩)
  obtain ⟨g0, h⟩ := aJ h
  try simp only [I64, I32] at g0
  repeat (refine ⟨zAA, ?_⟩)
  obtain ⟨g0, h⟩ := aJ h
  obtain ⟨g1, h⟩ := aJ h
  repeat (refine ⟨zAA, ?_⟩)
  refine bR hF (D := Int × (List Nat)) [1, 18, 19] (fun d => [(5, .own 0), (20, .val (.i .i64) d.1)]) (fun d => [.inr (.row 83 (.u .u64) d.2)]) h rfl (by simp only [go_sem]) ?_
  rintro ⟨x20_7, out_8⟩ A5 T5 hA5 hE5 h
  simp only [go_sem]
  replace h : sat (aAw F a_0 n_1 x20_7 out_8) _ := h
  unfold aAw at h
  refine eE h (fun hc h => ?_) fun hc h => ?_
  ·obtain ⟨g0, h⟩ := aJ h
   repeat (refine ⟨zAA, ?_⟩)
   obtain ⟨g0, h⟩ := aJ h
   try simp only [I64, I32] at g0
   repeat (refine ⟨zAA, ?_⟩)
   obtain ⟨g0, h⟩ := aJ h
   try simp only [I64, I32] at g0
   repeat (refine ⟨zAA, ?_⟩)
   obtain ⟨g0, h⟩ := aJ h
   repeat (refine ⟨zAA, ?_⟩)
   obtain ⟨g0, h⟩ := aJ h
   repeat (refine ⟨zAA, ?_⟩)
   obtain ⟨g0, h⟩ := aJ h
   try simp only [I64, I32] at g0
   repeat (refine ⟨zAA, ?_⟩)
   obtain ⟨g0, h⟩ := aJ h
   try simp only [I64, I32] at g0
   repeat (refine ⟨zAA, ?_⟩)
   obtain ⟨g0, h⟩ := aJ h
   try simp only [I64, I32] at g0
   repeat (refine ⟨zAA, ?_⟩)
   obtain ⟨g0, h⟩ := aJ h
   repeat (refine ⟨zAA, ?_⟩)
   obtain ⟨g0, h⟩ := aJ h
   try simp only [I64, I32] at g0
   repeat (refine ⟨zAA, ?_⟩)
   obtain ⟨g0, h⟩ := aJ h
   repeat (refine ⟨zAA, ?_⟩)
   obtain ⟨g0, h⟩ := aJ h
   try simp only [I64, I32] at g0
   repeat (refine ⟨zAA, ?_⟩)
   replace h := hA5 _ (aA h)
   exact aS _ h rfl (by (try simp only [kR, hN, true_or, and_self, go_sem]) <;> (repeat' apply And.intro) <;> first | rfl | (left; rfl) | (right; rfl) | (left; simp only [go_sem]; done) | (right; simp only [go_sem]; done) | (simp; done) | (simp only [*]; done) | omega)
  ·replace h := hE5 _ (aA h)
   try dsimp only at h
   obtain ⟨v_13, hv, h⟩ := aI h
   try simp only [hv, go_sem]
   exact aF hF [.tmp 4] rfl rfl rfl (aA h) (by simp only [aR, go_sem])
attribute [go_sem] sA
noncomputable def yW (F : Md) (n_1 : Int) (a_0 : (List Nat)) (x22_10 : Int) (out_11 : (List Nat)) : Option ((Int × (List Nat)) ⊕ (List Nat)) :=
 if x22_10 < (((List.drop (Int.tdiv n_1 (64 : Int)).toNat a_0).length : Nat) : Int) then ck (0 ≤ x22_10 ∧ x22_10 < (((List.drop (Int.tdiv n_1 (64 : Int)).toNat a_0).length : Nat) : Int)) (ck (0 ≤ x22_10 ∧ x22_10 < (((out_11.length) : Nat) : Int)) (ck (I64 (x22_10 + (1 : Int))) (if (x22_10 + (1 : Int)) < (((List.drop (Int.tdiv n_1 (64 : Int)).toNat a_0).length : Nat) : Int) then ck (0 ≤ x22_10 ∧ x22_10 < (((out_11.set (x22_10.toNat) (((List.drop (Int.tdiv n_1 (64 : Int)).toNat a_0).getD (x22_10.toNat) (0 : Nat)) / (2 ^ ((Int.tmod n_1 (64 : Int)) % (18446744073709551616 : Int)).toNat))).length : Nat) : Int)) (ck (I64 (x22_10 + (1 : Int))) (ck (0 ≤ (x22_10 + (1 : Int)) ∧ (x22_10 + (1 : Int)) < (((List.drop (Int.tdiv n_1 (64 : Int)).toNat a_0).length : Nat) : Int)) (ck (I64 ((63 : Int) - (Int.tmod n_1 (64 : Int)))) (ck (0 ≤ x22_10 ∧ x22_10 < (((out_11.set (x22_10.toNat) (((List.drop (Int.tdiv n_1 (64 : Int)).toNat a_0).getD (x22_10.toNat) (0 : Nat)) / (2 ^ ((Int.tmod n_1 (64 : Int)) % (18446744073709551616 : Int)).toNat))).length : Nat) : Int)) (ck (I64 (x22_10 + (1 : Int))) (some (.inl ((x22_10 + (1 : Int)), ((out_11.set (x22_10.toNat) (((List.drop (Int.tdiv n_1 (64 : Int)).toNat a_0).getD (x22_10.toNat) (0 : Nat)) / (2 ^ ((Int.tmod n_1 (64 : Int)) % (18446744073709551616 : Int)).toNat))).set (x22_10.toNat) (((out_11.set (x22_10.toNat) (((List.drop (Int.tdiv n_1 (64 : Int)).toNat a_0).getD (x22_10.toNat) (0 : Nat)) / (2 ^ ((Int.tmod n_1 (64 : Int)) % (18446744073709551616 : Int)).toNat))).getD (x22_10.toNat) (0 : Nat)) ||| ((((((List.drop (Int.tdiv n_1 (64 : Int)).toNat a_0).getD (x22_10 + (1 : Int)).toNat (0 : Nat)) * (2 : Nat)) % 18446744073709551616) * (2 ^ (((63 : Int) - (Int.tmod n_1 (64 : Int))) % (18446744073709551616 : Int)).toNat)) % 18446744073709551616))))))))))) else ck (I64 (x22_10 + (1 : Int))) (some (.inl ((x22_10 + (1 : Int)), (out_11.set (x22_10.toNat) (((List.drop (Int.tdiv n_1 (64 : Int)).toNat a_0).getD (x22_10.toNat) (0 : Nat)) / (2 ^ ((Int.tmod n_1 (64 : Int)) % (18446744073709551616 : Int)).toNat))))))))) else some (.inr out_11)
noncomputable def kO (F : Md) (a_0 : (List Nat)) (n_1 : Int) : Option (List Nat) :=
 ck (I64 (Int.tdiv n_1 (64 : Int))) (if (((a_0.length) : Nat) : Int) ≤ (Int.tdiv n_1 (64 : Int)) then some ([] : List Nat) else ck (I64 (Int.tdiv n_1 (64 : Int))) (ck (0 ≤ (Int.tdiv n_1 (64 : Int)) ∧ (Int.tdiv n_1 (64 : Int)) ≤ (((a_0.length) : Nat) : Int)) (ck (0 ≤ (((List.drop (Int.tdiv n_1 (64 : Int)).toNat a_0).length : Nat) : Int)) (ck ((8 : Int) * (((List.drop (Int.tdiv n_1 (64 : Int)).toNat a_0).length : Nat) : Int) ≤ 281474976710656) ((dM F (fun d : Int × (List Nat) => yW F n_1 a_0 d.1 d.2) ((0 : Int), (List.replicate (List.drop (Int.tdiv n_1 (64 : Int)).toNat a_0).length (0 : Nat)))).bind (fun e => (gG F e).bind (fun v_19 => some v_19)))))))
def aFt : PlR := ⟨[(0, .A [0, 1]), (1, .A [0, 1, 12]), (2, .A [4]), (3, .A [0, 1]), (4, .B [0, 1, 5]), (5, .A [0, 1, 5, 20, 21, 22]), (6, .A [0, 1, 5, 20, 21, 22, 23]), (7, .A [0, 1, 5, 6, 7, 20, 21, 22]), (8, .B [0, 1, 5, 6, 20, 21, 22]), (9, .A [0, 1, 5, 6, 20, 21, 22, 39]), (10, .C 17 [0, 1, 5, 20, 21, 22]), (11, .A [0, 1, 5, 20, 21, 22]), (12, .B [4])], []⟩
def aHu : Ty := .pair (.sl (.u .u64)) (.pair (.i .i64) .unit)
noncomputable def pC (F : Md) : aG := mSpec aHu (.one (.sl (.u .u64))) (fun x => kO F x.1 x.2.1)
noncomputable def aHv (F : Md) : List (FuncId × aG) := [(163, (eG F))]
theorem aM0 (F : Md) : bD Tryz.prog GL (aHv F) := .cons (oP F) (by kernel_rfl) (.nil)
theorem aHY (F : Md) : gam (aHv F) 163 = some (eG F) := rfl
attribute [go_sem] aHu aFt aHY
set_option maxHeartbeats 4000000 in
theorem aFu (F : Md) : FOK Tryz.prog GL 97 (pC F) := by
 refine bH (aY (aM0 F)) mix Tryz.func97 rfl (by kernel_rfl) (by decide) aFt fun w0 S x Θ hw h hF => ?_
 obtain ⟨(a_0 : (List Nat)), (n_1 : Int), u⟩ := x
 simp only [bL, go_sem]
 replace h : sat (kO F a_0 n_1) _ := h
 unfold kO at h
 obtain ⟨g0, h⟩ := aJ h
 try simp only [I64, I32] at g0
 repeat (refine ⟨zAA, ?_⟩)
 refine aNE h (fun hc h => ?_) fun hc h => ?_
 ·exact aF hF [.tmp 4] rfl rfl rfl (aA h) (by simp only [aR, go_sem])
 ·obtain ⟨g0, h⟩ := aJ h
  obtain ⟨g1, h⟩ := aJ h
  try simp only [I64, I32] at g0
  repeat (refine ⟨zAA, ?_⟩)
  obtain ⟨g0, h⟩ := aJ h
  obtain ⟨g1, h⟩ := aJ h
  repeat (refine ⟨zAA, ?_⟩)
  refine bR hF (D := Int × (List Nat)) [0, 1, 20, 21] (fun d => [(5, .own 0), (22, .val (.i .i64) d.1)]) (fun d => [.inr (.row 83 (.u .u64) d.2)]) h rfl (by simp only [go_sem]) ?_
  rintro ⟨x22_10, out_11⟩ A6 T6 hA6 hE6 h
  simp only [go_sem]
  replace h : sat (yW F n_1 a_0 x22_10 out_11) _ := h
  unfold yW at h
  refine eE h (fun hc h => ?_) fun hc h => ?_
  ·obtain ⟨g0, h⟩ := aJ h
   repeat (refine ⟨zAA, ?_⟩)
   obtain ⟨g0, h⟩ := aJ h
   repeat (refine ⟨zAA, ?_⟩)
   obtain ⟨g0, h⟩ := aJ h
   try simp only [I64, I32] at g0
   repeat (refine ⟨zAA, ?_⟩)
   refine ⟨fun hc => ?_, fun hc => ?_⟩
   ·replace h := iU hc h
    obtain ⟨g0, h⟩ := aJ h
    obtain ⟨g1, h⟩ := aJ h
    obtain ⟨g2, h⟩ := aJ h
    obtain ⟨g3, h⟩ := aJ h
    obtain ⟨g4, h⟩ := aJ h
    try simp only [I64, I32] at g1
    try simp only [I64, I32] at g3
    repeat (refine ⟨zAA, ?_⟩)
    obtain ⟨g0, h⟩ := aJ h
    try simp only [I64, I32] at g0
    repeat (refine ⟨zAA, ?_⟩)
    replace h := hA6 _ (aA h)
    exact aS _ h rfl (by (try simp only [kR, hN, true_or, and_self, go_sem]) <;> (repeat' apply And.intro) <;> first | rfl | (left; rfl) | (right; rfl) | (left; simp only [go_sem]; done) | (right; simp only [go_sem]; done) | (simp; done) | (simp only [*]; done) | omega)
   ·replace h := iV (by first | exact hc | omega) h
    obtain ⟨g0, h⟩ := aJ h
    try simp only [I64, I32] at g0
    repeat (refine ⟨zAA, ?_⟩)
    replace h := hA6 _ (aA h)
    exact aS _ h rfl (by simp only [go_sem])
  ·replace h := hE6 _ (aA h)
   try dsimp only at h
   obtain ⟨v_17, hv, h⟩ := aI h
   try simp only [hv, go_sem]
   exact aF hF [.tmp 4] rfl rfl rfl (aA h) (by simp only [aR, go_sem])
attribute [go_sem] pC
noncomputable def tA (F : Md) (rest_11 : Nat) (q_12 : (List Nat)) : Option ((List Nat) × ((List Nat) × Unit)) :=
 (gG F q_12).bind (fun v_15 => (gG F ([rest_11] : List Nat)).bind (fun v_16 => some (v_15, v_16, ())))
noncomputable def yX (F : Md) (a_0 : (List Nat)) (b_1 : Nat) (rest_18 : Nat) (i_19 : Int) (q_20 : (List Nat)) : Option ((Nat × Int × (List Nat)) ⊕ (Nat × (List Nat))) :=
 if (0 : Int) ≤ i_19 then ck (0 ≤ i_19 ∧ i_19 < (((a_0.length) : Nat) : Int)) ((xE F rest_18 (a_0.getD (i_19.toNat) (0 : Nat)) b_1).bind (fun v_28 => ck (0 ≤ i_19 ∧ i_19 < (((q_20.length) : Nat) : Int)) (ck (I64 (i_19 - (1 : Int))) (some (.inl (v_28.2.1, (i_19 - (1 : Int)), (q_20.set (i_19.toNat) v_28.1))))))) else some (.inr (rest_18, q_20))
noncomputable def sB (F : Md) (a_0 : (List Nat)) (b_1 : Nat) : Option ((List Nat) × ((List Nat) × Unit)) :=
 ck (0 ≤ (((a_0.length) : Nat) : Int)) (ck ((8 : Int) * (((a_0.length) : Nat) : Int) ≤ 281474976710656) (ck (I64 ((((a_0.length) : Nat) : Int) - (1 : Int))) ((dM F (fun d : Nat × Int × (List Nat) => yX F a_0 b_1 d.1 d.2.1 d.2.2) ((0 : Nat), ((((a_0.length) : Nat) : Int) - (1 : Int)), (List.replicate (a_0.length) (0 : Nat)))).bind (fun e => tA F e.1 e.2))))
def aFv : PlR := ⟨[(0, .A [0, 1]), (1, .B [0, 1, 6]), (2, .A [0, 1, 6, 7]), (3, .A [0, 1, 6, 7, 8]), (4, .A [0, 1, 6, 7, 8, 16]), (5, .A [0, 1, 6, 7, 8]), (6, .B [0, 1, 6, 7, 8]), (7, .B [4, 5])], [(6, 10)]⟩
def aHw : Ty := .pair (.sl (.u .u64)) (.pair (.u .u64) .unit)
noncomputable def xG (F : Md) : aG := mSpec aHw (.tup (.pair (.sl (.u .u64)) (.pair (.sl (.u .u64)) .unit))) (fun x => sB F x.1 x.2.1)
noncomputable def aCV (F : Md) : List (FuncId × aG) := [(163, (eG F)), (252, (vE F))]
theorem aM1 (F : Md) : bD Tryz.prog GL (aCV F) := .cons (oP F) (by kernel_rfl) (.cons (aKs F) (by kernel_rfl) (.nil))
theorem aHZ (F : Md) : gam (aCV F) 163 = some (eG F) := rfl
theorem aH0 (F : Md) : gam (aCV F) 252 = some (vE F) := rfl
attribute [go_sem] aHw aFv aHZ aH0
set_option maxHeartbeats 4000000 in
theorem aLY (F : Md) : FOK Tryz.prog GL 219 (xG F) := by
 refine bH (aY (aM1 F)) mix Tryz.func219 rfl (by kernel_rfl) (by decide) aFv fun w0 S x Θ hw h hF => ?_
 obtain ⟨(a_0 : (List Nat)), (b_1 : Nat), u⟩ := x
 simp only [bL, go_sem]
 replace h : sat (sB F a_0 b_1) _ := h
 unfold sB at h
 obtain ⟨g0, h⟩ := aJ h
 obtain ⟨g1, h⟩ := aJ h
 repeat (refine ⟨by omega, ?_⟩)
 refine dZ hF (D := Nat × (List Nat)) (fun d => sat (tA F d.1 d.2) Θ) [] (fun d => [(6, .own 0), (7, .val (.u .u64) d.1)]) (fun d => [.inr (.row 83 (.u .u64) d.2)]) ?_ ?_
 ·simp only [go_sem]
  obtain ⟨g0, h⟩ := aJ h
  repeat (refine ⟨by omega, ?_⟩)
  refine bR hF (D := Nat × Int × (List Nat)) [0, 1] (fun d => [(6, .own 0), (7, .val (.u .u64) d.1), (8, .val (.i .i64) d.2.1)]) (fun d => [.inr (.row 83 (.u .u64) d.2.2)]) h rfl (by simp only [go_sem]) ?_
  rintro ⟨rest_18, i_19, q_20⟩ A4 T4 hA4 hE4 h
  simp only [go_sem]
  replace h : sat (yX F a_0 b_1 rest_18 i_19 q_20) _ := h
  unfold yX at h
  refine aNE h (fun hc h => ?_) fun hc h => ?_
  ·obtain ⟨g0, h⟩ := aJ h
   repeat (refine ⟨by omega, ?_⟩)
   obtain ⟨v_28, hv, h⟩ := aI h
   try simp only [hv, go_sem]
   obtain ⟨g0, h⟩ := aJ h
   repeat (refine ⟨by omega, ?_⟩)
   obtain ⟨g0, h⟩ := aJ h
   repeat (refine ⟨by omega, ?_⟩)
   replace h := hA4 _ (aA h)
   exact aS _ h rfl (by simp only [go_sem])
  ·replace h := hE4 _ (aA h)
   try dsimp only at h
   exact aS (rest_18, q_20) h rfl (by simp only [go_sem])
 ·rintro ⟨rest_11, q_12⟩ h
  simp only [go_sem]
  replace h : sat (tA F rest_11 q_12) _ := h
  unfold tA at h
  obtain ⟨v_15, hv, h⟩ := aI h
  try simp only [hv, go_sem]
  obtain ⟨v_16, hv, h⟩ := aI h
  try simp only [hv, go_sem]
  exact aF hF [.tmp 4, .tmp 5] rfl rfl rfl (aA h) (by simp only [aR, go_sem])
attribute [go_sem] xG
noncomputable def kD (F : Md) (a_0 : (List Nat)) (n_1 : Int) : Option (List Nat) :=
 ck (aQX a_0) (ck (I64 (n_1 - (((a_0.length) : Nat) : Int))) (ck (0 ≤ (n_1 - (((a_0.length) : Nat) : Int))) (ck (((id a_0).length + (n_1 - (((a_0.length) : Nat) : Int)).toNat) * 8 ≤ 140737488355328) (some ((id a_0) ++ (List.replicate (n_1 - (((a_0.length) : Nat) : Int)).toNat (0 : Nat)))))))
def aDR : PlR := ⟨[(0, .A [0, 1]), (1, .B [4])], []⟩
def aFw : Ty := .pair (.sl (.u .u64)) (.pair (.i .i64) .unit)
noncomputable def vF (F : Md) : aG := mSpec aFw (.one (.sl (.u .u64))) (fun x => kD F x.1 x.2.1)
noncomputable def aFx (F : Md) : List (FuncId × aG) := [(165, cB)]
theorem aLZ (F : Md) : bD Tryz.prog GL (aFx F) := .cons kB (by kernel_rfl) (.nil)
theorem aGB (F : Md) : gam (aFx F) 165 = some cB := rfl
attribute [go_sem] aFw aDR aGB
set_option maxHeartbeats 4000000 in
theorem aKt (F : Md) : FOK Tryz.prog GL 220 (vF F) := by
 refine bH (aY (aLZ F)) mix Tryz.func220 rfl (by kernel_rfl) (by decide) aDR fun w0 S x Θ hw h hF => ?_
 obtain ⟨(a_0 : (List Nat)), (n_1 : Int), u⟩ := x
 simp only [bL, go_sem]
 replace h : sat (kD F a_0 n_1) _ := h
 unfold kD at h
 refine aP h fun g0 h => ?_
 refine aP h fun g0 h => ?_
 obtain ⟨g0, h⟩ := aJ h
 obtain ⟨g1, h⟩ := aJ h
 repeat (refine ⟨by omega, ?_⟩)
 exact aF hF [.tmp 4] rfl rfl rfl (aA h) (by simp only [aR, go_sem])
attribute [go_sem] vF
noncomputable def wH (F : Md) (a_0 : (List Nat)) (b_1 : (List Nat)) : Option ((List Nat) × ((List Nat) × Unit)) :=
 ck ((gG F (List.replicate (((((a_0.length) : Nat) : Int) - (((b_1.length) : Nat) : Int)) + (1 : Int)).toNat (0 : Nat))).isSome = true) (ck (0 ≤ (((b_1.length) : Nat) : Int) ∧ (((b_1.length) : Nat) : Int) ≤ ((((kD F ((iG F a_0 ((bG F (b_1.getD ((((b_1.length) : Nat) : Int) - (1 : Int)).toNat (0 : Nat))).getD (0 : Int))).getD ([] : List Nat)) ((((a_0.length) : Nat) : Int) + (1 : Int))).getD ([] : List Nat)).length : Nat) : Int)) (ck ((gG F (List.take (b_1.length) ((kD F ((iG F a_0 ((bG F (b_1.getD ((((b_1.length) : Nat) : Int) - (1 : Int)).toNat (0 : Nat))).getD (0 : Int))).getD ([] : List Nat)) ((((a_0.length) : Nat) : Int) + (1 : Int))).getD ([] : List Nat)))).isSome = true) (ck ((kO F ((gG F (List.take (b_1.length) ((kD F ((iG F a_0 ((bG F (b_1.getD ((((b_1.length) : Nat) : Int) - (1 : Int)).toNat (0 : Nat))).getD (0 : Int))).getD ([] : List Nat)) ((((a_0.length) : Nat) : Int) + (1 : Int))).getD ([] : List Nat)))).getD ([] : List Nat)) ((bG F (b_1.getD ((((b_1.length) : Nat) : Int) - (1 : Int)).toNat (0 : Nat))).getD (0 : Int))).isSome = true) (some (((gG F (List.replicate (((((a_0.length) : Nat) : Int) - (((b_1.length) : Nat) : Int)) + (1 : Int)).toNat (0 : Nat))).getD ([] : List Nat)), ((kO F ((gG F (List.take (b_1.length) ((kD F ((iG F a_0 ((bG F (b_1.getD ((((b_1.length) : Nat) : Int) - (1 : Int)).toNat (0 : Nat))).getD (0 : Int))).getD ([] : List Nat)) ((((a_0.length) : Nat) : Int) + (1 : Int))).getD ([] : List Nat)))).getD ([] : List Nat)) ((bG F (b_1.getD ((((b_1.length) : Nat) : Int) - (1 : Int)).toNat (0 : Nat))).getD (0 : Int))).getD ([] : List Nat)), ())))))
noncomputable def aB5 (F : Md) (a_0 : (List Nat)) (b_1 : (List Nat)) : Option ((Unit) ⊕ (Unit)) :=
 if (0 : Int) ≤ ((((a_0.length) : Nat) : Int) - (((b_1.length) : Nat) : Int)) then none else some (.inr ())
noncomputable def xH (F : Md) (a_0 : (List Nat)) (b_1 : (List Nat)) : Option ((List Nat) × ((List Nat) × Unit)) :=
 ck ((oQ F a_0 b_1).isSome = true) (if ((oQ F a_0 b_1).getD (0 : Int)) < (0 : Int) then ck (aQX a_0) (some (([] : List Nat), (id a_0), ())) else if (((b_1.length) : Nat) : Int) = (1 : Int) then ck ((0 : Int) < (((b_1.length) : Nat) : Int)) (ck ((sB F a_0 (b_1.getD (0 : Nat) (0 : Nat))).isSome = true) (some (((sB F a_0 (b_1.getD (0 : Nat) (0 : Nat))).getD (([] : List Nat), ([] : List Nat), ())).1, ((sB F a_0 (b_1.getD (0 : Nat) (0 : Nat))).getD (([] : List Nat), ([] : List Nat), ())).2.1, ()))) else ck (I64 ((((b_1.length) : Nat) : Int) - (1 : Int))) (ck (0 ≤ ((((b_1.length) : Nat) : Int) - (1 : Int)) ∧ ((((b_1.length) : Nat) : Int) - (1 : Int)) < (((b_1.length) : Nat) : Int)) (ck ((bG F (b_1.getD ((((b_1.length) : Nat) : Int) - (1 : Int)).toNat (0 : Nat))).isSome = true) (ck ((iG F b_1 ((bG F (b_1.getD ((((b_1.length) : Nat) : Int) - (1 : Int)).toNat (0 : Nat))).getD (0 : Int))).isSome = true) (ck ((kD F ((iG F b_1 ((bG F (b_1.getD ((((b_1.length) : Nat) : Int) - (1 : Int)).toNat (0 : Nat))).getD (0 : Int))).getD ([] : List Nat)) (((b_1.length) : Nat) : Int)).isSome = true) (ck ((iG F a_0 ((bG F (b_1.getD ((((b_1.length) : Nat) : Int) - (1 : Int)).toNat (0 : Nat))).getD (0 : Int))).isSome = true) (ck (I64 ((((a_0.length) : Nat) : Int) + (1 : Int))) (ck ((kD F ((iG F a_0 ((bG F (b_1.getD ((((b_1.length) : Nat) : Int) - (1 : Int)).toNat (0 : Nat))).getD (0 : Int))).getD ([] : List Nat)) ((((a_0.length) : Nat) : Int) + (1 : Int))).isSome = true) (ck (I64 ((((a_0.length) : Nat) : Int) - (((b_1.length) : Nat) : Int))) (ck (I64 (((((a_0.length) : Nat) : Int) - (((b_1.length) : Nat) : Int)) + (1 : Int))) (ck (0 ≤ (((((a_0.length) : Nat) : Int) - (((b_1.length) : Nat) : Int)) + (1 : Int))) (ck ((8 : Int) * (((((a_0.length) : Nat) : Int) - (((b_1.length) : Nat) : Int)) + (1 : Int)) ≤ 281474976710656) (ck (I64 ((((a_0.length) : Nat) : Int) - (((b_1.length) : Nat) : Int))) ((dM F (fun d : Unit => aB5 F a_0 b_1) ()).bind (fun e => wH F a_0 b_1)))))))))))))))
def xI : Ty := .pair (.sl (.u .u64)) (.pair (.sl (.u .u64)) .unit)
attribute [go_sem] xI
noncomputable def vG (F : Md) : aG := mSpec xI (.tup (.pair (.sl (.u .u64)) (.pair (.sl (.u .u64)) .unit))) (fun x => xH F x.1 x.2.1)
noncomputable def iK (F : Md) : List (FuncId × aG) := [(122, (lZ F)), (163, (eG F)), (165, cB), (188, (dN F)), (219, (xG F)), (220, (vF F)), (95, (sA F)), (97, (pC F))]
theorem aFy (F : Md) : bD Tryz.prog GL (iK F) := .cons (aBG F) (by kernel_rfl) (.cons (oP F) (by kernel_rfl) (.cons kB (by kernel_rfl) (.cons (nC F) (by kernel_rfl) (.cons (aLY F) (by kernel_rfl) (.cons (aKt F) (by kernel_rfl) (.cons (aHt F) (by kernel_rfl) (.cons (aFu F) (by kernel_rfl) (.nil))))))))
theorem aGC (F : Md) : gam (iK F) 122 = some (lZ F) := rfl
attribute [go_sem] aGC
theorem aGD (F : Md) : gam (iK F) 163 = some (eG F) := rfl
attribute [go_sem] aGD
theorem aGE (F : Md) : gam (iK F) 165 = some cB := rfl
attribute [go_sem] aGE
theorem aGF (F : Md) : gam (iK F) 188 = some (dN F) := rfl
attribute [go_sem] aGF
theorem aGG (F : Md) : gam (iK F) 219 = some (xG F) := rfl
attribute [go_sem] aGG
theorem aGH (F : Md) : gam (iK F) 220 = some (vF F) := rfl
attribute [go_sem] aGH
theorem aH1 (F : Md) : gam (iK F) 95 = some (sA F) := rfl
attribute [go_sem] aH1
theorem aH2 (F : Md) : gam (iK F) 97 = some (pC F) := rfl
attribute [go_sem] aH2
set_option maxHeartbeats 4000000 in
theorem aKu (F : Md) : FOK Tryz.prog GL 166 (vG F) := by
 refine lU (aY (aFy F)) Tryz.func166 rfl (by kernel_rfl) (by decide) fun w0 S x r hw h => ?_
 have hF : jP (fr Tryz.prog (EM (iK F)) S w0 Tryz.f166.ntmps) := ⟨aY (aFy F), mix⟩
 obtain ⟨(a_0 : (List Nat)), (b_1 : (List Nat)), u⟩ := x
 simp only [xI, Ty.wf, nA] at hw
 simp only [bL, xI]
 try dsimp only at h
 replace h : xH F a_0 b_1 = some r := h
 unfold xH at h
 refine aB (aD hF [0, 1] ?_)
 simp only [go_sem]
 refine aC (aB (aB (aD hF [0, 1, 15] ?_)))
 simp only [go_sem]
 obtain ⟨g0, h⟩ := aT h
 repeat (refine ⟨zAA, ?_⟩)
 refine aC (cA rfl (fun hc => ?_) (fun hc => ?_))
 ·try simp only [go_sem] at hc
  have h := hP zAB h
  refine aB (aO hF [4, 5] ?_)
  simp only [go_sem]
  obtain ⟨g0, h⟩ := aT h
  repeat (refine ⟨zAA, ?_⟩)
  obtain rfl := Option.some.inj h
  refine aC (dB (dF (fC hF [.tmp 4, .tmp 5] rfl rfl rfl ?_)))
  exact zAG
 ·try simp only [go_sem] at hc
  have h := hU zAB h
  refine dH (aC (aB (aB (aD hF [0, 1, 20] ?_))))
  simp only [go_sem]
  refine aC (cA rfl (fun hc => ?_) (fun hc => ?_))
  ·try simp only [go_sem] at hc
   have h := hP zAB h
   refine aB (aD hF [4, 5] ?_)
   simp only [go_sem]
   obtain ⟨g0, h⟩ := aT h
   obtain ⟨g1, h⟩ := aT h
   repeat (refine ⟨zAA, ?_⟩)
   obtain rfl := Option.some.inj h
   refine aC (dB (dF (fC hF [.tmp 4, .tmp 5] rfl rfl rfl ?_)))
   exact zAG
  ·try simp only [go_sem] at hc
   have h := hU zAB h
   refine dH (aC (aB (aD hF [0, 1, 6, 7] ?_)))
   simp only [go_sem]
   obtain ⟨g0, h⟩ := aT h
   obtain ⟨g1, h⟩ := aT h
   obtain ⟨g2, h⟩ := aT h
   try simp only [I64, I32] at g0
   repeat (refine ⟨zAA, ?_⟩)
   refine aC (aB (aD hF [0, 6, 7, 8, 9] ?_))
   simp only [go_sem]
   obtain ⟨g0, h⟩ := aT h
   obtain ⟨g1, h⟩ := aT h
   obtain ⟨g2, h⟩ := aT h
   obtain ⟨g3, h⟩ := aT h
   obtain ⟨g4, h⟩ := aT h
   try simp only [I64, I32] at g3
   repeat (refine ⟨zAA, ?_⟩)
   refine aC (aB (aO hF [0, 6, 7, 8, 9, 10] ?_))
   simp only [go_sem]
   obtain ⟨g0, h⟩ := aT h
   try simp only [I64, I32] at g0
   repeat (refine ⟨zAA, ?_⟩)
   obtain ⟨g0, h⟩ := aT h
   try simp only [I64, I32] at g0
   repeat (refine ⟨zAA, ?_⟩)
   obtain ⟨g0, h⟩ := aT h
   obtain ⟨g1, h⟩ := aT h
   repeat (refine ⟨zAA, ?_⟩)
   refine aC (lT (D := Unit) (fun d => wH F a_0 b_1 = some r) [6, 7, 9] (fun d => [(10, .own 0)]) (fun d => [.inr (.row 83 (.u .u64) (List.replicate (((((a_0.length) : Nat) : Int) - (((b_1.length) : Nat) : Int)) + (1 : Int)).toNat (0 : Nat)))]) ?_ ?_)
   ·refine aB (aD hF [6, 7, 8, 9, 10, 11] ?_)
    simp only [go_sem]
    obtain ⟨g0, h⟩ := aT h
    try simp only [I64, I32] at g0
    repeat (refine ⟨zAA, ?_⟩)
    refine aC (gJ (uS (D := Unit) [6, 7, 8, 9, 11] (fun d => [(10, .own 0)]) (fun d => [.inr (.row 83 (.u .u64) (List.replicate (((((a_0.length) : Nat) : Int) - (((b_1.length) : Nat) : Int)) + (1 : Int)).toNat (0 : Nat)))]) h ?_ ?_ ?_))
    ·first | rfl | (simp only [go_sem]; done)
    ·exact zAF
    rintro u s9 h hs9
    simp only [go_sem]
    try dsimp only at h
    unfold aB5 at h
    refine aB (aB (aD hF [6, 7, 8, 9, 10, 11, 60] ?_))
    simp only [go_sem]
    refine aC (cA rfl (fun hc => ?_) (fun hc => ?_))
    ·try simp only [go_sem] at hc
     have h := hP zAB h
     cases h
    ·try simp only [go_sem] at hc
     have h := hU zAB h
     obtain rfl := Option.some.inj h
     dsimp only [uC] at hs9
     have h := hs9
     try dsimp only at h
     refine vX (eN (eN (iJ (bE (aS () h rfl ?_)))))
     ·exact zAF
   ·rintro u h
    try dsimp only at h
    simp only [go_sem]
    unfold wH at h
    refine aB (aNy 0 ?_)
    simp only [go_sem]
    refine aD hF [4, 5] ?_
    simp only [go_sem]
    obtain ⟨g0, h⟩ := aT h
    obtain ⟨g1, h⟩ := aT h
    obtain ⟨g2, h⟩ := aT h
    obtain ⟨g3, h⟩ := aT h
    repeat (refine ⟨zAA, ?_⟩)
    obtain rfl := Option.some.inj h
    refine aC (dB (fC hF [.tmp 4, .tmp 5] rfl rfl rfl ?_))
    exact zAG
attribute [go_sem] vG
end Nu
end Go.Proofs
namespace Go.Proofs
open Go.Vc
set_option maxRecDepth 20000
namespace Nu
theorem aDS : bD Tryz.prog GL [] := .nil
noncomputable def mA (F : Md) (is_0 : Bool) (e_1 : Int) : Option (Unit ⊕ (Int × Unit)) :=
 if ¬ (is_0 = true) then some (.inr (e_1, ())) else some (.inl ())
noncomputable def eD (F : Md) : oD where
 D := Bool × Int × (Unit ⊕ (Int × Unit))
 av := fun d => [.val .bool d.1, .val (.i .i64) d.2.1]
 hp := fun d => []
 m := 0
 pre := fun d => mA F d.1 d.2.1 = some d.2.2
 out := fun d => match d.2.2 with | .inl r => .ret (.tup []) [] | .inr p => .pan ⟨251, (.pair (.i .i64) .unit), p⟩ []
noncomputable def aHx (F : Md) : List (FuncId × aG) := []
theorem aHy (F : Md) : bD Tryz.prog GL (aHx F) := .nil
set_option maxHeartbeats 4000000 in
theorem gE (F : Md) : GOK Tryz.prog GL 233 (eD F) := by
 refine yO (aY (aHy F)) Tryz.func233 rfl (by kernel_rfl) (fun _ => Nat.le_of_ble_eq_true rfl) fun c0 w0 d hw1 hw2 h hn => ?_
 have hF : jP ⟨Tryz.prog, EM (aHx F), GM (eD F) c0 d, w0, Tryz.f233.ntmps, []⟩ := ⟨aY (aHy F), mix⟩
 obtain ⟨(is_0 : Bool), (e_1 : Int), r⟩ := d
 replace h : mA F is_0 e_1 = some r := h
 have hw1 : AV.wfL [.val .bool is_0, .val (.i .i64) e_1] := hw1
 simp only [AV.wfL, AV.wfV, Ty.wf, nA] at hw1
 show Tri _ _ _ [(0, .val .bool is_0), (1, .val (.i .i64) e_1)] []
 unfold mA at h
 refine aB (aD hF [1, 5] ?_)
 simp only [go_sem]
 refine aC (cA rfl (fun hc => ?_) (fun hc => ?_))
 ·try simp only [go_sem] at hc
  have h := hP zAB h
  refine bT hF (eC (l := []) (.nil)) [] [] ?_
  simp only [go_sem]
  repeat (refine ⟨zAA, ?_⟩)
  obtain rfl := Option.some.inj h
  refine sV rfl rfl rfl rfl
 ·try simp only [go_sem] at hc
  have h := hU zAB h
  obtain rfl := Option.some.inj h
  refine dH (aIH (aFh hF [] rfl rfl rfl rfl rfl rfl ?_))
  (try simp only [aR, aFg, aEo, hN, rR, AV.isAgg, go_sem]) <;> first | trivial | rfl | (simp; done)
attribute [go_sem] eD
noncomputable def vH (F : Md) (e_2 : Int) (m_1 : (List Nat)) (neg_0 : Bool) : Option ((Bool × ((List Nat) × (Int × Unit))) ⊕ (Int × Unit)) :=
 ck (I64 (e_2 + ((dO F m_1).getD (0 : Int)))) ((mA F (decide ((e_2 + ((dO F m_1).getD (0 : Int))) ≤ (1048576 : Int))) (3 : Int)).bind (fun e => match e with | .inl r_22 => ck (I64 (e_2 + ((dO F m_1).getD (0 : Int)))) (some (.inl (neg_0, ((kO F m_1 ((dO F m_1).getD (0 : Int))).getD ([] : List Nat)), (e_2 + ((dO F m_1).getD (0 : Int))), ()))) | .inr p_23 => some (.inr p_23)))
noncomputable def yY (F : Md) (neg_0 : Bool) (m_1 : (List Nat)) (e_2 : Int) : Option ((Bool × ((List Nat) × (Int × Unit))) ⊕ (Int × Unit)) :=
 if (((m_1.length) : Nat) : Int) = (0 : Int) then some (.inl (false, ([] : List Nat), (0 : Int), ())) else ck ((dO F m_1).isSome = true) (ck ((kO F m_1 ((dO F m_1).getD (0 : Int))).isSome = true) ((mA F (decide (((((kO F m_1 ((dO F m_1).getD (0 : Int))).getD ([] : List Nat)).length : Nat) : Int) ≤ (64 : Int))) (2 : Int)).bind (fun e => match e with | .inl r_8 => if e_2 ≤ (1048576 : Int) then ck (I64 ((-1048576 : Int) - ((dO F m_1).getD (0 : Int)))) ((mA F ((decide (e_2 ≤ (1048576 : Int))) && (decide (((-1048576 : Int) - ((dO F m_1).getD (0 : Int))) ≤ e_2))) (3 : Int)).bind (fun e => match e with | .inl r_24 => vH F e_2 m_1 neg_0 | .inr p_25 => some (.inr p_25))) else (mA F false (3 : Int)).bind (fun e => match e with | .inl r_26 => vH F e_2 m_1 neg_0 | .inr p_27 => some (.inr p_27)) | .inr p_9 => some (.inr p_9))))
noncomputable def oR (F : Md) : oD where
 D := Bool × (List Nat) × Int × ((Bool × ((List Nat) × (Int × Unit))) ⊕ (Int × Unit))
 av := fun d => [.val .bool d.1, .val (.sl (.u .u64)) d.2.1, .val (.i .i64) d.2.2.1]
 hp := fun d => []
 m := 0
 pre := fun d => yY F d.1 d.2.1 d.2.2.1 = some d.2.2.2
 out := fun d => match d.2.2.2 with | .inl r => .ret (.val (.pair .bool (.pair (.sl (.u .u64)) (.pair (.i .i64) .unit))) r) [] | .inr p => .pan ⟨251, (.pair (.i .i64) .unit), p⟩ []
noncomputable def aBJ (F : Md) : List (FuncId × aG) := [(97, (pC F)), (98, (xF F))]
theorem aJM (F : Md) : bD Tryz.prog GL (aBJ F) := .cons (aFu F) (by kernel_rfl) (.cons (aLX F) (by kernel_rfl) (.nil))
theorem aKv (F : Md) : gam (aBJ F) 97 = some (pC F) := rfl
attribute [go_sem] aKv
theorem aKw (F : Md) : gam (aBJ F) 98 = some (xF F) := rfl
attribute [go_sem] aKw
set_option maxHeartbeats 4000000 in
theorem aAb (F : Md) : GOK Tryz.prog GL 182 (oR F) := by
 refine yO (aY (aJM F)) Tryz.func182 rfl (by kernel_rfl) (fun _ => Nat.le_of_ble_eq_true rfl) fun c0 w0 d hw1 hw2 h hn => ?_
 have hF : jP ⟨Tryz.prog, EM (aBJ F), GM (oR F) c0 d, w0, Tryz.f182.ntmps, []⟩ := ⟨aY (aJM F), mix⟩
 obtain ⟨(neg_0 : Bool), (m_1 : (List Nat)), (e_2 : Int), r⟩ := d
 replace h : yY F neg_0 m_1 e_2 = some r := h
 have hw1 : AV.wfL [.val .bool neg_0, .val (.sl (.u .u64)) m_1, .val (.i .i64) e_2] := hw1
 simp only [AV.wfL, AV.wfV, Ty.wf, nA] at hw1
 show Tri _ _ _ [(0, .val .bool neg_0), (1, .val (.sl (.u .u64)) m_1), (2, .val (.i .i64) e_2)] []
 unfold yY at h
 refine aB (aO hF [0, 1, 2, 6] ?_)
 simp only [go_sem]
 refine aC (aB (aB (aD hF [0, 1, 2, 6, 10] ?_)))
 simp only [go_sem]
 refine aC (cA rfl (fun hc => ?_) (fun hc => ?_))
 ·try simp only [go_sem] at hc
  have h := hP zAB h
  refine aB (aO hF [6] ?_)
  simp only [go_sem]
  obtain rfl := Option.some.inj h
  refine aC (dB (dF (aAR hF [.cell 6 25] [] rfl rfl rfl rfl rfl rfl rfl rfl rfl ?_)))
  (try simp only [aR, aFg, aEo, hN, rR, AV.isAgg, go_sem]) <;> first | trivial | rfl | (simp; done)
 ·try simp only [go_sem] at hc
  have h := hU zAB h
  refine dH (aC (aB (aD hF [0, 1, 2, 6, 7] ?_)))
  simp only [go_sem]
  obtain ⟨g0, h⟩ := aT h
  repeat (refine ⟨zAA, ?_⟩)
  refine aC (aB (aD hF [0, 1, 2, 6, 7] ?_))
  simp only [go_sem]
  obtain ⟨g0, h⟩ := aT h
  repeat (refine ⟨zAA, ?_⟩)
  obtain ⟨e, he1, h⟩ := bind_some h
  rcases e with r_8 | p_9
  ·try dsimp only at h
   refine aC (aB (bT hF (eC (l := [(233, ⟨eD F, [], ((decide (((((kO F m_1 ((dO F m_1).getD (0 : Int))).getD ([] : List Nat)).length : Nat) : Int) ≤ (64 : Int))), (2 : Int), .inl r_8)⟩)]) (.cons (gE F) (by kernel_rfl) (.nil))) [0, 1, 2, 6, 7] [] ?_))
   simp only [go_sem]
   repeat (refine ⟨zAA, ?_⟩)
   refine aC (lT (D := Unit) (fun d => vH F e_2 m_1 neg_0 = some r) [0, 1, 2, 7] (fun d => [(6, .ptr 0 [])]) (fun d => [.inr (.box 3 (.val (.pair .bool (.pair (.sl (.u .u64)) (.pair (.i .i64) .unit))) (false, ([] : List Nat), (0 : Int), ())))]) ?_ ?_)
   ·by_cases hq : e_2 ≤ (1048576 : Int)
    ·have h := hP hq h
     obtain ⟨g0, h⟩ := aT h
     try simp only [I64, I32] at g0
     obtain ⟨e, he3, h⟩ := bind_some h
     rcases e with r_24 | p_25
     ·try dsimp only at h
      refine bT hF (eC (l := [(233, ⟨eD F, [], (((decide (e_2 ≤ (1048576 : Int))) && (decide (((-1048576 : Int) - ((dO F m_1).getD (0 : Int))) ≤ e_2))), (3 : Int), .inl r_24)⟩)]) (.cons (gE F) (by kernel_rfl) (.nil))) [0, 1, 2, 6, 7] [] ?_
      simp only [go_sem]
      repeat (refine ⟨zAA, ?_⟩)
      refine ⟨fun _ => ?_, fun hx => by first | (exfalso; omega) | (exfalso; simp_all; done)⟩
      repeat (refine ⟨zAA, ?_⟩)
      refine ⟨fun _ => ?_, fun hx => by first | (exfalso; omega) | (exfalso; simp_all; done)⟩
      repeat (refine ⟨zAA, ?_⟩)
      refine ⟨fun _ => ?_, fun hx => by first | (exfalso; omega) | (exfalso; simp_all; done)⟩
      repeat (refine ⟨zAA, ?_⟩)
      refine ⟨fun _ => ?_, fun hx => by first | (exfalso; omega) | (exfalso; simp_all; done)⟩
      repeat (refine ⟨zAA, ?_⟩)
      refine bE (aS () h rfl ?_)
      ·exact zAF
     ·try dsimp only at h
      refine bT hF (eC (l := [(233, ⟨eD F, [], (((decide (e_2 ≤ (1048576 : Int))) && (decide (((-1048576 : Int) - ((dO F m_1).getD (0 : Int))) ≤ e_2))), (3 : Int), .inr p_25)⟩)]) (.cons (gE F) (by kernel_rfl) (.nil))) [0, 1, 2, 6, 7] [] ?_
      simp only [go_sem]
      repeat (refine ⟨zAA, ?_⟩)
      refine ⟨fun _ => ?_, fun hx => by first | (exfalso; omega) | (exfalso; simp_all; done)⟩
      repeat (refine ⟨zAA, ?_⟩)
      refine ⟨fun _ => ?_, fun hx => by first | (exfalso; omega) | (exfalso; simp_all; done)⟩
      repeat (refine ⟨zAA, ?_⟩)
      refine ⟨fun _ => ?_, fun hx => by first | (exfalso; omega) | (exfalso; simp_all; done)⟩
      repeat (refine ⟨zAA, ?_⟩)
      refine ⟨fun _ => ?_, fun hx => by first | (exfalso; omega) | (exfalso; simp_all; done)⟩
      repeat (refine ⟨zAA, ?_⟩)
      obtain rfl := Option.some.inj h
      refine nL (vB [] rfl rfl ?_)
      simp only [ren, gP, kA, posOf, eB, go_sem]
      refine sV rfl rfl rfl rfl
    ·have h := hU hq h
     obtain ⟨e, he4, h⟩ := bind_some h
     rcases e with r_26 | p_27
     ·try dsimp only at h
      refine bT hF (eC (l := [(233, ⟨eD F, [], (false, (3 : Int), .inl r_26)⟩)]) (.cons (gE F) (by kernel_rfl) (.nil))) [0, 1, 2, 6, 7] [] ?_
      simp only [go_sem]
      repeat (refine ⟨zAA, ?_⟩)
      first | (refine ⟨fun hx => by first | (exfalso; omega) | (exfalso; simp_all; done), fun _ => ?_⟩) | intro _
      repeat (refine ⟨zAA, ?_⟩)
      first | (refine ⟨fun hx => by first | (exfalso; omega) | (exfalso; simp_all; done), fun _ => ?_⟩) | intro _
      repeat (refine ⟨zAA, ?_⟩)
      first | (refine ⟨fun hx => by first | (exfalso; omega) | (exfalso; simp_all; done), fun _ => ?_⟩) | intro _
      repeat (refine ⟨zAA, ?_⟩)
      first | (refine ⟨fun hx => by first | (exfalso; omega) | (exfalso; simp_all; done), fun _ => ?_⟩) | intro _
      repeat (refine ⟨zAA, ?_⟩)
      refine bE (aS () h rfl ?_)
      ·exact zAF
     ·try dsimp only at h
      refine bT hF (eC (l := [(233, ⟨eD F, [], (false, (3 : Int), .inr p_27)⟩)]) (.cons (gE F) (by kernel_rfl) (.nil))) [0, 1, 2, 6, 7] [] ?_
      simp only [go_sem]
      repeat (refine ⟨zAA, ?_⟩)
      first | (refine ⟨fun hx => by first | (exfalso; omega) | (exfalso; simp_all; done), fun _ => ?_⟩) | intro _
      repeat (refine ⟨zAA, ?_⟩)
      first | (refine ⟨fun hx => by first | (exfalso; omega) | (exfalso; simp_all; done), fun _ => ?_⟩) | intro _
      repeat (refine ⟨zAA, ?_⟩)
      first | (refine ⟨fun hx => by first | (exfalso; omega) | (exfalso; simp_all; done), fun _ => ?_⟩) | intro _
      repeat (refine ⟨zAA, ?_⟩)
      first | (refine ⟨fun hx => by first | (exfalso; omega) | (exfalso; simp_all; done), fun _ => ?_⟩) | intro _
      repeat (refine ⟨zAA, ?_⟩)
      obtain rfl := Option.some.inj h
      refine nL (vB [] rfl rfl ?_)
      simp only [ren, gP, kA, posOf, eB, go_sem]
      refine sV rfl rfl rfl rfl
   ·rintro u h
    try dsimp only at h
    simp only [go_sem]
    unfold vH at h
    obtain ⟨g0, h⟩ := aT h
    try simp only [I64, I32] at g0
    obtain ⟨e, he2, h⟩ := bind_some h
    rcases e with r_22 | p_23
    ·try dsimp only at h
     refine aB (bT hF (eC (l := [(233, ⟨eD F, [], ((decide ((e_2 + ((dO F m_1).getD (0 : Int))) ≤ (1048576 : Int))), (3 : Int), .inl r_22)⟩)]) (.cons (gE F) (by kernel_rfl) (.nil))) [0, 1, 2, 6, 7] [] ?_)
     simp only [go_sem]
     repeat (refine ⟨zAA, ?_⟩)
     refine aC (aB (aO hF [6] ?_))
     simp only [go_sem]
     obtain ⟨g0, h⟩ := aT h
     try simp only [I64, I32] at g0
     repeat (refine ⟨zAA, ?_⟩)
     obtain rfl := Option.some.inj h
     refine aC (dB (aAR hF [.cell 6 25] [] rfl rfl rfl rfl rfl rfl rfl rfl rfl ?_))
     (try simp only [aR, aFg, aEo, hN, rR, AV.isAgg, go_sem]) <;> first | trivial | rfl | (simp; done)
    ·try dsimp only at h
     refine aB (bT hF (eC (l := [(233, ⟨eD F, [], ((decide ((e_2 + ((dO F m_1).getD (0 : Int))) ≤ (1048576 : Int))), (3 : Int), .inr p_23)⟩)]) (.cons (gE F) (by kernel_rfl) (.nil))) [0, 1, 2, 6, 7] [] ?_)
     simp only [go_sem]
     repeat (refine ⟨zAA, ?_⟩)
     obtain rfl := Option.some.inj h
     refine nL (vB [] rfl rfl ?_)
     simp only [ren, gP, kA, posOf, eB, go_sem]
     refine sV rfl rfl rfl rfl
  ·try dsimp only at h
   refine aC (aB (bT hF (eC (l := [(233, ⟨eD F, [], ((decide (((((kO F m_1 ((dO F m_1).getD (0 : Int))).getD ([] : List Nat)).length : Nat) : Int) ≤ (64 : Int))), (2 : Int), .inr p_9)⟩)]) (.cons (gE F) (by kernel_rfl) (.nil))) [0, 1, 2, 6, 7] [] ?_))
   simp only [go_sem]
   repeat (refine ⟨zAA, ?_⟩)
   obtain rfl := Option.some.inj h
   refine nL (vB [] rfl rfl ?_)
   simp only [ren, gP, kA, posOf, eB, go_sem]
   refine sV rfl rfl rfl rfl
attribute [go_sem] oR
noncomputable def xJ (F : Md) (a0_0 : Bool) (a1_1 : (List Nat)) (a2_2 : Int) : Option ((Bool × ((List Nat) × (Int × Unit))) ⊕ (Int × Unit)) :=
 (yY F a0_0 a1_1 a2_2).bind (fun e => match e with | .inl r_8 => some (.inl r_8) | .inr p_9 => some (.inr p_9))
noncomputable def qK (F : Md) : oD where
 D := Bool × (List Nat) × Int × ((Bool × ((List Nat) × (Int × Unit))) ⊕ (Int × Unit))
 av := fun d => [.val (.rp .bool) d.1, .val (.rp (.sl (.u .u64))) d.2.1, .val (.rp (.i .i64)) d.2.2.1]
 hp := fun d => []
 m := 0
 pre := fun d => xJ F d.1 d.2.1 d.2.2.1 = some d.2.2.2
 out := fun d => match d.2.2.2 with | .inl r => .ret (.val (.pair .bool (.pair (.sl (.u .u64)) (.pair (.i .i64) .unit))) r) [] | .inr p => .pan ⟨251, (.pair (.i .i64) .unit), p⟩ []
noncomputable def aFz (F : Md) : List (FuncId × aG) := []
theorem aFA (F : Md) : bD Tryz.prog GL (aFz F) := .nil
set_option maxHeartbeats 4000000 in
theorem aDT (F : Md) : GOK Tryz.prog GL 181 (qK F) := by
 refine yO (aY (aFA F)) Tryz.func181 rfl (by kernel_rfl) (fun _ => Nat.le_of_ble_eq_true rfl) fun c0 w0 d hw1 hw2 h hn => ?_
 have hF : jP ⟨Tryz.prog, EM (aFz F), GM (qK F) c0 d, w0, Tryz.f181.ntmps, []⟩ := ⟨aY (aFA F), mix⟩
 obtain ⟨(a0_0 : Bool), (a1_1 : (List Nat)), (a2_2 : Int), r⟩ := d
 replace h : xJ F a0_0 a1_1 a2_2 = some r := h
 have hw1 : AV.wfL [.val (.rp .bool) a0_0, .val (.rp (.sl (.u .u64))) a1_1, .val (.rp (.i .i64)) a2_2] := hw1
 simp only [AV.wfL, AV.wfV, Ty.wf, nA] at hw1
 show Tri _ _ _ [(0, .roa .bool a0_0), (1, .roa (.sl (.u .u64)) a1_1), (2, .roa (.i .i64) a2_2)] []
 unfold xJ at h
 refine aB (aO hF [0, 1, 2, 3] ?_)
 simp only [go_sem]
 obtain ⟨e, he1, h⟩ := bind_some h
 rcases e with r_8 | p_9
 ·try dsimp only at h
  refine aC (aB (bT hF (eC (l := [(182, ⟨oR F, [], (a0_0, a1_1, a2_2, .inl r_8)⟩)]) (.cons (aAb F) (by kernel_rfl) (.nil))) [3] [] ?_))
  simp only [go_sem]
  repeat (refine ⟨zAA, ?_⟩)
  obtain rfl := Option.some.inj h
  refine aC (dB (aAR hF [.cell 3 25] [] rfl rfl rfl rfl rfl rfl rfl rfl rfl ?_))
  (try simp only [aR, aFg, aEo, hN, rR, AV.isAgg, go_sem]) <;> first | trivial | rfl | (simp; done)
 ·try dsimp only at h
  refine aC (aB (bT hF (eC (l := [(182, ⟨oR F, [], (a0_0, a1_1, a2_2, .inr p_9)⟩)]) (.cons (aAb F) (by kernel_rfl) (.nil))) [3] [] ?_))
  simp only [go_sem]
  repeat (refine ⟨zAA, ?_⟩)
  obtain rfl := Option.some.inj h
  refine nL (vB [] rfl rfl ?_)
  simp only [ren, gP, kA, posOf, eB, go_sem]
  refine sV rfl rfl rfl rfl
attribute [go_sem] qK
def kP : oD where
 D := (Bool × ((List Nat) × (Int × Unit))) × Int
 av := fun _ => [.ptr 0 [], .ptr 1 []]
 hp := fun d => [.box 3 (.val (.pair .bool (.pair (.sl (.u .u64)) (.pair (.i .i64) .unit))) d.1), .box 1 (.val (.i .i64) d.2)]
 m := 2
 pre := fun _ => True
 out := fun d => .ret (.tup []) [.box 3 (.val (.pair .bool (.pair (.sl (.u .u64)) (.pair (.i .i64) .unit))) d.1), .box 1 (.val (.i .i64) d.2)]
def kQ (x : (Int × Unit)) : oD where
 D := (Bool × ((List Nat) × (Int × Unit))) × Int
 av := fun _ => [.ptr 0 [], .ptr 1 []]
 hp := fun d => [.box 3 (.val (.pair .bool (.pair (.sl (.u .u64)) (.pair (.i .i64) .unit))) d.1), .box 1 (.val (.i .i64) d.2)]
 m := 2
 pre := fun _ => True
 out := fun d => .ret (.tup []) [.box 3 (.val (.pair .bool (.pair (.sl (.u .u64)) (.pair (.i .i64) .unit))) (false, ([] : List Nat), (0 : Int), ())), .box 1 (.val (.i .i64) x.1)]
theorem aCW : DOK Tryz.prog GL 232 none kP := by
 refine aQq (aY aDS) Tryz.func232 rfl (by kernel_rfl) (fun _ => Nat.le_of_ble_eq_true rfl) rfl fun c w d hw1 hw2 hp hn => ?_
 have hF : jP ⟨Tryz.prog, EM [], GM kP c d, w, Tryz.f232.ntmps, []⟩ := ⟨aY aDS, mix⟩
 obtain ⟨d, e⟩ := d
 show oZ _ _ _ [(5, .val .nili ()), (0, .ptr 0 []), (1, .ptr 1 [])] [.box 3 (.val (.pair .bool (.pair (.sl (.u .u64)) (.pair (.i .i64) .unit))) d), .box 1 (.val (.i .i64) e)] _
 simp only [go_sem]
 refine aB (aD hF [0, 1, 2, 9] ?_)
 simp only [go_sem]
 refine aC (cA rfl (fun hc => absurd hc (by decide)) (fun hc => ?_))
 refine dH ?_
 refine gQ [0, 1] rfl rfl ?_
 simp only [ren, gP, kA, posOf, eB, go_sem]
 refine aIH (aFh hF [] rfl rfl rfl rfl rfl rfl ?_)
 simp only [aR, aFg, aEo, go_sem]
 try decide
theorem aCX (x : (Int × Unit)) : DOK Tryz.prog GL 232 (some ⟨251, (.pair (.i .i64) .unit), x⟩) (kQ x) := by
 refine aQq (aY aDS) Tryz.func232 rfl (by kernel_rfl) (fun _ => Nat.le_of_ble_eq_true rfl) rfl fun c w d hw1 hw2 hp hn => ?_
 have hF : jP ⟨Tryz.prog, EM [], GM (kQ x) c d, w, Tryz.f232.ntmps, []⟩ := ⟨aY aDS, mix⟩
 obtain ⟨d, e⟩ := d
 show oZ _ _ _ [(5, .val (.ifc 251 (.pair (.i .i64) .unit)) x), (0, .ptr 0 []), (1, .ptr 1 [])] [.box 3 (.val (.pair .bool (.pair (.sl (.u .u64)) (.pair (.i .i64) .unit))) d), .box 1 (.val (.i .i64) e)] _
 simp only [go_sem]
 refine aB (aD hF [0, 1, 2, 9] ?_)
 simp only [go_sem]
 refine aC (cA rfl (fun hc => ?_) (fun hc => absurd hc (by decide)))
 refine aHf hF [] [] [.box 3 (.val (.pair .bool (.pair (.sl (.u .u64)) (.pair (.i .i64) .unit))) (false, ([] : List Nat), (0 : Int), ())), .box 1 (.val (.i .i64) x.1), .box 1 (.val (.pair (.i .i64) .unit) x)] (by decide) ?_ ?_
 ·simp only [go_sem]
  unfold anyS
  intro i hi
  have hi : i = 0 ∨ i = 1 := by revert hi; revert i; decide
  rcases hi with rfl | rfl
  ·simp only [go_sem]
   skip
   unfold anyS
   intro i hi
   have hi : i = 1 ∨ i = 3 := by revert hi; revert i; decide
   rcases hi with rfl | rfl
   ·simp only [go_sem]
    skip
    unfold anyS
    intro i hi
    have hi : i = 2 ∨ i = 3 := by revert hi; revert i; decide
    rcases hi with rfl | rfl
    ·simp only [go_sem]
     skip
     unfold anyS
     intro i hi
     have hi : i = 3 := by revert hi; revert i; decide
     subst hi
     simp only [go_sem]
     skip
     unfold anyS
     intro i hi
     have hi : i = 4 := by revert hi; revert i; decide
     subst hi
     simp only [go_sem]
     skip
     (simp only [anyS, go_sem]) <;> first | exact ⟨rfl, rfl⟩ | trivial
    ·simp only [go_sem]
     skip
     unfold anyS
     intro i hi
     have hi : i = 2 := by revert hi; revert i; decide
     subst hi
     simp only [go_sem]
     skip
     unfold anyS
     intro i hi
     have hi : i = 4 := by revert hi; revert i; decide
     subst hi
     simp only [go_sem]
     skip
     (simp only [anyS, go_sem]) <;> first | exact ⟨rfl, rfl⟩ | trivial
   ·simp only [go_sem]
    skip
    unfold anyS
    intro i hi
    have hi : i = 1 := by revert hi; revert i; decide
    subst hi
    simp only [go_sem]
    skip
    unfold anyS
    intro i hi
    have hi : i = 2 := by revert hi; revert i; decide
    subst hi
    simp only [go_sem]
    skip
    unfold anyS
    intro i hi
    have hi : i = 4 := by revert hi; revert i; decide
    subst hi
    simp only [go_sem]
    skip
    (simp only [anyS, go_sem]) <;> first | exact ⟨rfl, rfl⟩ | trivial
  ·simp only [go_sem]
   skip
   unfold anyS
   intro i hi
   have hi : i = 0 ∨ i = 2 := by revert hi; revert i; decide
   rcases hi with rfl | rfl
   ·simp only [go_sem]
    skip
    unfold anyS
    intro i hi
    have hi : i = 2 ∨ i = 3 := by revert hi; revert i; decide
    rcases hi with rfl | rfl
    ·simp only [go_sem]
     skip
     unfold anyS
     intro i hi
     have hi : i = 3 := by revert hi; revert i; decide
     subst hi
     simp only [go_sem]
     skip
     unfold anyS
     intro i hi
     have hi : i = 4 := by revert hi; revert i; decide
     subst hi
     simp only [go_sem]
     skip
     (simp only [anyS, go_sem]) <;> first | exact ⟨rfl, rfl⟩ | trivial
    ·simp only [go_sem]
     skip
     unfold anyS
     intro i hi
     have hi : i = 2 := by revert hi; revert i; decide
     subst hi
     simp only [go_sem]
     skip
     unfold anyS
     intro i hi
     have hi : i = 4 := by revert hi; revert i; decide
     subst hi
     simp only [go_sem]
     skip
     (simp only [anyS, go_sem]) <;> first | exact ⟨rfl, rfl⟩ | trivial
   ·simp only [go_sem]
    skip
    unfold anyS
    intro i hi
    have hi : i = 0 := by revert hi; revert i; decide
    subst hi
    simp only [go_sem]
    skip
    unfold anyS
    intro i hi
    have hi : i = 3 := by revert hi; revert i; decide
    subst hi
    simp only [go_sem]
    skip
    unfold anyS
    intro i hi
    have hi : i = 4 := by revert hi; revert i; decide
    subst hi
    simp only [go_sem]
    skip
    (simp only [anyS, go_sem]) <;> first | exact ⟨rfl, rfl⟩ | trivial
 refine gQ [0, 1] rfl rfl ?_
 simp only [ren, gP, kA, posOf, eB, go_sem]
 refine aIH (aFh hF [] rfl rfl rfl rfl rfl rfl ?_)
 simp only [aR, aFg, aEo, go_sem]
 try decide
noncomputable def eZ (F : Md) (c0 : Bool) (c1 : (List Nat)) (c2 : Int) : Option ((Bool × ((List Nat) × (Int × Unit))) × Int × Unit) :=
 (xJ F c0 c1 c2).bind fun q => some (match q with | .inl r => (r, 0, ()) | .inr p => ((false, ([] : List Nat), (0 : Int), ()), p.1, ()))
def sC : Ty := .pair (.clo 181 (.pair (.rp .bool) (.pair (.rp (.sl (.u .u64))) (.pair (.rp (.i .i64)) .unit)))) .unit
noncomputable def iL (F : Md) : aG := mSpec sC (.tup (.pair (.pair .bool (.pair (.sl (.u .u64)) (.pair (.i .i64) .unit))) (.pair (.i .i64) .unit))) (fun x => eZ F x.1.1 x.1.2.1 x.1.2.2.1)
set_option maxHeartbeats 4000000 in
theorem aAx (F : Md) : FOK Tryz.prog GL 180 (iL F) := by
 refine aJu (aY aDS) Tryz.func180 rfl (by kernel_rfl) (by decide) fun w0 S x r hw h => ?_
 have hF : jP (fr Tryz.prog (EM []) S w0 Tryz.f180.ntmps) := ⟨aY aDS, mix⟩
 obtain ⟨⟨(c0 : Bool), (c1 : (List Nat)), (c2 : Int), u1⟩, u⟩ := x
 replace h : eZ F c0 c1 c2 = some r := h
 show Tri _ _ _ [(0, .val (.clo 181 (.pair (.rp .bool) (.pair (.rp (.sl (.u .u64))) (.pair (.rp (.i .i64)) .unit)))) (c0, c1, c2, u1))] []
 unfold eZ at h
 obtain ⟨q, hq, h⟩ := bind_some h
 obtain rfl := Option.some.inj h
 refine aB (aO hF [0, 2, 3] ?_)
 simp only [go_sem]
 refine aC (aDM 2 [0, 1] rfl rfl (Nat.zero_le _) (by decide) fun roots hroots => ?_)
 have hF' : jP { fr Tryz.prog (EM []) S w0 Tryz.f180.ntmps with M := ⟨nothing, S, 2, roots⟩, ds := [⟨.fn (.func 232) ([0, 1].map roots).toArray, #[]⟩] } := ⟨aY aDS, mix⟩
 rcases q with q | q
 ·refine aB (bT hF' (eC (l := [(181, ⟨qK F, [], (c0, c1, c2, .inl q)⟩)]) (.cons (aDT F) (by kernel_rfl) .nil)) [2, 3] [] ?_)
  simp only [go_sem]
  refine ⟨hq, ?_⟩
  refine aC (dB ?_)
  refine aOC (fn := Tryz.f180) (k := 2) (l2 := [0, 1]) hF' rfl rfl (by decide) rfl (aFi (by kernel_rfl)) ⟨kP, [0, 1], (q, 0)⟩ aCW rfl [.cell 2 25, .cell 3 3] rfl ?_ ?_
  ·(simp only [kP, go_sem]) <;> first | decide | trivial
  ·(simp only [kP, aR, hO, go_sem]) <;> first | decide | trivial
 ·refine aB (bT hF' (eC (l := [(181, ⟨qK F, [], (c0, c1, c2, .inr q)⟩)]) (.cons (aDT F) (by kernel_rfl) .nil)) [2, 3] [] ?_)
  simp only [go_sem]
  refine ⟨hq, ?_⟩
  refine nL ?_
  refine aOD (fn := Tryz.f180) (k := 2) (l2 := [0, 1]) hF' rfl rfl (by decide) rfl (aFi (by kernel_rfl)) ⟨kQ q, [0, 1], ((false, ([] : List Nat), (0 : Int), ()), 0)⟩ (aCX q) rfl [.cell 2 25, .cell 3 3] rfl ?_ ?_
  ·(simp only [kQ, go_sem]) <;> first | decide | trivial
  ·(simp only [kQ, aR, hO, go_sem]) <;> first | decide | trivial
attribute [go_sem] iL sC
noncomputable def yZ (F : Md) (neg_0 : Bool) (m_1 : (List Nat)) (e_2 : Int) : Option ((Bool × ((List Nat) × (Int × Unit))) × (Int × Unit)) :=
 ck ((eZ F neg_0 m_1 e_2).isSome = true) (some (((eZ F neg_0 m_1 e_2).getD ((false, ([] : List Nat), (0 : Int), ()), (0 : Int), ())).1, ((eZ F neg_0 m_1 e_2).getD ((false, ([] : List Nat), (0 : Int), ()), (0 : Int), ())).2.1, ()))
def aBK : Ty := .pair .bool (.pair (.sl (.u .u64)) (.pair (.i .i64) .unit))
attribute [go_sem] aBK
noncomputable def sD (F : Md) : aG := mSpec aBK (.tup (.pair (.pair .bool (.pair (.sl (.u .u64)) (.pair (.i .i64) .unit))) (.pair (.i .i64) .unit))) (fun x => yZ F x.1 x.2.1 x.2.2.1)
noncomputable def aEs (F : Md) : List (FuncId × aG) := [(180, (iL F))]
theorem aJN (F : Md) : bD Tryz.prog GL (aEs F) := .cons (aAx F) (by kernel_rfl) (.nil)
theorem aJO (F : Md) : gam (aEs F) 180 = some (iL F) := rfl
attribute [go_sem] aJO
set_option maxHeartbeats 4000000 in
theorem aHz (F : Md) : FOK Tryz.prog GL 117 (sD F) := by
 refine lU (aY (aJN F)) Tryz.func117 rfl (by kernel_rfl) (by decide) fun w0 S x r hw h => ?_
 have hF : jP (fr Tryz.prog (EM (aEs F)) S w0 Tryz.f117.ntmps) := ⟨aY (aJN F), mix⟩
 obtain ⟨(neg_0 : Bool), (m_1 : (List Nat)), (e_2 : Int), u⟩ := x
 simp only [aBK, Ty.wf, nA] at hw
 simp only [bL, aBK]
 try dsimp only at h
 replace h : yZ F neg_0 m_1 e_2 = some r := h
 unfold yZ at h
 refine aB (aO hF [3, 4, 5, 6] ?_)
 simp only [go_sem]
 refine aC (aB (wA 0 rfl ?_))
 simp only [go_sem]
 refine wA 1 rfl ?_
 simp only [go_sem]
 refine wA 2 rfl ?_
 simp only [go_sem]
 refine aO hF [6, 7] ?_
 simp only [go_sem]
 obtain ⟨g0, h⟩ := aT h
 repeat (refine ⟨zAA, ?_⟩)
 obtain rfl := Option.some.inj h
 refine aC (dB (fC hF [.cell 6 25, .tmp 7] rfl rfl rfl ?_))
 exact zAG
attribute [go_sem] sD
noncomputable def fE (F : Md) (d_0 : (Bool × ((List Nat) × (Int × Unit)))) : Option Bool :=
 if (((d_0.2.1.length) : Nat) : Int) = (0 : Int) then some ((!d_0.1) && (decide (d_0.2.2.1 = (0 : Int)))) else (aDv F d_0.2.1).bind (fun v_5 => ck ((v_5 = true) → ((0 : Int) < (((d_0.2.1.length) : Nat) : Int))) (some (((v_5 && (decide (((d_0.2.1.getD (0 : Nat) (0 : Nat)) &&& (1 : Nat)) = (1 : Nat)))) && (decide ((-1048576 : Int) ≤ d_0.2.2.1))) && (decide (d_0.2.2.1 ≤ (1048576 : Int))))))
def aHA : PlR := ⟨[(0, .B [1]), (1, .A [1, 6]), (2, .A [2]), (3, .A [2])], []⟩
def aJP : Ty := .pair (.pair .bool (.pair (.sl (.u .u64)) (.pair (.i .i64) .unit))) .unit
noncomputable def mY (F : Md) : aG := mSpec aJP (.one .bool) (fun x => fE F x.1)
noncomputable def aJQ (F : Md) : List (FuncId × aG) := [(120, (aBF F))]
theorem aNR (F : Md) : bD Tryz.prog GL (aJQ F) := .cons (aNI F) (by kernel_rfl) (.nil)
theorem aJR (F : Md) : gam (aJQ F) 120 = some (aBF F) := rfl
attribute [go_sem] aJP aHA aJR
set_option maxHeartbeats 4000000 in
theorem aCY (F : Md) : FOK Tryz.prog GL 58 (mY F) := by
 refine bH (aY (aNR F)) mix Tryz.func58 rfl (by kernel_rfl) (by decide) aHA fun w0 S x Θ hw h hF => ?_
 obtain ⟨(d_0 : (Bool × ((List Nat) × (Int × Unit)))), u⟩ := x
 simp only [bL, go_sem]
 replace h : sat (fE F d_0) _ := h
 unfold fE at h
 refine dR h (fun hc h => ?_) fun hc h => ?_
 ·exact aF hF [.tmp 2] rfl rfl rfl (aA h) (by simp only [aR, go_sem])
 ·obtain ⟨v_5, hv, h⟩ := aI h
  try simp only [hv, go_sem]
  refine aP h fun g0 h => ?_
  exact aF hF [.tmp 2] rfl rfl rfl (aA h) (by simp only [aR, go_sem])
attribute [go_sem] mY
noncomputable def oS (F : Md) (d_0 : (Bool × ((List Nat) × (Int × Unit)))) : Option Int :=
 (fE F d_0).bind (fun v_7 => if (¬ (v_7 = true)) ∨ ((((d_0.2.1.length) : Nat) : Int) = (0 : Int)) then some (0 : Int) else if d_0.1 = true then some (-1 : Int) else some (1 : Int))
def aFB : PlR := ⟨[(0, .B [1]), (1, .A [1, 3]), (2, .A [2]), (3, .A [13]), (4, .A [2]), (5, .A [2])], []⟩
def aHB : Ty := .pair (.pair .bool (.pair (.sl (.u .u64)) (.pair (.i .i64) .unit))) .unit
noncomputable def pD (F : Md) : aG := mSpec aHB (.one (.i .i64)) (fun x => oS F x.1)
noncomputable def aHC (F : Md) : List (FuncId × aG) := [(58, (mY F))]
theorem aM2 (F : Md) : bD Tryz.prog GL (aHC F) := .cons (aCY F) (by kernel_rfl) (.nil)
theorem aJS (F : Md) : gam (aHC F) 58 = some (mY F) := rfl
attribute [go_sem] aHB aFB aJS
set_option maxHeartbeats 4000000 in
theorem aFC (F : Md) : FOK Tryz.prog GL 57 (pD F) := by
 refine bH (aY (aM2 F)) mix Tryz.func57 rfl (by kernel_rfl) (by decide) aFB fun w0 S x Θ hw h hF => ?_
 obtain ⟨(d_0 : (Bool × ((List Nat) × (Int × Unit)))), u⟩ := x
 simp only [bL, go_sem]
 replace h : sat (oS F d_0) _ := h
 unfold oS at h
 obtain ⟨v_7, hv, h⟩ := aI h
 try simp only [hv, go_sem]
 refine ⟨fun hc => ?_, fun hc => ?_⟩
 ·replace h := iU zAB h
  exact aF hF [.tmp 2] rfl rfl rfl (aA h) (by simp only [aR, go_sem])
 ·replace h := iV zAB h
  refine aHg h (fun hc h => ?_) fun hc h => ?_
  ·exact aF hF [.tmp 2] rfl rfl rfl (aA h) (by simp only [aR, go_sem])
  ·exact aF hF [.tmp 2] rfl rfl rfl (aA h) (by simp only [aR, go_sem])
attribute [go_sem] pD
noncomputable def aAc (F : Md) (a_0 : (Bool × ((List Nat) × (Int × Unit)))) (b_1 : (Bool × ((List Nat) × (Int × Unit)))) : Option Int :=
 (yR F a_0.2.1).bind (fun v_13 => ck (I64 (v_13 + a_0.2.2.1)) ((yR F b_1.2.1).bind (fun v_14 => ck (I64 (v_14 + b_1.2.2.1)) (if (v_13 + a_0.2.2.1) < (v_14 + b_1.2.2.1) then some (-1 : Int) else if (v_14 + b_1.2.2.1) < (v_13 + a_0.2.2.1) then some (1 : Int) else ck (I64 (a_0.2.2.1 - (min a_0.2.2.1 b_1.2.2.1))) ((iG F a_0.2.1 (a_0.2.2.1 - (min a_0.2.2.1 b_1.2.2.1))).bind (fun v_30 => ck (I64 (b_1.2.2.1 - (min a_0.2.2.1 b_1.2.2.1))) ((iG F b_1.2.1 (b_1.2.2.1 - (min a_0.2.2.1 b_1.2.2.1))).bind (fun v_31 => (oQ F v_30 v_31).bind (fun v_32 => some v_32)))))))))
def aFD : PlR := ⟨[(0, .B [2, 3]), (1, .A [2, 3, 5, 6]), (2, .A [2, 3, 5, 6, 20]), (3, .A [4]), (4, .A [2, 3, 24]), (5, .A [4]), (6, .A [2, 3, 7]), (7, .A [4])], []⟩
def aHD : Ty := .pair (.pair .bool (.pair (.sl (.u .u64)) (.pair (.i .i64) .unit))) (.pair (.pair .bool (.pair (.sl (.u .u64)) (.pair (.i .i64) .unit))) .unit)
noncomputable def xK (F : Md) : aG := mSpec aHD (.one (.i .i64)) (fun x => aAc F x.1 x.2.1)
noncomputable def aAd (F : Md) : List (FuncId × aG) := [(121, (zY F)), (122, (lZ F)), (95, (sA F))]
theorem aM3 (F : Md) : bD Tryz.prog GL (aAd F) := .cons (aMW F) (by kernel_rfl) (.cons (aBG F) (by kernel_rfl) (.cons (aHt F) (by kernel_rfl) (.nil)))
theorem aH3 (F : Md) : gam (aAd F) 121 = some (zY F) := rfl
theorem aH4 (F : Md) : gam (aAd F) 122 = some (lZ F) := rfl
theorem aJT (F : Md) : gam (aAd F) 95 = some (sA F) := rfl
attribute [go_sem] aHD aFD aH3 aH4 aJT
set_option maxHeartbeats 4000000 in
theorem aL0 (F : Md) : FOK Tryz.prog GL 59 (xK F) := by
 refine bH (aY (aM3 F)) mix Tryz.func59 rfl (by kernel_rfl) (by decide) aFD fun w0 S x Θ hw h hF => ?_
 obtain ⟨(a_0 : (Bool × ((List Nat) × (Int × Unit)))), (b_1 : (Bool × ((List Nat) × (Int × Unit)))), u⟩ := x
 simp only [bL, go_sem]
 replace h : sat (aAc F a_0 b_1) _ := h
 unfold aAc at h
 obtain ⟨v_13, hv, h⟩ := aI h
 try simp only [hv, go_sem]
 refine aP h fun g0 h => ?_
 obtain ⟨v_14, hv, h⟩ := aI h
 try simp only [hv, go_sem]
 refine aP h fun g0 h => ?_
 refine eE h (fun hc h => ?_) fun hc h => ?_
 ·exact aF hF [.tmp 4] rfl rfl rfl (aA h) (by simp only [aR, go_sem])
 ·refine eE h (fun hc h => ?_) fun hc h => ?_
  ·exact aF hF [.tmp 4] rfl rfl rfl (aA h) (by simp only [aR, go_sem])
  ·refine aP h fun g0 h => ?_
   obtain ⟨v_30, hv, h⟩ := aI h
   try simp only [hv, go_sem]
   refine aP h fun g0 h => ?_
   obtain ⟨v_31, hv, h⟩ := aI h
   try simp only [hv, go_sem]
   obtain ⟨v_32, hv, h⟩ := aI h
   try simp only [hv, go_sem]
   exact aF hF [.tmp 4] rfl rfl rfl (aA h) (by simp only [aR, go_sem])
attribute [go_sem] xK
noncomputable def uV (F : Md) (a_0 : (Bool × ((List Nat) × (Int × Unit)))) (b_1 : (Bool × ((List Nat) × (Int × Unit)))) : Option Int :=
 (oS F a_0).bind (fun v_13 => (oS F b_1).bind (fun v_14 => (fE F a_0).bind (fun v_20 => ck (¬ (¬ (v_20 = true)) → ((fE F b_1).isSome = true)) (if (¬ (v_20 = true)) ∨ (¬ (((fE F b_1).getD false) = true)) then some (0 : Int) else if (¬ (v_13 = v_14)) ∧ (v_13 < v_14) then some (-1 : Int) else if ¬ (v_13 = v_14) then some (1 : Int) else if v_13 = (0 : Int) then some (0 : Int) else (aAc F a_0 b_1).bind (fun v_24 => ck (I64 (v_13 * v_24)) (some (v_13 * v_24)))))))
def aHE : PlR := ⟨[(0, .B [2, 3]), (1, .A [2, 3, 5, 6]), (2, .A [2, 3, 5, 6, 11]), (3, .A [4]), (4, .A [2, 3, 5, 6, 20]), (5, .A [4]), (6, .A [2, 3, 5, 29]), (7, .A [4]), (8, .A [2, 3, 5, 33]), (9, .A [4]), (10, .A [4])], []⟩
def aJU : Ty := .pair (.pair .bool (.pair (.sl (.u .u64)) (.pair (.i .i64) .unit))) (.pair (.pair .bool (.pair (.sl (.u .u64)) (.pair (.i .i64) .unit))) .unit)
noncomputable def sE (F : Md) : aG := mSpec aJU (.one (.i .i64)) (fun x => uV F x.1 x.2.1)
noncomputable def aBL (F : Md) : List (FuncId × aG) := [(57, (pD F)), (58, (mY F)), (59, (xK F))]
theorem aNS (F : Md) : bD Tryz.prog GL (aBL F) := .cons (aFC F) (by kernel_rfl) (.cons (aCY F) (by kernel_rfl) (.cons (aL0 F) (by kernel_rfl) (.nil)))
theorem aKx (F : Md) : gam (aBL F) 57 = some (pD F) := rfl
theorem aKy (F : Md) : gam (aBL F) 58 = some (mY F) := rfl
theorem aKz (F : Md) : gam (aBL F) 59 = some (xK F) := rfl
attribute [go_sem] aJU aHE aKx aKy aKz
set_option maxHeartbeats 4000000 in
theorem aHF (F : Md) : FOK Tryz.prog GL 22 (sE F) := by
 refine bH (aY (aNS F)) mix Tryz.func22 rfl (by kernel_rfl) (by decide) aHE fun w0 S x Θ hw h hF => ?_
 obtain ⟨(a_0 : (Bool × ((List Nat) × (Int × Unit)))), (b_1 : (Bool × ((List Nat) × (Int × Unit)))), u⟩ := x
 simp only [bL, go_sem]
 replace h : sat (uV F a_0 b_1) _ := h
 unfold uV at h
 obtain ⟨v_13, hv, h⟩ := aI h
 try simp only [hv, go_sem]
 obtain ⟨v_14, hv, h⟩ := aI h
 try simp only [hv, go_sem]
 obtain ⟨v_20, hv, h⟩ := aI h
 try simp only [hv, go_sem]
 obtain ⟨g0, h⟩ := aJ h
 repeat (refine ⟨zAD, ?_⟩)
 refine ⟨fun hc => ?_, fun hc => ?_⟩
 ·replace h := iU zAB h
  exact aF hF [.tmp 4] rfl rfl rfl (aA h) (by simp only [aR, go_sem])
 ·replace h := iV zAB h
  refine ⟨fun hc => ?_, fun hc => ?_⟩
  ·replace h := iU hc h
   exact aF hF [.tmp 4] rfl rfl rfl (aA h) (by simp only [aR, go_sem])
  ·replace h := iV hc h
   refine dR h (fun hc h => ?_) fun hc h => ?_
   ·exact aF hF [.tmp 4] rfl rfl rfl (aA h) (by simp only [aR, go_sem])
   ·refine dR h (fun hc h => ?_) fun hc h => ?_
    ·exact aF hF [.tmp 4] rfl rfl rfl (aA h) (by simp only [aR, go_sem])
    ·obtain ⟨v_24, hv, h⟩ := aI h
     try simp only [hv, go_sem]
     obtain ⟨g0, h⟩ := aJ h
     try simp only [I64, I32] at g0
     repeat (refine ⟨zAA, ?_⟩)
     exact aF hF [.tmp 4] rfl rfl rfl (aA h) (by simp only [aR, go_sem])
attribute [go_sem] sE
noncomputable def tB (F : Md) (n_0 : Int) (e_1 : Int) (m_3 : Nat) : Option ((Bool × ((List Nat) × (Int × Unit))) × (Int × Unit)) :=
 (yT F ([m_3] : List Nat)).bind (fun v_6 => (yZ F (decide (n_0 < (0 : Int))) v_6 e_1).bind (fun v_7 => some (v_7.1, v_7.2.1, ())))
noncomputable def aDw (F : Md) (n_0 : Int) (e_1 : Int) : Option ((Bool × ((List Nat) × (Int × Unit))) × (Int × Unit)) :=
 if n_0 < (0 : Int) then tB F n_0 e_1 (aNC F .u64 (n_0 % (18446744073709551616 : Int)).toNat) else tB F n_0 e_1 (n_0 % (18446744073709551616 : Int)).toNat
def aJV : PlR := ⟨[(0, .B [0, 1, 4]), (1, .A [0, 1, 4, 6]), (2, .A [0, 1, 4, 6, 10]), (3, .A [0, 1, 4, 6]), (4, .B [4, 5])], [(5, 7)]⟩
def aLn : Ty := .pair (.i .i64) (.pair (.i .i64) .unit)
noncomputable def aBM (F : Md) : aG := mSpec aLn (.tup (.pair (.pair .bool (.pair (.sl (.u .u64)) (.pair (.i .i64) .unit))) (.pair (.i .i64) .unit))) (fun x => aDw F x.1 x.2.1)
noncomputable def aGI (F : Md) : List (FuncId × aG) := [(117, (sD F)), (231, (rZ F))]
theorem aPq (F : Md) : bD Tryz.prog GL (aGI F) := .cons (aHz F) (by kernel_rfl) (.cons (aHp F) (by kernel_rfl) (.nil))
theorem aKA (F : Md) : gam (aGI F) 117 = some (sD F) := rfl
theorem aKB (F : Md) : gam (aGI F) 231 = some (rZ F) := rfl
attribute [go_sem] aLn aJV aKA aKB
set_option maxHeartbeats 4000000 in
theorem aNT (F : Md) : FOK Tryz.prog GL 200 (aBM F) := by
 refine bH (aY (aPq F)) mix Tryz.func200 rfl (by kernel_rfl) (by decide) aJV fun w0 S x Θ hw h hF => ?_
 obtain ⟨(n_0 : Int), (e_1 : Int), u⟩ := x
 simp only [bL, go_sem]
 replace h : sat (aDw F n_0 e_1) _ := h
 unfold aDw at h
 refine dZ hF (D := Nat) (fun d => sat (tB F n_0 e_1 d) Θ) [0, 1] (fun d => [(4, .ptr 0 []), (6, .val (.u .u64) d)]) (fun d => [.inr (.box 3 (.val (.pair .bool (.pair (.sl (.u .u64)) (.pair (.i .i64) .unit))) (false, ([] : List Nat), (0 : Int), ())))]) ?_ ?_
 ·simp only [go_sem, cF F, cG F, cH F]
  refine eE h (fun hc h => ?_) fun hc h => ?_
  ·exact aS (aNC F .u64 (n_0 % (18446744073709551616 : Int)).toNat) h rfl (by simp only [go_sem, cF F, cG F, cH F])
  ·exact aS (n_0 % (18446744073709551616 : Int)).toNat h rfl (by simp only [go_sem, cF F, cG F, cH F])
 ·rintro m_3 h
  simp only [go_sem, cF F, cG F, cH F]
  replace h : sat (tB F n_0 e_1 m_3) _ := h
  unfold tB at h
  obtain ⟨v_6, hv, h⟩ := aI h
  try simp only [hv, go_sem, cF F, cG F, cH F]
  obtain ⟨v_7, hv, h⟩ := aI h
  try simp only [hv, go_sem, cF F, cG F, cH F]
  exact aF hF [.cell 4 25, .tmp 5] rfl rfl rfl (aA h) (by simp only [aR, go_sem, cF F, cG F, cH F])
attribute [go_sem] aBM
noncomputable def tC (F : Md) (a_0 : (Bool × ((List Nat) × (Int × Unit)))) (b_1 : (Bool × ((List Nat) × (Int × Unit)))) : Option ((Bool × ((List Nat) × (Int × Unit))) ⊕ (Int × Unit)) :=
 ck ((gK F a_0.2.1 b_1.2.1).isSome = true) (ck (I64 (a_0.2.2.1 + b_1.2.2.1)) ((yY F (a_0.1 != b_1.1) ((gK F a_0.2.1 b_1.2.1).getD ([] : List Nat)) (a_0.2.2.1 + b_1.2.2.1)).bind (fun e => match e with | .inl r_7 => some (.inl r_7) | .inr p_8 => some (.inr p_8))))
noncomputable def mF (F : Md) : oD where
 D := (Bool × ((List Nat) × (Int × Unit))) × (Bool × ((List Nat) × (Int × Unit))) × ((Bool × ((List Nat) × (Int × Unit))) ⊕ (Int × Unit))
 av := fun d => [.val (.pair .bool (.pair (.sl (.u .u64)) (.pair (.i .i64) .unit))) d.1, .val (.pair .bool (.pair (.sl (.u .u64)) (.pair (.i .i64) .unit))) d.2.1]
 hp := fun d => []
 m := 0
 pre := fun d => tC F d.1 d.2.1 = some d.2.2
 out := fun d => match d.2.2 with | .inl r => .ret (.val (.pair .bool (.pair (.sl (.u .u64)) (.pair (.i .i64) .unit))) r) [] | .inr p => .pan ⟨251, (.pair (.i .i64) .unit), p⟩ []
noncomputable def aBN (F : Md) : List (FuncId × aG) := [(94, (eP F))]
theorem aFE (F : Md) : bD Tryz.prog GL (aBN F) := .cons (pB F) (by kernel_rfl) (.nil)
theorem aH5 (F : Md) : gam (aBN F) 94 = some (eP F) := rfl
attribute [go_sem] aH5
set_option maxHeartbeats 4000000 in
theorem vI (F : Md) : GOK Tryz.prog GL 239 (mF F) := by
 refine yO (aY (aFE F)) Tryz.func239 rfl (by kernel_rfl) (fun _ => Nat.le_of_ble_eq_true rfl) fun c0 w0 d hw1 hw2 h hn => ?_
 have hF : jP ⟨Tryz.prog, EM (aBN F), GM (mF F) c0 d, w0, Tryz.f239.ntmps, []⟩ := ⟨aY (aFE F), mix⟩
 obtain ⟨(a_0 : (Bool × ((List Nat) × (Int × Unit)))), (b_1 : (Bool × ((List Nat) × (Int × Unit)))), r⟩ := d
 replace h : tC F a_0 b_1 = some r := h
 have hw1 : AV.wfL [.val (.pair .bool (.pair (.sl (.u .u64)) (.pair (.i .i64) .unit))) a_0, .val (.pair .bool (.pair (.sl (.u .u64)) (.pair (.i .i64) .unit))) b_1] := hw1
 simp only [AV.wfL, AV.wfV, Ty.wf, nA] at hw1
 show Tri _ _ _ [(0, .val (.pair .bool (.pair (.sl (.u .u64)) (.pair (.i .i64) .unit))) a_0), (1, .val (.pair .bool (.pair (.sl (.u .u64)) (.pair (.i .i64) .unit))) b_1)] []
 unfold tC at h
 refine aB (aO hF [2, 3, 4] ?_)
 simp only [go_sem]
 obtain ⟨g0, h⟩ := aT h
 obtain ⟨g1, h⟩ := aT h
 try simp only [I64, I32] at g1
 obtain ⟨e, he1, h⟩ := bind_some h
 rcases e with r_7 | p_8
 ·try dsimp only at h
  refine aC (aB (aFk hF (eC (l := [(182, ⟨oR F, [], ((a_0.1 != b_1.1), ((gK F a_0.2.1 b_1.2.1).getD ([] : List Nat)), (a_0.2.2.1 + b_1.2.2.1), .inl r_7)⟩)]) (.cons (aAb F) (by kernel_rfl) (.nil))) 15 (by decide) [4] [] ?_))
  simp only [go_sem]
  repeat (refine ⟨zAA, ?_⟩)
  simp only [aQs, go_sem]
  repeat (refine ⟨zAA, ?_⟩)
  obtain rfl := Option.some.inj h
  refine aC (dB (aAR hF [.cell 4 25] [] rfl rfl rfl rfl rfl rfl rfl rfl rfl ?_))
  (try simp only [aR, aFg, aEo, hN, rR, AV.isAgg, go_sem]) <;> first | trivial | rfl | (simp; done)
 ·try dsimp only at h
  refine aC (aB (aFk hF (eC (l := [(182, ⟨oR F, [], ((a_0.1 != b_1.1), ((gK F a_0.2.1 b_1.2.1).getD ([] : List Nat)), (a_0.2.2.1 + b_1.2.2.1), .inr p_8)⟩)]) (.cons (aAb F) (by kernel_rfl) (.nil))) 15 (by decide) [4] [] ?_))
  simp only [go_sem]
  repeat (refine ⟨zAA, ?_⟩)
  simp only [aQs, go_sem]
  repeat (refine ⟨zAA, ?_⟩)
  obtain rfl := Option.some.inj h
  refine nL (vB [] rfl rfl ?_)
  simp only [ren, gP, kA, posOf, eB, go_sem]
  refine sV rfl rfl rfl rfl
attribute [go_sem] mF
noncomputable def jG (F : Md) (a0_0 : (Bool × ((List Nat) × (Int × Unit)))) (a1_1 : (Bool × ((List Nat) × (Int × Unit)))) (a2_2 : Unit) : Option ((Bool × ((List Nat) × (Int × Unit))) ⊕ (Int × Unit)) :=
 ck ((fE F a0_0).isSome = true) (if ((fE F a0_0).getD false) = true then ck ((fE F a1_1).isSome = true) ((mA F (((fE F a0_0).getD false) && ((fE F a1_1).getD false)) (1 : Int)).bind (fun e => match e with | .inl r_12 => (tC F a0_0 a1_1).bind (fun e => match e with | .inl r_20 => some (.inl r_20) | .inr p_21 => some (.inr p_21)) | .inr p_13 => some (.inr p_13))) else (mA F false (1 : Int)).bind (fun e => match e with | .inl r_14 => (tC F a0_0 a1_1).bind (fun e => match e with | .inl r_26 => some (.inl r_26) | .inr p_27 => some (.inr p_27)) | .inr p_15 => some (.inr p_15)))
noncomputable def fY (F : Md) : oD where
 D := (Bool × ((List Nat) × (Int × Unit))) × (Bool × ((List Nat) × (Int × Unit))) × Unit × ((Bool × ((List Nat) × (Int × Unit))) ⊕ (Int × Unit))
 av := fun d => [.val (.rp (.pair .bool (.pair (.sl (.u .u64)) (.pair (.i .i64) .unit)))) d.1, .val (.rp (.pair .bool (.pair (.sl (.u .u64)) (.pair (.i .i64) .unit)))) d.2.1, .val (.rp (.clo 239 .unit)) d.2.2.1]
 hp := fun d => []
 m := 0
 pre := fun d => jG F d.1 d.2.1 d.2.2.1 = some d.2.2.2
 out := fun d => match d.2.2.2 with | .inl r => .ret (.val (.pair .bool (.pair (.sl (.u .u64)) (.pair (.i .i64) .unit))) r) [] | .inr p => .pan ⟨251, (.pair (.i .i64) .unit), p⟩ []
noncomputable def mO (F : Md) : List (FuncId × aG) := [(58, (mY F))]
theorem sF (F : Md) : bD Tryz.prog GL (mO F) := .cons (aCY F) (by kernel_rfl) (.nil)
theorem zA (F : Md) : gam (mO F) 58 = some (mY F) := rfl
attribute [go_sem] zA
set_option maxHeartbeats 4000000 in
theorem qL (F : Md) : GOK Tryz.prog GL 256 (fY F) := by
 refine yO (aY (sF F)) Tryz.func256 rfl (by kernel_rfl) (fun _ => Nat.le_of_ble_eq_true rfl) fun c0 w0 d hw1 hw2 h hn => ?_
 have hF : jP ⟨Tryz.prog, EM (mO F), GM (fY F) c0 d, w0, Tryz.f256.ntmps, []⟩ := ⟨aY (sF F), mix⟩
 obtain ⟨(a0_0 : (Bool × ((List Nat) × (Int × Unit)))), (a1_1 : (Bool × ((List Nat) × (Int × Unit)))), (a2_2 : Unit), r⟩ := d
 replace h : jG F a0_0 a1_1 a2_2 = some r := h
 have hw1 : AV.wfL [.val (.rp (.pair .bool (.pair (.sl (.u .u64)) (.pair (.i .i64) .unit)))) a0_0, .val (.rp (.pair .bool (.pair (.sl (.u .u64)) (.pair (.i .i64) .unit)))) a1_1, .val (.rp (.clo 239 .unit)) a2_2] := hw1
 simp only [AV.wfL, AV.wfV, Ty.wf, nA] at hw1
 show Tri _ _ _ [(0, .roa (.pair .bool (.pair (.sl (.u .u64)) (.pair (.i .i64) .unit))) a0_0), (1, .roa (.pair .bool (.pair (.sl (.u .u64)) (.pair (.i .i64) .unit))) a1_1), (2, .roa (.clo 239 .unit) a2_2)] []
 unfold jG at h
 refine aB (aO hF [0, 1, 2, 3] ?_)
 simp only [go_sem]
 obtain ⟨g0, h⟩ := aT h
 by_cases hq : ((fE F a0_0).getD false) = true
 ·have h := hP hq h
  obtain ⟨g1, h⟩ := aT h
  obtain ⟨e, he1, h⟩ := bind_some h
  rcases e with r_12 | p_13
  ·try dsimp only at h
   refine aC (aB (bT hF (eC (l := [(233, ⟨eD F, [], ((((fE F a0_0).getD false) && ((fE F a1_1).getD false)), (1 : Int), .inl r_12)⟩)]) (.cons (gE F) (by kernel_rfl) (.nil))) [0, 1, 2, 3] [] ?_))
   simp only [go_sem]
   repeat (refine ⟨zAA, ?_⟩)
   refine ⟨fun _ => ?_, fun hx => by first | (exfalso; omega) | (exfalso; simp_all; done)⟩
   repeat (refine ⟨zAA, ?_⟩)
   refine ⟨fun _ => ?_, fun hx => by first | (exfalso; omega) | (exfalso; simp_all; done)⟩
   repeat (refine ⟨zAA, ?_⟩)
   obtain ⟨e, he2, h⟩ := bind_some h
   rcases e with r_20 | p_21
   ·try dsimp only at h
    refine aC (aB (bT hF (eC (l := [(239, ⟨mF F, [], (a0_0, a1_1, .inl r_20)⟩)]) (.cons (vI F) (by kernel_rfl) (.nil))) [3] [] ?_))
    simp only [go_sem]
    repeat (refine ⟨zAA, ?_⟩)
    obtain rfl := Option.some.inj h
    refine aC (dB (aAR hF [.cell 3 25] [] rfl rfl rfl rfl rfl rfl rfl rfl rfl ?_))
    (try simp only [aR, aFg, aEo, hN, rR, AV.isAgg, go_sem]) <;> first | trivial | rfl | (simp; done)
   ·try dsimp only at h
    refine aC (aB (bT hF (eC (l := [(239, ⟨mF F, [], (a0_0, a1_1, .inr p_21)⟩)]) (.cons (vI F) (by kernel_rfl) (.nil))) [3] [] ?_))
    simp only [go_sem]
    repeat (refine ⟨zAA, ?_⟩)
    obtain rfl := Option.some.inj h
    refine nL (vB [] rfl rfl ?_)
    simp only [ren, gP, kA, posOf, eB, go_sem]
    refine sV rfl rfl rfl rfl
  ·try dsimp only at h
   refine aC (aB (bT hF (eC (l := [(233, ⟨eD F, [], ((((fE F a0_0).getD false) && ((fE F a1_1).getD false)), (1 : Int), .inr p_13)⟩)]) (.cons (gE F) (by kernel_rfl) (.nil))) [0, 1, 2, 3] [] ?_))
   simp only [go_sem]
   repeat (refine ⟨zAA, ?_⟩)
   refine ⟨fun _ => ?_, fun hx => by first | (exfalso; omega) | (exfalso; simp_all; done)⟩
   repeat (refine ⟨zAA, ?_⟩)
   refine ⟨fun _ => ?_, fun hx => by first | (exfalso; omega) | (exfalso; simp_all; done)⟩
   repeat (refine ⟨zAA, ?_⟩)
   obtain rfl := Option.some.inj h
   refine nL (vB [] rfl rfl ?_)
   simp only [ren, gP, kA, posOf, eB, go_sem]
   refine sV rfl rfl rfl rfl
 ·have h := hU hq h
  obtain ⟨e, he3, h⟩ := bind_some h
  rcases e with r_14 | p_15
  ·try dsimp only at h
   refine aC (aB (bT hF (eC (l := [(233, ⟨eD F, [], (false, (1 : Int), .inl r_14)⟩)]) (.cons (gE F) (by kernel_rfl) (.nil))) [0, 1, 2, 3] [] ?_))
   simp only [go_sem]
   repeat (refine ⟨zAA, ?_⟩)
   first | (refine ⟨fun hx => by first | (exfalso; omega) | (exfalso; simp_all; done), fun _ => ?_⟩) | intro _
   repeat (refine ⟨zAA, ?_⟩)
   first | (refine ⟨fun hx => by first | (exfalso; omega) | (exfalso; simp_all; done), fun _ => ?_⟩) | intro _
   repeat (refine ⟨zAA, ?_⟩)
   obtain ⟨e, he4, h⟩ := bind_some h
   rcases e with r_26 | p_27
   ·try dsimp only at h
    refine aC (aB (bT hF (eC (l := [(239, ⟨mF F, [], (a0_0, a1_1, .inl r_26)⟩)]) (.cons (vI F) (by kernel_rfl) (.nil))) [3] [] ?_))
    simp only [go_sem]
    repeat (refine ⟨zAA, ?_⟩)
    obtain rfl := Option.some.inj h
    refine aC (dB (aAR hF [.cell 3 25] [] rfl rfl rfl rfl rfl rfl rfl rfl rfl ?_))
    (try simp only [aR, aFg, aEo, hN, rR, AV.isAgg, go_sem]) <;> first | trivial | rfl | (simp; done)
   ·try dsimp only at h
    refine aC (aB (bT hF (eC (l := [(239, ⟨mF F, [], (a0_0, a1_1, .inr p_27)⟩)]) (.cons (vI F) (by kernel_rfl) (.nil))) [3] [] ?_))
    simp only [go_sem]
    repeat (refine ⟨zAA, ?_⟩)
    obtain rfl := Option.some.inj h
    refine nL (vB [] rfl rfl ?_)
    simp only [ren, gP, kA, posOf, eB, go_sem]
    refine sV rfl rfl rfl rfl
  ·try dsimp only at h
   refine aC (aB (bT hF (eC (l := [(233, ⟨eD F, [], (false, (1 : Int), .inr p_15)⟩)]) (.cons (gE F) (by kernel_rfl) (.nil))) [0, 1, 2, 3] [] ?_))
   simp only [go_sem]
   repeat (refine ⟨zAA, ?_⟩)
   first | (refine ⟨fun hx => by first | (exfalso; omega) | (exfalso; simp_all; done), fun _ => ?_⟩) | intro _
   repeat (refine ⟨zAA, ?_⟩)
   first | (refine ⟨fun hx => by first | (exfalso; omega) | (exfalso; simp_all; done), fun _ => ?_⟩) | intro _
   repeat (refine ⟨zAA, ?_⟩)
   obtain rfl := Option.some.inj h
   refine nL (vB [] rfl rfl ?_)
   simp only [ren, gP, kA, posOf, eB, go_sem]
   refine sV rfl rfl rfl rfl
attribute [go_sem] fY
noncomputable def cP (F : Md) (c0 : (Bool × ((List Nat) × (Int × Unit)))) (c1 : (Bool × ((List Nat) × (Int × Unit)))) (c2 : Unit) : Option ((Bool × ((List Nat) × (Int × Unit))) × Int × Unit) :=
 (jG F c0 c1 c2).bind fun q => some (match q with | .inl r => (r, 0, ()) | .inr p => ((false, ([] : List Nat), (0 : Int), ()), p.1, ()))
def kV : Ty := .pair (.clo 256 (.pair (.rp (.pair .bool (.pair (.sl (.u .u64)) (.pair (.i .i64) .unit)))) (.pair (.rp (.pair .bool (.pair (.sl (.u .u64)) (.pair (.i .i64) .unit)))) (.pair (.rp (.clo 239 .unit)) .unit)))) .unit
noncomputable def dX (F : Md) : aG := mSpec kV (.tup (.pair (.pair .bool (.pair (.sl (.u .u64)) (.pair (.i .i64) .unit))) (.pair (.i .i64) .unit))) (fun x => cP F x.1.1 x.1.2.1 x.1.2.2.1)
set_option maxHeartbeats 4000000 in
theorem qM (F : Md) : FOK Tryz.prog GL 180 (dX F) := by
 refine aJu (aY aDS) Tryz.func180 rfl (by kernel_rfl) (by decide) fun w0 S x r hw h => ?_
 have hF : jP (fr Tryz.prog (EM []) S w0 Tryz.f180.ntmps) := ⟨aY aDS, mix⟩
 obtain ⟨⟨(c0 : (Bool × ((List Nat) × (Int × Unit)))), (c1 : (Bool × ((List Nat) × (Int × Unit)))), (c2 : Unit), u1⟩, u⟩ := x
 replace h : cP F c0 c1 c2 = some r := h
 show Tri _ _ _ [(0, .val (.clo 256 (.pair (.rp (.pair .bool (.pair (.sl (.u .u64)) (.pair (.i .i64) .unit)))) (.pair (.rp (.pair .bool (.pair (.sl (.u .u64)) (.pair (.i .i64) .unit)))) (.pair (.rp (.clo 239 .unit)) .unit)))) (c0, c1, c2, u1))] []
 unfold cP at h
 obtain ⟨q, hq, h⟩ := bind_some h
 obtain rfl := Option.some.inj h
 refine aB (aO hF [0, 2, 3] ?_)
 simp only [go_sem]
 refine aC (aDM 2 [0, 1] rfl rfl (Nat.zero_le _) (by decide) fun roots hroots => ?_)
 have hF' : jP { fr Tryz.prog (EM []) S w0 Tryz.f180.ntmps with M := ⟨nothing, S, 2, roots⟩, ds := [⟨.fn (.func 232) ([0, 1].map roots).toArray, #[]⟩] } := ⟨aY aDS, mix⟩
 rcases q with q | q
 ·refine aB (bT hF' (eC (l := [(256, ⟨fY F, [], (c0, c1, c2, .inl q)⟩)]) (.cons (qL F) (by kernel_rfl) .nil)) [2, 3] [] ?_)
  simp only [go_sem]
  refine ⟨hq, ?_⟩
  refine aC (dB ?_)
  refine aOC (fn := Tryz.f180) (k := 2) (l2 := [0, 1]) hF' rfl rfl (by decide) rfl (aFi (by kernel_rfl)) ⟨kP, [0, 1], (q, 0)⟩ aCW rfl [.cell 2 25, .cell 3 3] rfl ?_ ?_
  ·(simp only [kP, go_sem]) <;> first | decide | trivial
  ·(simp only [kP, aR, hO, go_sem]) <;> first | decide | trivial
 ·refine aB (bT hF' (eC (l := [(256, ⟨fY F, [], (c0, c1, c2, .inr q)⟩)]) (.cons (qL F) (by kernel_rfl) .nil)) [2, 3] [] ?_)
  simp only [go_sem]
  refine ⟨hq, ?_⟩
  refine nL ?_
  refine aOD (fn := Tryz.f180) (k := 2) (l2 := [0, 1]) hF' rfl rfl (by decide) rfl (aFi (by kernel_rfl)) ⟨kQ q, [0, 1], ((false, ([] : List Nat), (0 : Int), ()), 0)⟩ (aCX q) rfl [.cell 2 25, .cell 3 3] rfl ?_ ?_
  ·(simp only [kQ, go_sem]) <;> first | decide | trivial
  ·(simp only [kQ, aR, hO, go_sem]) <;> first | decide | trivial
attribute [go_sem] dX kV
noncomputable def lF (F : Md) (a_0 : (Bool × ((List Nat) × (Int × Unit)))) (b_1 : (Bool × ((List Nat) × (Int × Unit)))) (do_2 : Unit) : Option ((Bool × ((List Nat) × (Int × Unit))) × (Int × Unit)) :=
 ck ((cP F a_0 b_1 do_2).isSome = true) (some (((cP F a_0 b_1 do_2).getD ((false, ([] : List Nat), (0 : Int), ()), (0 : Int), ())).1, ((cP F a_0 b_1 do_2).getD ((false, ([] : List Nat), (0 : Int), ()), (0 : Int), ())).2.1, ()))
def lG : Ty := .pair (.pair .bool (.pair (.sl (.u .u64)) (.pair (.i .i64) .unit))) (.pair (.pair .bool (.pair (.sl (.u .u64)) (.pair (.i .i64) .unit))) (.pair (.clo 239 .unit) .unit))
attribute [go_sem] lG
noncomputable def kE (F : Md) : aG := mSpec lG (.tup (.pair (.pair .bool (.pair (.sl (.u .u64)) (.pair (.i .i64) .unit))) (.pair (.i .i64) .unit))) (fun x => lF F x.1 x.2.1 x.2.2.1)
noncomputable def oB (F : Md) : List (FuncId × aG) := [(180, (dX F))]
theorem uI (F : Md) : bD Tryz.prog GL (oB F) := .cons (qM F) (by kernel_rfl) (.nil)
theorem zO (F : Md) : gam (oB F) 180 = some (dX F) := rfl
attribute [go_sem] zO
set_option maxHeartbeats 4000000 in
theorem aBO (F : Md) : FOK Tryz.prog GL 238 (kE F) := by
 refine lU (aY (uI F)) Tryz.func238 rfl (by kernel_rfl) (by decide) fun w0 S x r hw h => ?_
 have hF : jP (fr Tryz.prog (EM (oB F)) S w0 Tryz.f238.ntmps) := ⟨aY (uI F), mix⟩
 obtain ⟨(a_0 : (Bool × ((List Nat) × (Int × Unit)))), (b_1 : (Bool × ((List Nat) × (Int × Unit)))), (do_2 : Unit), u⟩ := x
 simp only [lG, Ty.wf, nA] at hw
 simp only [bL, lG]
 try dsimp only at h
 replace h : lF F a_0 b_1 do_2 = some r := h
 unfold lF at h
 refine aB (aO hF [3, 4, 5, 6] ?_)
 simp only [go_sem]
 refine aC (aB (wA 0 rfl ?_))
 simp only [go_sem]
 refine wA 1 rfl ?_
 simp only [go_sem]
 refine wA 2 rfl ?_
 simp only [go_sem]
 refine aO hF [6, 7] ?_
 simp only [go_sem]
 obtain ⟨g0, h⟩ := aT h
 repeat (refine ⟨zAA, ?_⟩)
 obtain rfl := Option.some.inj h
 refine aC (dB (fC hF [.cell 6 25, .tmp 7] rfl rfl rfl ?_))
 exact zAG
attribute [go_sem] kE
noncomputable def aBP (F : Md) (a_0 : (Bool × ((List Nat) × (Int × Unit)))) (b_1 : (Bool × ((List Nat) × (Int × Unit)))) : Option ((Bool × ((List Nat) × (Int × Unit))) × (Int × Unit)) :=
 (lF F a_0 b_1 ()).bind (fun v_4 => some (v_4.1, v_4.2.1, ()))
def aHG : PlR := ⟨[(0, .B [2, 3, 4]), (1, .B [4, 5])], []⟩
def aJW : Ty := .pair (.pair .bool (.pair (.sl (.u .u64)) (.pair (.i .i64) .unit))) (.pair (.pair .bool (.pair (.sl (.u .u64)) (.pair (.i .i64) .unit))) .unit)
noncomputable def aAe (F : Md) : aG := mSpec aJW (.tup (.pair (.pair .bool (.pair (.sl (.u .u64)) (.pair (.i .i64) .unit))) (.pair (.i .i64) .unit))) (fun x => aBP F x.1 x.2.1)
noncomputable def aJX (F : Md) : List (FuncId × aG) := [(238, (kE F))]
theorem aNU (F : Md) : bD Tryz.prog GL (aJX F) := .cons (aBO F) (by kernel_rfl) (.nil)
theorem aJY (F : Md) : gam (aJX F) 238 = some (kE F) := rfl
attribute [go_sem] aJW aHG aJY
set_option maxHeartbeats 4000000 in
theorem aM4 (F : Md) : FOK Tryz.prog GL 201 (aAe F) := by
 refine bH (aY (aNU F)) mix Tryz.func201 rfl (by kernel_rfl) (by decide) aHG fun w0 S x Θ hw h hF => ?_
 obtain ⟨(a_0 : (Bool × ((List Nat) × (Int × Unit)))), (b_1 : (Bool × ((List Nat) × (Int × Unit)))), u⟩ := x
 simp only [bL, go_sem]
 replace h : sat (aBP F a_0 b_1) _ := h
 unfold aBP at h
 obtain ⟨v_4, hv, h⟩ := aI h
 try simp only [hv, go_sem]
 exact aF hF [.cell 4 25, .tmp 5] rfl rfl rfl (aA h) (by simp only [aR, go_sem])
attribute [go_sem] aAe
end Nu
end Go.Proofs
namespace Go.Proofs
open Go.Vc
set_option maxRecDepth 20000
namespace Nu
def aJZ : ByteArray := ⟨⟨97 :: 98 :: 99 :: 100 :: 101 :: 102 :: 103 :: 104 :: 105 :: 106 :: 107 :: 108 :: 109 :: 110 :: 111 :: 112 :: 113 :: 114 :: 115 :: 116 :: 117 :: 118 :: 119 :: 120 :: 121 :: 122 :: 48 :: 49 :: 50 :: 51 :: 52 :: 53 :: 54 :: 55 :: 56 :: 57 :: 95 :: []⟩⟩
theorem aKC : (⟨⟨97 :: 98 :: 99 :: 100 :: 101 :: 102 :: 103 :: 104 :: 105 :: 106 :: 107 :: 108 :: 109 :: 110 :: 111 :: 112 :: 113 :: 114 :: 115 :: 116 :: 117 :: 118 :: 119 :: 120 :: 121 :: 122 :: 48 :: 49 :: 50 :: 51 :: 52 :: 53 :: 54 :: 55 :: 56 :: 57 :: 95 :: []⟩⟩ : ByteArray) = aJZ := rfl
attribute [go_sem] aKC
noncomputable def kW (F : Md) (c_1 : Nat) (s_5 : (List Nat)) : Option ((List Nat) ⊕ (List Nat)) :=
 ck (((0 : Int) < (((s_5.length) : Nat) : Int)) → (I64 ((((s_5.length) : Nat) : Int) - (1 : Int)))) (ck (((0 : Int) < (((s_5.length) : Nat) : Int)) → (0 ≤ ((((s_5.length) : Nat) : Int) - (1 : Int)) ∧ ((((s_5.length) : Nat) : Int) - (1 : Int)) < (((s_5.length) : Nat) : Int))) (if ((0 : Int) < (((s_5.length) : Nat) : Int)) ∧ ((s_5.getD ((((s_5.length) : Nat) : Int) - (1 : Int)).toNat (0 : Nat)) = c_1) then ck (I64 ((((s_5.length) : Nat) : Int) - (1 : Int))) (ck (0 ≤ ((((s_5.length) : Nat) : Int) - (1 : Int)) ∧ ((((s_5.length) : Nat) : Int) - (1 : Int)) ≤ (((s_5.length) : Nat) : Int)) (some (.inl (List.take ((((s_5.length) : Nat) : Int) - (1 : Int)).toNat s_5)))) else some (.inr s_5)))
noncomputable def jH (F : Md) (s_0 : (List Nat)) (c_1 : Nat) : Option (List Nat) :=
 (dM F (fun d : (List Nat) => kW F c_1 d) s_0).bind (fun e => some e)
def qN : PlR := ⟨[(0, .A [0, 1]), (1, .A [0, 1, 16]), (2, .A [0, 1]), (3, .A [4])], []⟩
def sG : Ty := .pair .str (.pair (.u .u8) .unit)
noncomputable def iM (F : Md) : aG := mSpec sG (.one .str) (fun x => jH F x.1 x.2.1)
noncomputable def aAU (F : Md) : List (FuncId × aG) := []
theorem aAV (F : Md) : bD Tryz.prog GL (aAU F) := .nil
attribute [go_sem] sG qN
set_option maxHeartbeats 4000000 in
theorem aAy (F : Md) : FOK Tryz.prog GL 143 (iM F) := by
 refine bH (aY (aAV F)) mix Tryz.func143 rfl (by kernel_rfl) (by decide) qN fun w0 S x Θ hw h hF => ?_
 obtain ⟨(s_0 : (List Nat)), (c_1 : Nat), u⟩ := x
 simp only [bL, go_sem]
 replace h : sat (jH F s_0 c_1) _ := h
 unfold jH at h
 refine bR hF (D := (List Nat)) [1] (fun d => [(0, .val .str d)]) (fun d => []) h rfl (by simp only [go_sem]) ?_
 rintro s_5 A1 T1 hA1 hE1 h
 simp only [go_sem]
 replace h : sat (kW F c_1 s_5) _ := h
 unfold kW at h
 refine aP h fun g0 h => aP h fun g1 h => ?_
 refine ⟨fun hc => ?_, fun hc => ?_⟩
 ·replace h := iU hc h
  refine aP h fun g0 h => aP h fun g1 h => ?_
  replace h := hA1 _ (aA h)
  exact aS _ h rfl (by simp only [go_sem])
 ·replace h := iV hc h
  replace h := hE1 _ (aA h)
  try dsimp only at h
  exact aF hF [.tmp 4] rfl rfl rfl (aA h) (by simp only [aR, go_sem])
attribute [go_sem] iM
noncomputable def lP (F : Md) (c_1 : Nat) (s_5 : (List Nat)) : Option ((List Nat) ⊕ (List Nat)) :=
 ck (((0 : Int) < (((s_5.length) : Nat) : Int)) → ((0 : Int) < (((s_5.length) : Nat) : Int))) (if ((0 : Int) < (((s_5.length) : Nat) : Int)) ∧ ((s_5.getD (0 : Nat) (0 : Nat)) = c_1) then ck ((1 : Int) ≤ (((s_5.length) : Nat) : Int)) (some (.inl (List.drop (1 : Nat) s_5))) else some (.inr s_5))
noncomputable def kF (F : Md) (s_0 : (List Nat)) (c_1 : Nat) : Option (List Nat) :=
 (dM F (fun d : (List Nat) => lP F c_1 d) s_0).bind (fun e => some e)
def sH : PlR := ⟨[(0, .A [0, 1]), (1, .A [0, 1, 13]), (2, .A [0, 1]), (3, .A [4])], []⟩
def tD : Ty := .pair .str (.pair (.u .u8) .unit)
noncomputable def jI (F : Md) : aG := mSpec tD (.one .str) (fun x => kF F x.1 x.2.1)
noncomputable def aBQ (F : Md) : List (FuncId × aG) := []
theorem aBR (F : Md) : bD Tryz.prog GL (aBQ F) := .nil
attribute [go_sem] tD sH
set_option maxHeartbeats 4000000 in
theorem aAW (F : Md) : FOK Tryz.prog GL 142 (jI F) := by
 refine bH (aY (aBR F)) mix Tryz.func142 rfl (by kernel_rfl) (by decide) sH fun w0 S x Θ hw h hF => ?_
 obtain ⟨(s_0 : (List Nat)), (c_1 : Nat), u⟩ := x
 simp only [bL, go_sem]
 replace h : sat (kF F s_0 c_1) _ := h
 unfold kF at h
 refine bR hF (D := (List Nat)) [1] (fun d => [(0, .val .str d)]) (fun d => []) h rfl (by simp only [go_sem]) ?_
 rintro s_5 A1 T1 hA1 hE1 h
 simp only [go_sem]
 replace h : sat (lP F c_1 s_5) _ := h
 unfold lP at h
 refine aP h fun g0 h => ?_
 refine ⟨fun hc => ?_, fun hc => ?_⟩
 ·replace h := iU hc h
  refine aP h fun g0 h => ?_
  replace h := hA1 _ (aA h)
  exact aS _ h rfl (by simp only [go_sem])
 ·replace h := iV hc h
  replace h := hE1 _ (aA h)
  try dsimp only at h
  exact aF hF [.tmp 4] rfl rfl rfl (aA h) (by simp only [aR, go_sem])
attribute [go_sem] jI
noncomputable def eQ (F : Md) (as_0 : (List Bool)) (c_1 : Nat) : Option Bool :=
 ck (0 ≤ ((c_1 : Nat) : Int) ∧ ((c_1 : Nat) : Int) < (256 : Int)) (some (as_0.getD c_1 false))
def nP : PlR := ⟨[(0, .A [0, 1]), (1, .A [4])], []⟩
def oE : Ty := .pair (.rp (.arr 256 .bool)) (.pair (.u .u8) .unit)
noncomputable def dK (F : Md) : aG := mSpec oE (.one .bool) (fun x => eQ F x.1 x.2.1)
noncomputable def xL (F : Md) : List (FuncId × aG) := []
theorem xM (F : Md) : bD Tryz.prog GL (xL F) := .nil
attribute [go_sem] oE nP
set_option maxHeartbeats 4000000 in
theorem nQ (F : Md) : FOK Tryz.prog GL 205 (dK F) := by
 refine bH (aY (xM F)) mix Tryz.func205 rfl (by kernel_rfl) (by decide) nP fun w0 S x Θ hw h hF => ?_
 obtain ⟨(as_0 : (List Bool)), (c_1 : Nat), u⟩ := x
 simp only [bL, go_sem]
 replace h : sat (eQ F as_0 c_1) _ := h
 unfold eQ at h
 refine aP h fun g0 h => ?_
 exact aF hF [.tmp 4] rfl rfl rfl (aA h) (by simp only [aR, go_sem])
attribute [go_sem] dK
noncomputable def lQ (F : Md) (chars_0 : (List Nat)) (i_6 : Int) (as_7 : (List Bool)) : Option ((Int × (List Bool)) ⊕ ((List Bool) ⊕ ((List Bool) × (Bool × Unit)))) :=
 if i_6 < (((chars_0.length) : Nat) : Int) then ck (0 ≤ i_6 ∧ i_6 < (((chars_0.length) : Nat) : Int)) (if (128 : Nat) ≤ (chars_0.getD (i_6.toNat) (0 : Nat)) then some (.inr (.inr (as_7, false, ()))) else ck (0 ≤ (((chars_0.getD (i_6.toNat) (0 : Nat)) : Nat) : Int) ∧ (((chars_0.getD (i_6.toNat) (0 : Nat)) : Nat) : Int) < (256 : Int)) (ck (I64 (i_6 + (1 : Int))) (some (.inl ((i_6 + (1 : Int)), (as_7.set (chars_0.getD (i_6.toNat) (0 : Nat)) true)))))) else some (.inr (.inl as_7))
noncomputable def kG (F : Md) (chars_0 : (List Nat)) : Option ((List Bool) × (Bool × Unit)) :=
 (dM F (fun d : Int × (List Bool) => lQ F chars_0 d.1 d.2) ((0 : Int), (List.replicate 256 false))).bind (fun e => match e with | (.inl e) => some (e, true, ()) | (.inr e) => some e)
def sI : PlR := ⟨[(0, .B [0, 2]), (1, .A [0, 2, 4]), (2, .A [0, 2, 4, 9]), (3, .A [0, 2, 4]), (4, .A [0, 2, 4, 5]), (5, .A [0, 2, 4, 5, 16]), (6, .B [2, 3]), (7, .B [0, 2, 4]), (8, .B [2, 3])], []⟩
def tE : Ty := .pair .str .unit
noncomputable def jJ (F : Md) : aG := mSpec tE (.tup (.pair (.arr 256 .bool) (.pair .bool .unit))) (fun x => kG F x.1)
noncomputable def aBS (F : Md) : List (FuncId × aG) := []
theorem aBT (F : Md) : bD Tryz.prog GL (aBS F) := .nil
attribute [go_sem] tE sI
set_option maxHeartbeats 4000000 in
theorem aAX (F : Md) : FOK Tryz.prog GL 144 (jJ F) := by
 refine bH (aY (aBT F)) mix Tryz.func144 rfl (by kernel_rfl) (by decide) sI fun w0 S x Θ hw h hF => ?_
 obtain ⟨(chars_0 : (List Nat)), u⟩ := x
 simp only [bL, go_sem]
 replace h : sat (kG F chars_0) _ := h
 unfold kG at h
 refine bR hF (D := Int × (List Bool)) [0] (fun d => [(2, .ptr 0 []), (4, .val (.i .i64) d.1)]) (fun d => [.inr (.box 256 (.val (.arr 256 .bool) d.2))]) h rfl (by simp only [go_sem]) ?_
 rintro ⟨i_6, as_7⟩ A2 T2 hA2 hE2 h
 simp only [go_sem]
 replace h : sat (lQ F chars_0 i_6 as_7) _ := h
 unfold lQ at h
 refine eE h (fun hc h => ?_) fun hc h => ?_
 ·obtain ⟨g0, h⟩ := aJ h
  repeat (refine ⟨by omega, ?_⟩)
  refine dR h (fun hc h => ?_) fun hc h => ?_
  ·replace h := hE2 _ (aA h)
   try dsimp only at h
   exact aF hF [.cell 2 174, .tmp 3] rfl rfl rfl (aA h) (by simp only [aR, go_sem])
  ·obtain ⟨g0, h⟩ := aJ h
   repeat (refine ⟨by omega, ?_⟩)
   obtain ⟨g0, h⟩ := aJ h
   repeat (refine ⟨by omega, ?_⟩)
   replace h := hA2 _ (aA h)
   exact aS _ h rfl (by simp only [go_sem])
 ·replace h := hE2 _ (aA h)
  try dsimp only at h
  exact aF hF [.cell 2 174, .tmp 3] rfl rfl rfl (aA h) (by simp only [aR, go_sem])
attribute [go_sem] jJ
noncomputable def kH (F : Md) (as_1 : (List Bool)) (s_11 : (List Nat)) : Option ((List Nat) ⊕ (List Nat)) :=
 if (0 : Int) < (((s_11.length) : Nat) : Int) then ck (I64 ((((s_11.length) : Nat) : Int) - (1 : Int))) (ck (0 ≤ ((((s_11.length) : Nat) : Int) - (1 : Int)) ∧ ((((s_11.length) : Nat) : Int) - (1 : Int)) < (((s_11.length) : Nat) : Int)) ((eQ F as_1 (s_11.getD ((((s_11.length) : Nat) : Int) - (1 : Int)).toNat (0 : Nat))).bind (fun v_21 => if ¬ (v_21 = true) then some (.inr s_11) else ck (I64 ((((s_11.length) : Nat) : Int) - (1 : Int))) (ck (0 ≤ ((((s_11.length) : Nat) : Int) - (1 : Int)) ∧ ((((s_11.length) : Nat) : Int) - (1 : Int)) ≤ (((s_11.length) : Nat) : Int)) (some (.inl (List.take ((((s_11.length) : Nat) : Int) - (1 : Int)).toNat s_11))))))) else some (.inr s_11)
noncomputable def iN (F : Md) (s_0 : (List Nat)) (as_1 : (List Bool)) : Option (List Nat) :=
 (dM F (fun d : (List Nat) => kH F as_1 d) s_0).bind (fun e => some e)
def pV : PlR := ⟨[(0, .A [0, 1]), (1, .A [0, 1, 7]), (2, .A [0, 1, 15]), (3, .A [0, 1]), (4, .A [4])], []⟩
def qO : Ty := .pair .str (.pair (.rp (.arr 256 .bool)) .unit)
noncomputable def iB (F : Md) : aG := mSpec qO (.one .str) (fun x => iN F x.1 x.2.1)
noncomputable def qP (F : Md) : List (FuncId × aG) := [(205, (dK F))]
theorem aAz (F : Md) : bD Tryz.prog GL (qP F) := .cons (nQ F) (by kernel_rfl) (.nil)
theorem wI (F : Md) : gam (qP F) 205 = some (dK F) := rfl
attribute [go_sem] qO pV wI
set_option maxHeartbeats 4000000 in
theorem zP (F : Md) : FOK Tryz.prog GL 146 (iB F) := by
 refine bH (aY (aAz F)) mix Tryz.func146 rfl (by kernel_rfl) (by decide) pV fun w0 S x Θ hw h hF => ?_
 obtain ⟨(s_0 : (List Nat)), (as_1 : (List Bool)), u⟩ := x
 simp only [bL, go_sem]
 replace h : sat (iN F s_0 as_1) _ := h
 unfold iN at h
 refine bR hF (D := (List Nat)) [1] (fun d => [(0, .val .str d)]) (fun d => []) h rfl (by simp only [go_sem]) ?_
 rintro s_11 A1 T1 hA1 hE1 h
 simp only [go_sem]
 replace h : sat (kH F as_1 s_11) _ := h
 unfold kH at h
 refine eE h (fun hc h => ?_) fun hc h => ?_
 ·refine aP h fun g0 h => aP h fun g1 h => ?_
  obtain ⟨v_21, hv, h⟩ := aI h
  try simp only [hv, go_sem]
  refine aAt h (fun hc h => ?_) fun hc h => ?_
  ·replace h := hE1 _ (aA h)
   try dsimp only at h
   exact aF hF [.tmp 4] rfl rfl rfl (aA h) (by simp only [aR, go_sem])
  ·refine aP h fun g0 h => aP h fun g1 h => ?_
   replace h := hA1 _ (aA h)
   exact aS _ h rfl (by simp only [go_sem])
 ·replace h := hE1 _ (aA h)
  try dsimp only at h
  exact aF hF [.tmp 4] rfl rfl rfl (aA h) (by simp only [aR, go_sem])
attribute [go_sem] iB
noncomputable def kX (F : Md) (as_1 : (List Bool)) (s_11 : (List Nat)) : Option ((List Nat) ⊕ (List Nat)) :=
 if (0 : Int) < (((s_11.length) : Nat) : Int) then ck ((0 : Int) < (((s_11.length) : Nat) : Int)) ((eQ F as_1 (s_11.getD (0 : Nat) (0 : Nat))).bind (fun v_21 => if ¬ (v_21 = true) then some (.inr s_11) else ck ((1 : Int) ≤ (((s_11.length) : Nat) : Int)) (some (.inl (List.drop (1 : Nat) s_11))))) else some (.inr s_11)
noncomputable def jK (F : Md) (s_0 : (List Nat)) (as_1 : (List Bool)) : Option (List Nat) :=
 (dM F (fun d : (List Nat) => kX F as_1 d) s_0).bind (fun e => some e)
def qQ : PlR := ⟨[(0, .A [0, 1]), (1, .A [0, 1, 7]), (2, .A [0, 1, 12]), (3, .A [0, 1]), (4, .A [4])], []⟩
def sJ : Ty := .pair .str (.pair (.rp (.arr 256 .bool)) .unit)
noncomputable def iO (F : Md) : aG := mSpec sJ (.one .str) (fun x => jK F x.1 x.2.1)
noncomputable def sK (F : Md) : List (FuncId × aG) := [(205, (dK F))]
theorem aAY (F : Md) : bD Tryz.prog GL (sK F) := .cons (nQ F) (by kernel_rfl) (.nil)
theorem xN (F : Md) : gam (sK F) 205 = some (dK F) := rfl
attribute [go_sem] sJ qQ xN
set_option maxHeartbeats 4000000 in
theorem aAA (F : Md) : FOK Tryz.prog GL 145 (iO F) := by
 refine bH (aY (aAY F)) mix Tryz.func145 rfl (by kernel_rfl) (by decide) qQ fun w0 S x Θ hw h hF => ?_
 obtain ⟨(s_0 : (List Nat)), (as_1 : (List Bool)), u⟩ := x
 simp only [bL, go_sem]
 replace h : sat (jK F s_0 as_1) _ := h
 unfold jK at h
 refine bR hF (D := (List Nat)) [1] (fun d => [(0, .val .str d)]) (fun d => []) h rfl (by simp only [go_sem]) ?_
 rintro s_11 A1 T1 hA1 hE1 h
 simp only [go_sem]
 replace h : sat (kX F as_1 s_11) _ := h
 unfold kX at h
 refine eE h (fun hc h => ?_) fun hc h => ?_
 ·refine aP h fun g0 h => ?_
  obtain ⟨v_21, hv, h⟩ := aI h
  try simp only [hv, go_sem]
  refine aAt h (fun hc h => ?_) fun hc h => ?_
  ·replace h := hE1 _ (aA h)
   try dsimp only at h
   exact aF hF [.tmp 4] rfl rfl rfl (aA h) (by simp only [aR, go_sem])
  ·refine aP h fun g0 h => ?_
   replace h := hA1 _ (aA h)
   exact aS _ h rfl (by simp only [go_sem])
 ·replace h := hE1 _ (aA h)
  try dsimp only at h
  exact aF hF [.tmp 4] rfl rfl rfl (aA h) (by simp only [aR, go_sem])
attribute [go_sem] iO
noncomputable def tF (F : Md) (s_0 : (List Nat)) (cutset_1 : (List Nat)) : Option (List Nat) :=
 if (s_0 = (aH ⟨#[]⟩)) ∨ (cutset_1 = (aH ⟨#[]⟩)) then some s_0 else ck (((((cutset_1.length) : Nat) : Int) = (1 : Int)) → ((0 : Int) < (((cutset_1.length) : Nat) : Int))) (if ((((cutset_1.length) : Nat) : Int) = (1 : Int)) ∧ ((cutset_1.getD (0 : Nat) (0 : Nat)) < (128 : Nat)) then ck ((0 : Int) < (((cutset_1.length) : Nat) : Int)) ((jH F s_0 (cutset_1.getD (0 : Nat) (0 : Nat))).bind (fun v_19 => ck ((0 : Int) < (((cutset_1.length) : Nat) : Int)) ((kF F v_19 (cutset_1.getD (0 : Nat) (0 : Nat))).bind (fun v_20 => some v_20)))) else (kG F cutset_1).bind (fun v_27 => if v_27.2.1 = true then (iN F s_0 v_27.1).bind (fun v_34 => (jK F v_34 v_27.1).bind (fun v_35 => some v_35)) else none))
def aB6 : PlR := ⟨[(0, .A [0, 1]), (1, .A [0, 1, 12]), (2, .A [4]), (3, .A [0, 1, 21]), (4, .A [4]), (5, .B [0, 1, 5, 6]), (6, .A [0, 1, 5, 34]), (7, .A [4]), (8, .stop)], []⟩
def aCZ : Ty := .pair .str (.pair .str .unit)
noncomputable def rD (F : Md) : aG := mSpec aCZ (.one .str) (fun x => tF F x.1 x.2.1)
noncomputable def mP (F : Md) : List (FuncId × aG) := [(142, (jI F)), (143, (iM F)), (144, (jJ F)), (145, (iO F)), (146, (iB F))]
theorem aJ0 (F : Md) : bD Tryz.prog GL (mP F) := .cons (aAW F) (by kernel_rfl) (.cons (aAy F) (by kernel_rfl) (.cons (aAX F) (by kernel_rfl) (.cons (aAA F) (by kernel_rfl) (.cons (zP F) (by kernel_rfl) (.nil)))))
theorem aEt (F : Md) : gam (mP F) 142 = some (jI F) := rfl
theorem aEu (F : Md) : gam (mP F) 143 = some (iM F) := rfl
theorem aEv (F : Md) : gam (mP F) 144 = some (jJ F) := rfl
theorem aEw (F : Md) : gam (mP F) 145 = some (iO F) := rfl
theorem aEx (F : Md) : gam (mP F) 146 = some (iB F) := rfl
attribute [go_sem] aCZ aB6 aEt aEu aEv aEw aEx
set_option maxHeartbeats 4000000 in
theorem aH6 (F : Md) : FOK Tryz.prog GL 70 (rD F) := by
 refine bH (aY (aJ0 F)) mix Tryz.func70 rfl (by kernel_rfl) (by decide) aB6 fun w0 S x Θ hw h hF => ?_
 obtain ⟨(s_0 : (List Nat)), (cutset_1 : (List Nat)), u⟩ := x
 simp only [bL, go_sem]
 replace h : sat (tF F s_0 cutset_1) _ := h
 unfold tF at h
 refine ⟨fun hc => ?_, fun hc => ?_⟩
 ·replace h := iU hc h
  exact aF hF [.tmp 4] rfl rfl rfl (aA h) (by simp only [aR, go_sem])
 ·replace h := iV hc h
  refine aP h fun g0 h => ?_
  refine ⟨fun hc => ?_, fun hc => ?_⟩
  ·replace h := iU hc h
   refine aP h fun g0 h => ?_
   obtain ⟨v_19, hv, h⟩ := aI h
   try simp only [hv, go_sem]
   refine aP h fun g0 h => ?_
   obtain ⟨v_20, hv, h⟩ := aI h
   try simp only [hv, go_sem]
   exact aF hF [.tmp 4] rfl rfl rfl (aA h) (by simp only [aR, go_sem])
  ·replace h := iV hc h
   obtain ⟨v_27, hv, h⟩ := aI h
   try simp only [hv, go_sem]
   refine aHg h (fun hc h => ?_) fun hc h => ?_
   ·obtain ⟨v_34, hv, h⟩ := aI h
    try simp only [hv, go_sem]
    obtain ⟨v_35, hv, h⟩ := aI h
    try simp only [hv, go_sem]
    exact aF hF [.tmp 4] rfl rfl rfl (aA h) (by simp only [aR, go_sem])
   ·exact aAS h
attribute [go_sem] rD
noncomputable def kS (F : Md) : Option (List (List Nat)) :=
 some ([(aH ⟨#[116]⟩), (aH ⟨#[115, 113, 114]⟩), (aH ⟨#[115, 113, 114, 116]⟩), (aH ⟨#[101, 120, 112]⟩), (aH ⟨#[112, 114, 101, 99]⟩), (aH ⟨#[101, 110, 100]⟩), (aH ⟨#[115, 116, 101, 112]⟩), (aH ⟨#[116, 111, 108]⟩), (aH ⟨#[116, 114, 105, 101, 115]⟩), (aH ⟨#[111, 114, 100, 101, 114]⟩), (aH ⟨#[106, 97, 99, 111, 98, 105]⟩), (aH ⟨#[115, 101, 105, 100, 101, 108]⟩), (aH ⟨#[115, 117, 98]⟩), (aH ⟨#[115, 116, 97, 116, 101]⟩), (aH ⟨#[112, 97, 114]⟩), (aH ⟨#[105, 110]⟩), (aH ⟨#[111, 117, 116]⟩), (aH ⟨#[100, 101, 114]⟩), (aH ⟨#[108, 105, 110, 107]⟩)] : List (List Nat))
def aAf : PlR := ⟨[(0, .A []), (1, .A [0])], []⟩
def aAZ : Ty := .unit
noncomputable def oF (F : Md) : aG := mSpec aAZ (.one (.sl .str)) (fun x => kS F )
noncomputable def aGJ (F : Md) : List (FuncId × aG) := []
theorem aGK (F : Md) : bD Tryz.prog GL (aGJ F) := .nil
attribute [go_sem] aAZ aAf
set_option maxHeartbeats 4000000 in
theorem aFF (F : Md) : FOK Tryz.prog GL 72 (oF F) := by
 refine bH (aY (aGK F)) mix Tryz.func72 rfl (by kernel_rfl) (by decide) aAf fun w0 S x Θ hw h hF => ?_
 simp only [bL, go_sem]
 replace h : sat (kS F) _ := h
 unfold kS at h
 exact aF hF [.tmp 0] rfl rfl rfl (aA h) (by (simp only [aR, go_sem]) <;> first | rfl | (simp; done))
attribute [go_sem] oF
noncomputable def mG (F : Md) (s_0 : (List (List Nat))) (v_1 : (List Nat)) (x8_5 : Int) : Option ((Int) ⊕ ((Unit) ⊕ Int)) :=
 if x8_5 < (((s_0.length) : Nat) : Int) then ck (0 ≤ x8_5 ∧ x8_5 < (((s_0.length) : Nat) : Int)) (if v_1 = (s_0.getD (x8_5.toNat) ([] : List Nat)) then some (.inr (.inr x8_5)) else ck (I64 (x8_5 + (1 : Int))) (some (.inl (x8_5 + (1 : Int))))) else some (.inr (.inl ()))
noncomputable def lH (F : Md) (s_0 : (List (List Nat))) (v_1 : (List Nat)) : Option Int :=
 (dM F (fun d : Int => mG F s_0 v_1 d) (0 : Int)).bind (fun e => match e with | (.inl e) => some (-1 : Int) | (.inr e) => some e)
def tG : PlR := ⟨[(0, .A [0, 1]), (1, .A [0, 1, 7, 8]), (2, .A [0, 1, 7, 8, 9]), (3, .A [0, 1, 5, 7, 8]), (4, .A [0, 1, 5, 7, 8, 16]), (5, .A [4]), (6, .A [0, 1, 7, 8]), (7, .A [4])], []⟩
def uJ : Ty := .pair (.sl .str) (.pair .str .unit)
noncomputable def kI (F : Md) : aG := mSpec uJ (.one (.i .i64)) (fun x => lH F x.1 x.2.1)
noncomputable def aCl (F : Md) : List (FuncId × aG) := []
theorem aCm (F : Md) : bD Tryz.prog GL (aCl F) := .nil
attribute [go_sem] uJ tG
set_option maxHeartbeats 4000000 in
theorem aBU (F : Md) : FOK Tryz.prog GL 149 (kI F) := by
 refine bH (aY (aCm F)) mix Tryz.func149 rfl (by kernel_rfl) (by decide) tG fun w0 S x Θ hw h hF => ?_
 obtain ⟨(s_0 : (List (List Nat))), (v_1 : (List Nat)), u⟩ := x
 simp only [bL, go_sem]
 replace h : sat (lH F s_0 v_1) _ := h
 unfold lH at h
 refine bR hF (D := Int) [0, 1, 7] (fun d => [(8, .val (.i .i64) d)]) (fun d => []) h rfl (by simp only [go_sem]) ?_
 rintro x8_5 A2 T2 hA2 hE2 h
 simp only [go_sem]
 replace h : sat (mG F s_0 v_1 x8_5) _ := h
 unfold mG at h
 refine eE h (fun hc h => ?_) fun hc h => ?_
 ·refine aP h fun g0 h => ?_
  refine dR h (fun hc h => ?_) fun hc h => ?_
  ·replace h := hE2 _ (aA h)
   try dsimp only at h
   exact aF hF [.tmp 4] rfl rfl rfl (aA h) (by simp only [aR, go_sem])
  ·refine aP h fun g0 h => ?_
   replace h := hA2 _ (aA h)
   exact aS _ h rfl (by simp only [go_sem])
 ·replace h := hE2 _ (aA h)
  try dsimp only at h
  exact aF hF [.tmp 4] rfl rfl rfl (aA h) (by simp only [aR, go_sem])
attribute [go_sem] kI
noncomputable def dQ (F : Md) (s_0 : (List (List Nat))) (v_1 : (List Nat)) : Option Bool :=
 (lH F s_0 v_1).bind (fun v_6 => some (decide ((0 : Int) ≤ v_6)))
def pW : PlR := ⟨[(0, .A [0, 1]), (1, .A [4])], []⟩
def qR : Ty := .pair (.sl .str) (.pair .str .unit)
noncomputable def eA (F : Md) : aG := mSpec qR (.one .bool) (fun x => dQ F x.1 x.2.1)
noncomputable def qS (F : Md) : List (FuncId × aG) := [(149, (kI F))]
theorem aAB (F : Md) : bD Tryz.prog GL (qS F) := .cons (aBU F) (by kernel_rfl) (.nil)
theorem wJ (F : Md) : gam (qS F) 149 = some (kI F) := rfl
attribute [go_sem] qR pW wJ
set_option maxHeartbeats 4000000 in
theorem pX (F : Md) : FOK Tryz.prog GL 71 (eA F) := by
 refine bH (aY (aAB F)) mix Tryz.func71 rfl (by kernel_rfl) (by decide) pW fun w0 S x Θ hw h hF => ?_
 obtain ⟨(s_0 : (List (List Nat))), (v_1 : (List Nat)), u⟩ := x
 simp only [bL, go_sem]
 replace h : sat (dQ F s_0 v_1) _ := h
 unfold dQ at h
 obtain ⟨v_6, hv, h⟩ := aI h
 try simp only [hv, go_sem]
 exact aF hF [.tmp 4] rfl rfl rfl (aA h) (by simp only [aR, go_sem])
attribute [go_sem] eA
noncomputable def aV (F : Md) (s_0 : (List Nat)) : Option Bool :=
 ck (¬ (((((s_0.length) : Nat) : Int) < (1 : Int)) ∨ ((20 : Int) < (((s_0.length) : Nat) : Int))) → ((0 : Int) < (((s_0.length) : Nat) : Int))) (ck (¬ ((((((s_0.length) : Nat) : Int) < (1 : Int)) ∨ ((20 : Int) < (((s_0.length) : Nat) : Int))) ∨ ((s_0.getD (0 : Nat) (0 : Nat)) < (97 : Nat))) → ((0 : Int) < (((s_0.length) : Nat) : Int))) (if ((((((s_0.length) : Nat) : Int) < (1 : Int)) ∨ ((20 : Int) < (((s_0.length) : Nat) : Int))) ∨ ((s_0.getD (0 : Nat) (0 : Nat)) < (97 : Nat))) ∨ ((122 : Nat) < (s_0.getD (0 : Nat) (0 : Nat))) then some false else (tF F s_0 (aH aJZ)).bind (fun v_5 => ck ((v_5 = (aH ⟨#[]⟩)) → ((kS F).isSome = true)) (ck ((v_5 = (aH ⟨#[]⟩)) → ((dQ F ((kS F).getD ([] : List (List Nat))) s_0).isSome = true)) (some ((decide (v_5 = (aH ⟨#[]⟩))) && (!((dQ F ((kS F).getD ([] : List (List Nat))) s_0).getD false))))))))
def aDU : PlR := ⟨[(0, .A [0]), (1, .A [0, 20]), (2, .A [2]), (3, .A [2])], []⟩
def aFG : Ty := .pair .str .unit
noncomputable def nV (F : Md) : aG := mSpec aFG (.one .bool) (fun x => aV F x.1)
noncomputable def xO (F : Md) : List (FuncId × aG) := [(70, (rD F)), (71, (eA F)), (72, (oF F))]
theorem aL1 (F : Md) : bD Tryz.prog GL (xO F) := .cons (aH6 F) (by kernel_rfl) (.cons (pX F) (by kernel_rfl) (.cons (aFF F) (by kernel_rfl) (.nil)))
theorem aH7 (F : Md) : gam (xO F) 70 = some (rD F) := rfl
theorem aH8 (F : Md) : gam (xO F) 71 = some (eA F) := rfl
theorem aH9 (F : Md) : gam (xO F) 72 = some (oF F) := rfl
attribute [go_sem] aFG aDU aH7 aH8 aH9
set_option maxHeartbeats 4000000 in
theorem aDV (F : Md) : FOK Tryz.prog GL 29 (nV F) := by
 refine bH (aY (aL1 F)) mix Tryz.func29 rfl (by kernel_rfl) (by decide) aDU fun w0 S x Θ hw h hF => ?_
 obtain ⟨(s_0 : (List Nat)), u⟩ := x
 simp only [bL, go_sem]
 replace h : sat (aV F s_0) _ := h
 unfold aV at h
 obtain ⟨g0, h⟩ := aJ h
 obtain ⟨g1, h⟩ := aJ h
 repeat (refine ⟨zAE, ?_⟩)
 refine ⟨fun hc => ?_, fun hc => ?_⟩
 ·replace h := iU hc h
  exact aF hF [.tmp 2] rfl rfl rfl (aA h) (by simp only [aR, go_sem])
 ·replace h := iV hc h
  obtain ⟨v_5, hv, h⟩ := aI h
  try simp only [hv, go_sem]
  obtain ⟨g0, h⟩ := aJ h
  obtain ⟨g1, h⟩ := aJ h
  repeat (refine ⟨zAE, ?_⟩)
  exact aF hF [.tmp 2] rfl rfl rfl (aA h) (by simp only [aR, go_sem])
attribute [go_sem] nV
end Nu
end Go.Proofs
namespace Go.Proofs
open Go.Vc
set_option maxRecDepth 20000
namespace Nu
noncomputable def nD (F : Md) : Option (Int × (Unit × Unit)) :=
 none
noncomputable def nE (F : Md) (s_0 : (List Nat)) (n_14 : Int) : Option (Int × (Unit × Unit)) :=
 ck ((0 : Int) < (((s_0.length) : Nat) : Int)) (if (s_0.getD (0 : Nat) (0 : Nat)) = (45 : Nat) then ck (I64 (0 - n_14)) (some ((0 - n_14), (), ())) else some (n_14, (), ()))
noncomputable def qC (F : Md) (s_9 : (List Nat)) (n_15 : Int) (x49_16 : Int) : Option ((Int × Int) ⊕ ((Int) ⊕ (Int × (Unit × Unit)))) :=
 if x49_16 < (((s_9.length) : Nat) : Int) then ck (0 ≤ x49_16 ∧ x49_16 < (((s_9.length) : Nat) : Int)) (if (9 : Nat) < (vZ F .u8 (s_9.getD (x49_16.toNat) (0 : Nat)) (48 : Nat)) then none else ck (I64 (n_15 * (10 : Int))) (ck (I64 ((n_15 * (10 : Int)) + (((vZ F .u8 (s_9.getD (x49_16.toNat) (0 : Nat)) (48 : Nat)) : Nat) : Int))) (ck (I64 (x49_16 + (1 : Int))) (some (.inl (((n_15 * (10 : Int)) + (((vZ F .u8 (s_9.getD (x49_16.toNat) (0 : Nat)) (48 : Nat)) : Nat) : Int)), (x49_16 + (1 : Int)))))))) else some (.inr (.inl n_15))
noncomputable def kY (F : Md) (s_0 : (List Nat)) (s_9 : (List Nat)) : Option (Int × (Unit × Unit)) :=
 (dM F (fun d : Int × Int => qC F s_9 d.1 d.2) ((0 : Int), (0 : Int))).bind (fun e => match e with | (.inl e) => nE F s_0 e | (.inr e) => some e)
noncomputable def rE (F : Md) (s_0 : (List Nat)) : Option (Int × (Unit × Unit)) :=
 if ((False) ∧ (((0 : Int) < (((s_0.length) : Nat) : Int)) ∧ ((((s_0.length) : Nat) : Int) < (10 : Int)))) ∨ ((True) ∧ (((0 : Int) < (((s_0.length) : Nat) : Int)) ∧ ((((s_0.length) : Nat) : Int) < (19 : Int)))) then ck ((0 : Int) < (((s_0.length) : Nat) : Int)) (ck (¬ ((s_0.getD (0 : Nat) (0 : Nat)) = (45 : Nat)) → ((0 : Int) < (((s_0.length) : Nat) : Int))) (if ((s_0.getD (0 : Nat) (0 : Nat)) = (45 : Nat)) ∨ ((s_0.getD (0 : Nat) (0 : Nat)) = (43 : Nat)) then ck ((1 : Int) ≤ (((s_0.length) : Nat) : Int)) (if (((List.drop (1 : Nat) s_0).length : Nat) : Int) < (1 : Int) then none else kY F s_0 (List.drop (1 : Nat) s_0)) else kY F s_0 s_0)) else nD F
def aA0 : PlR := ⟨[(0, .A [0]), (1, .A [0, 4]), (2, .A [0, 30]), (3, .A [0, 5]), (4, .A [0, 5, 39]), (5, .A [0, 5]), (6, .A [0, 5, 44]), (7, .A [2, 3]), (8, .A [0, 5, 6]), (9, .A [5, 6, 47, 48, 49]), (10, .A [5, 6, 47, 48, 49, 50]), (11, .A [5, 6, 8, 47, 48, 49]), (12, .A [5, 6, 8, 47, 48, 49]), (13, .A [5, 6, 8, 47, 48, 49, 56]), (14, .A [2, 3]), (15, .A [5, 6, 47, 48, 49]), (16, .A [5, 6, 47, 48, 49]), (17, .A [6, 66]), (18, .A [6]), (19, .A [2, 3]), (20, .stop)], [(5, 23), (7, 11), (12, 20)]⟩
def aB7 : Ty := .pair .str .unit
noncomputable def pE (F : Md) : aG := mSpec aB7 (.tup (.pair (.i .i64) (.pair .nili .unit))) (fun x => rE F x.1)
noncomputable def aIa (F : Md) : List (FuncId × aG) := []
theorem aIb (F : Md) : bD Tryz.prog GL (aIa F) := .nil
attribute [go_sem] aB7 aA0
set_option maxHeartbeats 4000000 in
theorem aGL (F : Md) : FOK Tryz.prog GL 254 (pE F) := by
 refine bH (aY (aIb F)) mix Tryz.func254 rfl (by kernel_rfl) (by decide) aA0 fun w0 S x Θ hw h hF => ?_
 obtain ⟨(s_0 : (List Nat)), u⟩ := x
 simp only [bL, go_sem]
 replace h : sat (rE F s_0) _ := h
 unfold rE at h
 refine dZ hF (D := Unit) (fun d => sat (nD F) Θ) [0] (fun d => []) (fun d => []) ?_ ?_
 ·simp only [go_sem, cF F, cG F, cH F]
  refine ⟨fun hc => ?_, fun hc => ?_⟩
  ·replace h := iU zAB h
   refine dZ hF (D := (List Nat)) (fun d => sat (kY F s_0 d) Θ) [5] (fun d => [(0, .val .str d)]) (fun d => []) ?_ ?_
   ·simp only [go_sem, cF F, cG F, cH F]
    refine aP h fun g0 h => aP h fun g1 h => ?_
    refine ⟨fun hc => ?_, fun hc => ?_⟩
    ·replace h := iU hc h
     refine aP h fun g0 h => ?_
     refine eE h (fun hc h => ?_) fun hc h => ?_
     ·exact aAS h
     ·exact aS (List.drop (1 : Nat) s_0) h rfl (by simp only [go_sem, cF F, cG F, cH F])
    ·replace h := iV hc h
     exact aS (s_0) h rfl (by simp only [go_sem, cF F, cG F, cH F])
   ·rintro s_9 h
    simp only [go_sem, cF F, cG F, cH F]
    replace h : sat (kY F s_0 s_9) _ := h
    unfold kY at h
    refine dZ hF (D := Int) (fun d => sat (nE F s_0 d) Θ) [5] (fun d => [(6, .val (.i .i64) d)]) (fun d => []) ?_ ?_
    ·simp only [go_sem, cF F, cG F, cH F]
     refine bR hF (D := Int × Int) [5, 47, 48] (fun d => [(6, .val (.i .i64) d.1), (49, .val (.i .i64) d.2)]) (fun d => []) h rfl (by simp only [go_sem, cF F, cG F, cH F]) ?_
     rintro ⟨n_15, x49_16⟩ A10 T10 hA10 hE10 h
     simp only [go_sem, cF F, cG F, cH F]
     replace h : sat (qC F s_9 n_15 x49_16) _ := h
     unfold qC at h
     refine eE h (fun hc h => ?_) fun hc h => ?_
     ·refine aP h fun g0 h => ?_
      refine dR h (fun hc h => ?_) fun hc h => ?_
      ·exact aAS h
      ·refine aP h fun g0 h => aP h fun g1 h => ?_
       refine aP h fun g0 h => ?_
       replace h := hA10 _ (aA h)
       exact aS _ h rfl (by simp only [go_sem, cF F, cG F, cH F])
     ·replace h := hE10 _ (aA h)
      try dsimp only at h
      exact aS (n_15) h rfl (by simp only [go_sem, cF F, cG F, cH F])
    ·rintro n_14 h
     simp only [go_sem, cF F, cG F, cH F]
     replace h : sat (nE F s_0 n_14) _ := h
     unfold nE at h
     refine aP h fun g0 h => ?_
     refine dR h (fun hc h => ?_) fun hc h => ?_
     ·refine aP h fun g0 h => ?_
      exact aF hF [.tmp 2, .tmp 3] rfl rfl rfl (aA h) (by simp only [aR, go_sem, cF F, cG F, cH F])
     ·exact aF hF [.tmp 2, .tmp 3] rfl rfl rfl (aA h) (by simp only [aR, go_sem, cF F, cG F, cH F])
  ·replace h := iV zAB h
   exact aS () h rfl (by simp only [go_sem, cF F, cG F, cH F])
 ·rintro u h
  simp only [go_sem, cF F, cG F, cH F]
  replace h : sat (nD F) _ := h
  unfold nD at h
  exact aAS h
attribute [go_sem] pE
noncomputable def tH (F : Md) (s_0 : (List Nat)) : Option (Int × (Unit × Unit)) :=
 (rE F s_0).bind (fun v_5 => some (v_5.1, (), ()))
def aB8 : PlR := ⟨[(0, .A [0]), (1, .A [0, 4, 5]), (2, .A [0, 4, 5, 12]), (4, .A [2, 3])], []⟩
def aC0 : Ty := .pair .str .unit
noncomputable def rF (F : Md) : aG := mSpec aC0 (.tup (.pair (.i .i64) (.pair .nili .unit))) (fun x => tH F x.1)
noncomputable def aC1 (F : Md) : List (FuncId × aG) := [(254, (pE F))]
theorem aJ1 (F : Md) : bD Tryz.prog GL (aC1 F) := .cons (aGL F) (by kernel_rfl) (.nil)
theorem aEy (F : Md) : gam (aC1 F) 254 = some (pE F) := rfl
attribute [go_sem] aC0 aB8 aEy
set_option maxHeartbeats 4000000 in
theorem aIc (F : Md) : FOK Tryz.prog GL 230 (rF F) := by
 refine bH (aY (aJ1 F)) mix Tryz.func230 rfl (by kernel_rfl) (by decide) aB8 fun w0 S x Θ hw h hF => ?_
 obtain ⟨(s_0 : (List Nat)), u⟩ := x
 simp only [bL, go_sem]
 replace h : sat (tH F s_0) _ := h
 unfold tH at h
 obtain ⟨v_5, hv, h⟩ := aI h
 try simp only [hv, go_sem]
 exact aF hF [.tmp 2, .tmp 3] rfl rfl rfl (aA h) (by simp only [aR, go_sem])
attribute [go_sem] rF
noncomputable def wK (F : Md) (at_1 : Int) (s_0 : (List Nat)) (n_5 : Int) : Option ((Int) ⊕ (Int)) :=
 ck (I64 (at_1 + n_5)) (ck (((at_1 + n_5) < (((s_0.length) : Nat) : Int)) → (I64 (at_1 + n_5))) (ck (((at_1 + n_5) < (((s_0.length) : Nat) : Int)) → (0 ≤ (at_1 + n_5) ∧ (at_1 + n_5) < (((s_0.length) : Nat) : Int))) (ck ((((at_1 + n_5) < (((s_0.length) : Nat) : Int)) ∧ ((48 : Nat) ≤ (s_0.getD (at_1 + n_5).toNat (0 : Nat)))) → (I64 (at_1 + n_5))) (ck ((((at_1 + n_5) < (((s_0.length) : Nat) : Int)) ∧ ((48 : Nat) ≤ (s_0.getD (at_1 + n_5).toNat (0 : Nat)))) → (0 ≤ (at_1 + n_5) ∧ (at_1 + n_5) < (((s_0.length) : Nat) : Int))) (if (((at_1 + n_5) < (((s_0.length) : Nat) : Int)) ∧ ((48 : Nat) ≤ (s_0.getD (at_1 + n_5).toNat (0 : Nat)))) ∧ ((s_0.getD (at_1 + n_5).toNat (0 : Nat)) ≤ (57 : Nat)) then ck (I64 (n_5 + (1 : Int))) (some (.inl (n_5 + (1 : Int)))) else some (.inr n_5))))))
noncomputable def pF (F : Md) (s_0 : (List Nat)) (at_1 : Int) : Option Int :=
 (dM F (fun d : Int => wK F at_1 s_0 d) (0 : Int)).bind (fun e => some e)
def aDW : PlR := ⟨[(0, .A [0, 1]), (1, .A [0, 1, 5]), (2, .A [0, 1, 5, 27]), (3, .A [0, 1, 5]), (4, .A [4])], []⟩
def aFH : Ty := .pair .str (.pair (.i .i64) .unit)
noncomputable def vJ (F : Md) : aG := mSpec aFH (.one (.i .i64)) (fun x => pF F x.1 x.2.1)
noncomputable def aL2 (F : Md) : List (FuncId × aG) := []
theorem aL3 (F : Md) : bD Tryz.prog GL (aL2 F) := .nil
attribute [go_sem] aFH aDW
set_option maxHeartbeats 4000000 in
theorem aKD (F : Md) : FOK Tryz.prog GL 229 (vJ F) := by
 refine bH (aY (aL3 F)) mix Tryz.func229 rfl (by kernel_rfl) (by decide) aDW fun w0 S x Θ hw h hF => ?_
 obtain ⟨(s_0 : (List Nat)), (at_1 : Int), u⟩ := x
 simp only [bL, go_sem]
 replace h : sat (pF F s_0 at_1) _ := h
 unfold pF at h
 refine bR hF (D := Int) [0, 1] (fun d => [(5, .val (.i .i64) d)]) (fun d => []) h rfl (by simp only [go_sem]) ?_
 rintro n_5 A2 T2 hA2 hE2 h
 simp only [go_sem]
 replace h : sat (wK F at_1 s_0 n_5) _ := h
 unfold wK at h
 refine aP h fun g0 h => aP h fun g1 h => aP h fun g2 h => aP h fun g3 h => aP h fun g4 h => ?_
 refine ⟨fun hc => ?_, fun hc => ?_⟩
 ·replace h := iU hc h
  refine aP h fun g0 h => ?_
  replace h := hA2 _ (aA h)
  exact aS _ h rfl (by simp only [go_sem])
 ·replace h := iV hc h
  replace h := hE2 _ (aA h)
  try dsimp only at h
  exact aF hF [.tmp 4] rfl rfl rfl (aA h) (by simp only [aR, go_sem])
attribute [go_sem] vJ
noncomputable def mQ (F : Md) (all_9 : (List Nat)) (s_0 : (List Nat)) (at_17 : Int) (pow_18 : Int) : Option ((List Nat) × (Int × (Bool × Unit))) :=
 some (all_9, pow_18, (decide (at_17 = (((s_0.length) : Nat) : Int))), ())
noncomputable def mR (F : Md) (pow_10 : Int) (at_19 : Int) (v_23 : Int) (all_9 : (List Nat)) (s_0 : (List Nat)) (x_28 : Int) : Option ((List Nat) × (Int × (Bool × Unit))) :=
 ck (I64 (pow_10 + x_28)) (ck (I64 (at_19 + v_23)) (mQ F all_9 s_0 (at_19 + v_23) (pow_10 + x_28)))
noncomputable def mS (F : Md) (s_0 : (List Nat)) (at_8 : Int) (pow_10 : Int) (all_9 : (List Nat)) (at_19 : Int) : Option ((List Nat) × (Int × (Bool × Unit))) :=
 (pF F s_0 at_19).bind (fun v_23 => if (v_23 < (1 : Int)) ∨ ((3 : Int) < v_23) then some ((aH ⟨#[]⟩), (0 : Int), false, ()) else ck (I64 (at_19 + v_23)) (ck (0 ≤ at_19 ∧ at_19 ≤ (at_19 + v_23) ∧ (at_19 + v_23) ≤ (((s_0.length) : Nat) : Int)) ((tH F (List.drop (at_19.toNat) (List.take (at_19 + v_23).toNat s_0))).bind (fun v_27 => if (100 : Int) < v_27.1 then some ((aH ⟨#[]⟩), (0 : Int), false, ()) else if ((at_8 + (1 : Int)) < (((s_0.length) : Nat) : Int)) ∧ ((s_0.getD (at_8 + (1 : Int)).toNat (0 : Nat)) = (45 : Nat)) then ck (I64 (0 - v_27.1)) (mR F pow_10 at_19 v_23 all_9 s_0 (0 - v_27.1)) else mR F pow_10 at_19 v_23 all_9 s_0 v_27.1))))
noncomputable def mT (F : Md) (s_0 : (List Nat)) (at_8 : Int) (all_9 : (List Nat)) (pow_10 : Int) : Option ((List Nat) × (Int × (Bool × Unit))) :=
 ck ((at_8 < (((s_0.length) : Nat) : Int)) → (0 ≤ at_8 ∧ at_8 < (((s_0.length) : Nat) : Int))) (if (at_8 < (((s_0.length) : Nat) : Int)) ∧ ((s_0.getD (at_8.toNat) (0 : Nat)) = (101 : Nat)) then ck (I64 (at_8 + (1 : Int))) (ck (((at_8 + (1 : Int)) < (((s_0.length) : Nat) : Int)) → (0 ≤ (at_8 + (1 : Int)) ∧ (at_8 + (1 : Int)) < (((s_0.length) : Nat) : Int))) (ck (¬ (((at_8 + (1 : Int)) < (((s_0.length) : Nat) : Int)) ∧ ((s_0.getD (at_8 + (1 : Int)).toNat (0 : Nat)) = (45 : Nat))) → ((at_8 + (1 : Int)) < (((s_0.length) : Nat) : Int)) → (0 ≤ (at_8 + (1 : Int)) ∧ (at_8 + (1 : Int)) < (((s_0.length) : Nat) : Int))) (if (((at_8 + (1 : Int)) < (((s_0.length) : Nat) : Int)) ∧ ((s_0.getD (at_8 + (1 : Int)).toNat (0 : Nat)) = (45 : Nat))) ∨ (((at_8 + (1 : Int)) < (((s_0.length) : Nat) : Int)) ∧ ((s_0.getD (at_8 + (1 : Int)).toNat (0 : Nat)) = (43 : Nat))) then ck (I64 ((at_8 + (1 : Int)) + (1 : Int))) (mS F s_0 at_8 pow_10 all_9 ((at_8 + (1 : Int)) + (1 : Int))) else mS F s_0 at_8 pow_10 all_9 (at_8 + (1 : Int))))) else mQ F all_9 s_0 at_8 pow_10)
noncomputable def nW (F : Md) (s_0 : (List Nat)) : Option ((List Nat) × (Int × (Bool × Unit))) :=
 (pF F s_0 (0 : Int)).bind (fun v_5 => ck (0 ≤ v_5 ∧ v_5 ≤ (((s_0.length) : Nat) : Int)) (if ((60 : Int) < (((s_0.length) : Nat) : Int)) ∨ (v_5 = (0 : Int)) then some ((aH ⟨#[]⟩), (0 : Int), false, ()) else ck ((v_5 < (((s_0.length) : Nat) : Int)) → (0 ≤ v_5 ∧ v_5 < (((s_0.length) : Nat) : Int))) (if (v_5 < (((s_0.length) : Nat) : Int)) ∧ ((s_0.getD (v_5.toNat) (0 : Nat)) = (46 : Nat)) then ck (I64 (v_5 + (1 : Int))) ((pF F s_0 (v_5 + (1 : Int))).bind (fun v_32 => if v_32 = (0 : Int) then some ((aH ⟨#[]⟩), (0 : Int), false, ()) else ck (I64 (v_5 + (1 : Int))) (ck (I64 (v_5 + (1 : Int))) (ck (I64 ((v_5 + (1 : Int)) + v_32)) (ck (0 ≤ (v_5 + (1 : Int)) ∧ (v_5 + (1 : Int)) ≤ ((v_5 + (1 : Int)) + v_32) ∧ ((v_5 + (1 : Int)) + v_32) ≤ (((s_0.length) : Nat) : Int)) (ck ((List.take (v_5.toNat) s_0).length + (List.drop (v_5 + (1 : Int)).toNat (List.take ((v_5 + (1 : Int)) + v_32).toNat s_0)).length ≤ 9223372036854775807) (ck (I64 (0 - v_32)) (ck (I64 (v_5 + (1 : Int))) (ck (I64 ((v_5 + (1 : Int)) + v_32)) (mT F s_0 ((v_5 + (1 : Int)) + v_32) ((List.take (v_5.toNat) s_0) ++ (List.drop (v_5 + (1 : Int)).toNat (List.take ((v_5 + (1 : Int)) + v_32).toNat s_0))) (0 - v_32))))))))))) else mT F s_0 v_5 (List.take (v_5.toNat) s_0) (0 : Int))))
def aC2 : PlR := ⟨[(0, .A [0]), (1, .A [0, 5]), (2, .A [0, 5, 6, 7]), (3, .A [0, 5, 6, 7, 24]), (4, .A [2, 3, 4]), (5, .A [0, 5, 6, 7, 34]), (6, .A [0, 5, 6, 8]), (7, .A [0, 5, 6, 8, 40]), (8, .A [2, 3, 4]), (9, .A [0, 5, 6, 7]), (10, .A [0, 5, 6, 7, 66]), (11, .A [0, 5, 6, 7]), (12, .A [0, 5, 6, 7, 9]), (13, .A [0, 5, 6, 7, 9, 91]), (14, .A [0, 5, 6, 7, 9]), (15, .A [0, 5, 6, 7, 9, 10]), (16, .A [0, 5, 6, 7, 9, 10, 102]), (17, .A [2, 3, 4]), (18, .A [0, 5, 6, 7, 9, 10, 11]), (19, .A [0, 5, 6, 7, 9, 10, 11, 114]), (20, .A [2, 3, 4]), (21, .A [0, 5, 6, 7, 10, 11, 115]), (22, .A [0, 5, 6, 7, 10, 11]), (23, .A [0, 5, 6, 7]), (24, .A [2, 3, 4])], [(8, 13), (13, 27), (16, 18), (24, 26)]⟩
def aDX : Ty := .pair .str .unit
noncomputable def iW (F : Md) : aG := mSpec aDX (.tup (.pair .str (.pair (.i .i64) (.pair .bool .unit)))) (fun x => nW F x.1)
noncomputable def aAC (F : Md) : List (FuncId × aG) := [(229, (vJ F)), (230, (rF F))]
theorem aKE (F : Md) : bD Tryz.prog GL (aAC F) := .cons (aKD F) (by kernel_rfl) (.cons (aIc F) (by kernel_rfl) (.nil))
theorem aFI (F : Md) : gam (aAC F) 229 = some (vJ F) := rfl
theorem aFJ (F : Md) : gam (aAC F) 230 = some (rF F) := rfl
attribute [go_sem] aDX aC2 aFI aFJ
set_option maxHeartbeats 4000000 in
theorem zB (F : Md) : FOK Tryz.prog GL 178 (iW F) := by
 refine bH (aY (aKE F)) mix Tryz.func178 rfl (by kernel_rfl) (by decide) aC2 fun w0 S x Θ hw h hF => ?_
 obtain ⟨(s_0 : (List Nat)), u⟩ := x
 simp only [bL, go_sem]
 replace h : sat (nW F s_0) _ := h
 unfold nW at h
 obtain ⟨v_5, hv, h⟩ := aI h
 try simp only [hv, go_sem]
 obtain ⟨g0, h⟩ := aJ h
 repeat (refine ⟨by omega, ?_⟩)
 refine ⟨fun hc => ?_, fun hc => ?_⟩
 ·replace h := iU hc h
  exact aF hF [.tmp 2, .tmp 3, .tmp 4] rfl rfl rfl (aA h) (by simp only [aR, go_sem])
 ·replace h := iV hc h
  refine dZ hF (D := Int × (List Nat) × Int) (fun d => sat (mT F s_0 d.1 d.2.1 d.2.2) Θ) [0] (fun d => [(5, .val (.i .i64) d.1), (6, .val .str d.2.1), (7, .val (.i .i64) d.2.2)]) (fun d => []) ?_ ?_
  ·simp only [go_sem]
   obtain ⟨g0, h⟩ := aJ h
   repeat (refine ⟨by omega, ?_⟩)
   refine ⟨fun hc => ?_, fun hc => ?_⟩
   ·replace h := iU hc h
    obtain ⟨g0, h⟩ := aJ h
    repeat (refine ⟨by omega, ?_⟩)
    obtain ⟨v_32, hv, h⟩ := aI h
    try simp only [hv, go_sem]
    refine dR h (fun hc h => ?_) fun hc h => ?_
    ·exact aF hF [.tmp 2, .tmp 3, .tmp 4] rfl rfl rfl (aA h) (by simp only [aR, go_sem])
    ·obtain ⟨g0, h⟩ := aJ h
     obtain ⟨g1, h⟩ := aJ h
     obtain ⟨g2, h⟩ := aJ h
     obtain ⟨g3, h⟩ := aJ h
     obtain ⟨g4, h⟩ := aJ h
     obtain ⟨g5, h⟩ := aJ h
     obtain ⟨g6, h⟩ := aJ h
     obtain ⟨g7, h⟩ := aJ h
     repeat (refine ⟨by omega, ?_⟩)
     exact aS (((v_5 + (1 : Int)) + v_32), ((List.take (v_5.toNat) s_0) ++ (List.drop (v_5 + (1 : Int)).toNat (List.take ((v_5 + (1 : Int)) + v_32).toNat s_0))), (0 - v_32)) h rfl (by simp only [go_sem])
   ·replace h := iV hc h
    exact aS (v_5, (List.take (v_5.toNat) s_0), (0 : Int)) h rfl (by simp only [go_sem])
  ·rintro ⟨at_8, all_9, pow_10⟩ h
   simp only [go_sem]
   replace h : sat (mT F s_0 at_8 all_9 pow_10) _ := h
   unfold mT at h
   refine dZ hF (D := Int × Int) (fun d => sat (mQ F all_9 s_0 d.1 d.2) Θ) [0, 6] (fun d => [(5, .val (.i .i64) d.1), (7, .val (.i .i64) d.2)]) (fun d => []) ?_ ?_
   ·simp only [go_sem]
    obtain ⟨g0, h⟩ := aJ h
    repeat (refine ⟨by omega, ?_⟩)
    refine ⟨fun hc => ?_, fun hc => ?_⟩
    ·replace h := iU hc h
     obtain ⟨g0, h⟩ := aJ h
     repeat (refine ⟨by omega, ?_⟩)
     obtain ⟨g0, h⟩ := aJ h
     repeat (refine ⟨by omega, ?_⟩)
     refine dZ hF (D := Int) (fun d => sat (mS F s_0 at_8 pow_10 all_9 d) Θ) [0, 6, 7, 9] (fun d => [(5, .val (.i .i64) d)]) (fun d => []) ?_ ?_
     ·simp only [go_sem]
      obtain ⟨g0, h⟩ := aJ h
      repeat (refine ⟨by omega, ?_⟩)
      refine ⟨fun hc => ?_, fun hc => ?_⟩
      ·replace h := iU hc h
       obtain ⟨g0, h⟩ := aJ h
       repeat (refine ⟨by omega, ?_⟩)
       exact aS ((at_8 + (1 : Int)) + (1 : Int)) h rfl (by simp only [go_sem])
      ·replace h := iV hc h
       exact aS (at_8 + (1 : Int)) h rfl (by simp only [go_sem])
     ·rintro at_19 h
      simp only [go_sem]
      replace h : sat (mS F s_0 at_8 pow_10 all_9 at_19) _ := h
      unfold mS at h
      obtain ⟨v_23, hv, h⟩ := aI h
      try simp only [hv, go_sem]
      refine ⟨fun hc => ?_, fun hc => ?_⟩
      ·replace h := iU hc h
       exact aF hF [.tmp 2, .tmp 3, .tmp 4] rfl rfl rfl (aA h) (by simp only [aR, go_sem])
      ·replace h := iV hc h
       obtain ⟨g0, h⟩ := aJ h
       obtain ⟨g1, h⟩ := aJ h
       repeat (refine ⟨by omega, ?_⟩)
       obtain ⟨v_27, hv, h⟩ := aI h
       try simp only [hv, go_sem]
       refine eE h (fun hc h => ?_) fun hc h => ?_
       ·exact aF hF [.tmp 2, .tmp 3, .tmp 4] rfl rfl rfl (aA h) (by simp only [aR, go_sem])
       ·refine dZ hF (D := Int) (fun d => sat (mR F pow_10 at_19 v_23 all_9 s_0 d) Θ) [0, 5, 6, 7, 10] (fun d => [(11, .val (.i .i64) d)]) (fun d => []) ?_ ?_
        ·simp only [go_sem]
         refine ⟨fun hc => ?_, fun hc => ?_⟩
         ·replace h := iU hc h
          obtain ⟨g0, h⟩ := aJ h
          repeat (refine ⟨by omega, ?_⟩)
          exact aS (0 - v_27.1) h rfl (by simp only [go_sem])
         ·replace h := iV hc h
          exact aS v_27.1 h rfl (by simp only [go_sem])
        ·rintro x_28 h
         simp only [go_sem]
         replace h : sat (mR F pow_10 at_19 v_23 all_9 s_0 x_28) _ := h
         unfold mR at h
         obtain ⟨g0, h⟩ := aJ h
         obtain ⟨g1, h⟩ := aJ h
         repeat (refine ⟨by omega, ?_⟩)
         exact aS ((at_19 + v_23), (pow_10 + x_28)) h rfl (by simp only [go_sem])
    ·replace h := iV hc h
     exact aS (at_8, pow_10) h rfl (by simp only [go_sem])
   ·rintro ⟨at_17, pow_18⟩ h
    simp only [go_sem]
    replace h : sat (mQ F all_9 s_0 at_17 pow_18) _ := h
    unfold mQ at h
    exact aF hF [.tmp 2, .tmp 3, .tmp 4] rfl rfl rfl (aA h) (by simp only [aR, go_sem])
attribute [go_sem] iW
noncomputable def zC (F : Md) (n_1 : Int) (b_0 : Nat) (m_13 : (List Nat)) (x8_14 : Int) : Option (((List Nat) × Int) ⊕ (List Nat)) :=
 if x8_14 < n_1 then (gK F m_13 ([b_0] : List Nat)).bind (fun v_23 => ck (I64 (x8_14 + (1 : Int))) (some (.inl (v_23, (x8_14 + (1 : Int)))))) else some (.inr m_13)
noncomputable def oT (F : Md) (b_0 : Nat) (n_1 : Int) : Option (List Nat) :=
 (dM F (fun d : (List Nat) × Int => zC F n_1 b_0 d.1 d.2) (([1] : List Nat), (0 : Int))).bind (fun e => some e)
def aFK : PlR := ⟨[], []⟩
def aHH : Ty := .pair (.u .u64) (.pair (.i .i64) .unit)
noncomputable def pG (F : Md) : aG := mSpec aHH (.one (.sl (.u .u64))) (fun x => oT F x.1 x.2.1)
noncomputable def aHI (F : Md) : List (FuncId × aG) := [(94, (eP F))]
theorem aM5 (F : Md) : bD Tryz.prog GL (aHI F) := .cons (pB F) (by kernel_rfl) (.nil)
theorem aJ2 (F : Md) : gam (aHI F) 94 = some (eP F) := rfl
attribute [go_sem] aHH aFK aJ2
set_option maxHeartbeats 4000000 in
theorem aFL (F : Md) : FOK Tryz.prog GL 96 (pG F) := by
 refine bH (aY (aM5 F)) mix Tryz.func96 rfl (by kernel_rfl) (by decide) aFK fun w0 S x Θ hw h hF => ?_
 obtain ⟨(b_0 : Nat), (n_1 : Int), u⟩ := x
 simp only [bL, go_sem]
 replace h : sat (oT F b_0 n_1) _ := h
 unfold oT at h
 refine rS hF [0, 1] ?_
 simp only [go_sem]
 refine rS hF [0, 1, 5] ?_
 simp only [go_sem]
 refine rS hF [0, 5, 7, 8] ?_
 simp only [go_sem]
 refine bR hF (D := (List Nat) × Int) [0, 7] (fun d => [(5, .val (.sl (.u .u64)) d.1), (8, .val (.i .i64) d.2)]) (fun d => []) h rfl (by simp only [go_sem]) ?_
 rintro ⟨m_13, x8_14⟩ A3 T3 hA3 hE3 h
 simp only [go_sem]
 replace h : sat (zC F n_1 b_0 m_13 x8_14) _ := h
 unfold zC at h
 refine rS hF [0, 5, 7, 8, 9] ?_
 simp only [go_sem]
 refine eE h (fun hc h => ?_) fun hc h => ?_
 ·refine rS hF [0, 5, 7, 8] ?_
  simp only [go_sem]
  obtain ⟨v_23, hv, h⟩ := aI h
  try simp only [hv, go_sem]
  refine rS hF [0, 5, 7, 8] ?_
  simp only [go_sem]
  refine aP h fun g0 h => ?_
  replace h := hA3 _ (aA h)
  exact aS _ h rfl (by simp only [go_sem])
 ·replace h := hE3 _ (aA h)
  try dsimp only at h
  refine rS hF [4] ?_
  simp only [go_sem]
  exact aF hF [.tmp 4] rfl rfl rfl (aA h) (by simp only [aR, go_sem])
attribute [go_sem] pG
noncomputable def wL (F : Md) (s_0 : (List Nat)) (m_24 : (List Nat)) (x9_25 : Int) : Option (((List Nat) × Int) ⊕ (List Nat)) :=
 if x9_25 < (((s_0.length) : Nat) : Int) then ck (0 ≤ x9_25 ∧ x9_25 < (((s_0.length) : Nat) : Int)) ((gK F m_24 ([10] : List Nat)).bind (fun v_44 => (yT F ([(vZ F .u8 (s_0.getD (x9_25.toNat) (0 : Nat)) (48 : Nat))] : List Nat)).bind (fun v_45 => (aBH F v_44 v_45).bind (fun v_46 => ck (I64 (x9_25 + (1 : Int))) (some (.inl (v_46, (x9_25 + (1 : Int))))))))) else some (.inr m_24)
noncomputable def tI (F : Md) (s_0 : (List Nat)) : Option (List Nat) :=
 (dM F (fun d : (List Nat) × Int => wL F s_0 d.1 d.2) (([] : List Nat), (0 : Int))).bind (fun e => some e)
def aDY : PlR := ⟨[], []⟩
def aFM : Ty := .pair .str .unit
noncomputable def nX (F : Md) : aG := mSpec aFM (.one (.sl (.u .u64))) (fun x => tI F x.1)
noncomputable def xP (F : Md) : List (FuncId × aG) := [(231, (rZ F)), (94, (eP F)), (99, (zZ F))]
theorem aL4 (F : Md) : bD Tryz.prog GL (xP F) := .cons (aHp F) (by kernel_rfl) (.cons (pB F) (by kernel_rfl) (.cons (aMY F) (by kernel_rfl) (.nil)))
theorem aGM (F : Md) : gam (xP F) 231 = some (rZ F) := rfl
theorem aId (F : Md) : gam (xP F) 94 = some (eP F) := rfl
theorem aIe (F : Md) : gam (xP F) 99 = some (zZ F) := rfl
attribute [go_sem] aFM aDY aGM aId aIe
set_option maxHeartbeats 4000000 in
theorem aDZ (F : Md) : FOK Tryz.prog GL 179 (nX F) := by
 refine bH (aY (aL4 F)) mix Tryz.func179 rfl (by kernel_rfl) (by decide) aDY fun w0 S x Θ hw h hF => ?_
 obtain ⟨(s_0 : (List Nat)), u⟩ := x
 simp only [bL, go_sem]
 replace h : sat (tI F s_0) _ := h
 unfold tI at h
 refine rS hF [0] ?_
 simp only [go_sem, cF F, cG F, cH F]
 refine rS hF [0, 3] ?_
 simp only [go_sem, cF F, cG F, cH F]
 refine rS hF [3, 7, 8, 9] ?_
 simp only [go_sem, cF F, cG F, cH F]
 refine bR hF (D := (List Nat) × Int) [7, 8] (fun d => [(3, .val (.sl (.u .u64)) d.1), (9, .val (.i .i64) d.2)]) (fun d => []) h rfl (by simp only [go_sem, cF F, cG F, cH F]) ?_
 rintro ⟨m_24, x9_25⟩ A3 T3 hA3 hE3 h
 simp only [go_sem, cF F, cG F, cH F]
 replace h : sat (wL F s_0 m_24 x9_25) _ := h
 unfold wL at h
 refine rS hF [3, 7, 8, 9, 10] ?_
 simp only [go_sem, cF F, cG F, cH F]
 refine eE h (fun hc h => ?_) fun hc h => ?_
 ·refine rS hF [3, 5, 7, 8, 9] ?_
  simp only [go_sem, cF F, cG F, cH F]
  refine aP h fun g0 h => ?_
  refine rS hF [3, 7, 8, 9] ?_
  simp only [go_sem, cF F, cG F, cH F]
  obtain ⟨v_44, hv, h⟩ := aI h
  try simp only [hv, go_sem, cF F, cG F, cH F]
  obtain ⟨v_45, hv, h⟩ := aI h
  try simp only [hv, go_sem, cF F, cG F, cH F]
  obtain ⟨v_46, hv, h⟩ := aI h
  try simp only [hv, go_sem, cF F, cG F, cH F]
  refine rS hF [3, 7, 8, 9] ?_
  simp only [go_sem, cF F, cG F, cH F]
  refine aP h fun g0 h => ?_
  replace h := hA3 _ (aA h)
  exact aS _ h rfl (by simp only [go_sem, cF F, cG F, cH F])
 ·replace h := hE3 _ (aA h)
  try dsimp only at h
  refine rS hF [2] ?_
  simp only [go_sem, cF F, cG F, cH F]
  exact aF hF [.tmp 2] rfl rfl rfl (aA h) (by simp only [aR, go_sem, cF F, cG F, cH F])
attribute [go_sem] nX
noncomputable def zD (F : Md) (s_0 : (List Nat)) : Option Bool :=
 (nW F s_0).bind (fun v_5 => some v_5.2.2.1)
def aHJ : PlR := ⟨[(0, .A [0]), (1, .A [5]), (2, .A [2])], []⟩
def aJ3 : Ty := .pair .str .unit
noncomputable def aAg (F : Md) : aG := mSpec aJ3 (.one .bool) (fun x => zD F x.1)
noncomputable def aJ4 (F : Md) : List (FuncId × aG) := [(178, (iW F))]
theorem aNV (F : Md) : bD Tryz.prog GL (aJ4 F) := .cons (zB F) (by kernel_rfl) (.nil)
theorem aJ5 (F : Md) : gam (aJ4 F) 178 = some (iW F) := rfl
attribute [go_sem] aJ3 aHJ aJ5
set_option maxHeartbeats 4000000 in
theorem aM6 (F : Md) : FOK Tryz.prog GL 128 (aAg F) := by
 refine bH (aY (aNV F)) mix Tryz.func128 rfl (by kernel_rfl) (by decide) aHJ fun w0 S x Θ hw h hF => ?_
 obtain ⟨(s_0 : (List Nat)), u⟩ := x
 simp only [bL, go_sem]
 replace h : sat (zD F s_0) _ := h
 unfold zD at h
 obtain ⟨v_5, hv, h⟩ := aI h
 try simp only [hv, go_sem]
 exact aF hF [.tmp 2] rfl rfl rfl (aA h) (by simp only [aR, go_sem])
attribute [go_sem] aAg
noncomputable def aAh (F : Md) (s_0 : (List Nat)) : Option ((List Nat) × ((List Nat) × (Bool × Unit))) :=
 (nW F s_0).bind (fun v_5 => if ¬ (v_5.2.2.1 = true) then some (([] : List Nat), ([] : List Nat), false, ()) else (tI F v_5.1).bind (fun v_18 => (oT F (10 : Nat) (max v_5.2.1 (0 : Int))).bind (fun v_19 => (gK F v_18 v_19).bind (fun v_20 => ck (I64 (0 - v_5.2.1)) ((oT F (10 : Nat) (max (0 - v_5.2.1) (0 : Int))).bind (fun v_21 => some (v_20, v_21, true, ())))))))
def aFN : PlR := ⟨[(0, .A [0]), (1, .A [5, 6, 7]), (2, .A [5, 6, 15]), (3, .A [2, 3, 4]), (4, .A [2, 3, 4])], []⟩
def aHK : Ty := .pair .str .unit
noncomputable def xQ (F : Md) : aG := mSpec aHK (.tup (.pair (.sl (.u .u64)) (.pair (.sl (.u .u64)) (.pair .bool .unit)))) (fun x => aAh F x.1)
noncomputable def wB (F : Md) : List (FuncId × aG) := [(178, (iW F)), (179, (nX F)), (94, (eP F)), (96, (pG F))]
theorem aM7 (F : Md) : bD Tryz.prog GL (wB F) := .cons (zB F) (by kernel_rfl) (.cons (aDZ F) (by kernel_rfl) (.cons (pB F) (by kernel_rfl) (.cons (aFL F) (by kernel_rfl) (.nil))))
theorem aIf (F : Md) : gam (wB F) 178 = some (iW F) := rfl
theorem aIg (F : Md) : gam (wB F) 179 = some (nX F) := rfl
theorem aJ6 (F : Md) : gam (wB F) 94 = some (eP F) := rfl
theorem aJ7 (F : Md) : gam (wB F) 96 = some (pG F) := rfl
attribute [go_sem] aHK aFN aIf aIg aJ6 aJ7
set_option maxHeartbeats 4000000 in
theorem aL5 (F : Md) : FOK Tryz.prog GL 116 (xQ F) := by
 refine bH (aY (aM7 F)) mix Tryz.func116 rfl (by kernel_rfl) (by decide) aFN fun w0 S x Θ hw h hF => ?_
 obtain ⟨(s_0 : (List Nat)), u⟩ := x
 simp only [bL, go_sem]
 replace h : sat (aAh F s_0) _ := h
 unfold aAh at h
 obtain ⟨v_5, hv, h⟩ := aI h
 try simp only [hv, go_sem]
 refine aAt h (fun hc h => ?_) fun hc h => ?_
 ·exact aF hF [.tmp 2, .tmp 3, .tmp 4] rfl rfl rfl (aA h) (by simp only [aR, go_sem])
 ·obtain ⟨v_18, hv, h⟩ := aI h
  try simp only [hv, go_sem]
  obtain ⟨v_19, hv, h⟩ := aI h
  try simp only [hv, go_sem]
  obtain ⟨v_20, hv, h⟩ := aI h
  try simp only [hv, go_sem]
  refine aP h fun g0 h => ?_
  obtain ⟨v_21, hv, h⟩ := aI h
  try simp only [hv, go_sem]
  exact aF hF [.tmp 2, .tmp 3, .tmp 4] rfl rfl rfl (aA h) (by simp only [aR, go_sem])
attribute [go_sem] xQ
noncomputable def aAi (F : Md) (s_0 : (List Nat)) : Option ((Bool × ((List Nat) × (Int × Unit))) × (Int × Unit)) :=
 (nW F s_0).bind (fun v_5 => if ¬ (v_5.2.2.1 = true) then some ((false, ([] : List Nat), (0 : Int), ()), (6 : Int), ()) else (tI F v_5.1).bind (fun v_21 => (oT F (5 : Nat) (max v_5.2.1 (0 : Int))).bind (fun v_22 => (gK F v_21 v_22).bind (fun v_23 => ck (I64 (0 - v_5.2.1)) ((oT F (5 : Nat) (max (0 - v_5.2.1) (0 : Int))).bind (fun v_24 => (xH F v_23 v_24).bind (fun v_25 => (yZ F false v_25.1 v_5.2.1).bind (fun v_27 => if ((0 : Int) < (((v_25.2.1.length) : Nat) : Int)) ∨ (¬ (v_27.2.1 = (0 : Int))) then some ((false, ([] : List Nat), (0 : Int), ()), (6 : Int), ()) else some (v_27.1, (0 : Int), ())))))))))
def aFO : PlR := ⟨[(0, .B [0, 2]), (1, .A [2, 4, 5, 6]), (2, .A [2, 4, 5, 18]), (3, .B [2, 3]), (4, .A [2, 5, 7, 8]), (5, .B [2, 8, 9, 10]), (6, .A [2, 9, 46]), (7, .B [2, 3]), (8, .B [2, 3])], []⟩
def aHL : Ty := .pair .str .unit
noncomputable def xR (F : Md) : aG := mSpec aHL (.tup (.pair (.pair .bool (.pair (.sl (.u .u64)) (.pair (.i .i64) .unit))) (.pair (.i .i64) .unit))) (fun x => aAi F x.1)
noncomputable def oU (F : Md) : List (FuncId × aG) := [(117, (sD F)), (166, (vG F)), (178, (iW F)), (179, (nX F)), (94, (eP F)), (96, (pG F))]
theorem aM8 (F : Md) : bD Tryz.prog GL (oU F) := .cons (aHz F) (by kernel_rfl) (.cons (aKu F) (by kernel_rfl) (.cons (zB F) (by kernel_rfl) (.cons (aDZ F) (by kernel_rfl) (.cons (pB F) (by kernel_rfl) (.cons (aFL F) (by kernel_rfl) (.nil))))))
theorem aIh (F : Md) : gam (oU F) 117 = some (sD F) := rfl
theorem aIi (F : Md) : gam (oU F) 166 = some (vG F) := rfl
theorem aIj (F : Md) : gam (oU F) 178 = some (iW F) := rfl
theorem aIk (F : Md) : gam (oU F) 179 = some (nX F) := rfl
theorem aJ8 (F : Md) : gam (oU F) 94 = some (eP F) := rfl
theorem aJ9 (F : Md) : gam (oU F) 96 = some (pG F) := rfl
attribute [go_sem] aHL aFO aIh aIi aIj aIk aJ8 aJ9
set_option maxHeartbeats 4000000 in
theorem aL6 (F : Md) : FOK Tryz.prog GL 133 (xR F) := by
 refine bH (aY (aM8 F)) mix Tryz.func133 rfl (by kernel_rfl) (by decide) aFO fun w0 S x Θ hw h hF => ?_
 obtain ⟨(s_0 : (List Nat)), u⟩ := x
 simp only [bL, go_sem]
 replace h : sat (aAi F s_0) _ := h
 unfold aAi at h
 obtain ⟨v_5, hv, h⟩ := aI h
 try simp only [hv, go_sem]
 refine aAt h (fun hc h => ?_) fun hc h => ?_
 ·exact aF hF [.cell 2 25, .tmp 3] rfl rfl rfl (aA h) (by simp only [aR, go_sem])
 ·obtain ⟨v_21, hv, h⟩ := aI h
  try simp only [hv, go_sem]
  obtain ⟨v_22, hv, h⟩ := aI h
  try simp only [hv, go_sem]
  obtain ⟨v_23, hv, h⟩ := aI h
  try simp only [hv, go_sem]
  refine aP h fun g0 h => ?_
  obtain ⟨v_24, hv, h⟩ := aI h
  try simp only [hv, go_sem]
  obtain ⟨v_25, hv, h⟩ := aI h
  try simp only [hv, go_sem]
  obtain ⟨v_27, hv, h⟩ := aI h
  try simp only [hv, go_sem]
  refine ⟨fun hc => ?_, fun hc => ?_⟩
  ·replace h := iU hc h
   exact aF hF [.cell 2 25, .tmp 3] rfl rfl rfl (aA h) (by simp only [aR, go_sem])
  ·replace h := iV hc h
   exact aF hF [.cell 2 25, .tmp 3] rfl rfl rfl (aA h) (by simp only [aR, go_sem])
attribute [go_sem] xR
noncomputable def iP (F : Md) (a_0 : (Bool × ((List Nat) × (Int × Unit)))) (b_1 : (Bool × ((List Nat) × (Int × Unit)))) (n_2 : Int) : Option Bool :=
 (aDw F n_2 (0 : Int)).bind (fun v_5 => (aBP F b_1 v_5.1).bind (fun v_7 => ck ((v_7.2.1 = (0 : Int)) → ((uV F a_0 v_7.1).isSome = true)) (some ((decide (v_7.2.1 = (0 : Int))) && (decide (((uV F a_0 v_7.1).getD (0 : Int)) ≤ (0 : Int)))))))
def aD0 : PlR := ⟨[(0, .B [2, 3, 4]), (1, .B [3, 4, 7]), (2, .B [3, 9, 10]), (3, .A [6])], []⟩
def aFP : Ty := .pair (.pair .bool (.pair (.sl (.u .u64)) (.pair (.i .i64) .unit))) (.pair (.pair .bool (.pair (.sl (.u .u64)) (.pair (.i .i64) .unit))) (.pair (.i .i64) .unit))
noncomputable def vK (F : Md) : aG := mSpec aFP (.one .bool) (fun x => iP F x.1 x.2.1 x.2.2.1)
noncomputable def xS (F : Md) : List (FuncId × aG) := [(200, (aBM F)), (201, (aAe F)), (22, (sE F))]
theorem aL7 (F : Md) : bD Tryz.prog GL (xS F) := .cons (aNT F) (by kernel_rfl) (.cons (aM4 F) (by kernel_rfl) (.cons (aHF F) (by kernel_rfl) (.nil)))
theorem aGN (F : Md) : gam (xS F) 200 = some (aBM F) := rfl
theorem aGO (F : Md) : gam (xS F) 201 = some (aAe F) := rfl
theorem aIl (F : Md) : gam (xS F) 22 = some (sE F) := rfl
attribute [go_sem] aFP aD0 aGN aGO aIl
set_option maxHeartbeats 4000000 in
theorem aKF (F : Md) : FOK Tryz.prog GL 134 (vK F) := by
 refine bH (aY (aL7 F)) mix Tryz.func134 rfl (by kernel_rfl) (by decide) aD0 fun w0 S x Θ hw h hF => ?_
 obtain ⟨(a_0 : (Bool × ((List Nat) × (Int × Unit)))), (b_1 : (Bool × ((List Nat) × (Int × Unit)))), (n_2 : Int), u⟩ := x
 simp only [bL, go_sem]
 replace h : sat (iP F a_0 b_1 n_2) _ := h
 unfold iP at h
 obtain ⟨v_5, hv, h⟩ := aI h
 try simp only [hv, go_sem]
 obtain ⟨v_7, hv, h⟩ := aI h
 try simp only [hv, go_sem]
 refine aP h fun g0 h => ?_
 exact aF hF [.tmp 6] rfl rfl rfl (aA h) (by simp only [aR, go_sem])
attribute [go_sem] vK
end Nu
end Go.Proofs
