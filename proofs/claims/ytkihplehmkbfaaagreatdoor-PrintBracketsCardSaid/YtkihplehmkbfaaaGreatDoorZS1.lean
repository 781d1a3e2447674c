import Derived.Test.YtkihplehmkbfaaaGreatDoorZL6
import Derived.Test.YtkihplehmkbfaaaGreatDoorProg
import Derived.KernelRfl
import Derived.Laws.Externs
import Derived.Lib.AppendZeros
import Derived.Lib.SliceRun
import Derived.WalkKit
import Derived.Lib.Walk
import Derived.Shelf.RegionOpenPlain
set_option linter.unusedVariables false
set_option linter.unusedSimpArgs false
namespace Go.Proofs
open Go.Vc
set_option maxRecDepth 20000
namespace Nu
theorem zAA {p : Prop} (h : p := by first | with_reducible assumption | omega | (intros; first | with_reducible assumption | omega) | (simp only [go_sem] at *; first | with_reducible assumption | omega) | (intro _; exact ⟨rfl, by decide⟩) | (intro _; refine (?_ : _ = aV _); rfl) | exact ⟨rfl, rfl⟩ | decide) : p := h
theorem zAB {p : Prop} (h : p := by first | exact hc | omega | (simpa using hc) | (simp at hc ⊢; omega)) : p := h
theorem zAC {p : Prop} (h : p := by first | with_reducible assumption | omega | (intros; first | with_reducible assumption | omega) | (simp only [go_sem] at *; first | with_reducible assumption | omega) | (intro _; exact ⟨rfl, by decide⟩) | (intro _; refine (?_ : _ = aV _); rfl) | exact ⟨rfl, rfl⟩ | decide | ((repeat' apply And.intro) <;> first | assumption | rfl | omega) | fail) : p := h
theorem zAD {p : Prop} (h : p := by first | exact q0 | omega | (simpa using q0)) : p := h
theorem zAE {p : Prop} (h : p := by first | with_reducible assumption | omega | (intros; first | with_reducible assumption | omega) | (simp only [go_sem] at *; first | with_reducible assumption | omega) | (intro _; exact ⟨rfl, by decide⟩) | (intro _; refine (?_ : _ = aV _); rfl) | exact ⟨rfl, rfl⟩ | (intro q0; (try have e0 := g0 zAD); (try have e1 := g1 zAD); first | assumption | omega) | decide) : p := h
theorem zAF {p : Prop} (h : p := by first | with_reducible assumption | omega | (intros; first | with_reducible assumption | omega) | (simp only [go_sem] at *; first | with_reducible assumption | omega) | (intro _; exact ⟨rfl, by decide⟩) | (intro _; refine (?_ : _ = aV _); rfl) | exact ⟨rfl, rfl⟩ | (intro q0; (try have e0 := g0 zAD); first | assumption | omega) | decide) : p := h
theorem zAG {p : Prop} (h : p := by (try simp only [eY, dL, true_or, and_self, go_sem]) <;> (repeat' apply And.intro) <;> first | rfl | (left; rfl) | (right; rfl) | (left; simp only [go_sem]; done) | (right; simp only [go_sem]; done) | (simp; done) | (simp only [*]; done) | omega) : p := h
theorem zAH {p : Prop} (h : p := by (try simp only [fE, aT, go_sem]) <;> first | rfl | (simp; done)) : p := h
def aQV : List Nat := [0, 1, 56, 2, 57, 49, 28, 3, 61, 58, 42, 50, 38, 29, 17, 4, 62, 47, 59, 36, 45, 43, 51, 22, 53, 39, 33, 30, 24, 18, 12, 5, 63, 55, 48, 27, 60, 41, 37, 16, 46, 35, 44, 21, 52, 32, 23, 11, 54, 26, 40, 15, 34, 20, 31, 10, 25, 14, 19, 9, 13, 8, 7, 6]
theorem aRN : aQV = [0, 1, 56, 2, 57, 49, 28, 3, 61, 58, 42, 50, 38, 29, 17, 4, 62, 47, 59, 36, 45, 43, 51, 22, 53, 39, 33, 30, 24, 18, 12, 5, 63, 55, 48, 27, 60, 41, 37, 16, 46, 35, 44, 21, 52, 32, 23, 11, 54, 26, 40, 15, 34, 20, 31, 10, 25, 14, 19, 9, 13, 8, 7, 6] := rfl
def p10 : List Nat := [1, 10, 100, 1000, 10000, 100000, 1000000, 10000000, 100000000, 1000000000, 10000000000, 100000000000, 1000000000000, 10000000000000, 100000000000000, 1000000000000000, 10000000000000000, 100000000000000000, 1000000000000000000, 10000000000000000000]
theorem aSr : p10 = [1, 10, 100, 1000, 10000, 100000, 1000000, 10000000, 100000000, 1000000000, 10000000000, 100000000000, 1000000000000, 10000000000000, 100000000000000, 1000000000000000, 10000000000000000, 100000000000000000, 1000000000000000000, 10000000000000000000] := rfl
noncomputable def GL : Nat → AV
 | 0 => .roa (.arr 64 (.u .u8)) aQV
 | 1 => .roa (.arr 20 (.u .u64)) p10
 | _ => .junk
theorem GL0 : GL 0 = .roa (.arr 64 (.u .u8)) aQV := rfl
theorem GL3 : GL 1 = .roa (.arr 20 (.u .u64)) p10 := rfl
attribute [go_sem] GL0 GL3 mSpec
def tab : List (TypeId × Ty) := [(258, .clo 239 .unit), (2, .i .i64), (3, .i .i64), (4, .bool), (5, .u .u8), (9, .str), (21, .i .i32), (22, .sl (.pair (.i .i64) (.pair (.i .i64) (.pair (.i .i64) (.pair (.pair .bool (.pair (.sl (.u .u64)) (.pair (.i .i64) .unit))) (.pair (.pair .bool (.pair (.sl (.u .u64)) (.pair (.i .i64) .unit))) (.pair (.sl (.sl (.pair (.pair .bool (.pair (.sl (.u .u64)) (.pair (.i .i64) .unit))) (.pair (.pair .bool (.pair (.sl (.u .u64)) (.pair (.i .i64) .unit))) .unit)))) (.pair (.sl (.sl (.pair (.sl (.pair .bool (.pair (.sl (.u .u64)) (.pair (.i .i64) .unit)))) (.pair (.sl (.pair (.pair .bool (.pair (.sl (.u .u64)) (.pair (.i .i64) .unit))) (.pair (.pair .bool (.pair (.sl (.u .u64)) (.pair (.i .i64) .unit))) .unit))) .unit)))) .unit)))))))), (23, .sl (.u .u64)), (25, .pair .bool (.pair (.sl (.u .u64)) (.pair (.i .i64) .unit))), (27, .pair (.pair .bool (.pair (.sl (.u .u64)) (.pair (.i .i64) .unit))) (.pair (.pair .bool (.pair (.sl (.u .u64)) (.pair (.i .i64) .unit))) .unit)), (30, .sl (.sl (.pair (.pair .bool (.pair (.sl (.u .u64)) (.pair (.i .i64) .unit))) (.pair (.pair .bool (.pair (.sl (.u .u64)) (.pair (.i .i64) .unit))) .unit)))), (31, .sl (.sl (.pair (.sl (.pair .bool (.pair (.sl (.u .u64)) (.pair (.i .i64) .unit)))) (.pair (.sl (.pair (.pair .bool (.pair (.sl (.u .u64)) (.pair (.i .i64) .unit))) (.pair (.pair .bool (.pair (.sl (.u .u64)) (.pair (.i .i64) .unit))) .unit))) .unit)))), (33, .pair (.i .i64) (.pair (.i .i64) (.pair (.i .i64) (.pair (.pair .bool (.pair (.sl (.u .u64)) (.pair (.i .i64) .unit))) (.pair (.pair .bool (.pair (.sl (.u .u64)) (.pair (.i .i64) .unit))) (.pair (.sl (.sl (.pair (.pair .bool (.pair (.sl (.u .u64)) (.pair (.i .i64) .unit))) (.pair (.pair .bool (.pair (.sl (.u .u64)) (.pair (.i .i64) .unit))) .unit)))) (.pair (.sl (.sl (.pair (.sl (.pair .bool (.pair (.sl (.u .u64)) (.pair (.i .i64) .unit)))) (.pair (.sl (.pair (.pair .bool (.pair (.sl (.u .u64)) (.pair (.i .i64) .unit))) (.pair (.pair .bool (.pair (.sl (.u .u64)) (.pair (.i .i64) .unit))) .unit))) .unit)))) .unit))))))), (39, .u .u64), (45, .sl .expr), (47, .expr), (48, .sl .str), (51, .sl (.pair .str (.pair (.sl (.pair .str (.pair (.pair .str (.pair .str .unit)) (.pair .expr .unit)))) (.pair (.sl (.pair .str (.pair (.pair .str (.pair .str .unit)) .unit))) (.pair (.sl .str) (.pair (.sl (.pair .str (.pair .expr .unit))) .unit)))))), (52, .sl (.pair .str (.pair .str (.pair .str (.pair .str .unit))))), (54, .pair (.i .i64) (.pair (.i .i64) (.pair (.i .i64) (.pair (.i .i64) (.pair .str (.pair .str (.pair .str (.pair .str (.pair (.sl (.pair .str (.pair (.sl (.pair .str (.pair (.pair .str (.pair .str .unit)) (.pair .expr .unit)))) (.pair (.sl (.pair .str (.pair (.pair .str (.pair .str .unit)) .unit))) (.pair (.sl .str) (.pair (.sl (.pair .str (.pair .expr .unit))) .unit)))))) (.pair (.sl (.pair .str (.pair .str (.pair .str (.pair .str .unit))))) .unit)))))))))), (56, .sl (.pair .str (.pair (.pair .str (.pair .str .unit)) (.pair .expr .unit)))), (57, .sl (.pair .str (.pair (.pair .str (.pair .str .unit)) .unit))), (58, .sl (.pair .str (.pair .expr .unit))), (60, .pair .str (.pair (.sl (.pair .str (.pair (.pair .str (.pair .str .unit)) (.pair .expr .unit)))) (.pair (.sl (.pair .str (.pair (.pair .str (.pair .str .unit)) .unit))) (.pair (.sl .str) (.pair (.sl (.pair .str (.pair .expr .unit))) .unit))))), (62, .pair .str (.pair .str .unit)), (64, .pair .str (.pair (.pair .str (.pair .str .unit)) (.pair .expr .unit))), (68, .pair .str (.pair .str (.pair .str (.pair .str .unit)))), (71, .pair .str (.pair (.pair .str (.pair .str .unit)) .unit)), (73, .pair .str (.pair .expr .unit)), (81, .sl (.i .i64)), (83, .u .u64), (85, .sl (.pair (.pair .bool (.pair (.sl (.u .u64)) (.pair (.i .i64) .unit))) (.pair (.pair .bool (.pair (.sl (.u .u64)) (.pair (.i .i64) .unit))) .unit))), (86, .sl (.pair (.sl (.pair .bool (.pair (.sl (.u .u64)) (.pair (.i .i64) .unit)))) (.pair (.sl (.pair (.pair .bool (.pair (.sl (.u .u64)) (.pair (.i .i64) .unit))) (.pair (.pair .bool (.pair (.sl (.u .u64)) (.pair (.i .i64) .unit))) .unit))) .unit))), (88, .sl (.pair .bool (.pair (.sl (.u .u64)) (.pair (.i .i64) .unit)))), (90, .pair (.sl (.pair .bool (.pair (.sl (.u .u64)) (.pair (.i .i64) .unit)))) (.pair (.sl (.pair (.pair .bool (.pair (.sl (.u .u64)) (.pair (.i .i64) .unit))) (.pair (.pair .bool (.pair (.sl (.u .u64)) (.pair (.i .i64) .unit))) .unit))) .unit)), (91, .nilf), (98, .nilp), (99, .sl (.u .u8)), (101, .pair .nilp (.pair (.sl (.u .u8)) .unit)), (103, .nili), (140, .sl (.u .u32)), (146, .u .u32), (174, .arr 256 (.bool)), (202, .pair .bool (.pair (.sl (.u .u32)) (.pair (.i .i64) .unit))), (221, .nilf), (226, .sl (.sl .str)), (238, .arr 24 (.u .u8)), (242, .arr 64 (.u .u8)), (251, .pair (.i .i64) .unit), (254, .pair (.i .i64) .unit), (264, .arr 20 (.u .u64)), (265, .arr 65 (.u .u8)), (268, .arr 256 (.u .u8)), (270, .pair (.u .u8) (.pair (.u .u8) .unit)), (271, .arr 16 (.pair (.u .u8) (.pair (.u .u8) .unit))), (278, .i .i64), (284, .arr 32 (.u .u8)), (294, .pair .str .unit)]
def elT : TypeId → TypeId
 | 22 => 33
 | 23 => 83
 | 30 => 85
 | 31 => 86
 | 45 => 47
 | 48 => 9
 | 51 => 60
 | 52 => 68
 | 56 => 64
 | 57 => 71
 | 58 => 73
 | 81 => 3
 | 85 => 27
 | 86 => 90
 | 88 => 25
 | 99 => 5
 | 140 => 146
 | 226 => 48
 | _ => 0
def mpT : TypeId → Option (TypeId × TypeId)
 | 96 => some (3, 9)
 | 171 => some (9, 4)
 | _ => none
theorem aOR : fP Tryz.prog (aDv tab) := aPH (by kernel_rfl)
theorem aSO : ∀ t ct, aDv tab t = some (.sl ct) → Tryz.prog.underlying t = some (.slice (elT t)) := aRo (by kernel_rfl)
theorem aSP : ∀ t k e, mpT t = some (k, e) → Tryz.prog.underlying t = some (.map k e) := by
 intro t k e h
 unfold mpT at h
 split at h
 ·cases h; rfl
 ·cases h; rfl
 ·cases h
def TM : Tab := aDv tab
noncomputable def EM (l : List (FuncId × aG)) : Env := ⟨TM, GL, fun f _ => gam l f, elT, mpT, fun _ => none, fun _ => false⟩
theorem aSQ (l : List (FuncId × aG)) (t : TypeId) : (EM l).T t = TM t := rfl
theorem aSR (l : List (FuncId × aG)) (t : Nat) : (EM l).G t = GL t := rfl
theorem aSS (l : List (FuncId × aG)) (f : FuncId) (vs : List AV) : (EM l).Γ f vs = gam l f := rfl
theorem aSC (l : List (FuncId × aG)) (t : TypeId) : (EM l).el t = elT t := rfl
theorem aSD (l : List (FuncId × aG)) (t : TypeId) : (EM l).mp t = mpT t := rfl
theorem aW {l : List (FuncId × aG)} (h : bC Tryz.prog GL l) : eH Tryz.prog (EM l) := aQd aOR aSO aSP h
theorem mix : Tryz.prog.follows .mixedOrders = true := by kernel_rfl
theorem aSE (l : List (FuncId × aG)) (t : TypeId) : (EM l).dm t = none := rfl
theorem aSF (l : List (FuncId × aG)) (t : TypeId) : (EM l).dz t = false := rfl
attribute [go_sem] aSE aSF
theorem T2 : TM 2 = some (.i .i64) := rfl
theorem T3 : TM 3 = some (.i .i64) := rfl
theorem T4 : TM 4 = some (.bool) := rfl
theorem T5 : TM 5 = some (.u .u8) := rfl
theorem T9 : TM 9 = some (.str) := rfl
theorem T21 : TM 21 = some (.i .i32) := rfl
theorem T22 : TM 22 = some (.sl (.pair (.i .i64) (.pair (.i .i64) (.pair (.i .i64) (.pair (.pair .bool (.pair (.sl (.u .u64)) (.pair (.i .i64) .unit))) (.pair (.pair .bool (.pair (.sl (.u .u64)) (.pair (.i .i64) .unit))) (.pair (.sl (.sl (.pair (.pair .bool (.pair (.sl (.u .u64)) (.pair (.i .i64) .unit))) (.pair (.pair .bool (.pair (.sl (.u .u64)) (.pair (.i .i64) .unit))) .unit)))) (.pair (.sl (.sl (.pair (.sl (.pair .bool (.pair (.sl (.u .u64)) (.pair (.i .i64) .unit)))) (.pair (.sl (.pair (.pair .bool (.pair (.sl (.u .u64)) (.pair (.i .i64) .unit))) (.pair (.pair .bool (.pair (.sl (.u .u64)) (.pair (.i .i64) .unit))) .unit))) .unit)))) .unit)))))))) := rfl
theorem T23 : TM 23 = some (.sl (.u .u64)) := rfl
theorem T25 : TM 25 = some (.pair .bool (.pair (.sl (.u .u64)) (.pair (.i .i64) .unit))) := rfl
theorem T27 : TM 27 = some (.pair (.pair .bool (.pair (.sl (.u .u64)) (.pair (.i .i64) .unit))) (.pair (.pair .bool (.pair (.sl (.u .u64)) (.pair (.i .i64) .unit))) .unit)) := rfl
theorem T30 : TM 30 = some (.sl (.sl (.pair (.pair .bool (.pair (.sl (.u .u64)) (.pair (.i .i64) .unit))) (.pair (.pair .bool (.pair (.sl (.u .u64)) (.pair (.i .i64) .unit))) .unit)))) := rfl
theorem T31 : TM 31 = some (.sl (.sl (.pair (.sl (.pair .bool (.pair (.sl (.u .u64)) (.pair (.i .i64) .unit)))) (.pair (.sl (.pair (.pair .bool (.pair (.sl (.u .u64)) (.pair (.i .i64) .unit))) (.pair (.pair .bool (.pair (.sl (.u .u64)) (.pair (.i .i64) .unit))) .unit))) .unit)))) := rfl
theorem T33 : TM 33 = some (.pair (.i .i64) (.pair (.i .i64) (.pair (.i .i64) (.pair (.pair .bool (.pair (.sl (.u .u64)) (.pair (.i .i64) .unit))) (.pair (.pair .bool (.pair (.sl (.u .u64)) (.pair (.i .i64) .unit))) (.pair (.sl (.sl (.pair (.pair .bool (.pair (.sl (.u .u64)) (.pair (.i .i64) .unit))) (.pair (.pair .bool (.pair (.sl (.u .u64)) (.pair (.i .i64) .unit))) .unit)))) (.pair (.sl (.sl (.pair (.sl (.pair .bool (.pair (.sl (.u .u64)) (.pair (.i .i64) .unit)))) (.pair (.sl (.pair (.pair .bool (.pair (.sl (.u .u64)) (.pair (.i .i64) .unit))) (.pair (.pair .bool (.pair (.sl (.u .u64)) (.pair (.i .i64) .unit))) .unit))) .unit)))) .unit))))))) := rfl
theorem T39 : TM 39 = some (.u .u64) := rfl
theorem T45 : TM 45 = some (.sl .expr) := rfl
theorem T47 : TM 47 = some (.expr) := rfl
theorem T48 : TM 48 = some (.sl .str) := rfl
theorem T51 : TM 51 = some (.sl (.pair .str (.pair (.sl (.pair .str (.pair (.pair .str (.pair .str .unit)) (.pair .expr .unit)))) (.pair (.sl (.pair .str (.pair (.pair .str (.pair .str .unit)) .unit))) (.pair (.sl .str) (.pair (.sl (.pair .str (.pair .expr .unit))) .unit)))))) := rfl
theorem T52 : TM 52 = some (.sl (.pair .str (.pair .str (.pair .str (.pair .str .unit))))) := rfl
theorem T54 : TM 54 = some (.pair (.i .i64) (.pair (.i .i64) (.pair (.i .i64) (.pair (.i .i64) (.pair .str (.pair .str (.pair .str (.pair .str (.pair (.sl (.pair .str (.pair (.sl (.pair .str (.pair (.pair .str (.pair .str .unit)) (.pair .expr .unit)))) (.pair (.sl (.pair .str (.pair (.pair .str (.pair .str .unit)) .unit))) (.pair (.sl .str) (.pair (.sl (.pair .str (.pair .expr .unit))) .unit)))))) (.pair (.sl (.pair .str (.pair .str (.pair .str (.pair .str .unit))))) .unit)))))))))) := rfl
theorem T56 : TM 56 = some (.sl (.pair .str (.pair (.pair .str (.pair .str .unit)) (.pair .expr .unit)))) := rfl
theorem T57 : TM 57 = some (.sl (.pair .str (.pair (.pair .str (.pair .str .unit)) .unit))) := rfl
theorem T58 : TM 58 = some (.sl (.pair .str (.pair .expr .unit))) := rfl
theorem T60 : TM 60 = some (.pair .str (.pair (.sl (.pair .str (.pair (.pair .str (.pair .str .unit)) (.pair .expr .unit)))) (.pair (.sl (.pair .str (.pair (.pair .str (.pair .str .unit)) .unit))) (.pair (.sl .str) (.pair (.sl (.pair .str (.pair .expr .unit))) .unit))))) := rfl
theorem T62 : TM 62 = some (.pair .str (.pair .str .unit)) := rfl
theorem T64 : TM 64 = some (.pair .str (.pair (.pair .str (.pair .str .unit)) (.pair .expr .unit))) := rfl
theorem T68 : TM 68 = some (.pair .str (.pair .str (.pair .str (.pair .str .unit)))) := rfl
theorem T71 : TM 71 = some (.pair .str (.pair (.pair .str (.pair .str .unit)) .unit)) := rfl
theorem T73 : TM 73 = some (.pair .str (.pair .expr .unit)) := rfl
theorem T81 : TM 81 = some (.sl (.i .i64)) := rfl
theorem T83 : TM 83 = some (.u .u64) := rfl
theorem T85 : TM 85 = some (.sl (.pair (.pair .bool (.pair (.sl (.u .u64)) (.pair (.i .i64) .unit))) (.pair (.pair .bool (.pair (.sl (.u .u64)) (.pair (.i .i64) .unit))) .unit))) := rfl
theorem T86 : TM 86 = some (.sl (.pair (.sl (.pair .bool (.pair (.sl (.u .u64)) (.pair (.i .i64) .unit)))) (.pair (.sl (.pair (.pair .bool (.pair (.sl (.u .u64)) (.pair (.i .i64) .unit))) (.pair (.pair .bool (.pair (.sl (.u .u64)) (.pair (.i .i64) .unit))) .unit))) .unit))) := rfl
theorem T88 : TM 88 = some (.sl (.pair .bool (.pair (.sl (.u .u64)) (.pair (.i .i64) .unit)))) := rfl
theorem T90 : TM 90 = some (.pair (.sl (.pair .bool (.pair (.sl (.u .u64)) (.pair (.i .i64) .unit)))) (.pair (.sl (.pair (.pair .bool (.pair (.sl (.u .u64)) (.pair (.i .i64) .unit))) (.pair (.pair .bool (.pair (.sl (.u .u64)) (.pair (.i .i64) .unit))) .unit))) .unit)) := rfl
theorem T91 : TM 91 = some (.nilf) := rfl
theorem T98 : TM 98 = some (.nilp) := rfl
theorem T99 : TM 99 = some (.sl (.u .u8)) := rfl
theorem aST : TM 101 = some (.pair .nilp (.pair (.sl (.u .u8)) .unit)) := rfl
theorem aSU : TM 103 = some (.nili) := rfl
theorem aSV : TM 140 = some (.sl (.u .u32)) := rfl
theorem aSW : TM 146 = some (.u .u32) := rfl
theorem aSX : TM 174 = some (.arr 256 (.bool)) := rfl
theorem aSY : TM 202 = some (.pair .bool (.pair (.sl (.u .u32)) (.pair (.i .i64) .unit))) := rfl
theorem aSZ : TM 221 = some (.nilf) := rfl
theorem aS0 : TM 226 = some (.sl (.sl .str)) := rfl
theorem aS1 : TM 238 = some (.arr 24 (.u .u8)) := rfl
theorem aS2 : TM 242 = some (.arr 64 (.u .u8)) := rfl
theorem aS3 : TM 251 = some (.pair (.i .i64) .unit) := rfl
theorem aS4 : TM 254 = some (.pair (.i .i64) .unit) := rfl
theorem aS5 : TM 264 = some (.arr 20 (.u .u64)) := rfl
theorem aS6 : TM 265 = some (.arr 65 (.u .u8)) := rfl
theorem aS7 : TM 268 = some (.arr 256 (.u .u8)) := rfl
theorem aS8 : TM 270 = some (.pair (.u .u8) (.pair (.u .u8) .unit)) := rfl
theorem aS9 : TM 271 = some (.arr 16 (.pair (.u .u8) (.pair (.u .u8) .unit))) := rfl
theorem aTa : TM 278 = some (.i .i64) := rfl
theorem aTb : TM 284 = some (.arr 32 (.u .u8)) := rfl
theorem aTc : TM 294 = some (.pair .str .unit) := rfl
theorem aTd : TM 258 = some (.clo 239 .unit) := rfl
attribute [go_sem] aSQ aSR aSS aSC aSD elT mpT aTd T2 T3 T4 T5 T9 T21 T22 T23 T25 T27 T30 T31 T33 T39 T45 T47 T48 T51 T52 T54 T56 T57 T58 T60 T62 T64 T68 T71 T73 T81 T83 T85 T86 T88 T90 T91 T98 T99 aST aSU aSV aSW aSX aSY aSZ aS0 aS1 aS2 aS3 aS4 aS5 aS6 aS7 aS8 aS9 aTa aTb aTc
end Nu
end Go.Proofs
namespace Go.Proofs
open Go.Vc
set_option maxRecDepth 20000
namespace Nu
def aBn (x y c : Nat) : Nat × Nat × Unit := ((x + y + c) % 18446744073709551616, (x + y + c) / 18446744073709551616, ())
abbrev aLU (x y c : Nat) : Prop := c ≤ 1
def aE9 : Ty := .pair (.u .u64) (.pair (.u .u64) (.pair (.u .u64) .unit))
noncomputable def mT : aG := ⟨aE9, .tup (.pair (.u .u64) (.pair (.u .u64) .unit)), fun x => aLU x.1 x.2.1 x.2.2.1, fun x => aBn x.1 x.2.1 x.2.2.1⟩
attribute [go_sem] mT aE9
theorem aLV {w : World} {S : Nat → Prop} {x : Nat} {v : Value} (h : cC w S (.u .u64) x v) : v = .int .u64 (x : Int) := by
 unfold cC at h
 rw [if_neg (by simp [Ty.isAgg])] at h
 simp only [aO, List.cons.injEq, and_true] at h
 exact h.1
theorem aNQ {w : World} {S : Nat → Prop} {vs : List Value} {x : Nat × Nat × Nat × Unit} (h : kR w S (.pair (.u .u64) (.pair (.u .u64) (.pair (.u .u64) .unit))) x vs) : vs = [.int .u64 (x.1 : Int), .int .u64 (x.2.1 : Int), .int .u64 (x.2.2.1 : Int)] := by
 obtain ⟨v1, r1, rfl, h1, v2, r2, rfl, h2, v3, r3, rfl, h3, h4⟩ := h
 rw [aLV h1, aLV h2, aLV h3]
 have h4 : r3 = [] := h4
 rw [h4]
theorem aQW {w : World} {S : Nat → Prop} {x : Nat} (h : x < 18446744073709551616) : cC w S (.u .u64) x (.int .u64 (x : Int)) := by
 unfold cC
 rw [if_neg (by simp [Ty.isAgg])]
 refine ⟨rfl, rfl, ?_⟩
 simp [IntKind.max, IntKind.signed, IntKind.bits]; omega
theorem aQX {w : World} {S : Nat → Prop} {x y : Nat} (hx : x < 18446744073709551616) (hy : y < 18446744073709551616) : kR w S (.pair (.u .u64) (.pair (.u .u64) .unit)) (x, y, ()) [.int .u64 (x : Int), .int .u64 (y : Int)] :=
 ⟨_, _, rfl, aQW hx, _, _, rfl, aQW hy, rfl⟩
theorem wf_u64 {x : Nat} (h : (Ty.u .u64).wf x) : x < 18446744073709551616 := by
 simp only [Ty.wf, IntKind.max, IntKind.signed, IntKind.bits] at h
 simp at h; omega
theorem aDA : NOK Tryz.prog GL 162 mT := by
 refine aSf fun w S vs x ha hp => ?_
 have hp : x.2.2.1 ≤ 1 := hp
 have hw := aEY _ _ _ ha
 obtain ⟨h1, h2, h3, _⟩ := hw
 have h1 := wf_u64 h1
 have h2 := wf_u64 h2
 rw [aNQ ha]
 refine ⟨[.int .u64 (((x.1 + x.2.1 + x.2.2.1) % 18446744073709551616 : Nat) : Int), .int .u64 (((x.1 + x.2.1 + x.2.2.1) / 18446744073709551616 : Nat) : Int)], ?_, aQX (by omega) (by omega)⟩
 rw [run_callFunc_extern Tryz.func162 (by kernel_rfl) (by kernel_rfl) (by kernel_rfl) (e := add64Entry) (by kernel_rfl), run_add64 x.1 x.2.1 x.2.2.1 (by omega) (by omega) (by omega) (by omega)]
 simp only [Result.andThen]
 congr 5 <;> omega
abbrev aQY (s : List Nat) : Prop := s.length * 8 ≤ 140737488355328
def mZ : Ty := .pair (.sl (.u .u64)) .unit
noncomputable def bT : aG := ⟨mZ, .own 83 (.u .u64), fun x => aQY x.1, fun x => id x.1⟩
attribute [go_sem] bT mZ
noncomputable def sV (F : Md) : List (FuncId × aG) := []
theorem sW (F : Md) : bC Tryz.prog GL (sV F) := .nil
theorem iU : FOK Tryz.prog GL 165 bT := by
 refine aNB (aW (sW none)) Tryz.func165 rfl (by kernel_rfl) (by decide) fun w0 S x hw hp => ?_
 have hF : iQ (fr Tryz.prog (EM (sV none)) S w0 Tryz.f165.ntmps) := ⟨aW (sW none), mix⟩
 obtain ⟨(s : (List Nat)), u⟩ := x
 have hp : s.length * 8 ≤ 140737488355328 := hp
 simp only [bH, mZ, bT]
 refine aB (aD hF [0, 2] ?_)
 simp only [go_sem]
 refine aC (aB (aB (aLj hF rfl rfl rfl fun b hb => ?_)))
 refine aC (bD rfl (fun hc => ?_) (fun hc => ?_))
 ·have hs := hb hc
  refine aB (aD hF [2] ?_)
  simp only [go_sem]
  refine aC (cH (bN (dC hF [.tmp 2] rfl rfl rfl ?_)))
  simp only [fE, aT, go_sem, hs]
  try trivial
 ·refine bL (aC (aB (aU hF [2] ?_)))
  simp only [go_sem]
  refine ⟨by omega, ?_⟩
  refine aC (cH (dC hF [.tmp 2] rfl rfl rfl ?_))
  simp only [fE, aT, go_sem]
  try trivial
end Nu
end Go.Proofs
namespace Go.Proofs
open Go.Vc
set_option maxRecDepth 20000
namespace Nu
def aBo : ByteArray := ⟨⟨0 :: 1 :: 2 :: 2 :: 3 :: 3 :: 3 :: 3 :: 4 :: 4 :: 4 :: 4 :: 4 :: 4 :: 4 :: 4 :: 5 :: 5 :: 5 :: 5 :: 5 :: 5 :: 5 :: 5 :: 5 :: 5 :: 5 :: 5 :: 5 :: 5 :: 5 :: 5 :: 6 :: 6 :: 6 :: 6 :: 6 :: 6 :: 6 :: 6 :: 6 :: 6 :: 6 :: 6 :: 6 :: 6 :: 6 :: 6 :: 6 :: 6 :: 6 :: 6 :: 6 :: 6 :: 6 :: 6 :: 6 :: 6 :: 6 :: 6 :: 6 :: 6 :: 6 :: 6 :: 7 :: 7 :: 7 :: 7 :: 7 :: 7 :: 7 :: 7 :: 7 :: 7 :: 7 :: 7 :: 7 :: 7 :: 7 :: 7 :: 7 :: 7 :: 7 :: 7 :: 7 :: 7 :: 7 :: 7 :: 7 :: 7 :: 7 :: 7 :: 7 :: 7 :: 7 :: 7 :: 7 :: 7 :: 7 :: 7 :: 7 :: 7 :: 7 :: 7 :: 7 :: 7 :: 7 :: 7 :: 7 :: 7 :: 7 :: 7 :: 7 :: 7 :: 7 :: 7 :: 7 :: 7 :: 7 :: 7 :: 7 :: 7 :: 7 :: 7 :: 7 :: 7 :: 7 :: 7 :: 8 :: 8 :: 8 :: 8 :: 8 :: 8 :: 8 :: 8 :: 8 :: 8 :: 8 :: 8 :: 8 :: 8 :: 8 :: 8 :: 8 :: 8 :: 8 :: 8 :: 8 :: 8 :: 8 :: 8 :: 8 :: 8 :: 8 :: 8 :: 8 :: 8 :: 8 :: 8 :: 8 :: 8 :: 8 :: 8 :: 8 :: 8 :: 8 :: 8 :: 8 :: 8 :: 8 :: 8 :: 8 :: 8 :: 8 :: 8 :: 8 :: 8 :: 8 :: 8 :: 8 :: 8 :: 8 :: 8 :: 8 :: 8 :: 8 :: 8 :: 8 :: 8 :: 8 :: 8 :: 8 :: 8 :: 8 :: 8 :: 8 :: 8 :: 8 :: 8 :: 8 :: 8 :: 8 :: 8 :: 8 :: 8 :: 8 :: 8 :: 8 :: 8 :: 8 :: 8 :: 8 :: 8 :: 8 :: 8 :: 8 :: 8 :: 8 :: 8 :: 8 :: 8 :: 8 :: 8 :: 8 :: 8 :: 8 :: 8 :: 8 :: 8 :: 8 :: 8 :: 8 :: 8 :: 8 :: 8 :: 8 :: 8 :: 8 :: 8 :: 8 :: 8 :: 8 :: 8 :: 8 :: 8 :: 8 :: 8 :: 8 :: 8 :: 8 :: 8 :: 8 :: 8 :: 8 :: 8 :: []⟩⟩
theorem aKq : (⟨⟨0 :: 1 :: 2 :: 2 :: 3 :: 3 :: 3 :: 3 :: 4 :: 4 :: 4 :: 4 :: 4 :: 4 :: 4 :: 4 :: 5 :: 5 :: 5 :: 5 :: 5 :: 5 :: 5 :: 5 :: 5 :: 5 :: 5 :: 5 :: 5 :: 5 :: 5 :: 5 :: 6 :: 6 :: 6 :: 6 :: 6 :: 6 :: 6 :: 6 :: 6 :: 6 :: 6 :: 6 :: 6 :: 6 :: 6 :: 6 :: 6 :: 6 :: 6 :: 6 :: 6 :: 6 :: 6 :: 6 :: 6 :: 6 :: 6 :: 6 :: 6 :: 6 :: 6 :: 6 :: 7 :: 7 :: 7 :: 7 :: 7 :: 7 :: 7 :: 7 :: 7 :: 7 :: 7 :: 7 :: 7 :: 7 :: 7 :: 7 :: 7 :: 7 :: 7 :: 7 :: 7 :: 7 :: 7 :: 7 :: 7 :: 7 :: 7 :: 7 :: 7 :: 7 :: 7 :: 7 :: 7 :: 7 :: 7 :: 7 :: 7 :: 7 :: 7 :: 7 :: 7 :: 7 :: 7 :: 7 :: 7 :: 7 :: 7 :: 7 :: 7 :: 7 :: 7 :: 7 :: 7 :: 7 :: 7 :: 7 :: 7 :: 7 :: 7 :: 7 :: 7 :: 7 :: 7 :: 7 :: 8 :: 8 :: 8 :: 8 :: 8 :: 8 :: 8 :: 8 :: 8 :: 8 :: 8 :: 8 :: 8 :: 8 :: 8 :: 8 :: 8 :: 8 :: 8 :: 8 :: 8 :: 8 :: 8 :: 8 :: 8 :: 8 :: 8 :: 8 :: 8 :: 8 :: 8 :: 8 :: 8 :: 8 :: 8 :: 8 :: 8 :: 8 :: 8 :: 8 :: 8 :: 8 :: 8 :: 8 :: 8 :: 8 :: 8 :: 8 :: 8 :: 8 :: 8 :: 8 :: 8 :: 8 :: 8 :: 8 :: 8 :: 8 :: 8 :: 8 :: 8 :: 8 :: 8 :: 8 :: 8 :: 8 :: 8 :: 8 :: 8 :: 8 :: 8 :: 8 :: 8 :: 8 :: 8 :: 8 :: 8 :: 8 :: 8 :: 8 :: 8 :: 8 :: 8 :: 8 :: 8 :: 8 :: 8 :: 8 :: 8 :: 8 :: 8 :: 8 :: 8 :: 8 :: 8 :: 8 :: 8 :: 8 :: 8 :: 8 :: 8 :: 8 :: 8 :: 8 :: 8 :: 8 :: 8 :: 8 :: 8 :: 8 :: 8 :: 8 :: 8 :: 8 :: 8 :: 8 :: 8 :: 8 :: 8 :: 8 :: 8 :: 8 :: 8 :: 8 :: 8 :: 8 :: 8 :: 8 :: []⟩⟩ : ByteArray) = aBo := rfl
attribute [go_sem] aKq
noncomputable def mM (F : Md) (x_6 : Nat) (n_7 : Int) : Option (Int) :=
 ck (0 ≤ (((x_6 % 256) : Nat) : Int) ∧ (((x_6 % 256) : Nat) : Int) < (((aI aBo).length : Nat) : Int)) (ck (I64 (n_7 + ((((aI aBo).getD (x_6 % 256) (0 : Nat)) : Nat) : Int))) (some (n_7 + ((((aI aBo).getD (x_6 % 256) (0 : Nat)) : Nat) : Int))))
noncomputable def mN (F : Md) (x_4 : Nat) (n_5 : Int) : Option (Int) :=
 if (256 : Nat) ≤ x_4 then ck (I64 (n_5 + (8 : Int))) (mM F (x_4 / (256 : Nat)) (n_5 + (8 : Int))) else mM F x_4 n_5
noncomputable def mO (F : Md) (x_2 : Nat) (n_3 : Int) : Option (Int) :=
 if (65536 : Nat) ≤ x_2 then ck (I64 (n_3 + (16 : Int))) (mN F (x_2 / (65536 : Nat)) (n_3 + (16 : Int))) else mN F x_2 n_3
noncomputable def rN (F : Md) (x_0 : Nat) : Option Int :=
 if (4294967296 : Nat) ≤ x_0 then mO F (x_0 / (4294967296 : Nat)) (32 : Int) else mO F x_0 (0 : Int)
def aDB : PlR := ⟨[(0, .A [0, 2]), (1, .A [0, 2, 4]), (2, .A [0]), (3, .A [0, 2]), (4, .A [0, 2, 8]), (5, .A [0, 2]), (6, .A [0, 2]), (7, .A [0, 2, 14]), (8, .A [0, 2]), (9, .A [0, 2]), (10, .A [2])], [(4, 7), (7, 10), (10, 13)]⟩
def aFa : Ty := .pair (.u .u64) .unit
noncomputable def mU (F : Md) : aG := mSpec aFa (.one (.i .i64)) (fun x => rN F x.1)
noncomputable def aLW (F : Md) : List (FuncId × aG) := []
theorem aLX (F : Md) : bC Tryz.prog GL (aLW F) := .nil
attribute [go_sem] aFa aDB
set_option maxHeartbeats 4000000 in
theorem aDC (F : Md) : FOK Tryz.prog GL 235 (mU F) := by
 refine bG (aW (aLX F)) mix Tryz.func235 rfl (by kernel_rfl) (by decide) aDB fun w0 S x Θ hw h hF => ?_
 obtain ⟨(x_0 : Nat), u⟩ := x
 simp only [bH, go_sem]
 replace h : sat (rN F x_0) _ := h
 unfold rN at h
 refine dH hF (D := Nat × Int) (fun d => sat (mO F d.1 d.2) Θ) [] (fun d => [(0, .val (.u .u64) d.1), (2, .val (.i .i64) d.2)]) (fun d => []) ?_ ?_
 ·simp only [go_sem]
  refine cT h (fun hc h => ?_) fun hc h => ?_
  ·exact aQ ((x_0 / (4294967296 : Nat)), (32 : Int)) h rfl (by simp only [go_sem])
  ·exact aQ (x_0, (0 : Int)) h rfl (by simp only [go_sem])
 ·rintro ⟨x_2, n_3⟩ h
  simp only [go_sem]
  replace h : sat (mO F x_2 n_3) _ := h
  unfold mO at h
  refine dH hF (D := Nat × Int) (fun d => sat (mN F d.1 d.2) Θ) [] (fun d => [(0, .val (.u .u64) d.1), (2, .val (.i .i64) d.2)]) (fun d => []) ?_ ?_
  ·simp only [go_sem]
   refine cT h (fun hc h => ?_) fun hc h => ?_
   ·refine aP h fun g0 h => ?_
    exact aQ ((x_2 / (65536 : Nat)), (n_3 + (16 : Int))) h rfl (by simp only [go_sem])
   ·exact aQ (x_2, n_3) h rfl (by simp only [go_sem])
  ·rintro ⟨x_4, n_5⟩ h
   simp only [go_sem]
   replace h : sat (mN F x_4 n_5) _ := h
   unfold mN at h
   refine dH hF (D := Nat × Int) (fun d => sat (mM F d.1 d.2) Θ) [] (fun d => [(0, .val (.u .u64) d.1), (2, .val (.i .i64) d.2)]) (fun d => []) ?_ ?_
   ·simp only [go_sem]
    refine cT h (fun hc h => ?_) fun hc h => ?_
    ·refine aP h fun g0 h => ?_
     exact aQ ((x_4 / (256 : Nat)), (n_5 + (8 : Int))) h rfl (by simp only [go_sem])
    ·exact aQ (x_4, n_5) h rfl (by simp only [go_sem])
   ·rintro ⟨x_6, n_7⟩ h
    simp only [go_sem]
    replace h : sat (mM F x_6 n_7) _ := h
    unfold mM at h
    refine aP h fun g0 h => aP h fun g1 h => ?_
    exact aF hF [.tmp 2] rfl rfl rfl (aA h) (by simp only [aT, go_sem])
attribute [go_sem] mU
noncomputable def bE (F : Md) (x_0 : Nat) : Option Int :=
 (rN F x_0).bind (fun v_5 => ck (I64 ((64 : Int) - v_5)) (some ((64 : Int) - v_5)))
def rO : PlR := ⟨[(0, .A [0]), (1, .A [2])], []⟩
def sX : Ty := .pair (.u .u64) .unit
noncomputable def cU (F : Md) : aG := mSpec sX (.one (.i .i64)) (fun x => bE F x.1)
noncomputable def sY (F : Md) : List (FuncId × aG) := [(235, (mU F))]
theorem aB6 (F : Md) : bC Tryz.prog GL (sY F) := .cons (aDC F) (by kernel_rfl) (.nil)
theorem yU (F : Md) : gam (sY F) 235 = some (mU F) := rfl
attribute [go_sem] sX rO yU
set_option maxHeartbeats 4000000 in
theorem mF (F : Md) : FOK Tryz.prog GL 188 (cU F) := by
 refine bG (aW (aB6 F)) mix Tryz.func188 rfl (by kernel_rfl) (by decide) rO fun w0 S x Θ hw h hF => ?_
 obtain ⟨(x_0 : Nat), u⟩ := x
 simp only [bH, go_sem]
 replace h : sat (bE F x_0) _ := h
 unfold bE at h
 obtain ⟨v_5, hv, h⟩ := aH h
 try simp only [hv, go_sem]
 refine aP h fun g0 h => ?_
 exact aF hF [.tmp 2] rfl rfl rfl (aA h) (by simp only [aT, go_sem])
attribute [go_sem] cU
noncomputable def iV (F : Md) (x_0 : Nat) : Option Int :=
 if x_0 = (0 : Nat) then some (64 : Int) else ck (0 ≤ ((((mulM F .u64 (x_0 &&& (aLO F .u64 x_0)) (285870213051353865 : Nat)) / (288230376151711744 : Nat)) : Nat) : Int) ∧ ((((mulM F .u64 (x_0 &&& (aLO F .u64 x_0)) (285870213051353865 : Nat)) / (288230376151711744 : Nat)) : Nat) : Int) < (64 : Int)) (some (((aQV.getD ((mulM F .u64 (x_0 &&& (aLO F .u64 x_0)) (285870213051353865 : Nat)) / (288230376151711744 : Nat)) (0 : Nat)) : Nat) : Int))
def qO : PlR := ⟨[(0, .A [0]), (1, .A [0, 4]), (2, .A [2]), (3, .A [2])], []⟩
def rP : Ty := .pair (.u .u64) .unit
noncomputable def hZ (F : Md) : aG := mSpec rP (.one (.i .i64)) (fun x => iV F x.1)
noncomputable def aBp (F : Md) : List (FuncId × aG) := []
theorem aBq (F : Md) : bC Tryz.prog GL (aBp F) := .nil
attribute [go_sem] rP qO
set_option maxHeartbeats 4000000 in
theorem aAJ (F : Md) : FOK Tryz.prog GL 164 (hZ F) := by
 refine bG (aW (aBq F)) mix Tryz.func164 rfl (by kernel_rfl) (by decide) qO fun w0 S x Θ hw h hF => ?_
 obtain ⟨(x_0 : Nat), u⟩ := x
 simp only [bH, go_sem]
 replace h : sat (iV F x_0) _ := h
 unfold iV at h
 refine cT h (fun hc h => ?_) fun hc h => ?_
 ·exact aF hF [.tmp 2] rfl rfl rfl (aA h) (by simp only [aT, go_sem, aY F, aZ F, bA F])
 ·obtain ⟨g0, h⟩ := aM h
  repeat (refine ⟨by first | with_reducible assumption | omega | (intros; first | with_reducible assumption | omega) | (simp only [go_sem, aY F, aZ F, bA F] at *; first | with_reducible assumption | omega) | (intro _; exact ⟨rfl, by decide⟩) | (intro _; refine (?_ : _ = aV _); rfl) | exact ⟨rfl, rfl⟩ | decide, ?_⟩)
  exact aF hF [.tmp 2] rfl rfl rfl (aA h) (by (simp only [aT, go_sem, aY F, aZ F, bA F]) <;> first | rfl | (simp; done))
attribute [go_sem] hZ
noncomputable def wM (F : Md) (x_0 : Nat) (y_1 : Nat) : Option (Nat × (Nat × Unit)) :=
 some ((((((mulM F .u64 (x_0 / (4294967296 : Nat)) (y_1 / (4294967296 : Nat))) + ((((mulM F .u64 (x_0 / (4294967296 : Nat)) (y_1 &&& (4294967295 : Nat))) + ((mulM F .u64 (x_0 &&& (4294967295 : Nat)) (y_1 &&& (4294967295 : Nat))) / (4294967296 : Nat))) % 18446744073709551616) / (4294967296 : Nat))) % 18446744073709551616) + (((((((mulM F .u64 (x_0 / (4294967296 : Nat)) (y_1 &&& (4294967295 : Nat))) + ((mulM F .u64 (x_0 &&& (4294967295 : Nat)) (y_1 &&& (4294967295 : Nat))) / (4294967296 : Nat))) % 18446744073709551616) &&& (4294967295 : Nat)) + (mulM F .u64 (x_0 &&& (4294967295 : Nat)) (y_1 / (4294967296 : Nat)))) % 18446744073709551616) / (4294967296 : Nat))) % 18446744073709551616), (mulM F .u64 x_0 y_1), ())
def aDD : PlR := ⟨[(0, .A [0, 1]), (1, .A [0, 1, 6]), (2, .A [0, 1, 6, 7]), (3, .A [0, 1, 6, 7, 8]), (4, .A [0, 1, 6, 7, 8, 9]), (5, .A [0, 1, 6, 7, 8, 9, 10]), (6, .A [0, 1, 6, 7, 9, 11]), (7, .A [0, 1, 6, 7, 9, 11, 12]), (8, .A [0, 1, 6, 7, 9, 12, 13]), (9, .A [0, 1, 7, 9, 12, 13]), (10, .A [0, 1, 4]), (11, .A [4, 5])], []⟩
def aFb : Ty := .pair (.u .u64) (.pair (.u .u64) .unit)
noncomputable def tZ (F : Md) : aG := mSpec aFb (.tup (.pair (.u .u64) (.pair (.u .u64) .unit))) (fun x => wM F x.1 x.2.1)
noncomputable def aLY (F : Md) : List (FuncId × aG) := []
theorem aLZ (F : Md) : bC Tryz.prog GL (aLY F) := .nil
attribute [go_sem] aFb aDD
set_option maxHeartbeats 4000000 in
theorem aKr (F : Md) : FOK Tryz.prog GL 161 (tZ F) := by
 refine bG (aW (aLZ F)) mix Tryz.func161 rfl (by kernel_rfl) (by decide) aDD fun w0 S x Θ hw h hF => ?_
 obtain ⟨(x_0 : Nat), (y_1 : Nat), u⟩ := x
 simp only [bH, go_sem]
 replace h : sat (wM F x_0 y_1) _ := h
 unfold wM at h
 exact aF hF [.tmp 4, .tmp 5] rfl rfl rfl (aA h) (by simp only [aT, go_sem, aY F, aZ F, bA F])
attribute [go_sem] tZ
noncomputable def pS (F : Md) (x15_12 : Nat) (hi_0 : Nat) (v_7 : Int) (lo_1 : Nat) (y_2 : Nat) (x18_17 : Nat) : Option (Nat × (Nat × Unit)) :=
 some ((((mulM F .u64 x15_12 (4294967296 : Nat)) + x18_17) % 18446744073709551616), ((vB F .u64 (((mulM F .u64 (vB F .u64 (((mulM F .u64 (((hi_0 * (2 ^ (v_7 % (18446744073709551616 : Int)).toNat)) % 18446744073709551616) ||| (lo_1 / (2 ^ (vB F .u64 (64 : Nat) (v_7 % (18446744073709551616 : Int)).toNat)))) (4294967296 : Nat)) + (((lo_1 * (2 ^ (v_7 % (18446744073709551616 : Int)).toNat)) % 18446744073709551616) / (4294967296 : Nat))) % 18446744073709551616) (mulM F .u64 x15_12 ((y_2 * (2 ^ (v_7 % (18446744073709551616 : Int)).toNat)) % 18446744073709551616))) (4294967296 : Nat)) + (((lo_1 * (2 ^ (v_7 % (18446744073709551616 : Int)).toNat)) % 18446744073709551616) &&& (4294967295 : Nat))) % 18446744073709551616) (mulM F .u64 x18_17 ((y_2 * (2 ^ (v_7 % (18446744073709551616 : Int)).toNat)) % 18446744073709551616))) / (2 ^ (v_7 % (18446744073709551616 : Int)).toNat)), ())
noncomputable def tM (F : Md) (lo_1 : Nat) (v_7 : Int) (y_2 : Nat) (rhat_18 : Nat) (x18_19 : Nat) : Option ((Nat × Nat) ⊕ (Nat)) :=
 if ((4294967296 : Nat) ≤ x18_19) ∨ ((((mulM F .u64 (4294967296 : Nat) rhat_18) + (((lo_1 * (2 ^ (v_7 % (18446744073709551616 : Int)).toNat)) % 18446744073709551616) &&& (4294967295 : Nat))) % 18446744073709551616) < (mulM F .u64 x18_19 (((y_2 * (2 ^ (v_7 % (18446744073709551616 : Int)).toNat)) % 18446744073709551616) &&& (4294967295 : Nat)))) then if (4294967296 : Nat) ≤ ((rhat_18 + (((y_2 * (2 ^ (v_7 % (18446744073709551616 : Int)).toNat)) % 18446744073709551616) / (4294967296 : Nat))) % 18446744073709551616) then some (.inr (vB F .u64 x18_19 (1 : Nat))) else some (.inl (((rhat_18 + (((y_2 * (2 ^ (v_7 % (18446744073709551616 : Int)).toNat)) % 18446744073709551616) / (4294967296 : Nat))) % 18446744073709551616), (vB F .u64 x18_19 (1 : Nat)))) else some (.inr x18_19)
noncomputable def pT (F : Md) (y_2 : Nat) (v_7 : Int) (lo_1 : Nat) (hi_0 : Nat) (x15_12 : Nat) : Option (Nat × (Nat × Unit)) :=
 ck ((((y_2 * (2 ^ (v_7 % (18446744073709551616 : Int)).toNat)) % 18446744073709551616) / (4294967296 : Nat)) ≠ 0) ((cW F (fun d : Nat × Nat => tM F lo_1 v_7 y_2 d.1 d.2) ((vB F .u64 (vB F .u64 (((mulM F .u64 (((hi_0 * (2 ^ (v_7 % (18446744073709551616 : Int)).toNat)) % 18446744073709551616) ||| (lo_1 / (2 ^ (vB F .u64 (64 : Nat) (v_7 % (18446744073709551616 : Int)).toNat)))) (4294967296 : Nat)) + (((lo_1 * (2 ^ (v_7 % (18446744073709551616 : Int)).toNat)) % 18446744073709551616) / (4294967296 : Nat))) % 18446744073709551616) (mulM F .u64 x15_12 ((y_2 * (2 ^ (v_7 % (18446744073709551616 : Int)).toNat)) % 18446744073709551616))) (mulM F .u64 ((vB F .u64 (((mulM F .u64 (((hi_0 * (2 ^ (v_7 % (18446744073709551616 : Int)).toNat)) % 18446744073709551616) ||| (lo_1 / (2 ^ (vB F .u64 (64 : Nat) (v_7 % (18446744073709551616 : Int)).toNat)))) (4294967296 : Nat)) + (((lo_1 * (2 ^ (v_7 % (18446744073709551616 : Int)).toNat)) % 18446744073709551616) / (4294967296 : Nat))) % 18446744073709551616) (mulM F .u64 x15_12 ((y_2 * (2 ^ (v_7 % (18446744073709551616 : Int)).toNat)) % 18446744073709551616))) / (((y_2 * (2 ^ (v_7 % (18446744073709551616 : Int)).toNat)) % 18446744073709551616) / (4294967296 : Nat))) (((y_2 * (2 ^ (v_7 % (18446744073709551616 : Int)).toNat)) % 18446744073709551616) / (4294967296 : Nat)))), ((vB F .u64 (((mulM F .u64 (((hi_0 * (2 ^ (v_7 % (18446744073709551616 : Int)).toNat)) % 18446744073709551616) ||| (lo_1 / (2 ^ (vB F .u64 (64 : Nat) (v_7 % (18446744073709551616 : Int)).toNat)))) (4294967296 : Nat)) + (((lo_1 * (2 ^ (v_7 % (18446744073709551616 : Int)).toNat)) % 18446744073709551616) / (4294967296 : Nat))) % 18446744073709551616) (mulM F .u64 x15_12 ((y_2 * (2 ^ (v_7 % (18446744073709551616 : Int)).toNat)) % 18446744073709551616))) / (((y_2 * (2 ^ (v_7 % (18446744073709551616 : Int)).toNat)) % 18446744073709551616) / (4294967296 : Nat))))).bind (fun e => pS F x15_12 hi_0 v_7 lo_1 y_2 e))
noncomputable def tN (F : Md) (lo_1 : Nat) (v_7 : Int) (y_2 : Nat) (x15_23 : Nat) (rhat_24 : Nat) : Option ((Nat × Nat) ⊕ (Nat)) :=
 if ((4294967296 : Nat) ≤ x15_23) ∨ ((((mulM F .u64 (4294967296 : Nat) rhat_24) + (((lo_1 * (2 ^ (v_7 % (18446744073709551616 : Int)).toNat)) % 18446744073709551616) / (4294967296 : Nat))) % 18446744073709551616) < (mulM F .u64 x15_23 (((y_2 * (2 ^ (v_7 % (18446744073709551616 : Int)).toNat)) % 18446744073709551616) &&& (4294967295 : Nat)))) then if (4294967296 : Nat) ≤ ((rhat_24 + (((y_2 * (2 ^ (v_7 % (18446744073709551616 : Int)).toNat)) % 18446744073709551616) / (4294967296 : Nat))) % 18446744073709551616) then some (.inr (vB F .u64 x15_23 (1 : Nat))) else some (.inl ((vB F .u64 x15_23 (1 : Nat)), ((rhat_24 + (((y_2 * (2 ^ (v_7 % (18446744073709551616 : Int)).toNat)) % 18446744073709551616) / (4294967296 : Nat))) % 18446744073709551616))) else some (.inr x15_23)
noncomputable def wN (F : Md) (hi_0 : Nat) (lo_1 : Nat) (y_2 : Nat) : Option (Nat × (Nat × Unit)) :=
 if y_2 = (0 : Nat) then none else if y_2 ≤ hi_0 then none else if hi_0 = (0 : Nat) then ck (y_2 ≠ 0) (ck (y_2 ≠ 0) (some ((lo_1 / y_2), (lo_1 % y_2), ()))) else (bE F y_2).bind (fun v_7 => ck ((((y_2 * (2 ^ (v_7 % (18446744073709551616 : Int)).toNat)) % 18446744073709551616) / (4294967296 : Nat)) ≠ 0) ((cW F (fun d : Nat × Nat => tN F lo_1 v_7 y_2 d.1 d.2) (((((hi_0 * (2 ^ (v_7 % (18446744073709551616 : Int)).toNat)) % 18446744073709551616) ||| (lo_1 / (2 ^ (vB F .u64 (64 : Nat) (v_7 % (18446744073709551616 : Int)).toNat)))) / (((y_2 * (2 ^ (v_7 % (18446744073709551616 : Int)).toNat)) % 18446744073709551616) / (4294967296 : Nat))), (vB F .u64 (((hi_0 * (2 ^ (v_7 % (18446744073709551616 : Int)).toNat)) % 18446744073709551616) ||| (lo_1 / (2 ^ (vB F .u64 (64 : Nat) (v_7 % (18446744073709551616 : Int)).toNat)))) (mulM F .u64 ((((hi_0 * (2 ^ (v_7 % (18446744073709551616 : Int)).toNat)) % 18446744073709551616) ||| (lo_1 / (2 ^ (vB F .u64 (64 : Nat) (v_7 % (18446744073709551616 : Int)).toNat)))) / (((y_2 * (2 ^ (v_7 % (18446744073709551616 : Int)).toNat)) % 18446744073709551616) / (4294967296 : Nat))) (((y_2 * (2 ^ (v_7 % (18446744073709551616 : Int)).toNat)) % 18446744073709551616) / (4294967296 : Nat)))))).bind (fun e => pT F y_2 v_7 lo_1 hi_0 e)))
def aDE : PlR := ⟨[(0, .A [0, 1, 2]), (1, .A [0, 1, 2, 20]), (2, .stop), (3, .A [0, 1, 2, 24]), (4, .stop), (5, .A [0, 1, 2, 27]), (6, .A [6, 7]), (7, .A [0, 1, 2, 8]), (8, .A [0, 1, 2, 8]), (9, .A [0, 1, 2, 8, 9]), (10, .A [0, 1, 2, 8, 9, 10]), (11, .A [1, 2, 8, 9, 10, 11]), (12, .A [2, 8, 9, 10, 11, 12]), (13, .A [2, 8, 9, 10, 11, 12, 13]), (14, .A [2, 8, 9, 10, 11, 13, 14]), (15, .A [2, 8, 9, 10, 11, 13, 14, 15]), (16, .A [2, 8, 9, 10, 11, 13, 14, 15, 16]), (17, .A [2, 8, 9, 10, 11, 13, 14, 15, 16, 78]), (18, .A [2, 8, 9, 10, 11, 13, 14, 15, 16]), (19, .A [2, 8, 9, 10, 11, 13, 14, 15, 16]), (20, .A [2, 8, 9, 10, 11, 13, 14, 15, 16, 85]), (21, .A [2, 8, 9, 10, 14, 15, 17]), (22, .A [2, 8, 9, 10, 14, 15, 17, 18]), (23, .A [2, 8, 9, 10, 14, 15, 16, 17, 18]), (24, .A [2, 8, 9, 10, 14, 15, 16, 17, 18, 113]), (25, .A [2, 8, 9, 10, 14, 15, 16, 17, 18]), (26, .A [2, 8, 9, 10, 14, 15, 16, 17, 18]), (27, .A [2, 8, 9, 10, 14, 15, 16, 17, 18, 120]), (28, .A [6, 7])], [(20, 24), (27, 31)]⟩
def aFc : Ty := .pair (.u .u64) (.pair (.u .u64) (.pair (.u .u64) .unit))
noncomputable def uA (F : Md) : aG := mSpec aFc (.tup (.pair (.u .u64) (.pair (.u .u64) .unit))) (fun x => wN F x.1 x.2.1 x.2.2.1)
noncomputable def aFd (F : Md) : List (FuncId × aG) := [(188, (cU F))]
theorem aL0 (F : Md) : bC Tryz.prog GL (aFd F) := .cons (mF F) (by kernel_rfl) (.nil)
theorem aGo (F : Md) : gam (aFd F) 188 = some (cU F) := rfl
attribute [go_sem] aFc aDE aGo
set_option maxHeartbeats 4000000 in
theorem aKs (F : Md) : FOK Tryz.prog GL 252 (uA F) := by
 refine bG (aW (aL0 F)) mix Tryz.func252 rfl (by kernel_rfl) (by decide) aDE fun w0 S x Θ hw h hF => ?_
 obtain ⟨(hi_0 : Nat), (lo_1 : Nat), (y_2 : Nat), u⟩ := x
 simp only [bH, go_sem]
 replace h : sat (wN F hi_0 lo_1 y_2) _ := h
 unfold wN at h
 refine cT h (fun hc h => ?_) fun hc h => ?_
 ·exact aAI h
 ·refine cT h (fun hc h => ?_) fun hc h => ?_
  ·exact aAI h
  ·refine cT h (fun hc h => ?_) fun hc h => ?_
   ·refine aP h fun g0 h => aP h fun g1 h => ?_
    exact aF hF [.tmp 6, .tmp 7] rfl rfl rfl (aA h) (by simp only [aT, go_sem, aY F, aZ F, bA F])
   ·obtain ⟨v_7, hv, h⟩ := aH h
    try simp only [hv, go_sem, aY F, aZ F, bA F]
    refine aP h fun g0 h => ?_
    refine dH hF (D := Nat) (fun d => sat (pT F y_2 v_7 lo_1 hi_0 d) Θ) [2, 8, 9, 10, 11, 13, 14] (fun d => [(15, .val (.u .u64) d)]) (fun d => []) ?_ ?_
    ·simp only [go_sem, aY F, aZ F, bA F]
     refine cB hF (D := Nat × Nat) [2, 8, 9, 10, 11, 13, 14] (fun d => [(15, .val (.u .u64) d.1), (16, .val (.u .u64) d.2)]) (fun d => []) h rfl (by simp only [go_sem, aY F, aZ F, bA F]) ?_
     rintro ⟨x15_23, rhat_24⟩ A17 T17 hA17 hE17 h
     simp only [go_sem, aY F, aZ F, bA F]
     replace h : sat (tN F lo_1 v_7 y_2 x15_23 rhat_24) _ := h
     unfold tN at h
     refine ⟨fun hc => ?_, fun hc => ?_⟩
     ·replace h := hP hc h
      refine cT h (fun hc h => ?_) fun hc h => ?_
      ·replace h := hE17 _ (aA h)
       try dsimp only at h
       exact aQ (vB F .u64 x15_23 (1 : Nat)) h rfl (by simp only [go_sem, aY F, aZ F, bA F])
      ·replace h := hA17 _ (aA h)
       exact aQ _ h rfl (by simp only [go_sem, aY F, aZ F, bA F])
     ·replace h := hU hc h
      replace h := hE17 _ (aA h)
      try dsimp only at h
      exact aQ (x15_23) h rfl (by simp only [go_sem, aY F, aZ F, bA F])
    ·rintro x15_12 h
     simp only [go_sem, aY F, aZ F, bA F]
     replace h : sat (pT F y_2 v_7 lo_1 hi_0 x15_12) _ := h
     unfold pT at h
     refine aP h fun g0 h => ?_
     refine dH hF (D := Nat) (fun d => sat (pS F x15_12 hi_0 v_7 lo_1 y_2 d) Θ) [2, 8, 14, 15, 17] (fun d => [(18, .val (.u .u64) d)]) (fun d => []) ?_ ?_
     ·simp only [go_sem, aY F, aZ F, bA F]
      refine cB hF (D := Nat × Nat) [2, 8, 9, 10, 14, 15, 17] (fun d => [(16, .val (.u .u64) d.1), (18, .val (.u .u64) d.2)]) (fun d => []) h rfl (by simp only [go_sem, aY F, aZ F, bA F]) ?_
      rintro ⟨rhat_18, x18_19⟩ A24 T24 hA24 hE24 h
      simp only [go_sem, aY F, aZ F, bA F]
      replace h : sat (tM F lo_1 v_7 y_2 rhat_18 x18_19) _ := h
      unfold tM at h
      refine ⟨fun hc => ?_, fun hc => ?_⟩
      ·replace h := hP hc h
       refine cT h (fun hc h => ?_) fun hc h => ?_
       ·replace h := hE24 _ (aA h)
        try dsimp only at h
        exact aQ (vB F .u64 x18_19 (1 : Nat)) h rfl (by simp only [go_sem, aY F, aZ F, bA F])
       ·replace h := hA24 _ (aA h)
        exact aQ _ h rfl (by simp only [go_sem, aY F, aZ F, bA F])
      ·replace h := hU hc h
       replace h := hE24 _ (aA h)
       try dsimp only at h
       exact aQ (x18_19) h rfl (by simp only [go_sem, aY F, aZ F, bA F])
     ·rintro x18_17 h
      simp only [go_sem, aY F, aZ F, bA F]
      replace h : sat (pS F x15_12 hi_0 v_7 lo_1 y_2 x18_17) _ := h
      unfold pS at h
      exact aF hF [.tmp 6, .tmp 7] rfl rfl rfl (aA h) (by simp only [aT, go_sem, aY F, aZ F, bA F])
attribute [go_sem] uA
noncomputable def aDk (F : Md) (a_0 : (List Nat)) : Option Bool :=
 ck (¬ ((((a_0.length) : Nat) : Int) = (0 : Int)) → ((((a_0.length) : Nat) : Int) ≤ (64 : Int)) → (I64 ((((a_0.length) : Nat) : Int) - (1 : Int)))) (ck (¬ ((((a_0.length) : Nat) : Int) = (0 : Int)) → ((((a_0.length) : Nat) : Int) ≤ (64 : Int)) → (0 ≤ ((((a_0.length) : Nat) : Int) - (1 : Int)) ∧ ((((a_0.length) : Nat) : Int) - (1 : Int)) < (((a_0.length) : Nat) : Int))) (some ((decide ((((a_0.length) : Nat) : Int) = (0 : Int))) || ((decide ((((a_0.length) : Nat) : Int) ≤ (64 : Int))) && (!(decide ((a_0.getD ((((a_0.length) : Nat) : Int) - (1 : Int)).toNat (0 : Nat)) = (0 : Nat))))))))
def aJp : PlR := ⟨[(0, .A [0]), (1, .A [2])], []⟩
def aLm : Ty := .pair (.sl (.u .u64)) .unit
noncomputable def aBr (F : Md) : aG := mSpec aLm (.one .bool) (fun x => aDk F x.1)
noncomputable def aPv (F : Md) : List (FuncId × aG) := []
theorem aPw (F : Md) : bC Tryz.prog GL (aPv F) := .nil
attribute [go_sem] aLm aJp
set_option maxHeartbeats 4000000 in
theorem aNR (F : Md) : FOK Tryz.prog GL 120 (aBr F) := by
 refine bG (aW (aPw F)) mix Tryz.func120 rfl (by kernel_rfl) (by decide) aJp fun w0 S x Θ hw h hF => ?_
 obtain ⟨(a_0 : (List Nat)), u⟩ := x
 simp only [bH, go_sem]
 replace h : sat (aDk F a_0) _ := h
 unfold aDk at h
 obtain ⟨g0, h⟩ := aM h
 obtain ⟨g1, h⟩ := aM h
 try simp only [I64, I32] at g0
 repeat (refine ⟨by first | with_reducible assumption | omega | (intros; first | with_reducible assumption | omega) | (simp only [go_sem] at *; first | with_reducible assumption | omega) | (intro _; exact ⟨rfl, by decide⟩) | (intro _; refine (?_ : _ = aV _); rfl) | exact ⟨rfl, rfl⟩ | (intro q0 q1; (try have e0 := g0 zAD (by first | exact q1 | omega | (simpa using q1))); (try have e1 := g1 zAD (by first | exact q1 | omega | (simpa using q1))); first | assumption | omega) | (rintro ⟨q0, q1⟩; (try have e0 := g0 zAD (by first | exact q1 | omega | (simpa using q1))); (try have e1 := g1 zAD (by first | exact q1 | omega | (simpa using q1))); first | assumption | omega) | decide, ?_⟩)
 exact aF hF [.tmp 2] rfl rfl rfl (aA h) (by simp only [aT, go_sem])
attribute [go_sem] aBr
noncomputable def aAd (F : Md) (a_4 : (List Nat)) : Option ((List Nat) ⊕ (List Nat)) :=
 ck (((0 : Int) < (((a_4.length) : Nat) : Int)) → (I64 ((((a_4.length) : Nat) : Int) - (1 : Int)))) (ck (((0 : Int) < (((a_4.length) : Nat) : Int)) → (0 ≤ ((((a_4.length) : Nat) : Int) - (1 : Int)) ∧ ((((a_4.length) : Nat) : Int) - (1 : Int)) < (((a_4.length) : Nat) : Int))) (if ((0 : Int) < (((a_4.length) : Nat) : Int)) ∧ ((a_4.getD ((((a_4.length) : Nat) : Int) - (1 : Int)).toNat (0 : Nat)) = (0 : Nat)) then ck (I64 ((((a_4.length) : Nat) : Int) - (1 : Int))) (ck (0 ≤ ((((a_4.length) : Nat) : Int) - (1 : Int)) ∧ ((((a_4.length) : Nat) : Int) - (1 : Int)) ≤ (((a_4.length) : Nat) : Int)) (some (.inl (List.take ((((a_4.length) : Nat) : Int) - (1 : Int)).toNat a_4)))) else some (.inr a_4)))
noncomputable def fN (F : Md) (a_0 : (List Nat)) : Option (List Nat) :=
 (cW F (fun d : (List Nat) => aAd F d) a_0).bind (fun e => some e)
def aG8 : PlR := ⟨[(0, .A [0]), (1, .A [0, 14]), (2, .A [0]), (3, .A [2])], []⟩
def aJq : Ty := .pair (.sl (.u .u64)) .unit
noncomputable def dR (F : Md) : aG := mSpec aJq (.one (.sl (.u .u64))) (fun x => fN F x.1)
noncomputable def aNS (F : Md) : List (FuncId × aG) := []
theorem aNT (F : Md) : bC Tryz.prog GL (aNS F) := .nil
attribute [go_sem] aJq aG8
set_option maxHeartbeats 4000000 in
theorem nN (F : Md) : FOK Tryz.prog GL 163 (dR F) := by
 refine bG (aW (aNT F)) mix Tryz.func163 rfl (by kernel_rfl) (by decide) aG8 fun w0 S x Θ hw h hF => ?_
 obtain ⟨(a_0 : (List Nat)), u⟩ := x
 simp only [bH, go_sem]
 replace h : sat (fN F a_0) _ := h
 unfold fN at h
 refine cB hF (D := (List Nat)) [] (fun d => [(0, .val (.sl (.u .u64)) d)]) (fun d => []) h rfl (by simp only [go_sem]) ?_
 rintro a_4 A1 T1 hA1 hE1 h
 simp only [go_sem]
 replace h : sat (aAd F a_4) _ := h
 unfold aAd at h
 refine aP h fun g0 h => aP h fun g1 h => ?_
 refine ⟨fun hc => ?_, fun hc => ?_⟩
 ·replace h := hP hc h
  refine aP h fun g0 h => aP h fun g1 h => ?_
  replace h := hA1 _ (aA h)
  exact aQ _ h rfl (by simp only [go_sem])
 ·replace h := hU hc h
  replace h := hE1 _ (aA h)
  try dsimp only at h
  exact aF hF [.tmp 2] rfl rfl rfl (aA h) (by simp only [aT, go_sem])
attribute [go_sem] dR
noncomputable def yA (F : Md) (less_0 : Bool) : Option Int :=
 if less_0 = true then some (-1 : Int) else some (1 : Int)
def aG9 : PlR := ⟨[(0, .A [0]), (1, .A [3]), (2, .A [2]), (3, .A [2])], []⟩
def aJr : Ty := .pair .bool .unit
noncomputable def zE (F : Md) : aG := mSpec aJr (.one (.i .i64)) (fun x => yA F x.1)
noncomputable def aNU (F : Md) : List (FuncId × aG) := []
theorem aNV (F : Md) : bC Tryz.prog GL (aNU F) := .nil
attribute [go_sem] aJr aG9
set_option maxHeartbeats 4000000 in
theorem aMZ (F : Md) : FOK Tryz.prog GL 189 (zE F) := by
 refine bG (aW (aNV F)) mix Tryz.func189 rfl (by kernel_rfl) (by decide) aG9 fun w0 S x Θ hw h hF => ?_
 obtain ⟨(less_0 : Bool), u⟩ := x
 simp only [bH, go_sem]
 replace h : sat (yA F less_0) _ := h
 unfold yA at h
 refine aE8 h (fun hc h => ?_) fun hc h => ?_
 ·exact aF hF [.tmp 2] rfl rfl rfl (aA h) (by simp only [aT, go_sem])
 ·exact aF hF [.tmp 2] rfl rfl rfl (aA h) (by simp only [aT, go_sem])
attribute [go_sem] zE
noncomputable def yB (F : Md) (a_0 : (List Nat)) (b_1 : (List Nat)) (i_20 : Int) : Option ((Int) ⊕ ((Unit) ⊕ Int)) :=
 if (0 : Int) ≤ i_20 then ck (0 ≤ i_20 ∧ i_20 < (((a_0.length) : Nat) : Int)) (ck (0 ≤ i_20 ∧ i_20 < (((b_1.length) : Nat) : Int)) (if ¬ ((a_0.getD (i_20.toNat) (0 : Nat)) = (b_1.getD (i_20.toNat) (0 : Nat))) then ck (0 ≤ i_20 ∧ i_20 < (((a_0.length) : Nat) : Int)) (ck (0 ≤ i_20 ∧ i_20 < (((b_1.length) : Nat) : Int)) ((yA F (decide ((a_0.getD (i_20.toNat) (0 : Nat)) < (b_1.getD (i_20.toNat) (0 : Nat))))).bind (fun v_33 => some (.inr (.inr v_33))))) else ck (I64 (i_20 - (1 : Int))) (some (.inl (i_20 - (1 : Int)))))) else some (.inr (.inl ()))
noncomputable def nO (F : Md) (a_0 : (List Nat)) (b_1 : (List Nat)) : Option Int :=
 if ¬ ((((a_0.length) : Nat) : Int) = (((b_1.length) : Nat) : Int)) then (yA F (decide ((((a_0.length) : Nat) : Int) < (((b_1.length) : Nat) : Int)))).bind (fun v_8 => some v_8) else ck (I64 ((((a_0.length) : Nat) : Int) - (1 : Int))) ((cW F (fun d : Int => yB F a_0 b_1 d) ((((a_0.length) : Nat) : Int) - (1 : Int))).bind (fun e => match e with | (.inl e) => some (0 : Int) | (.inr e) => some e))
def aFe : PlR := ⟨[(0, .A [0, 1]), (1, .A [0, 1, 10]), (2, .A [4]), (3, .A [0, 1, 5]), (4, .A [0, 1, 5, 21]), (5, .A [0, 1, 5]), (6, .A [0, 1, 5, 32]), (7, .A [4]), (8, .A [4])], []⟩
def aHa : Ty := .pair (.sl (.u .u64)) (.pair (.sl (.u .u64)) .unit)
noncomputable def kU (F : Md) : aG := mSpec aHa (.one (.i .i64)) (fun x => nO F x.1 x.2.1)
noncomputable def aHb (F : Md) : List (FuncId × aG) := [(189, (zE F))]
theorem aM0 (F : Md) : bC Tryz.prog GL (aHb F) := .cons (aMZ F) (by kernel_rfl) (.nil)
theorem aHN (F : Md) : gam (aHb F) 189 = some (zE F) := rfl
attribute [go_sem] aHa aFe aHN
set_option maxHeartbeats 4000000 in
theorem aBs (F : Md) : FOK Tryz.prog GL 122 (kU F) := by
 refine bG (aW (aM0 F)) mix Tryz.func122 rfl (by kernel_rfl) (by decide) aFe fun w0 S x Θ hw h hF => ?_
 obtain ⟨(a_0 : (List Nat)), (b_1 : (List Nat)), u⟩ := x
 simp only [bH, go_sem]
 replace h : sat (nO F a_0 b_1) _ := h
 unfold nO at h
 refine cT h (fun hc h => ?_) fun hc h => ?_
 ·obtain ⟨v_8, hv, h⟩ := aH h
  try simp only [hv, go_sem]
  exact aF hF [.tmp 4] rfl rfl rfl (aA h) (by simp only [aT, go_sem])
 ·refine aP h fun g0 h => ?_
  refine cB hF (D := Int) [0, 1] (fun d => [(5, .val (.i .i64) d)]) (fun d => []) h rfl (by simp only [go_sem]) ?_
  rintro i_20 A4 T4 hA4 hE4 h
  simp only [go_sem]
  replace h : sat (yB F a_0 b_1 i_20) _ := h
  unfold yB at h
  refine aLQ h (fun hc h => ?_) fun hc h => ?_
  ·refine aP h fun g0 h => aP h fun g1 h => ?_
   refine cT h (fun hc h => ?_) fun hc h => ?_
   ·refine aP h fun g0 h => aP h fun g1 h => ?_
    obtain ⟨v_33, hv, h⟩ := aH h
    try simp only [hv, go_sem]
    replace h := hE4 _ (aA h)
    try dsimp only at h
    exact aF hF [.tmp 4] rfl rfl rfl (aA h) (by simp only [aT, go_sem])
   ·refine aP h fun g0 h => ?_
    replace h := hA4 _ (aA h)
    exact aQ _ h rfl (by simp only [go_sem])
  ·replace h := hE4 _ (aA h)
   try dsimp only at h
   exact aF hF [.tmp 4] rfl rfl rfl (aA h) (by simp only [aT, go_sem])
attribute [go_sem] kU
noncomputable def yC (F : Md) (a_0 : (List Nat)) : Option Int :=
 if (((a_0.length) : Nat) : Int) = (0 : Int) then some (0 : Int) else ck (I64 ((64 : Int) * (((a_0.length) : Nat) : Int))) (ck (I64 ((((a_0.length) : Nat) : Int) - (1 : Int))) (ck (0 ≤ ((((a_0.length) : Nat) : Int) - (1 : Int)) ∧ ((((a_0.length) : Nat) : Int) - (1 : Int)) < (((a_0.length) : Nat) : Int)) ((bE F (a_0.getD ((((a_0.length) : Nat) : Int) - (1 : Int)).toNat (0 : Nat))).bind (fun v_5 => ck (I64 (((64 : Int) * (((a_0.length) : Nat) : Int)) - v_5)) (some (((64 : Int) * (((a_0.length) : Nat) : Int)) - v_5))))))
def aHc : PlR := ⟨[(0, .A [0]), (1, .A [0, 5]), (2, .A [2]), (3, .A [2])], []⟩
def aJs : Ty := .pair (.sl (.u .u64)) .unit
noncomputable def zF (F : Md) : aG := mSpec aJs (.one (.i .i64)) (fun x => yC F x.1)
noncomputable def aJt (F : Md) : List (FuncId × aG) := [(188, (cU F))]
theorem aNW (F : Md) : bC Tryz.prog GL (aJt F) := .cons (mF F) (by kernel_rfl) (.nil)
theorem aJu (F : Md) : gam (aJt F) 188 = some (cU F) := rfl
attribute [go_sem] aJs aHc aJu
set_option maxHeartbeats 4000000 in
theorem aM1 (F : Md) : FOK Tryz.prog GL 121 (zF F) := by
 refine bG (aW (aNW F)) mix Tryz.func121 rfl (by kernel_rfl) (by decide) aHc fun w0 S x Θ hw h hF => ?_
 obtain ⟨(a_0 : (List Nat)), u⟩ := x
 simp only [bH, go_sem]
 replace h : sat (yC F a_0) _ := h
 unfold yC at h
 refine cT h (fun hc h => ?_) fun hc h => ?_
 ·exact aF hF [.tmp 2] rfl rfl rfl (aA h) (by simp only [aT, go_sem])
 ·refine aP h fun g0 h => aP h fun g1 h => aP h fun g2 h => ?_
  obtain ⟨v_5, hv, h⟩ := aH h
  try simp only [hv, go_sem]
  refine aP h fun g0 h => ?_
  exact aF hF [.tmp 2] rfl rfl rfl (aA h) (by simp only [aT, go_sem])
attribute [go_sem] zF
noncomputable def yD (F : Md) (a_0 : (List Nat)) (x7_10 : Int) : Option ((Int) ⊕ ((Unit) ⊕ Int)) :=
 if x7_10 < (((a_0.length) : Nat) : Int) then ck (0 ≤ x7_10 ∧ x7_10 < (((a_0.length) : Nat) : Int)) (if ¬ ((a_0.getD (x7_10.toNat) (0 : Nat)) = (0 : Nat)) then ck (I64 ((64 : Int) * x7_10)) ((iV F (a_0.getD (x7_10.toNat) (0 : Nat))).bind (fun v_19 => ck (I64 (((64 : Int) * x7_10) + v_19)) (some (.inr (.inr (((64 : Int) * x7_10) + v_19)))))) else ck (I64 (x7_10 + (1 : Int))) (some (.inl (x7_10 + (1 : Int))))) else some (.inr (.inl ()))
noncomputable def cV (F : Md) (a_0 : (List Nat)) : Option Int :=
 (cW F (fun d : Int => yD F a_0 d) (0 : Int)).bind (fun e => match e with | (.inl e) => some (-1 : Int) | (.inr e) => some e)
def aFf : PlR := ⟨[(0, .A [0]), (1, .A [5, 6, 7]), (2, .A [5, 6, 7, 8]), (3, .A [3, 4, 5, 6, 7]), (4, .A [3, 4, 5, 6, 7, 13]), (5, .A [2]), (6, .A [5, 6, 7]), (7, .A [2])], []⟩
def aHd : Ty := .pair (.sl (.u .u64)) .unit
noncomputable def wO (F : Md) : aG := mSpec aHd (.one (.i .i64)) (fun x => cV F x.1)
noncomputable def aHe (F : Md) : List (FuncId × aG) := [(164, (hZ F))]
theorem aM2 (F : Md) : bC Tryz.prog GL (aHe F) := .cons (aAJ F) (by kernel_rfl) (.nil)
theorem aHO (F : Md) : gam (aHe F) 164 = some (hZ F) := rfl
attribute [go_sem] aHd aFf aHO
set_option maxHeartbeats 4000000 in
theorem aL1 (F : Md) : FOK Tryz.prog GL 98 (wO F) := by
 refine bG (aW (aM2 F)) mix Tryz.func98 rfl (by kernel_rfl) (by decide) aFf fun w0 S x Θ hw h hF => ?_
 obtain ⟨(a_0 : (List Nat)), u⟩ := x
 simp only [bH, go_sem]
 replace h : sat (cV F a_0) _ := h
 unfold cV at h
 refine cB hF (D := Int) [5, 6] (fun d => [(7, .val (.i .i64) d)]) (fun d => []) h rfl (by simp only [go_sem]) ?_
 rintro x7_10 A2 T2 hA2 hE2 h
 simp only [go_sem]
 replace h : sat (yD F a_0 x7_10) _ := h
 unfold yD at h
 refine fF h (fun hc h => ?_) fun hc h => ?_
 ·refine aP h fun g0 h => ?_
  refine cT h (fun hc h => ?_) fun hc h => ?_
  ·refine aP h fun g0 h => ?_
   obtain ⟨v_19, hv, h⟩ := aH h
   try simp only [hv, go_sem]
   refine aP h fun g0 h => ?_
   replace h := hE2 _ (aA h)
   try dsimp only at h
   exact aF hF [.tmp 2] rfl rfl rfl (aA h) (by simp only [aT, go_sem])
  ·refine aP h fun g0 h => ?_
   replace h := hA2 _ (aA h)
   exact aQ _ h rfl (by simp only [go_sem])
 ·replace h := hE2 _ (aA h)
  try dsimp only at h
  exact aF hF [.tmp 2] rfl rfl rfl (aA h) (by simp only [aT, go_sem])
attribute [go_sem] wO
noncomputable def yE (F : Md) (a_0 : (List Nat)) : Option (List Nat) :=
 (fN F a_0).bind (fun v_3 => ck (aQY v_3) (some (id v_3)))
def aHf : PlR := ⟨[(0, .A [0]), (1, .B [2])], []⟩
def aJv : Ty := .pair (.sl (.u .u64)) .unit
noncomputable def qP (F : Md) : aG := mSpec aJv (.one (.sl (.u .u64))) (fun x => yE F x.1)
noncomputable def aEf (F : Md) : List (FuncId × aG) := [(163, (dR F)), (165, bT)]
theorem aNX (F : Md) : bC Tryz.prog GL (aEf F) := .cons (nN F) (by kernel_rfl) (.cons iU (by kernel_rfl) (.nil))
theorem aJw (F : Md) : gam (aEf F) 163 = some (dR F) := rfl
theorem aJx (F : Md) : gam (aEf F) 165 = some bT := rfl
attribute [go_sem] aJv aHf aJw aJx
set_option maxHeartbeats 4000000 in
theorem aHg (F : Md) : FOK Tryz.prog GL 231 (qP F) := by
 refine bG (aW (aNX F)) mix Tryz.func231 rfl (by kernel_rfl) (by decide) aHf fun w0 S x Θ hw h hF => ?_
 obtain ⟨(a_0 : (List Nat)), u⟩ := x
 simp only [bH, go_sem]
 replace h : sat (yE F a_0) _ := h
 unfold yE at h
 obtain ⟨v_3, hv, h⟩ := aH h
 try simp only [hv, go_sem]
 refine aP h fun g0 h => ?_
 exact aF hF [.tmp 2] rfl rfl rfl (aA h) (by simp only [aT, go_sem])
attribute [go_sem] qP
noncomputable def oZ (F : Md) (x22_13 : Int) (out_14 : (List Nat)) (carry_12 : Nat) (x_21 : Nat) : Option ((Nat × Int × (List Nat)) ⊕ (List Nat)) :=
 ck (0 ≤ x22_13 ∧ x22_13 < (((out_14.length) : Nat) : Int)) (ck (aLU (out_14.getD (x22_13.toNat) (0 : Nat)) x_21 carry_12) (ck (0 ≤ x22_13 ∧ x22_13 < (((out_14.length) : Nat) : Int)) (ck (I64 (x22_13 + (1 : Int))) (some (.inl ((aBn (out_14.getD (x22_13.toNat) (0 : Nat)) x_21 carry_12).2.1, (x22_13 + (1 : Int)), (out_14.set (x22_13.toNat) (aBn (out_14.getD (x22_13.toNat) (0 : Nat)) x_21 carry_12).1)))))))
noncomputable def aAe (F : Md) (a_3 : (List Nat)) (b_4 : (List Nat)) (carry_12 : Nat) (x22_13 : Int) (out_14 : (List Nat)) : Option ((Nat × Int × (List Nat)) ⊕ (List Nat)) :=
 if x22_13 < ((((id a_3) ++ ([0] : List Nat)).length : Nat) : Int) then if x22_13 < (((b_4.length) : Nat) : Int) then ck (0 ≤ x22_13 ∧ x22_13 < (((b_4.length) : Nat) : Int)) (oZ F x22_13 out_14 carry_12 (b_4.getD (x22_13.toNat) (0 : Nat))) else if carry_12 = (0 : Nat) then some (.inr out_14) else oZ F x22_13 out_14 carry_12 (0 : Nat) else some (.inr out_14)
noncomputable def pA (F : Md) (a_3 : (List Nat)) (b_4 : (List Nat)) : Option (List Nat) :=
 ck (aQY a_3) (ck (((id a_3).length + (1 : Nat)) * 8 ≤ 140737488355328) ((cW F (fun d : Nat × Int × (List Nat) => aAe F a_3 b_4 d.1 d.2.1 d.2.2) ((0 : Nat), (0 : Int), ((id a_3) ++ ([0] : List Nat)))).bind (fun e => (fN F e).bind (fun v_27 => some v_27))))
noncomputable def aBt (F : Md) (a_0 : (List Nat)) (b_1 : (List Nat)) : Option (List Nat) :=
 if (((a_0.length) : Nat) : Int) < (((b_1.length) : Nat) : Int) then pA F b_1 a_0 else pA F a_0 b_1
def aHh : PlR := ⟨[(0, .A [0, 1]), (1, .A [0, 1, 13]), (2, .A [0, 1]), (3, .B [1, 5]), (4, .A [1, 5, 6]), (5, .A [1, 5, 6, 21, 22]), (6, .A [1, 5, 6, 21, 22, 23]), (7, .A [1, 5, 6, 7, 21, 22]), (8, .A [1, 5, 6, 7, 8, 21, 22]), (9, .A [1, 5, 6, 7, 8, 21, 22, 25]), (10, .A [1, 5, 6, 7, 8, 21, 22]), (11, .A [1, 5, 6, 7, 8, 21, 22, 34]), (12, .B [1, 5, 6, 21, 22]), (13, .A [1, 5, 6, 21, 22]), (14, .B [4])], [(4, 6), (12, 15)]⟩
def aJy : Ty := .pair (.sl (.u .u64)) (.pair (.sl (.u .u64)) .unit)
noncomputable def zG (F : Md) : aG := mSpec aJy (.one (.sl (.u .u64))) (fun x => aBt F x.1 x.2.1)
noncomputable def aBu (F : Md) : List (FuncId × aG) := [(162, mT), (163, (dR F)), (165, bT)]
theorem aNY (F : Md) : bC Tryz.prog GL (aBu F) := .nat aDA (.cons (nN F) (by kernel_rfl) (.cons iU (by kernel_rfl) (.nil)))
theorem aJz (F : Md) : gam (aBu F) 162 = some mT := rfl
theorem aJA (F : Md) : gam (aBu F) 163 = some (dR F) := rfl
theorem aJB (F : Md) : gam (aBu F) 165 = some bT := rfl
attribute [go_sem] aJy aHh aJz aJA aJB
set_option maxHeartbeats 4000000 in
theorem aM3 (F : Md) : FOK Tryz.prog GL 99 (zG F) := by
 refine bG (aW (aNY F)) mix Tryz.func99 rfl (by kernel_rfl) (by decide) aHh fun w0 S x Θ hw h hF => ?_
 obtain ⟨(a_0 : (List Nat)), (b_1 : (List Nat)), u⟩ := x
 simp only [bH, go_sem]
 replace h : sat (aBt F a_0 b_1) _ := h
 unfold aBt at h
 refine dH hF (D := (List Nat) × (List Nat)) (fun d => sat (pA F d.1 d.2) Θ) [] (fun d => [(0, .val (.sl (.u .u64)) d.1), (1, .val (.sl (.u .u64)) d.2)]) (fun d => []) ?_ ?_
 ·simp only [go_sem]
  refine fF h (fun hc h => ?_) fun hc h => ?_
  ·exact aQ (b_1, a_0) h rfl (by simp only [go_sem])
  ·exact aQ (a_0, b_1) h rfl (by simp only [go_sem])
 ·rintro ⟨a_3, b_4⟩ h
  simp only [go_sem]
  replace h : sat (pA F a_3 b_4) _ := h
  unfold pA at h
  refine aP h fun g0 h => ?_
  obtain ⟨g0, h⟩ := aM h
  repeat (refine ⟨by omega, ?_⟩)
  refine wL [1] rfl rfl ?_
  simp only [go_sem]
  refine cB hF (D := Nat × Int × (List Nat)) [1, 21] (fun d => [(5, .own 0), (6, .val (.u .u64) d.1), (22, .val (.i .i64) d.2.1)]) (fun d => [.inr (.row 83 (.u .u64) d.2.2)]) h rfl (by simp only [go_sem]) ?_
  rintro ⟨carry_12, x22_13, out_14⟩ A6 T6 hA6 hE6 h
  simp only [go_sem]
  replace h : sat (aAe F a_3 b_4 carry_12 x22_13 out_14) _ := h
  unfold aAe at h
  refine fF h (fun hc h => ?_) fun hc h => ?_
  ·refine dH hF (D := Nat) (fun d => sat (oZ F x22_13 out_14 carry_12 d) T6) [1, 6, 7, 21, 22] (fun d => [(5, .own 0), (8, .val (.u .u64) d)]) (fun d => [.inr (.row 83 (.u .u64) out_14)]) ?_ ?_
   ·simp only [go_sem]
    refine fF h (fun hc h => ?_) fun hc h => ?_
    ·obtain ⟨g0, h⟩ := aM h
     repeat (refine ⟨by omega, ?_⟩)
     exact aQ (b_4.getD (x22_13.toNat) (0 : Nat)) h rfl (by simp only [go_sem])
    ·refine cT h (fun hc h => ?_) fun hc h => ?_
     ·replace h := hE6 _ (aA h)
      try dsimp only at h
      obtain ⟨v_23, hv, h⟩ := aH h
      try simp only [hv, go_sem]
      exact aF hF [.tmp 4] rfl rfl rfl (aA h) (by simp only [aT, go_sem])
     ·exact aQ (0 : Nat) h rfl (by simp only [go_sem])
   ·rintro x_21 h
    simp only [go_sem]
    replace h : sat (oZ F x22_13 out_14 carry_12 x_21) _ := h
    unfold oZ at h
    obtain ⟨g0, h⟩ := aM h
    repeat (refine ⟨by omega, ?_⟩)
    obtain ⟨g0, h⟩ := aM h
    repeat (refine ⟨by omega, ?_⟩)
    obtain ⟨g0, h⟩ := aM h
    repeat (refine ⟨by omega, ?_⟩)
    refine aP h fun g0 h => ?_
    replace h := hA6 _ (aA h)
    exact aQ _ h rfl (by simp only [go_sem])
  ·replace h := hE6 _ (aA h)
   try dsimp only at h
   obtain ⟨v_25, hv, h⟩ := aH h
   try simp only [hv, go_sem]
   exact aF hF [.tmp 4] rfl rfl rfl (aA h) (by simp only [aT, go_sem])
attribute [go_sem] zG
noncomputable def rQ (F : Md) (x22_46 : Int) (b_1 : (List Nat)) (carry_86 : Nat) (out_87 : (List Nat)) : Option ((Int × (List Nat)) ⊕ (List Nat)) :=
 ck (I64 (x22_46 + (((b_1.length) : Nat) : Int))) (ck (0 ≤ (x22_46 + (((b_1.length) : Nat) : Int)) ∧ (x22_46 + (((b_1.length) : Nat) : Int)) < (((out_87.length) : Nat) : Int)) (ck (I64 (x22_46 + (1 : Int))) (some (.inl ((x22_46 + (1 : Int)), (out_87.set (x22_46 + (((b_1.length) : Nat) : Int)).toNat carry_86))))))
noncomputable def yF (F : Md) (b_1 : (List Nat)) (a_0 : (List Nat)) (x22_46 : Int) (carry_90 : Nat) (x29_91 : Int) (out_92 : (List Nat)) : Option ((Nat × Int × (List Nat)) ⊕ (Nat × (List Nat))) :=
 if x29_91 < (((b_1.length) : Nat) : Int) then ck (0 ≤ x29_91 ∧ x29_91 < (((b_1.length) : Nat) : Int)) ((wM F (a_0.getD (x22_46.toNat) (0 : Nat)) (b_1.getD (x29_91.toNat) (0 : Nat))).bind (fun v_105 => ck (aLU v_105.2.1 carry_90 (0 : Nat)) (ck (I64 (x22_46 + x29_91)) (ck (I64 (x22_46 + x29_91)) (ck (0 ≤ (x22_46 + x29_91) ∧ (x22_46 + x29_91) < (((out_92.length) : Nat) : Int)) (ck (aLU (out_92.getD (x22_46 + x29_91).toNat (0 : Nat)) (aBn v_105.2.1 carry_90 (0 : Nat)).1 (0 : Nat)) (ck (0 ≤ (x22_46 + x29_91) ∧ (x22_46 + x29_91) < (((out_92.length) : Nat) : Int)) (ck (I64 (x29_91 + (1 : Int))) (some (.inl (((((v_105.1 + (aBn v_105.2.1 carry_90 (0 : Nat)).2.1) % 18446744073709551616) + (aBn (out_92.getD (x22_46 + x29_91).toNat (0 : Nat)) (aBn v_105.2.1 carry_90 (0 : Nat)).1 (0 : Nat)).2.1) % 18446744073709551616), (x29_91 + (1 : Int)), (out_92.set (x22_46 + x29_91).toNat (aBn (out_92.getD (x22_46 + x29_91).toNat (0 : Nat)) (aBn v_105.2.1 carry_90 (0 : Nat)).1 (0 : Nat)).1)))))))))))) else some (.inr (carry_90, out_92))
noncomputable def yG (F : Md) (a_0 : (List Nat)) (b_1 : (List Nat)) (x22_46 : Int) (out_47 : (List Nat)) : Option ((Int × (List Nat)) ⊕ (List Nat)) :=
 if x22_46 < (((a_0.length) : Nat) : Int) then ck (0 ≤ x22_46 ∧ x22_46 < (((a_0.length) : Nat) : Int)) ((cW F (fun d : Nat × Int × (List Nat) => yF F b_1 a_0 x22_46 d.1 d.2.1 d.2.2) ((0 : Nat), (0 : Int), out_47)).bind (fun e => rQ F x22_46 b_1 e.1 e.2)) else some (.inr out_47)
noncomputable def fQ (F : Md) (a_0 : (List Nat)) (b_1 : (List Nat)) : Option (List Nat) :=
 ck (I64 ((((a_0.length) : Nat) : Int) + (((b_1.length) : Nat) : Int))) (ck (0 ≤ ((((a_0.length) : Nat) : Int) + (((b_1.length) : Nat) : Int))) (ck ((8 : Int) * ((((a_0.length) : Nat) : Int) + (((b_1.length) : Nat) : Int)) ≤ 281474976710656) ((cW F (fun d : Int × (List Nat) => yG F a_0 b_1 d.1 d.2) ((0 : Int), (List.replicate ((((a_0.length) : Nat) : Int) + (((b_1.length) : Nat) : Int)).toNat (0 : Nat)))).bind (fun e => (fN F e).bind (fun v_109 => some v_109)))))
def aFg : PlR := ⟨[(0, .A [0, 1]), (1, .B [0, 1, 5]), (2, .A [1, 5, 20, 21, 22]), (3, .A [1, 5, 20, 21, 22, 23]), (4, .A [1, 5, 6, 7, 20, 21, 22]), (5, .A [1, 5, 6, 7, 8, 20, 21, 22]), (6, .A [1, 5, 6, 7, 8, 20, 21, 22, 27, 28, 29]), (7, .A [1, 5, 6, 7, 8, 20, 21, 22, 27, 28, 29, 30]), (8, .A [1, 5, 6, 7, 8, 9, 10, 20, 21, 22, 27, 28, 29]), (9, .A [1, 5, 6, 7, 8, 9, 11, 12, 20, 21, 22, 27, 28, 29]), (10, .A [1, 5, 6, 7, 8, 9, 11, 12, 20, 21, 22, 27, 28, 29]), (11, .A [1, 5, 6, 7, 9, 11, 12, 13, 20, 21, 22, 27, 28, 29]), (12, .A [1, 5, 6, 7, 9, 11, 12, 20, 21, 22, 27, 28, 29]), (13, .B [1, 5, 6, 7, 11, 13, 20, 21, 22, 27, 28, 29]), (14, .A [1, 5, 6, 7, 8, 20, 21, 22, 27, 28, 29]), (15, .A [1, 5, 6, 7, 8, 20, 21, 22, 27, 28, 29]), (16, .B [1, 5, 20, 21, 22]), (17, .A [1, 5, 20, 21, 22]), (18, .B [4])], [(9, 19)]⟩
def aHi : Ty := .pair (.sl (.u .u64)) (.pair (.sl (.u .u64)) .unit)
noncomputable def dW (F : Md) : aG := mSpec aHi (.one (.sl (.u .u64))) (fun x => fQ F x.1 x.2.1)
noncomputable def zH (F : Md) : List (FuncId × aG) := [(161, (tZ F)), (162, mT), (163, (dR F))]
theorem aM4 (F : Md) : bC Tryz.prog GL (zH F) := .cons (aKr F) (by kernel_rfl) (.nat aDA (.cons (nN F) (by kernel_rfl) (.nil)))
theorem aHP (F : Md) : gam (zH F) 161 = some (tZ F) := rfl
theorem aHQ (F : Md) : gam (zH F) 162 = some mT := rfl
theorem aHR (F : Md) : gam (zH F) 163 = some (dR F) := rfl
attribute [go_sem] aHi aFg aHP aHQ aHR
set_option maxHeartbeats 4000000 in
theorem nX (F : Md) : FOK Tryz.prog GL 94 (dW F) := by
 refine bG (aW (aM4 F)) mix Tryz.func94 rfl (by kernel_rfl) (by decide) aFg fun w0 S x Θ hw h hF => ?_
 obtain ⟨(a_0 : (List Nat)), (b_1 : (List Nat)), u⟩ := x
 simp only [bH, go_sem]
 replace h : sat (fQ F a_0 b_1) _ := h
 unfold fQ at h
 obtain ⟨g0, h⟩ := aM h
 repeat (refine ⟨by omega, ?_⟩)
 obtain ⟨g0, h⟩ := aM h
 obtain ⟨g1, h⟩ := aM h
 repeat (refine ⟨by omega, ?_⟩)
 refine cB hF (D := Int × (List Nat)) [1, 20, 21] (fun d => [(5, .own 0), (22, .val (.i .i64) d.1)]) (fun d => [.inr (.row 83 (.u .u64) d.2)]) h rfl (by simp only [go_sem]) ?_
 rintro ⟨x22_46, out_47⟩ A3 T3 hA3 hE3 h
 simp only [go_sem]
 replace h : sat (yG F a_0 b_1 x22_46 out_47) _ := h
 unfold yG at h
 refine fF h (fun hc h => ?_) fun hc h => ?_
 ·obtain ⟨g0, h⟩ := aM h
  repeat (refine ⟨by omega, ?_⟩)
  refine dH hF (D := Nat × (List Nat)) (fun d => sat (rQ F x22_46 b_1 d.1 d.2) T3) [1, 6, 20, 21, 22] (fun d => [(5, .own 0), (8, .val (.u .u64) d.1)]) (fun d => [.inr (.row 83 (.u .u64) d.2)]) ?_ ?_
  ·simp only [go_sem]
   refine cB hF (D := Nat × Int × (List Nat)) [1, 6, 7, 20, 21, 22, 27, 28] (fun d => [(5, .own 0), (8, .val (.u .u64) d.1), (29, .val (.i .i64) d.2.1)]) (fun d => [.inr (.row 83 (.u .u64) d.2.2)]) h rfl (by simp only [go_sem]) ?_
   rintro ⟨carry_90, x29_91, out_92⟩ A7 T7 hA7 hE7 h
   simp only [go_sem]
   replace h : sat (yF F b_1 a_0 x22_46 carry_90 x29_91 out_92) _ := h
   unfold yF at h
   refine fF h (fun hc h => ?_) fun hc h => ?_
   ·obtain ⟨g0, h⟩ := aM h
    repeat (refine ⟨by omega, ?_⟩)
    obtain ⟨v_105, hv, h⟩ := aH h
    try simp only [hv, go_sem]
    obtain ⟨g0, h⟩ := aM h
    repeat (refine ⟨by omega, ?_⟩)
    obtain ⟨g0, h⟩ := aM h
    repeat (refine ⟨by omega, ?_⟩)
    obtain ⟨g0, h⟩ := aM h
    repeat (refine ⟨by omega, ?_⟩)
    obtain ⟨g0, h⟩ := aM h
    repeat (refine ⟨by omega, ?_⟩)
    obtain ⟨g0, h⟩ := aM h
    repeat (refine ⟨by omega, ?_⟩)
    obtain ⟨g0, h⟩ := aM h
    repeat (refine ⟨by omega, ?_⟩)
    obtain ⟨g0, h⟩ := aM h
    repeat (refine ⟨by omega, ?_⟩)
    replace h := hA7 _ (aA h)
    exact aQ _ h rfl (by simp only [go_sem])
   ·replace h := hE7 _ (aA h)
    try dsimp only at h
    exact aQ (carry_90, out_92) h rfl (by simp only [go_sem])
  ·rintro ⟨carry_86, out_87⟩ h
   simp only [go_sem]
   replace h : sat (rQ F x22_46 b_1 carry_86 out_87) _ := h
   unfold rQ at h
   obtain ⟨g0, h⟩ := aM h
   repeat (refine ⟨by omega, ?_⟩)
   obtain ⟨g0, h⟩ := aM h
   repeat (refine ⟨by omega, ?_⟩)
   obtain ⟨g0, h⟩ := aM h
   try simp only [I64, I32] at g0
   repeat (refine ⟨zAA, ?_⟩)
   replace h := hA3 _ (aA h)
   exact aQ _ h rfl (by simp only [go_sem])
 ·replace h := hE3 _ (aA h)
  try dsimp only at h
  obtain ⟨v_107, hv, h⟩ := aH h
  try simp only [hv, go_sem]
  exact aF hF [.tmp 4] rfl rfl rfl (aA h) (by simp only [aT, go_sem])
attribute [go_sem] dW
noncomputable def aAf (F : Md) (a_0 : (List Nat)) (n_1 : Int) (x20_7 : Int) (out_8 : (List Nat)) : Option ((Int × (List Nat)) ⊕ (List Nat)) :=
 if x20_7 < (((a_0.length) : Nat) : Int) then ck (0 ≤ x20_7 ∧ x20_7 < (((a_0.length) : Nat) : Int)) (ck (I64 (Int.tdiv n_1 (64 : Int))) (ck (I64 ((Int.tdiv n_1 (64 : Int)) + x20_7)) (ck (0 ≤ ((Int.tdiv n_1 (64 : Int)) + x20_7) ∧ ((Int.tdiv n_1 (64 : Int)) + x20_7) < (((out_8.length) : Nat) : Int)) (ck (0 ≤ ((Int.tdiv n_1 (64 : Int)) + x20_7) ∧ ((Int.tdiv n_1 (64 : Int)) + x20_7) < (((out_8.length) : Nat) : Int)) (ck (I64 (Int.tdiv n_1 (64 : Int))) (ck (I64 ((Int.tdiv n_1 (64 : Int)) + x20_7)) (ck (I64 (((Int.tdiv n_1 (64 : Int)) + x20_7) + (1 : Int))) (ck (0 ≤ (((Int.tdiv n_1 (64 : Int)) + x20_7) + (1 : Int)) ∧ (((Int.tdiv n_1 (64 : Int)) + x20_7) + (1 : Int)) < (((out_8.set ((Int.tdiv n_1 (64 : Int)) + x20_7).toNat ((out_8.getD ((Int.tdiv n_1 (64 : Int)) + x20_7).toNat (0 : Nat)) ||| (((a_0.getD (x20_7.toNat) (0 : Nat)) * (2 ^ ((Int.tmod n_1 (64 : Int)) % (18446744073709551616 : Int)).toNat)) % 18446744073709551616))).length : Nat) : Int)) (ck (I64 ((63 : Int) - (Int.tmod n_1 (64 : Int)))) (ck (0 ≤ (((Int.tdiv n_1 (64 : Int)) + x20_7) + (1 : Int)) ∧ (((Int.tdiv n_1 (64 : Int)) + x20_7) + (1 : Int)) < (((out_8.set ((Int.tdiv n_1 (64 : Int)) + x20_7).toNat ((out_8.getD ((Int.tdiv n_1 (64 : Int)) + x20_7).toNat (0 : Nat)) ||| (((a_0.getD (x20_7.toNat) (0 : Nat)) * (2 ^ ((Int.tmod n_1 (64 : Int)) % (18446744073709551616 : Int)).toNat)) % 18446744073709551616))).length : Nat) : Int)) (ck (I64 (x20_7 + (1 : Int))) (some (.inl ((x20_7 + (1 : Int)), ((out_8.set ((Int.tdiv n_1 (64 : Int)) + x20_7).toNat ((out_8.getD ((Int.tdiv n_1 (64 : Int)) + x20_7).toNat (0 : Nat)) ||| (((a_0.getD (x20_7.toNat) (0 : Nat)) * (2 ^ ((Int.tmod n_1 (64 : Int)) % (18446744073709551616 : Int)).toNat)) % 18446744073709551616))).set (((Int.tdiv n_1 (64 : Int)) + x20_7) + (1 : Int)).toNat (((out_8.set ((Int.tdiv n_1 (64 : Int)) + x20_7).toNat ((out_8.getD ((Int.tdiv n_1 (64 : Int)) + x20_7).toNat (0 : Nat)) ||| (((a_0.getD (x20_7.toNat) (0 : Nat)) * (2 ^ ((Int.tmod n_1 (64 : Int)) % (18446744073709551616 : Int)).toNat)) % 18446744073709551616))).getD (((Int.tdiv n_1 (64 : Int)) + x20_7) + (1 : Int)).toNat (0 : Nat)) ||| (((a_0.getD (x20_7.toNat) (0 : Nat)) / (2 : Nat)) / (2 ^ (((63 : Int) - (Int.tmod n_1 (64 : Int))) % (18446744073709551616 : Int)).toNat)))))))))))))))))) else some (.inr out_8)
noncomputable def gJ (F : Md) (a_0 : (List Nat)) (n_1 : Int) : Option (List Nat) :=
 if (((a_0.length) : Nat) : Int) = (0 : Int) then some ([] : List Nat) else ck (I64 (Int.tdiv n_1 (64 : Int))) (ck (I64 ((Int.tdiv n_1 (64 : Int)) + (((a_0.length) : Nat) : Int))) (ck (I64 (((Int.tdiv n_1 (64 : Int)) + (((a_0.length) : Nat) : Int)) + (1 : Int))) (ck (0 ≤ (((Int.tdiv n_1 (64 : Int)) + (((a_0.length) : Nat) : Int)) + (1 : Int))) (ck ((8 : Int) * (((Int.tdiv n_1 (64 : Int)) + (((a_0.length) : Nat) : Int)) + (1 : Int)) ≤ 281474976710656) ((cW F (fun d : Int × (List Nat) => aAf F a_0 n_1 d.1 d.2) ((0 : Int), (List.replicate (((Int.tdiv n_1 (64 : Int)) + (((a_0.length) : Nat) : Int)) + (1 : Int)).toNat (0 : Nat)))).bind (fun e => (fN F e).bind (fun v_15 => some v_15)))))))
def aHj : PlR := ⟨[(0, .A [0, 1]), (1, .A [0, 1, 10]), (2, .A [4]), (3, .B [0, 1, 5]), (4, .A [1, 5, 18, 19, 20]), (5, .A [1, 5, 18, 19, 20, 21]), (6, .A [1, 5, 6, 7, 18, 19, 20]), (7, .B [1, 5, 6, 7, 18, 19, 20]), (8, .B [1, 5, 18, 19, 20]), (9, .A [1, 5, 18, 19, 20]), (10, .B [4])], []⟩
def aJC : Ty := .pair (.sl (.u .u64)) (.pair (.i .i64) .unit)
noncomputable def qQ (F : Md) : aG := mSpec aJC (.one (.sl (.u .u64))) (fun x => gJ F x.1 x.2.1)
noncomputable def aJD (F : Md) : List (FuncId × aG) := [(163, (dR F))]
theorem aNZ (F : Md) : bC Tryz.prog GL (aJD F) := .cons (nN F) (by kernel_rfl) (.nil)
theorem aJE (F : Md) : gam (aJD F) 163 = some (dR F) := rfl
attribute [go_sem] aJC aHj aJE
set_option maxHeartbeats 4000000 in
theorem aHk (F : Md) : FOK Tryz.prog GL 95 (qQ F) := by
 refine bG (aW (aNZ F)) mix Tryz.func95 rfl (by kernel_rfl) (by decide) aHj fun w0 S x Θ hw h hF => ?_
 obtain ⟨(a_0 : (List Nat)), (n_1 : Int), u⟩ := x
 simp only [bH, go_sem]
 replace h : sat (gJ F a_0 n_1) _ := h
 unfold gJ at h
 refine cT h (fun hc h => ?_) fun hc h => ?_
 ·exact aF hF [.tmp 4] rfl rfl rfl (aA h) (by simp only [aT, go_sem])
 ·obtain ⟨g0, h⟩ := aM h
  try simp only [I64, I32] at g0
  repeat (refine ⟨zAA, ?_⟩)
  obtain ⟨g0, h⟩ := aM h
  try simp only [I64, I32] at g0
  repeat (refine ⟨zAA, ?_⟩)
  obtain ⟨g0, h⟩ := aM h
  try simp only [I64, I32] at g0
  repeat (refine ⟨zAA, ?_⟩)
  obtain ⟨g0, h⟩ := aM h
  obtain ⟨g1, h⟩ := aM h
  repeat (refine ⟨zAA, ?_⟩)
  refine cB hF (D := Int × (List Nat)) [1, 18, 19] (fun d => [(5, .own 0), (20, .val (.i .i64) d.1)]) (fun d => [.inr (.row 83 (.u .u64) d.2)]) h rfl (by simp only [go_sem]) ?_
  rintro ⟨x20_7, out_8⟩ A5 T5 hA5 hE5 h
  simp only [go_sem]
  replace h : sat (aAf F a_0 n_1 x20_7 out_8) _ := h
  unfold aAf at h
  refine fF h (fun hc h => ?_) fun hc h => ?_
  ·obtain ⟨g0, h⟩ := aM h
   repeat (refine ⟨zAA, ?_⟩)
   obtain ⟨g0, h⟩ := aM h
   try simp only [I64, I32] at g0
   repeat (refine ⟨zAA, ?_⟩)
   obtain ⟨g0, h⟩ := aM h
   try simp only [I64, I32] at g0
   repeat (refine ⟨zAA, ?_⟩)
   obtain ⟨g0, h⟩ := aM h
   repeat (refine ⟨zAA, ?_⟩)
   obtain ⟨g0, h⟩ := aM h
   repeat (refine ⟨zAA, ?_⟩)
   obtain ⟨g0, h⟩ := aM h
   try simp only [I64, I32] at g0
   repeat (refine ⟨zAA, ?_⟩)
   obtain ⟨g0, h⟩ := aM h
   try simp only [I64, I32] at g0
   repeat (refine ⟨zAA, ?_⟩)
   obtain ⟨g0, h⟩ := aM h
   try simp only [I64, I32] at g0
   repeat (refine ⟨zAA, ?_⟩)
   obtain ⟨g0, h⟩ := aM h
   repeat (refine ⟨zAA, ?_⟩)
   obtain ⟨g0, h⟩ := aM h
   try simp only [I64, I32] at g0
   repeat (refine ⟨zAA, ?_⟩)
   obtain ⟨g0, h⟩ := aM h
   repeat (refine ⟨zAA, ?_⟩)
   obtain ⟨g0, h⟩ := aM h
   try simp only [I64, I32] at g0
   repeat (refine ⟨zAA, ?_⟩)
   replace h := hA5 _ (aA h)
   exact aQ _ h rfl (by (try simp only [eY, dL, true_or, and_self, go_sem]) <;> (repeat' apply And.intro) <;> first | rfl | (left; rfl) | (right; rfl) | (left; simp only [go_sem]; done) | (right; simp only [go_sem]; done) | (simp; done) | (simp only [*]; done) | omega)
  ·replace h := hE5 _ (aA h)
   try dsimp only at h
   obtain ⟨v_13, hv, h⟩ := aH h
   try simp only [hv, go_sem]
   exact aF hF [.tmp 4] rfl rfl rfl (aA h) (by simp only [aT, go_sem])
attribute [go_sem] qQ
noncomputable def yH (F : Md) (n_1 : Int) (a_0 : (List Nat)) (x22_10 : Int) (out_11 : (List Nat)) : Option ((Int × (List Nat)) ⊕ (List Nat)) :=
 if x22_10 < (((List.drop (Int.tdiv n_1 (64 : Int)).toNat a_0).length : Nat) : Int) then ck (0 ≤ x22_10 ∧ x22_10 < (((List.drop (Int.tdiv n_1 (64 : Int)).toNat a_0).length : Nat) : Int)) (ck (0 ≤ x22_10 ∧ x22_10 < (((out_11.length) : Nat) : Int)) (ck (I64 (x22_10 + (1 : Int))) (if (x22_10 + (1 : Int)) < (((List.drop (Int.tdiv n_1 (64 : Int)).toNat a_0).length : Nat) : Int) then ck (0 ≤ x22_10 ∧ x22_10 < (((out_11.set (x22_10.toNat) (((List.drop (Int.tdiv n_1 (64 : Int)).toNat a_0).getD (x22_10.toNat) (0 : Nat)) / (2 ^ ((Int.tmod n_1 (64 : Int)) % (18446744073709551616 : Int)).toNat))).length : Nat) : Int)) (ck (I64 (x22_10 + (1 : Int))) (ck (0 ≤ (x22_10 + (1 : Int)) ∧ (x22_10 + (1 : Int)) < (((List.drop (Int.tdiv n_1 (64 : Int)).toNat a_0).length : Nat) : Int)) (ck (I64 ((63 : Int) - (Int.tmod n_1 (64 : Int)))) (ck (0 ≤ x22_10 ∧ x22_10 < (((out_11.set (x22_10.toNat) (((List.drop (Int.tdiv n_1 (64 : Int)).toNat a_0).getD (x22_10.toNat) (0 : Nat)) / (2 ^ ((Int.tmod n_1 (64 : Int)) % (18446744073709551616 : Int)).toNat))).length : Nat) : Int)) (ck (I64 (x22_10 + (1 : Int))) (some (.inl ((x22_10 + (1 : Int)), ((out_11.set (x22_10.toNat) (((List.drop (Int.tdiv n_1 (64 : Int)).toNat a_0).getD (x22_10.toNat) (0 : Nat)) / (2 ^ ((Int.tmod n_1 (64 : Int)) % (18446744073709551616 : Int)).toNat))).set (x22_10.toNat) (((out_11.set (x22_10.toNat) (((List.drop (Int.tdiv n_1 (64 : Int)).toNat a_0).getD (x22_10.toNat) (0 : Nat)) / (2 ^ ((Int.tmod n_1 (64 : Int)) % (18446744073709551616 : Int)).toNat))).getD (x22_10.toNat) (0 : Nat)) ||| ((((((List.drop (Int.tdiv n_1 (64 : Int)).toNat a_0).getD (x22_10 + (1 : Int)).toNat (0 : Nat)) * (2 : Nat)) % 18446744073709551616) * (2 ^ (((63 : Int) - (Int.tmod n_1 (64 : Int))) % (18446744073709551616 : Int)).toNat)) % 18446744073709551616))))))))))) else ck (I64 (x22_10 + (1 : Int))) (some (.inl ((x22_10 + (1 : Int)), (out_11.set (x22_10.toNat) (((List.drop (Int.tdiv n_1 (64 : Int)).toNat a_0).getD (x22_10.toNat) (0 : Nat)) / (2 ^ ((Int.tmod n_1 (64 : Int)) % (18446744073709551616 : Int)).toNat))))))))) else some (.inr out_11)
noncomputable def jH (F : Md) (a_0 : (List Nat)) (n_1 : Int) : Option (List Nat) :=
 ck (I64 (Int.tdiv n_1 (64 : Int))) (if (((a_0.length) : Nat) : Int) ≤ (Int.tdiv n_1 (64 : Int)) then some ([] : List Nat) else ck (I64 (Int.tdiv n_1 (64 : Int))) (ck (0 ≤ (Int.tdiv n_1 (64 : Int)) ∧ (Int.tdiv n_1 (64 : Int)) ≤ (((a_0.length) : Nat) : Int)) (ck (0 ≤ (((List.drop (Int.tdiv n_1 (64 : Int)).toNat a_0).length : Nat) : Int)) (ck ((8 : Int) * (((List.drop (Int.tdiv n_1 (64 : Int)).toNat a_0).length : Nat) : Int) ≤ 281474976710656) ((cW F (fun d : Int × (List Nat) => yH F n_1 a_0 d.1 d.2) ((0 : Int), (List.replicate (List.drop (Int.tdiv n_1 (64 : Int)).toNat a_0).length (0 : Nat)))).bind (fun e => (fN F e).bind (fun v_19 => some v_19)))))))
def aFh : PlR := ⟨[(0, .A [0, 1]), (1, .A [0, 1, 12]), (2, .A [4]), (3, .A [0, 1]), (4, .B [0, 1, 5]), (5, .A [0, 1, 5, 20, 21, 22]), (6, .A [0, 1, 5, 20, 21, 22, 23]), (7, .A [0, 1, 5, 6, 7, 20, 21, 22]), (8, .B [0, 1, 5, 6, 20, 21, 22]), (9, .A [0, 1, 5, 6, 20, 21, 22, 39]), (10, .C 17 [0, 1, 5, 20, 21, 22]), (11, .A [0, 1, 5, 20, 21, 22]), (12, .B [4])], []⟩
def aHl : Ty := .pair (.sl (.u .u64)) (.pair (.i .i64) .unit)
noncomputable def nY (F : Md) : aG := mSpec aHl (.one (.sl (.u .u64))) (fun x => jH F x.1 x.2.1)
noncomputable def aHm (F : Md) : List (FuncId × aG) := [(163, (dR F))]
theorem aM5 (F : Md) : bC Tryz.prog GL (aHm F) := .cons (nN F) (by kernel_rfl) (.nil)
theorem aHS (F : Md) : gam (aHm F) 163 = some (dR F) := rfl
attribute [go_sem] aHl aFh aHS
set_option maxHeartbeats 4000000 in
theorem aFi (F : Md) : FOK Tryz.prog GL 97 (nY F) := by
 refine bG (aW (aM5 F)) mix Tryz.func97 rfl (by kernel_rfl) (by decide) aFh fun w0 S x Θ hw h hF => ?_
 obtain ⟨(a_0 : (List Nat)), (n_1 : Int), u⟩ := x
 simp only [bH, go_sem]
 replace h : sat (jH F a_0 n_1) _ := h
 unfold jH at h
 obtain ⟨g0, h⟩ := aM h
 try simp only [I64, I32] at g0
 repeat (refine ⟨zAA, ?_⟩)
 refine aLQ h (fun hc h => ?_) fun hc h => ?_
 ·exact aF hF [.tmp 4] rfl rfl rfl (aA h) (by simp only [aT, go_sem])
 ·obtain ⟨g0, h⟩ := aM h
  obtain ⟨g1, h⟩ := aM h
  try simp only [I64, I32] at g0
  repeat (refine ⟨zAA, ?_⟩)
  obtain ⟨g0, h⟩ := aM h
  obtain ⟨g1, h⟩ := aM h
  repeat (refine ⟨zAA, ?_⟩)
  refine cB hF (D := Int × (List Nat)) [0, 1, 20, 21] (fun d => [(5, .own 0), (22, .val (.i .i64) d.1)]) (fun d => [.inr (.row 83 (.u .u64) d.2)]) h rfl (by simp only [go_sem]) ?_
  rintro ⟨x22_10, out_11⟩ A6 T6 hA6 hE6 h
  simp only [go_sem]
  replace h : sat (yH F n_1 a_0 x22_10 out_11) _ := h
  unfold yH at h
  refine fF h (fun hc h => ?_) fun hc h => ?_
  ·obtain ⟨g0, h⟩ := aM h
   repeat (refine ⟨zAA, ?_⟩)
   obtain ⟨g0, h⟩ := aM h
   repeat (refine ⟨zAA, ?_⟩)
   obtain ⟨g0, h⟩ := aM h
   try simp only [I64, I32] at g0
   repeat (refine ⟨zAA, ?_⟩)
   refine ⟨fun hc => ?_, fun hc => ?_⟩
   ·replace h := hP hc h
    obtain ⟨g0, h⟩ := aM h
    obtain ⟨g1, h⟩ := aM h
    obtain ⟨g2, h⟩ := aM h
    obtain ⟨g3, h⟩ := aM h
    obtain ⟨g4, h⟩ := aM h
    try simp only [I64, I32] at g1
    try simp only [I64, I32] at g3
    repeat (refine ⟨zAA, ?_⟩)
    obtain ⟨g0, h⟩ := aM h
    try simp only [I64, I32] at g0
    repeat (refine ⟨zAA, ?_⟩)
    replace h := hA6 _ (aA h)
    exact aQ _ h rfl (by (try simp only [eY, dL, true_or, and_self, go_sem]) <;> (repeat' apply And.intro) <;> first | rfl | (left; rfl) | (right; rfl) | (left; simp only [go_sem]; done) | (right; simp only [go_sem]; done) | (simp; done) | (simp only [*]; done) | omega)
   ·replace h := hU (by first | exact hc | omega) h
    obtain ⟨g0, h⟩ := aM h
    try simp only [I64, I32] at g0
    repeat (refine ⟨zAA, ?_⟩)
    replace h := hA6 _ (aA h)
    exact aQ _ h rfl (by simp only [go_sem])
  ·replace h := hE6 _ (aA h)
   try dsimp only at h
   obtain ⟨v_17, hv, h⟩ := aH h
   try simp only [hv, go_sem]
   exact aF hF [.tmp 4] rfl rfl rfl (aA h) (by simp only [aT, go_sem])
attribute [go_sem] nY
noncomputable def rR (F : Md) (rest_11 : Nat) (q_12 : (List Nat)) : Option ((List Nat) × ((List Nat) × Unit)) :=
 (fN F q_12).bind (fun v_15 => (fN F ([rest_11] : List Nat)).bind (fun v_16 => some (v_15, v_16, ())))
noncomputable def yI (F : Md) (a_0 : (List Nat)) (b_1 : Nat) (rest_18 : Nat) (i_19 : Int) (q_20 : (List Nat)) : Option ((Nat × Int × (List Nat)) ⊕ (Nat × (List Nat))) :=
 if (0 : Int) ≤ i_19 then ck (0 ≤ i_19 ∧ i_19 < (((a_0.length) : Nat) : Int)) ((wN F rest_18 (a_0.getD (i_19.toNat) (0 : Nat)) b_1).bind (fun v_28 => ck (0 ≤ i_19 ∧ i_19 < (((q_20.length) : Nat) : Int)) (ck (I64 (i_19 - (1 : Int))) (some (.inl (v_28.2.1, (i_19 - (1 : Int)), (q_20.set (i_19.toNat) v_28.1))))))) else some (.inr (rest_18, q_20))
noncomputable def qR (F : Md) (a_0 : (List Nat)) (b_1 : Nat) : Option ((List Nat) × ((List Nat) × Unit)) :=
 ck (0 ≤ (((a_0.length) : Nat) : Int)) (ck ((8 : Int) * (((a_0.length) : Nat) : Int) ≤ 281474976710656) (ck (I64 ((((a_0.length) : Nat) : Int) - (1 : Int))) ((cW F (fun d : Nat × Int × (List Nat) => yI F a_0 b_1 d.1 d.2.1 d.2.2) ((0 : Nat), ((((a_0.length) : Nat) : Int) - (1 : Int)), (List.replicate (a_0.length) (0 : Nat)))).bind (fun e => rR F e.1 e.2))))
def aFj : PlR := ⟨[(0, .A [0, 1]), (1, .B [0, 1, 6]), (2, .A [0, 1, 6, 7]), (3, .A [0, 1, 6, 7, 8]), (4, .A [0, 1, 6, 7, 8, 16]), (5, .A [0, 1, 6, 7, 8]), (6, .B [0, 1, 6, 7, 8]), (7, .B [4, 5])], [(6, 10)]⟩
def aHn : Ty := .pair (.sl (.u .u64)) (.pair (.u .u64) .unit)
noncomputable def wP (F : Md) : aG := mSpec aHn (.tup (.pair (.sl (.u .u64)) (.pair (.sl (.u .u64)) .unit))) (fun x => qR F x.1 x.2.1)
noncomputable def aCE (F : Md) : List (FuncId × aG) := [(163, (dR F)), (252, (uA F))]
theorem aM6 (F : Md) : bC Tryz.prog GL (aCE F) := .cons (nN F) (by kernel_rfl) (.cons (aKs F) (by kernel_rfl) (.nil))
theorem aHT (F : Md) : gam (aCE F) 163 = some (dR F) := rfl
theorem aHU (F : Md) : gam (aCE F) 252 = some (uA F) := rfl
attribute [go_sem] aHn aFj aHT aHU
set_option maxHeartbeats 4000000 in
theorem aL2 (F : Md) : FOK Tryz.prog GL 219 (wP F) := by
 refine bG (aW (aM6 F)) mix Tryz.func219 rfl (by kernel_rfl) (by decide) aFj fun w0 S x Θ hw h hF => ?_
 obtain ⟨(a_0 : (List Nat)), (b_1 : Nat), u⟩ := x
 simp only [bH, go_sem]
 replace h : sat (qR F a_0 b_1) _ := h
 unfold qR at h
 obtain ⟨g0, h⟩ := aM h
 obtain ⟨g1, h⟩ := aM h
 repeat (refine ⟨by omega, ?_⟩)
 refine dH hF (D := Nat × (List Nat)) (fun d => sat (rR F d.1 d.2) Θ) [] (fun d => [(6, .own 0), (7, .val (.u .u64) d.1)]) (fun d => [.inr (.row 83 (.u .u64) d.2)]) ?_ ?_
 ·simp only [go_sem]
  obtain ⟨g0, h⟩ := aM h
  repeat (refine ⟨by omega, ?_⟩)
  refine cB hF (D := Nat × Int × (List Nat)) [0, 1] (fun d => [(6, .own 0), (7, .val (.u .u64) d.1), (8, .val (.i .i64) d.2.1)]) (fun d => [.inr (.row 83 (.u .u64) d.2.2)]) h rfl (by simp only [go_sem]) ?_
  rintro ⟨rest_18, i_19, q_20⟩ A4 T4 hA4 hE4 h
  simp only [go_sem]
  replace h : sat (yI F a_0 b_1 rest_18 i_19 q_20) _ := h
  unfold yI at h
  refine aLQ h (fun hc h => ?_) fun hc h => ?_
  ·obtain ⟨g0, h⟩ := aM h
   repeat (refine ⟨by omega, ?_⟩)
   obtain ⟨v_28, hv, h⟩ := aH h
   try simp only [hv, go_sem]
   obtain ⟨g0, h⟩ := aM h
   repeat (refine ⟨by omega, ?_⟩)
   obtain ⟨g0, h⟩ := aM h
   repeat (refine ⟨by omega, ?_⟩)
   replace h := hA4 _ (aA h)
   exact aQ _ h rfl (by simp only [go_sem])
  ·replace h := hE4 _ (aA h)
   try dsimp only at h
   exact aQ (rest_18, q_20) h rfl (by simp only [go_sem])
 ·rintro ⟨rest_11, q_12⟩ h
  simp only [go_sem]
  replace h : sat (rR F rest_11 q_12) _ := h
  unfold rR at h
  obtain ⟨v_15, hv, h⟩ := aH h
  try simp only [hv, go_sem]
  obtain ⟨v_16, hv, h⟩ := aH h
  try simp only [hv, go_sem]
  exact aF hF [.tmp 4, .tmp 5] rfl rfl rfl (aA h) (by simp only [aT, go_sem])
attribute [go_sem] wP
noncomputable def iW (F : Md) (a_0 : (List Nat)) (n_1 : Int) : Option (List Nat) :=
 ck (aQY a_0) (ck (I64 (n_1 - (((a_0.length) : Nat) : Int))) (ck (0 ≤ (n_1 - (((a_0.length) : Nat) : Int))) (ck (((id a_0).length + (n_1 - (((a_0.length) : Nat) : Int)).toNat) * 8 ≤ 140737488355328) (some ((id a_0) ++ (List.replicate (n_1 - (((a_0.length) : Nat) : Int)).toNat (0 : Nat)))))))
def aDF : PlR := ⟨[(0, .A [0, 1]), (1, .B [4])], []⟩
def aFk : Ty := .pair (.sl (.u .u64)) (.pair (.i .i64) .unit)
noncomputable def uB (F : Md) : aG := mSpec aFk (.one (.sl (.u .u64))) (fun x => iW F x.1 x.2.1)
noncomputable def aFl (F : Md) : List (FuncId × aG) := [(165, bT)]
theorem aL3 (F : Md) : bC Tryz.prog GL (aFl F) := .cons iU (by kernel_rfl) (.nil)
theorem aGp (F : Md) : gam (aFl F) 165 = some bT := rfl
attribute [go_sem] aFk aDF aGp
set_option maxHeartbeats 4000000 in
theorem aKt (F : Md) : FOK Tryz.prog GL 220 (uB F) := by
 refine bG (aW (aL3 F)) mix Tryz.func220 rfl (by kernel_rfl) (by decide) aDF fun w0 S x Θ hw h hF => ?_
 obtain ⟨(a_0 : (List Nat)), (n_1 : Int), u⟩ := x
 simp only [bH, go_sem]
 replace h : sat (iW F a_0 n_1) _ := h
 unfold iW at h
 refine aP h fun g0 h => ?_
 refine aP h fun g0 h => ?_
 obtain ⟨g0, h⟩ := aM h
 obtain ⟨g1, h⟩ := aM h
 repeat (refine ⟨by omega, ?_⟩)
 exact aF hF [.tmp 4] rfl rfl rfl (aA h) (by simp only [aT, go_sem])
attribute [go_sem] uB
noncomputable def vO (F : Md) (a_0 : (List Nat)) (b_1 : (List Nat)) : Option ((List Nat) × ((List Nat) × Unit)) :=
 ck ((fN F (List.replicate (((((a_0.length) : Nat) : Int) - (((b_1.length) : Nat) : Int)) + (1 : Int)).toNat (0 : Nat))).isSome = true) (ck (0 ≤ (((b_1.length) : Nat) : Int) ∧ (((b_1.length) : Nat) : Int) ≤ ((((iW F ((gJ F a_0 ((bE F (b_1.getD ((((b_1.length) : Nat) : Int) - (1 : Int)).toNat (0 : Nat))).getD (0 : Int))).getD ([] : List Nat)) ((((a_0.length) : Nat) : Int) + (1 : Int))).getD ([] : List Nat)).length : Nat) : Int)) (ck ((fN F (List.take (b_1.length) ((iW F ((gJ F a_0 ((bE F (b_1.getD ((((b_1.length) : Nat) : Int) - (1 : Int)).toNat (0 : Nat))).getD (0 : Int))).getD ([] : List Nat)) ((((a_0.length) : Nat) : Int) + (1 : Int))).getD ([] : List Nat)))).isSome = true) (ck ((jH F ((fN F (List.take (b_1.length) ((iW F ((gJ F a_0 ((bE F (b_1.getD ((((b_1.length) : Nat) : Int) - (1 : Int)).toNat (0 : Nat))).getD (0 : Int))).getD ([] : List Nat)) ((((a_0.length) : Nat) : Int) + (1 : Int))).getD ([] : List Nat)))).getD ([] : List Nat)) ((bE F (b_1.getD ((((b_1.length) : Nat) : Int) - (1 : Int)).toNat (0 : Nat))).getD (0 : Int))).isSome = true) (some (((fN F (List.replicate (((((a_0.length) : Nat) : Int) - (((b_1.length) : Nat) : Int)) + (1 : Int)).toNat (0 : Nat))).getD ([] : List Nat)), ((jH F ((fN F (List.take (b_1.length) ((iW F ((gJ F a_0 ((bE F (b_1.getD ((((b_1.length) : Nat) : Int) - (1 : Int)).toNat (0 : Nat))).getD (0 : Int))).getD ([] : List Nat)) ((((a_0.length) : Nat) : Int) + (1 : Int))).getD ([] : List Nat)))).getD ([] : List Nat)) ((bE F (b_1.getD ((((b_1.length) : Nat) : Int) - (1 : Int)).toNat (0 : Nat))).getD (0 : Int))).getD ([] : List Nat)), ())))))
noncomputable def aBM (F : Md) (a_0 : (List Nat)) (b_1 : (List Nat)) : Option ((Unit) ⊕ (Unit)) :=
 if (0 : Int) ≤ ((((a_0.length) : Nat) : Int) - (((b_1.length) : Nat) : Int)) then none else some (.inr ())
noncomputable def wQ (F : Md) (a_0 : (List Nat)) (b_1 : (List Nat)) : Option ((List Nat) × ((List Nat) × Unit)) :=
 ck ((nO F a_0 b_1).isSome = true) (if ((nO F a_0 b_1).getD (0 : Int)) < (0 : Int) then ck (aQY a_0) (some (([] : List Nat), (id a_0), ())) else if (((b_1.length) : Nat) : Int) = (1 : Int) then ck ((0 : Int) < (((b_1.length) : Nat) : Int)) (ck ((qR F a_0 (b_1.getD (0 : Nat) (0 : Nat))).isSome = true) (some (((qR F a_0 (b_1.getD (0 : Nat) (0 : Nat))).getD (([] : List Nat), ([] : List Nat), ())).1, ((qR F a_0 (b_1.getD (0 : Nat) (0 : Nat))).getD (([] : List Nat), ([] : List Nat), ())).2.1, ()))) else ck (I64 ((((b_1.length) : Nat) : Int) - (1 : Int))) (ck (0 ≤ ((((b_1.length) : Nat) : Int) - (1 : Int)) ∧ ((((b_1.length) : Nat) : Int) - (1 : Int)) < (((b_1.length) : Nat) : Int)) (ck ((bE F (b_1.getD ((((b_1.length) : Nat) : Int) - (1 : Int)).toNat (0 : Nat))).isSome = true) (ck ((gJ F b_1 ((bE F (b_1.getD ((((b_1.length) : Nat) : Int) - (1 : Int)).toNat (0 : Nat))).getD (0 : Int))).isSome = true) (ck ((iW F ((gJ F b_1 ((bE F (b_1.getD ((((b_1.length) : Nat) : Int) - (1 : Int)).toNat (0 : Nat))).getD (0 : Int))).getD ([] : List Nat)) (((b_1.length) : Nat) : Int)).isSome = true) (ck ((gJ F a_0 ((bE F (b_1.getD ((((b_1.length) : Nat) : Int) - (1 : Int)).toNat (0 : Nat))).getD (0 : Int))).isSome = true) (ck (I64 ((((a_0.length) : Nat) : Int) + (1 : Int))) (ck ((iW F ((gJ F a_0 ((bE F (b_1.getD ((((b_1.length) : Nat) : Int) - (1 : Int)).toNat (0 : Nat))).getD (0 : Int))).getD ([] : List Nat)) ((((a_0.length) : Nat) : Int) + (1 : Int))).isSome = true) (ck (I64 ((((a_0.length) : Nat) : Int) - (((b_1.length) : Nat) : Int))) (ck (I64 (((((a_0.length) : Nat) : Int) - (((b_1.length) : Nat) : Int)) + (1 : Int))) (ck (0 ≤ (((((a_0.length) : Nat) : Int) - (((b_1.length) : Nat) : Int)) + (1 : Int))) (ck ((8 : Int) * (((((a_0.length) : Nat) : Int) - (((b_1.length) : Nat) : Int)) + (1 : Int)) ≤ 281474976710656) (ck (I64 ((((a_0.length) : Nat) : Int) - (((b_1.length) : Nat) : Int))) ((cW F (fun d : Unit => aBM F a_0 b_1) ()).bind (fun e => vO F a_0 b_1)))))))))))))))
def wR : Ty := .pair (.sl (.u .u64)) (.pair (.sl (.u .u64)) .unit)
attribute [go_sem] wR
noncomputable def uC (F : Md) : aG := mSpec wR (.tup (.pair (.sl (.u .u64)) (.pair (.sl (.u .u64)) .unit))) (fun x => wQ F x.1 x.2.1)
noncomputable def gK (F : Md) : List (FuncId × aG) := [(122, (kU F)), (163, (dR F)), (165, bT), (188, (cU F)), (219, (wP F)), (220, (uB F)), (95, (qQ F)), (97, (nY F))]
theorem aFm (F : Md) : bC Tryz.prog GL (gK F) := .cons (aBs F) (by kernel_rfl) (.cons (nN F) (by kernel_rfl) (.cons iU (by kernel_rfl) (.cons (mF F) (by kernel_rfl) (.cons (aL2 F) (by kernel_rfl) (.cons (aKt F) (by kernel_rfl) (.cons (aHk F) (by kernel_rfl) (.cons (aFi F) (by kernel_rfl) (.nil))))))))
theorem aGq (F : Md) : gam (gK F) 122 = some (kU F) := rfl
attribute [go_sem] aGq
theorem aGr (F : Md) : gam (gK F) 163 = some (dR F) := rfl
attribute [go_sem] aGr
theorem aGs (F : Md) : gam (gK F) 165 = some bT := rfl
attribute [go_sem] aGs
theorem aGt (F : Md) : gam (gK F) 188 = some (cU F) := rfl
attribute [go_sem] aGt
theorem aGu (F : Md) : gam (gK F) 219 = some (wP F) := rfl
attribute [go_sem] aGu
theorem aGv (F : Md) : gam (gK F) 220 = some (uB F) := rfl
attribute [go_sem] aGv
theorem aHV (F : Md) : gam (gK F) 95 = some (qQ F) := rfl
attribute [go_sem] aHV
theorem aHW (F : Md) : gam (gK F) 97 = some (nY F) := rfl
attribute [go_sem] aHW
set_option maxHeartbeats 4000000 in
theorem aKu (F : Md) : FOK Tryz.prog GL 166 (uC F) := by
 refine kN (aW (aFm F)) Tryz.func166 rfl (by kernel_rfl) (by decide) fun w0 S x r hw h => ?_
 have hF : iQ (fr Tryz.prog (EM (gK F)) S w0 Tryz.f166.ntmps) := ⟨aW (aFm F), mix⟩
 obtain ⟨(a_0 : (List Nat)), (b_1 : (List Nat)), u⟩ := x
 simp only [wR, Ty.wf, lO] at hw
 simp only [bH, wR]
 try dsimp only at h
 replace h : wQ F a_0 b_1 = some r := h
 unfold wQ at h
 refine aB (aD hF [0, 1] ?_)
 simp only [go_sem]
 refine aC (aB (aB (aD hF [0, 1, 15] ?_)))
 simp only [go_sem]
 obtain ⟨g0, h⟩ := aJ h
 repeat (refine ⟨zAA, ?_⟩)
 refine aC (bD rfl (fun hc => ?_) (fun hc => ?_))
 ·try simp only [go_sem] at hc
  have h := dP zAB h
  refine aB (aU hF [4, 5] ?_)
  simp only [go_sem]
  obtain ⟨g0, h⟩ := aJ h
  repeat (refine ⟨zAA, ?_⟩)
  obtain rfl := Option.some.inj h
  refine aC (cH (bN (dC hF [.tmp 4, .tmp 5] rfl rfl rfl ?_)))
  exact zAH
 ·try simp only [go_sem] at hc
  have h := dQ zAB h
  refine bL (aC (aB (aB (aD hF [0, 1, 20] ?_))))
  simp only [go_sem]
  refine aC (bD rfl (fun hc => ?_) (fun hc => ?_))
  ·try simp only [go_sem] at hc
   have h := dP zAB h
   refine aB (aD hF [4, 5] ?_)
   simp only [go_sem]
   obtain ⟨g0, h⟩ := aJ h
   obtain ⟨g1, h⟩ := aJ h
   repeat (refine ⟨zAA, ?_⟩)
   obtain rfl := Option.some.inj h
   refine aC (cH (bN (dC hF [.tmp 4, .tmp 5] rfl rfl rfl ?_)))
   exact zAH
  ·try simp only [go_sem] at hc
   have h := dQ zAB h
   refine bL (aC (aB (aD hF [0, 1, 6, 7] ?_)))
   simp only [go_sem]
   obtain ⟨g0, h⟩ := aJ h
   obtain ⟨g1, h⟩ := aJ h
   obtain ⟨g2, h⟩ := aJ h
   try simp only [I64, I32] at g0
   repeat (refine ⟨zAA, ?_⟩)
   refine aC (aB (aD hF [0, 6, 7, 8, 9] ?_))
   simp only [go_sem]
   obtain ⟨g0, h⟩ := aJ h
   obtain ⟨g1, h⟩ := aJ h
   obtain ⟨g2, h⟩ := aJ h
   obtain ⟨g3, h⟩ := aJ h
   obtain ⟨g4, h⟩ := aJ h
   try simp only [I64, I32] at g3
   repeat (refine ⟨zAA, ?_⟩)
   refine aC (aB (aU hF [0, 6, 7, 8, 9, 10] ?_))
   simp only [go_sem]
   obtain ⟨g0, h⟩ := aJ h
   try simp only [I64, I32] at g0
   repeat (refine ⟨zAA, ?_⟩)
   obtain ⟨g0, h⟩ := aJ h
   try simp only [I64, I32] at g0
   repeat (refine ⟨zAA, ?_⟩)
   obtain ⟨g0, h⟩ := aJ h
   obtain ⟨g1, h⟩ := aJ h
   repeat (refine ⟨zAA, ?_⟩)
   refine aC (eZ (D := Unit) (fun d => vO F a_0 b_1 = some r) [6, 7, 9] (fun d => [(10, .own 0)]) (fun d => [.inr (.row 83 (.u .u64) (List.replicate (((((a_0.length) : Nat) : Int) - (((b_1.length) : Nat) : Int)) + (1 : Int)).toNat (0 : Nat)))]) ?_ ?_)
   ·refine aB (aD hF [6, 7, 8, 9, 10, 11] ?_)
    simp only [go_sem]
    obtain ⟨g0, h⟩ := aJ h
    try simp only [I64, I32] at g0
    repeat (refine ⟨zAA, ?_⟩)
    refine aC (cJ (jL (D := Unit) [6, 7, 8, 9, 11] (fun d => [(10, .own 0)]) (fun d => [.inr (.row 83 (.u .u64) (List.replicate (((((a_0.length) : Nat) : Int) - (((b_1.length) : Nat) : Int)) + (1 : Int)).toNat (0 : Nat)))]) h ?_ ?_ ?_))
    ·first | rfl | (simp only [go_sem]; done)
    ·exact zAG
    rintro u s9 h hs9
    simp only [go_sem]
    try dsimp only at h
    unfold aBM at h
    refine aB (aB (aD hF [6, 7, 8, 9, 10, 11, 60] ?_))
    simp only [go_sem]
    refine aC (bD rfl (fun hc => ?_) (fun hc => ?_))
    ·try simp only [go_sem] at hc
     have h := dP zAB h
     cases h
    ·try simp only [go_sem] at hc
     have h := dQ zAB h
     obtain rfl := Option.some.inj h
     dsimp only [kI] at hs9
     have h := hs9
     try dsimp only at h
     refine kT (bM (bM (cX (aS (aQ () h rfl ?_)))))
     ·exact zAG
   ·rintro u h
    try dsimp only at h
    simp only [go_sem]
    unfold vO at h
    refine aB (aNH 0 ?_)
    simp only [go_sem]
    refine aD hF [4, 5] ?_
    simp only [go_sem]
    obtain ⟨g0, h⟩ := aJ h
    obtain ⟨g1, h⟩ := aJ h
    obtain ⟨g2, h⟩ := aJ h
    obtain ⟨g3, h⟩ := aJ h
    repeat (refine ⟨zAA, ?_⟩)
    obtain rfl := Option.some.inj h
    refine aC (cH (dC hF [.tmp 4, .tmp 5] rfl rfl rfl ?_))
    exact zAH
attribute [go_sem] uC
end Nu
end Go.Proofs
namespace Go.Proofs
open Go.Vc
set_option maxRecDepth 20000
namespace Nu
theorem aDG : bC Tryz.prog GL [] := .nil
noncomputable def kV (F : Md) (is_0 : Bool) (e_1 : Int) : Option (Unit ⊕ (Int × Unit)) :=
 if ¬ (is_0 = true) then some (.inr (e_1, ())) else some (.inl ())
noncomputable def dJ (F : Md) : lP where
 D := Bool × Int × (Unit ⊕ (Int × Unit))
 av := fun d => [.val .bool d.1, .val (.i .i64) d.2.1]
 hp := fun d => []
 m := 0
 pre := fun d => kV F d.1 d.2.1 = some d.2.2
 out := fun d => match d.2.2 with | .inl r => .ret (.tup []) [] | .inr p => .pan ⟨251, (.pair (.i .i64) .unit), p⟩ []
noncomputable def aHo (F : Md) : List (FuncId × aG) := []
theorem aHp (F : Md) : bC Tryz.prog GL (aHo F) := .nil
set_option maxHeartbeats 4000000 in
theorem fM (F : Md) : GOK Tryz.prog GL 233 (dJ F) := by
 refine vD (aW (aHp F)) Tryz.func233 rfl (by kernel_rfl) (fun _ => Nat.le_of_ble_eq_true rfl) fun c0 w0 d hw1 hw2 h hn => ?_
 have hF : iQ ⟨Tryz.prog, EM (aHo F), GM (dJ F) c0 d, w0, Tryz.f233.ntmps, []⟩ := ⟨aW (aHp F), mix⟩
 obtain ⟨(is_0 : Bool), (e_1 : Int), r⟩ := d
 replace h : kV F is_0 e_1 = some r := h
 have hw1 : AV.wfL [.val .bool is_0, .val (.i .i64) e_1] := hw1
 simp only [AV.wfL, AV.wfV, Ty.wf, lO] at hw1
 show Tri _ _ _ [(0, .val .bool is_0), (1, .val (.i .i64) e_1)] []
 unfold kV at h
 refine aB (aD hF [1, 5] ?_)
 simp only [go_sem]
 refine aC (bD rfl (fun hc => ?_) (fun hc => ?_))
 ·try simp only [go_sem] at hc
  have h := dP zAB h
  refine aX hF (bS (l := []) (.nil)) [] [] ?_
  simp only [go_sem]
  repeat (refine ⟨zAA, ?_⟩)
  obtain rfl := Option.some.inj h
  refine rL rfl rfl rfl rfl
 ·try simp only [go_sem] at hc
  have h := dQ zAB h
  obtain rfl := Option.some.inj h
  refine bL (aE7 (aBk hF [] rfl rfl rfl rfl rfl rfl ?_))
  (try simp only [aT, aDo, aCC, dL, nL, AV.isAgg, go_sem]) <;> first | trivial | rfl | (simp; done)
attribute [go_sem] dJ
noncomputable def uD (F : Md) (e_2 : Int) (m_1 : (List Nat)) (neg_0 : Bool) : Option ((Bool × ((List Nat) × (Int × Unit))) ⊕ (Int × Unit)) :=
 ck (I64 (e_2 + ((cV F m_1).getD (0 : Int)))) ((kV F (decide ((e_2 + ((cV F m_1).getD (0 : Int))) ≤ (1048576 : Int))) (3 : Int)).bind (fun e => match e with | .inl r_22 => ck (I64 (e_2 + ((cV F m_1).getD (0 : Int)))) (some (.inl (neg_0, ((jH F m_1 ((cV F m_1).getD (0 : Int))).getD ([] : List Nat)), (e_2 + ((cV F m_1).getD (0 : Int))), ()))) | .inr p_23 => some (.inr p_23)))
noncomputable def yJ (F : Md) (neg_0 : Bool) (m_1 : (List Nat)) (e_2 : Int) : Option ((Bool × ((List Nat) × (Int × Unit))) ⊕ (Int × Unit)) :=
 if (((m_1.length) : Nat) : Int) = (0 : Int) then some (.inl (false, ([] : List Nat), (0 : Int), ())) else ck ((cV F m_1).isSome = true) (ck ((jH F m_1 ((cV F m_1).getD (0 : Int))).isSome = true) ((kV F (decide (((((jH F m_1 ((cV F m_1).getD (0 : Int))).getD ([] : List Nat)).length : Nat) : Int) ≤ (64 : Int))) (2 : Int)).bind (fun e => match e with | .inl r_8 => if e_2 ≤ (1048576 : Int) then ck (I64 ((-1048576 : Int) - ((cV F m_1).getD (0 : Int)))) ((kV F ((decide (e_2 ≤ (1048576 : Int))) && (decide (((-1048576 : Int) - ((cV F m_1).getD (0 : Int))) ≤ e_2))) (3 : Int)).bind (fun e => match e with | .inl r_24 => uD F e_2 m_1 neg_0 | .inr p_25 => some (.inr p_25))) else (kV F false (3 : Int)).bind (fun e => match e with | .inl r_26 => uD F e_2 m_1 neg_0 | .inr p_27 => some (.inr p_27)) | .inr p_9 => some (.inr p_9))))
noncomputable def nP (F : Md) : lP where
 D := Bool × (List Nat) × Int × ((Bool × ((List Nat) × (Int × Unit))) ⊕ (Int × Unit))
 av := fun d => [.val .bool d.1, .val (.sl (.u .u64)) d.2.1, .val (.i .i64) d.2.2.1]
 hp := fun d => []
 m := 0
 pre := fun d => yJ F d.1 d.2.1 d.2.2.1 = some d.2.2.2
 out := fun d => match d.2.2.2 with | .inl r => .ret (.val (.pair .bool (.pair (.sl (.u .u64)) (.pair (.i .i64) .unit))) r) [] | .inr p => .pan ⟨251, (.pair (.i .i64) .unit), p⟩ []
noncomputable def aBv (F : Md) : List (FuncId × aG) := [(97, (nY F)), (98, (wO F))]
theorem aJF (F : Md) : bC Tryz.prog GL (aBv F) := .cons (aFi F) (by kernel_rfl) (.cons (aL1 F) (by kernel_rfl) (.nil))
theorem aKv (F : Md) : gam (aBv F) 97 = some (nY F) := rfl
attribute [go_sem] aKv
theorem aKw (F : Md) : gam (aBv F) 98 = some (wO F) := rfl
attribute [go_sem] aKw
set_option maxHeartbeats 4000000 in
theorem zI (F : Md) : GOK Tryz.prog GL 182 (nP F) := by
 refine vD (aW (aJF F)) Tryz.func182 rfl (by kernel_rfl) (fun _ => Nat.le_of_ble_eq_true rfl) fun c0 w0 d hw1 hw2 h hn => ?_
 have hF : iQ ⟨Tryz.prog, EM (aBv F), GM (nP F) c0 d, w0, Tryz.f182.ntmps, []⟩ := ⟨aW (aJF F), mix⟩
 obtain ⟨(neg_0 : Bool), (m_1 : (List Nat)), (e_2 : Int), r⟩ := d
 replace h : yJ F neg_0 m_1 e_2 = some r := h
 have hw1 : AV.wfL [.val .bool neg_0, .val (.sl (.u .u64)) m_1, .val (.i .i64) e_2] := hw1
 simp only [AV.wfL, AV.wfV, Ty.wf, lO] at hw1
 show Tri _ _ _ [(0, .val .bool neg_0), (1, .val (.sl (.u .u64)) m_1), (2, .val (.i .i64) e_2)] []
 unfold yJ at h
 refine aB (aU hF [0, 1, 2, 6] ?_)
 simp only [go_sem]
 refine aC (aB (aB (aD hF [0, 1, 2, 6, 10] ?_)))
 simp only [go_sem]
 refine aC (bD rfl (fun hc => ?_) (fun hc => ?_))
 ·try simp only [go_sem] at hc
  have h := dP zAB h
  refine aB (aU hF [6] ?_)
  simp only [go_sem]
  obtain rfl := Option.some.inj h
  refine aC (cH (bN (aAH hF [.cell 6 25] [] rfl rfl rfl rfl rfl rfl rfl rfl rfl ?_)))
  (try simp only [aT, aDo, aCC, dL, nL, AV.isAgg, go_sem]) <;> first | trivial | rfl | (simp; done)
 ·try simp only [go_sem] at hc
  have h := dQ zAB h
  refine bL (aC (aB (aD hF [0, 1, 2, 6, 7] ?_)))
  simp only [go_sem]
  obtain ⟨g0, h⟩ := aJ h
  repeat (refine ⟨zAA, ?_⟩)
  refine aC (aB (aD hF [0, 1, 2, 6, 7] ?_))
  simp only [go_sem]
  obtain ⟨g0, h⟩ := aJ h
  repeat (refine ⟨zAA, ?_⟩)
  obtain ⟨e, he1, h⟩ := bind_some h
  rcases e with r_8 | p_9
  ·try dsimp only at h
   refine aC (aB (aX hF (bS (l := [(233, ⟨dJ F, [], ((decide (((((jH F m_1 ((cV F m_1).getD (0 : Int))).getD ([] : List Nat)).length : Nat) : Int) ≤ (64 : Int))), (2 : Int), .inl r_8)⟩)]) (.cons (fM F) (by kernel_rfl) (.nil))) [0, 1, 2, 6, 7] [] ?_))
   simp only [go_sem]
   repeat (refine ⟨zAA, ?_⟩)
   refine aC (eZ (D := Unit) (fun d => uD F e_2 m_1 neg_0 = some r) [0, 1, 2, 7] (fun d => [(6, .ptr 0 [])]) (fun d => [.inr (.box 3 (.val (.pair .bool (.pair (.sl (.u .u64)) (.pair (.i .i64) .unit))) (false, ([] : List Nat), (0 : Int), ())))]) ?_ ?_)
   ·by_cases hq : e_2 ≤ (1048576 : Int)
    ·have h := dP hq h
     obtain ⟨g0, h⟩ := aJ h
     try simp only [I64, I32] at g0
     obtain ⟨e, he3, h⟩ := bind_some h
     rcases e with r_24 | p_25
     ·try dsimp only at h
      refine aX hF (bS (l := [(233, ⟨dJ F, [], (((decide (e_2 ≤ (1048576 : Int))) && (decide (((-1048576 : Int) - ((cV F m_1).getD (0 : Int))) ≤ e_2))), (3 : Int), .inl r_24)⟩)]) (.cons (fM F) (by kernel_rfl) (.nil))) [0, 1, 2, 6, 7] [] ?_
      simp only [go_sem]
      repeat (refine ⟨zAA, ?_⟩)
      refine ⟨fun _ => ?_, fun hx => by first | (exfalso; omega) | (exfalso; simp_all; done)⟩
      repeat (refine ⟨zAA, ?_⟩)
      refine ⟨fun _ => ?_, fun hx => by first | (exfalso; omega) | (exfalso; simp_all; done)⟩
      repeat (refine ⟨zAA, ?_⟩)
      refine ⟨fun _ => ?_, fun hx => by first | (exfalso; omega) | (exfalso; simp_all; done)⟩
      repeat (refine ⟨zAA, ?_⟩)
      refine ⟨fun _ => ?_, fun hx => by first | (exfalso; omega) | (exfalso; simp_all; done)⟩
      repeat (refine ⟨zAA, ?_⟩)
      refine aS (aQ () h rfl ?_)
      ·exact zAG
     ·try dsimp only at h
      refine aX hF (bS (l := [(233, ⟨dJ F, [], (((decide (e_2 ≤ (1048576 : Int))) && (decide (((-1048576 : Int) - ((cV F m_1).getD (0 : Int))) ≤ e_2))), (3 : Int), .inr p_25)⟩)]) (.cons (fM F) (by kernel_rfl) (.nil))) [0, 1, 2, 6, 7] [] ?_
      simp only [go_sem]
      repeat (refine ⟨zAA, ?_⟩)
      refine ⟨fun _ => ?_, fun hx => by first | (exfalso; omega) | (exfalso; simp_all; done)⟩
      repeat (refine ⟨zAA, ?_⟩)
      refine ⟨fun _ => ?_, fun hx => by first | (exfalso; omega) | (exfalso; simp_all; done)⟩
      repeat (refine ⟨zAA, ?_⟩)
      refine ⟨fun _ => ?_, fun hx => by first | (exfalso; omega) | (exfalso; simp_all; done)⟩
      repeat (refine ⟨zAA, ?_⟩)
      refine ⟨fun _ => ?_, fun hx => by first | (exfalso; omega) | (exfalso; simp_all; done)⟩
      repeat (refine ⟨zAA, ?_⟩)
      obtain rfl := Option.some.inj h
      refine mL (tY [] rfl rfl ?_)
      simp only [ren, eF, gZ, posOf, cQ, go_sem]
      refine rL rfl rfl rfl rfl
    ·have h := dQ hq h
     obtain ⟨e, he4, h⟩ := bind_some h
     rcases e with r_26 | p_27
     ·try dsimp only at h
      refine aX hF (bS (l := [(233, ⟨dJ F, [], (false, (3 : Int), .inl r_26)⟩)]) (.cons (fM F) (by kernel_rfl) (.nil))) [0, 1, 2, 6, 7] [] ?_
      simp only [go_sem]
      repeat (refine ⟨zAA, ?_⟩)
      first | (refine ⟨fun hx => by first | (exfalso; omega) | (exfalso; simp_all; done), fun _ => ?_⟩) | intro _
      repeat (refine ⟨zAA, ?_⟩)
      first | (refine ⟨fun hx => by first | (exfalso; omega) | (exfalso; simp_all; done), fun _ => ?_⟩) | intro _
      repeat (refine ⟨zAA, ?_⟩)
      first | (refine ⟨fun hx => by first | (exfalso; omega) | (exfalso; simp_all; done), fun _ => ?_⟩) | intro _
      repeat (refine ⟨zAA, ?_⟩)
      first | (refine ⟨fun hx => by first | (exfalso; omega) | (exfalso; simp_all; done), fun _ => ?_⟩) | intro _
      repeat (refine ⟨zAA, ?_⟩)
      refine aS (aQ () h rfl ?_)
      ·exact zAG
     ·try dsimp only at h
      refine aX hF (bS (l := [(233, ⟨dJ F, [], (false, (3 : Int), .inr p_27)⟩)]) (.cons (fM F) (by kernel_rfl) (.nil))) [0, 1, 2, 6, 7] [] ?_
      simp only [go_sem]
      repeat (refine ⟨zAA, ?_⟩)
      first | (refine ⟨fun hx => by first | (exfalso; omega) | (exfalso; simp_all; done), fun _ => ?_⟩) | intro _
      repeat (refine ⟨zAA, ?_⟩)
      first | (refine ⟨fun hx => by first | (exfalso; omega) | (exfalso; simp_all; done), fun _ => ?_⟩) | intro _
      repeat (refine ⟨zAA, ?_⟩)
      first | (refine ⟨fun hx => by first | (exfalso; omega) | (exfalso; simp_all; done), fun _ => ?_⟩) | intro _
      repeat (refine ⟨zAA, ?_⟩)
      first | (refine ⟨fun hx => by first | (exfalso; omega) | (exfalso; simp_all; done), fun _ => ?_⟩) | intro _
      repeat (refine ⟨zAA, ?_⟩)
      obtain rfl := Option.some.inj h
      refine mL (tY [] rfl rfl ?_)
      simp only [ren, eF, gZ, posOf, cQ, go_sem]
      refine rL rfl rfl rfl rfl
   ·rintro u h
    try dsimp only at h
    simp only [go_sem]
    unfold uD at h
    obtain ⟨g0, h⟩ := aJ h
    try simp only [I64, I32] at g0
    obtain ⟨e, he2, h⟩ := bind_some h
    rcases e with r_22 | p_23
    ·try dsimp only at h
     refine aB (aX hF (bS (l := [(233, ⟨dJ F, [], ((decide ((e_2 + ((cV F m_1).getD (0 : Int))) ≤ (1048576 : Int))), (3 : Int), .inl r_22)⟩)]) (.cons (fM F) (by kernel_rfl) (.nil))) [0, 1, 2, 6, 7] [] ?_)
     simp only [go_sem]
     repeat (refine ⟨zAA, ?_⟩)
     refine aC (aB (aU hF [6] ?_))
     simp only [go_sem]
     obtain ⟨g0, h⟩ := aJ h
     try simp only [I64, I32] at g0
     repeat (refine ⟨zAA, ?_⟩)
     obtain rfl := Option.some.inj h
     refine aC (cH (aAH hF [.cell 6 25] [] rfl rfl rfl rfl rfl rfl rfl rfl rfl ?_))
     (try simp only [aT, aDo, aCC, dL, nL, AV.isAgg, go_sem]) <;> first | trivial | rfl | (simp; done)
    ·try dsimp only at h
     refine aB (aX hF (bS (l := [(233, ⟨dJ F, [], ((decide ((e_2 + ((cV F m_1).getD (0 : Int))) ≤ (1048576 : Int))), (3 : Int), .inr p_23)⟩)]) (.cons (fM F) (by kernel_rfl) (.nil))) [0, 1, 2, 6, 7] [] ?_)
     simp only [go_sem]
     repeat (refine ⟨zAA, ?_⟩)
     obtain rfl := Option.some.inj h
     refine mL (tY [] rfl rfl ?_)
     simp only [ren, eF, gZ, posOf, cQ, go_sem]
     refine rL rfl rfl rfl rfl
  ·try dsimp only at h
   refine aC (aB (aX hF (bS (l := [(233, ⟨dJ F, [], ((decide (((((jH F m_1 ((cV F m_1).getD (0 : Int))).getD ([] : List Nat)).length : Nat) : Int) ≤ (64 : Int))), (2 : Int), .inr p_9)⟩)]) (.cons (fM F) (by kernel_rfl) (.nil))) [0, 1, 2, 6, 7] [] ?_))
   simp only [go_sem]
   repeat (refine ⟨zAA, ?_⟩)
   obtain rfl := Option.some.inj h
   refine mL (tY [] rfl rfl ?_)
   simp only [ren, eF, gZ, posOf, cQ, go_sem]
   refine rL rfl rfl rfl rfl
attribute [go_sem] nP
noncomputable def wS (F : Md) (a0_0 : Bool) (a1_1 : (List Nat)) (a2_2 : Int) : Option ((Bool × ((List Nat) × (Int × Unit))) ⊕ (Int × Unit)) :=
 (yJ F a0_0 a1_1 a2_2).bind (fun e => match e with | .inl r_8 => some (.inl r_8) | .inr p_9 => some (.inr p_9))
noncomputable def pB (F : Md) : lP where
 D := Bool × (List Nat) × Int × ((Bool × ((List Nat) × (Int × Unit))) ⊕ (Int × Unit))
 av := fun d => [.val (.rp .bool) d.1, .val (.rp (.sl (.u .u64))) d.2.1, .val (.rp (.i .i64)) d.2.2.1]
 hp := fun d => []
 m := 0
 pre := fun d => wS F d.1 d.2.1 d.2.2.1 = some d.2.2.2
 out := fun d => match d.2.2.2 with | .inl r => .ret (.val (.pair .bool (.pair (.sl (.u .u64)) (.pair (.i .i64) .unit))) r) [] | .inr p => .pan ⟨251, (.pair (.i .i64) .unit), p⟩ []
noncomputable def aFn (F : Md) : List (FuncId × aG) := []
theorem aFo (F : Md) : bC Tryz.prog GL (aFn F) := .nil
set_option maxHeartbeats 4000000 in
theorem aDH (F : Md) : GOK Tryz.prog GL 181 (pB F) := by
 refine vD (aW (aFo F)) Tryz.func181 rfl (by kernel_rfl) (fun _ => Nat.le_of_ble_eq_true rfl) fun c0 w0 d hw1 hw2 h hn => ?_
 have hF : iQ ⟨Tryz.prog, EM (aFn F), GM (pB F) c0 d, w0, Tryz.f181.ntmps, []⟩ := ⟨aW (aFo F), mix⟩
 obtain ⟨(a0_0 : Bool), (a1_1 : (List Nat)), (a2_2 : Int), r⟩ := d
 replace h : wS F a0_0 a1_1 a2_2 = some r := h
 have hw1 : AV.wfL [.val (.rp .bool) a0_0, .val (.rp (.sl (.u .u64))) a1_1, .val (.rp (.i .i64)) a2_2] := hw1
 simp only [AV.wfL, AV.wfV, Ty.wf, lO] at hw1
 show Tri _ _ _ [(0, .roa .bool a0_0), (1, .roa (.sl (.u .u64)) a1_1), (2, .roa (.i .i64) a2_2)] []
 unfold wS at h
 refine aB (aU hF [0, 1, 2, 3] ?_)
 simp only [go_sem]
 obtain ⟨e, he1, h⟩ := bind_some h
 rcases e with r_8 | p_9
 ·try dsimp only at h
  refine aC (aB (aX hF (bS (l := [(182, ⟨nP F, [], (a0_0, a1_1, a2_2, .inl r_8)⟩)]) (.cons (zI F) (by kernel_rfl) (.nil))) [3] [] ?_))
  simp only [go_sem]
  repeat (refine ⟨zAA, ?_⟩)
  obtain rfl := Option.some.inj h
  refine aC (cH (aAH hF [.cell 3 25] [] rfl rfl rfl rfl rfl rfl rfl rfl rfl ?_))
  (try simp only [aT, aDo, aCC, dL, nL, AV.isAgg, go_sem]) <;> first | trivial | rfl | (simp; done)
 ·try dsimp only at h
  refine aC (aB (aX hF (bS (l := [(182, ⟨nP F, [], (a0_0, a1_1, a2_2, .inr p_9)⟩)]) (.cons (zI F) (by kernel_rfl) (.nil))) [3] [] ?_))
  simp only [go_sem]
  repeat (refine ⟨zAA, ?_⟩)
  obtain rfl := Option.some.inj h
  refine mL (tY [] rfl rfl ?_)
  simp only [ren, eF, gZ, posOf, cQ, go_sem]
  refine rL rfl rfl rfl rfl
attribute [go_sem] pB
def jI : lP where
 D := (Bool × ((List Nat) × (Int × Unit))) × Int
 av := fun _ => [.ptr 0 [], .ptr 1 []]
 hp := fun d => [.box 3 (.val (.pair .bool (.pair (.sl (.u .u64)) (.pair (.i .i64) .unit))) d.1), .box 1 (.val (.i .i64) d.2)]
 m := 2
 pre := fun _ => True
 out := fun d => .ret (.tup []) [.box 3 (.val (.pair .bool (.pair (.sl (.u .u64)) (.pair (.i .i64) .unit))) d.1), .box 1 (.val (.i .i64) d.2)]
def jJ (x : (Int × Unit)) : lP where
 D := (Bool × ((List Nat) × (Int × Unit))) × Int
 av := fun _ => [.ptr 0 [], .ptr 1 []]
 hp := fun d => [.box 3 (.val (.pair .bool (.pair (.sl (.u .u64)) (.pair (.i .i64) .unit))) d.1), .box 1 (.val (.i .i64) d.2)]
 m := 2
 pre := fun _ => True
 out := fun d => .ret (.tup []) [.box 3 (.val (.pair .bool (.pair (.sl (.u .u64)) (.pair (.i .i64) .unit))) (false, ([] : List Nat), (0 : Int), ())), .box 1 (.val (.i .i64) x.1)]
theorem aCF : DOK Tryz.prog GL 232 none jI := by
 refine aQt (aW aDG) Tryz.func232 rfl (by kernel_rfl) (fun _ => Nat.le_of_ble_eq_true rfl) rfl fun c w d hw1 hw2 hp hn => ?_
 have hF : iQ ⟨Tryz.prog, EM [], GM jI c d, w, Tryz.f232.ntmps, []⟩ := ⟨aW aDG, mix⟩
 obtain ⟨d, e⟩ := d
 show nK _ _ _ [(5, .val .nili ()), (0, .ptr 0 []), (1, .ptr 1 [])] [.box 3 (.val (.pair .bool (.pair (.sl (.u .u64)) (.pair (.i .i64) .unit))) d), .box 1 (.val (.i .i64) e)] _
 simp only [go_sem]
 refine aB (aD hF [0, 1, 2, 9] ?_)
 simp only [go_sem]
 refine aC (bD rfl (fun hc => absurd hc (by decide)) (fun hc => ?_))
 refine bL ?_
 refine fZ [0, 1] rfl rfl ?_
 simp only [ren, eF, gZ, posOf, cQ, go_sem]
 refine aE7 (aBk hF [] rfl rfl rfl rfl rfl rfl ?_)
 simp only [aT, aDo, aCC, go_sem]
 try decide
theorem aCG (x : (Int × Unit)) : DOK Tryz.prog GL 232 (some ⟨251, (.pair (.i .i64) .unit), x⟩) (jJ x) := by
 refine aQt (aW aDG) Tryz.func232 rfl (by kernel_rfl) (fun _ => Nat.le_of_ble_eq_true rfl) rfl fun c w d hw1 hw2 hp hn => ?_
 have hF : iQ ⟨Tryz.prog, EM [], GM (jJ x) c d, w, Tryz.f232.ntmps, []⟩ := ⟨aW aDG, mix⟩
 obtain ⟨d, e⟩ := d
 show nK _ _ _ [(5, .val (.ifc 251 (.pair (.i .i64) .unit)) x), (0, .ptr 0 []), (1, .ptr 1 [])] [.box 3 (.val (.pair .bool (.pair (.sl (.u .u64)) (.pair (.i .i64) .unit))) d), .box 1 (.val (.i .i64) e)] _
 simp only [go_sem]
 refine aB (aD hF [0, 1, 2, 9] ?_)
 simp only [go_sem]
 refine aC (bD rfl (fun hc => ?_) (fun hc => absurd hc (by decide)))
 refine aG7 hF [] [] [.box 3 (.val (.pair .bool (.pair (.sl (.u .u64)) (.pair (.i .i64) .unit))) (false, ([] : List Nat), (0 : Int), ())), .box 1 (.val (.i .i64) x.1), .box 1 (.val (.pair (.i .i64) .unit) x)] (by decide) ?_ ?_
 ·simp only [go_sem]
  unfold anyS
  intro i hi
  have hi : i = 0 ∨ i = 1 := by revert hi; revert i; decide
  rcases hi with rfl | rfl
  ·simp only [go_sem]
   skip
   unfold anyS
   intro i hi
   have hi : i = 1 ∨ i = 3 := by revert hi; revert i; decide
   rcases hi with rfl | rfl
   ·simp only [go_sem]
    skip
    unfold anyS
    intro i hi
    have hi : i = 2 ∨ i = 3 := by revert hi; revert i; decide
    rcases hi with rfl | rfl
    ·simp only [go_sem]
     skip
     unfold anyS
     intro i hi
     have hi : i = 3 := by revert hi; revert i; decide
     subst hi
     simp only [go_sem]
     skip
     unfold anyS
     intro i hi
     have hi : i = 4 := by revert hi; revert i; decide
     subst hi
     simp only [go_sem]
     skip
     (simp only [anyS, go_sem]) <;> first | exact ⟨rfl, rfl⟩ | trivial
    ·simp only [go_sem]
     skip
     unfold anyS
     intro i hi
     have hi : i = 2 := by revert hi; revert i; decide
     subst hi
     simp only [go_sem]
     skip
     unfold anyS
     intro i hi
     have hi : i = 4 := by revert hi; revert i; decide
     subst hi
     simp only [go_sem]
     skip
     (simp only [anyS, go_sem]) <;> first | exact ⟨rfl, rfl⟩ | trivial
   ·simp only [go_sem]
    skip
    unfold anyS
    intro i hi
    have hi : i = 1 := by revert hi; revert i; decide
    subst hi
    simp only [go_sem]
    skip
    unfold anyS
    intro i hi
    have hi : i = 2 := by revert hi; revert i; decide
    subst hi
    simp only [go_sem]
    skip
    unfold anyS
    intro i hi
    have hi : i = 4 := by revert hi; revert i; decide
    subst hi
    simp only [go_sem]
    skip
    (simp only [anyS, go_sem]) <;> first | exact ⟨rfl, rfl⟩ | trivial
  ·simp only [go_sem]
   skip
   unfold anyS
   intro i hi
   have hi : i = 0 ∨ i = 2 := by revert hi; revert i; decide
   rcases hi with rfl | rfl
   ·simp only [go_sem]
    skip
    unfold anyS
    intro i hi
    have hi : i = 2 ∨ i = 3 := by revert hi; revert i; decide
    rcases hi with rfl | rfl
    ·simp only [go_sem]
     skip
     unfold anyS
     intro i hi
     have hi : i = 3 := by revert hi; revert i; decide
     subst hi
     simp only [go_sem]
     skip
     unfold anyS
     intro i hi
     have hi : i = 4 := by revert hi; revert i; decide
     subst hi
     simp only [go_sem]
     skip
     (simp only [anyS, go_sem]) <;> first | exact ⟨rfl, rfl⟩ | trivial
    ·simp only [go_sem]
     skip
     unfold anyS
     intro i hi
     have hi : i = 2 := by revert hi; revert i; decide
     subst hi
     simp only [go_sem]
     skip
     unfold anyS
     intro i hi
     have hi : i = 4 := by revert hi; revert i; decide
     subst hi
     simp only [go_sem]
     skip
     (simp only [anyS, go_sem]) <;> first | exact ⟨rfl, rfl⟩ | trivial
   ·simp only [go_sem]
    skip
    unfold anyS
    intro i hi
    have hi : i = 0 := by revert hi; revert i; decide
    subst hi
    simp only [go_sem]
    skip
    unfold anyS
    intro i hi
    have hi : i = 3 := by revert hi; revert i; decide
    subst hi
    simp only [go_sem]
    skip
    unfold anyS
    intro i hi
    have hi : i = 4 := by revert hi; revert i; decide
    subst hi
    simp only [go_sem]
    skip
    (simp only [anyS, go_sem]) <;> first | exact ⟨rfl, rfl⟩ | trivial
 refine fZ [0, 1] rfl rfl ?_
 simp only [ren, eF, gZ, posOf, cQ, go_sem]
 refine aE7 (aBk hF [] rfl rfl rfl rfl rfl rfl ?_)
 simp only [aT, aDo, aCC, go_sem]
 try decide
noncomputable def eI (F : Md) (c0 : Bool) (c1 : (List Nat)) (c2 : Int) : Option ((Bool × ((List Nat) × (Int × Unit))) × Int × Unit) :=
 (wS F c0 c1 c2).bind fun q => some (match q with | .inl r => (r, 0, ()) | .inr p => ((false, ([] : List Nat), (0 : Int), ()), p.1, ()))
def qS : Ty := .pair (.clo 181 (.pair (.rp .bool) (.pair (.rp (.sl (.u .u64))) (.pair (.rp (.i .i64)) .unit)))) .unit
noncomputable def gL (F : Md) : aG := mSpec qS (.tup (.pair (.pair .bool (.pair (.sl (.u .u64)) (.pair (.i .i64) .unit))) (.pair (.i .i64) .unit))) (fun x => eI F x.1.1 x.1.2.1 x.1.2.2.1)
set_option maxHeartbeats 4000000 in
theorem aAg (F : Md) : FOK Tryz.prog GL 180 (gL F) := by
 refine aJn (aW aDG) Tryz.func180 rfl (by kernel_rfl) (by decide) fun w0 S x r hw h => ?_
 have hF : iQ (fr Tryz.prog (EM []) S w0 Tryz.f180.ntmps) := ⟨aW aDG, mix⟩
 obtain ⟨⟨(c0 : Bool), (c1 : (List Nat)), (c2 : Int), u1⟩, u⟩ := x
 replace h : eI F c0 c1 c2 = some r := h
 show Tri _ _ _ [(0, .val (.clo 181 (.pair (.rp .bool) (.pair (.rp (.sl (.u .u64))) (.pair (.rp (.i .i64)) .unit)))) (c0, c1, c2, u1))] []
 unfold eI at h
 obtain ⟨q, hq, h⟩ := bind_some h
 obtain rfl := Option.some.inj h
 refine aB (aU hF [0, 2, 3] ?_)
 simp only [go_sem]
 refine aC (aDz 2 [0, 1] rfl rfl (Nat.zero_le _) (by decide) fun roots hroots => ?_)
 have hF' : iQ { fr Tryz.prog (EM []) S w0 Tryz.f180.ntmps with M := ⟨nothing, S, 2, roots⟩, ds := [⟨.fn (.func 232) ([0, 1].map roots).toArray, #[]⟩] } := ⟨aW aDG, mix⟩
 rcases q with q | q
 ·refine aB (aX hF' (bS (l := [(181, ⟨pB F, [], (c0, c1, c2, .inl q)⟩)]) (.cons (aDH F) (by kernel_rfl) .nil)) [2, 3] [] ?_)
  simp only [go_sem]
  refine ⟨hq, ?_⟩
  refine aC (cH ?_)
  refine aOL (fn := Tryz.f180) (k := 2) (l2 := [0, 1]) hF' rfl rfl (by decide) rfl (aE6 (by kernel_rfl)) ⟨jI, [0, 1], (q, 0)⟩ aCF rfl [.cell 2 25, .cell 3 3] rfl ?_ ?_
  ·(simp only [jI, go_sem]) <;> first | decide | trivial
  ·(simp only [jI, aT, fE, go_sem]) <;> first | decide | trivial
 ·refine aB (aX hF' (bS (l := [(181, ⟨pB F, [], (c0, c1, c2, .inr q)⟩)]) (.cons (aDH F) (by kernel_rfl) .nil)) [2, 3] [] ?_)
  simp only [go_sem]
  refine ⟨hq, ?_⟩
  refine mL ?_
  refine aOM (fn := Tryz.f180) (k := 2) (l2 := [0, 1]) hF' rfl rfl (by decide) rfl (aE6 (by kernel_rfl)) ⟨jJ q, [0, 1], ((false, ([] : List Nat), (0 : Int), ()), 0)⟩ (aCG q) rfl [.cell 2 25, .cell 3 3] rfl ?_ ?_
  ·(simp only [jJ, go_sem]) <;> first | decide | trivial
  ·(simp only [jJ, aT, fE, go_sem]) <;> first | decide | trivial
attribute [go_sem] gL qS
noncomputable def yK (F : Md) (neg_0 : Bool) (m_1 : (List Nat)) (e_2 : Int) : Option ((Bool × ((List Nat) × (Int × Unit))) × (Int × Unit)) :=
 ck ((eI F neg_0 m_1 e_2).isSome = true) (some (((eI F neg_0 m_1 e_2).getD ((false, ([] : List Nat), (0 : Int), ()), (0 : Int), ())).1, ((eI F neg_0 m_1 e_2).getD ((false, ([] : List Nat), (0 : Int), ()), (0 : Int), ())).2.1, ()))
def aBw : Ty := .pair .bool (.pair (.sl (.u .u64)) (.pair (.i .i64) .unit))
attribute [go_sem] aBw
noncomputable def qT (F : Md) : aG := mSpec aBw (.tup (.pair (.pair .bool (.pair (.sl (.u .u64)) (.pair (.i .i64) .unit))) (.pair (.i .i64) .unit))) (fun x => yK F x.1 x.2.1 x.2.2.1)
noncomputable def aEg (F : Md) : List (FuncId × aG) := [(180, (gL F))]
theorem aJG (F : Md) : bC Tryz.prog GL (aEg F) := .cons (aAg F) (by kernel_rfl) (.nil)
theorem aJH (F : Md) : gam (aEg F) 180 = some (gL F) := rfl
attribute [go_sem] aJH
set_option maxHeartbeats 4000000 in
theorem aHq (F : Md) : FOK Tryz.prog GL 117 (qT F) := by
 refine kN (aW (aJG F)) Tryz.func117 rfl (by kernel_rfl) (by decide) fun w0 S x r hw h => ?_
 have hF : iQ (fr Tryz.prog (EM (aEg F)) S w0 Tryz.f117.ntmps) := ⟨aW (aJG F), mix⟩
 obtain ⟨(neg_0 : Bool), (m_1 : (List Nat)), (e_2 : Int), u⟩ := x
 simp only [aBw, Ty.wf, lO] at hw
 simp only [bH, aBw]
 try dsimp only at h
 replace h : yK F neg_0 m_1 e_2 = some r := h
 unfold yK at h
 refine aB (aU hF [3, 4, 5, 6] ?_)
 simp only [go_sem]
 refine aC (aB (vC 0 rfl ?_))
 simp only [go_sem]
 refine vC 1 rfl ?_
 simp only [go_sem]
 refine vC 2 rfl ?_
 simp only [go_sem]
 refine aU hF [6, 7] ?_
 simp only [go_sem]
 obtain ⟨g0, h⟩ := aJ h
 repeat (refine ⟨zAA, ?_⟩)
 obtain rfl := Option.some.inj h
 refine aC (cH (dC hF [.cell 6 25, .tmp 7] rfl rfl rfl ?_))
 exact zAH
attribute [go_sem] qT
noncomputable def eL (F : Md) (d_0 : (Bool × ((List Nat) × (Int × Unit)))) : Option Bool :=
 if (((d_0.2.1.length) : Nat) : Int) = (0 : Int) then some ((!d_0.1) && (decide (d_0.2.2.1 = (0 : Int)))) else (aDk F d_0.2.1).bind (fun v_5 => ck ((v_5 = true) → ((0 : Int) < (((d_0.2.1.length) : Nat) : Int))) (some (((v_5 && (decide (((d_0.2.1.getD (0 : Nat) (0 : Nat)) &&& (1 : Nat)) = (1 : Nat)))) && (decide ((-1048576 : Int) ≤ d_0.2.2.1))) && (decide (d_0.2.2.1 ≤ (1048576 : Int))))))
def aHr : PlR := ⟨[(0, .B [1]), (1, .A [1, 6]), (2, .A [2]), (3, .A [2])], []⟩
def aJI : Ty := .pair (.pair .bool (.pair (.sl (.u .u64)) (.pair (.i .i64) .unit))) .unit
noncomputable def mA (F : Md) : aG := mSpec aJI (.one .bool) (fun x => eL F x.1)
noncomputable def aJJ (F : Md) : List (FuncId × aG) := [(120, (aBr F))]
theorem aN0 (F : Md) : bC Tryz.prog GL (aJJ F) := .cons (aNR F) (by kernel_rfl) (.nil)
theorem aJK (F : Md) : gam (aJJ F) 120 = some (aBr F) := rfl
attribute [go_sem] aJI aHr aJK
set_option maxHeartbeats 4000000 in
theorem aCH (F : Md) : FOK Tryz.prog GL 58 (mA F) := by
 refine bG (aW (aN0 F)) mix Tryz.func58 rfl (by kernel_rfl) (by decide) aHr fun w0 S x Θ hw h hF => ?_
 obtain ⟨(d_0 : (Bool × ((List Nat) × (Int × Unit)))), u⟩ := x
 simp only [bH, go_sem]
 replace h : sat (eL F d_0) _ := h
 unfold eL at h
 refine cT h (fun hc h => ?_) fun hc h => ?_
 ·exact aF hF [.tmp 2] rfl rfl rfl (aA h) (by simp only [aT, go_sem])
 ·obtain ⟨v_5, hv, h⟩ := aH h
  try simp only [hv, go_sem]
  refine aP h fun g0 h => ?_
  exact aF hF [.tmp 2] rfl rfl rfl (aA h) (by simp only [aT, go_sem])
attribute [go_sem] mA
noncomputable def nQ (F : Md) (d_0 : (Bool × ((List Nat) × (Int × Unit)))) : Option Int :=
 (eL F d_0).bind (fun v_7 => if (¬ (v_7 = true)) ∨ ((((d_0.2.1.length) : Nat) : Int) = (0 : Int)) then some (0 : Int) else if d_0.1 = true then some (-1 : Int) else some (1 : Int))
def aFp : PlR := ⟨[(0, .B [1]), (1, .A [1, 3]), (2, .A [2]), (3, .A [13]), (4, .A [2]), (5, .A [2])], []⟩
def aHs : Ty := .pair (.pair .bool (.pair (.sl (.u .u64)) (.pair (.i .i64) .unit))) .unit
noncomputable def nZ (F : Md) : aG := mSpec aHs (.one (.i .i64)) (fun x => nQ F x.1)
noncomputable def aHt (F : Md) : List (FuncId × aG) := [(58, (mA F))]
theorem aM7 (F : Md) : bC Tryz.prog GL (aHt F) := .cons (aCH F) (by kernel_rfl) (.nil)
theorem aJL (F : Md) : gam (aHt F) 58 = some (mA F) := rfl
attribute [go_sem] aHs aFp aJL
set_option maxHeartbeats 4000000 in
theorem aFq (F : Md) : FOK Tryz.prog GL 57 (nZ F) := by
 refine bG (aW (aM7 F)) mix Tryz.func57 rfl (by kernel_rfl) (by decide) aFp fun w0 S x Θ hw h hF => ?_
 obtain ⟨(d_0 : (Bool × ((List Nat) × (Int × Unit)))), u⟩ := x
 simp only [bH, go_sem]
 replace h : sat (nQ F d_0) _ := h
 unfold nQ at h
 obtain ⟨v_7, hv, h⟩ := aH h
 try simp only [hv, go_sem]
 refine ⟨fun hc => ?_, fun hc => ?_⟩
 ·replace h := hP zAB h
  exact aF hF [.tmp 2] rfl rfl rfl (aA h) (by simp only [aT, go_sem])
 ·replace h := hU zAB h
  refine aE8 h (fun hc h => ?_) fun hc h => ?_
  ·exact aF hF [.tmp 2] rfl rfl rfl (aA h) (by simp only [aT, go_sem])
  ·exact aF hF [.tmp 2] rfl rfl rfl (aA h) (by simp only [aT, go_sem])
attribute [go_sem] nZ
noncomputable def zJ (F : Md) (a_0 : (Bool × ((List Nat) × (Int × Unit)))) (b_1 : (Bool × ((List Nat) × (Int × Unit)))) : Option Int :=
 (yC F a_0.2.1).bind (fun v_13 => ck (I64 (v_13 + a_0.2.2.1)) ((yC F b_1.2.1).bind (fun v_14 => ck (I64 (v_14 + b_1.2.2.1)) (if (v_13 + a_0.2.2.1) < (v_14 + b_1.2.2.1) then some (-1 : Int) else if (v_14 + b_1.2.2.1) < (v_13 + a_0.2.2.1) then some (1 : Int) else ck (I64 (a_0.2.2.1 - (min a_0.2.2.1 b_1.2.2.1))) ((gJ F a_0.2.1 (a_0.2.2.1 - (min a_0.2.2.1 b_1.2.2.1))).bind (fun v_30 => ck (I64 (b_1.2.2.1 - (min a_0.2.2.1 b_1.2.2.1))) ((gJ F b_1.2.1 (b_1.2.2.1 - (min a_0.2.2.1 b_1.2.2.1))).bind (fun v_31 => (nO F v_30 v_31).bind (fun v_32 => some v_32)))))))))
def aFr : PlR := ⟨[(0, .B [2, 3]), (1, .A [2, 3, 5, 6]), (2, .A [2, 3, 5, 6, 20]), (3, .A [4]), (4, .A [2, 3, 24]), (5, .A [4]), (6, .A [2, 3, 7]), (7, .A [4])], []⟩
def aHu : Ty := .pair (.pair .bool (.pair (.sl (.u .u64)) (.pair (.i .i64) .unit))) (.pair (.pair .bool (.pair (.sl (.u .u64)) (.pair (.i .i64) .unit))) .unit)
noncomputable def wT (F : Md) : aG := mSpec aHu (.one (.i .i64)) (fun x => zJ F x.1 x.2.1)
noncomputable def zK (F : Md) : List (FuncId × aG) := [(121, (zF F)), (122, (kU F)), (95, (qQ F))]
theorem aM8 (F : Md) : bC Tryz.prog GL (zK F) := .cons (aM1 F) (by kernel_rfl) (.cons (aBs F) (by kernel_rfl) (.cons (aHk F) (by kernel_rfl) (.nil)))
theorem aHX (F : Md) : gam (zK F) 121 = some (zF F) := rfl
theorem aHY (F : Md) : gam (zK F) 122 = some (kU F) := rfl
theorem aJM (F : Md) : gam (zK F) 95 = some (qQ F) := rfl
attribute [go_sem] aHu aFr aHX aHY aJM
set_option maxHeartbeats 4000000 in
theorem aL4 (F : Md) : FOK Tryz.prog GL 59 (wT F) := by
 refine bG (aW (aM8 F)) mix Tryz.func59 rfl (by kernel_rfl) (by decide) aFr fun w0 S x Θ hw h hF => ?_
 obtain ⟨(a_0 : (Bool × ((List Nat) × (Int × Unit)))), (b_1 : (Bool × ((List Nat) × (Int × Unit)))), u⟩ := x
 simp only [bH, go_sem]
 replace h : sat (zJ F a_0 b_1) _ := h
 unfold zJ at h
 obtain ⟨v_13, hv, h⟩ := aH h
 try simp only [hv, go_sem]
 refine aP h fun g0 h => ?_
 obtain ⟨v_14, hv, h⟩ := aH h
 try simp only [hv, go_sem]
 refine aP h fun g0 h => ?_
 refine fF h (fun hc h => ?_) fun hc h => ?_
 ·exact aF hF [.tmp 4] rfl rfl rfl (aA h) (by simp only [aT, go_sem])
 ·refine fF h (fun hc h => ?_) fun hc h => ?_
  ·exact aF hF [.tmp 4] rfl rfl rfl (aA h) (by simp only [aT, go_sem])
  ·refine aP h fun g0 h => ?_
   obtain ⟨v_30, hv, h⟩ := aH h
   try simp only [hv, go_sem]
   refine aP h fun g0 h => ?_
   obtain ⟨v_31, hv, h⟩ := aH h
   try simp only [hv, go_sem]
   obtain ⟨v_32, hv, h⟩ := aH h
   try simp only [hv, go_sem]
   exact aF hF [.tmp 4] rfl rfl rfl (aA h) (by simp only [aT, go_sem])
attribute [go_sem] wT
noncomputable def tO (F : Md) (a_0 : (Bool × ((List Nat) × (Int × Unit)))) (b_1 : (Bool × ((List Nat) × (Int × Unit)))) : Option Int :=
 (nQ F a_0).bind (fun v_13 => (nQ F b_1).bind (fun v_14 => (eL F a_0).bind (fun v_20 => ck (¬ (¬ (v_20 = true)) → ((eL F b_1).isSome = true)) (if (¬ (v_20 = true)) ∨ (¬ (((eL F b_1).getD false) = true)) then some (0 : Int) else if (¬ (v_13 = v_14)) ∧ (v_13 < v_14) then some (-1 : Int) else if ¬ (v_13 = v_14) then some (1 : Int) else if v_13 = (0 : Int) then some (0 : Int) else (zJ F a_0 b_1).bind (fun v_24 => ck (I64 (v_13 * v_24)) (some (v_13 * v_24)))))))
def aHv : PlR := ⟨[(0, .B [2, 3]), (1, .A [2, 3, 5, 6]), (2, .A [2, 3, 5, 6, 11]), (3, .A [4]), (4, .A [2, 3, 5, 6, 20]), (5, .A [4]), (6, .A [2, 3, 5, 29]), (7, .A [4]), (8, .A [2, 3, 5, 33]), (9, .A [4]), (10, .A [4])], []⟩
def aJN : Ty := .pair (.pair .bool (.pair (.sl (.u .u64)) (.pair (.i .i64) .unit))) (.pair (.pair .bool (.pair (.sl (.u .u64)) (.pair (.i .i64) .unit))) .unit)
noncomputable def qU (F : Md) : aG := mSpec aJN (.one (.i .i64)) (fun x => tO F x.1 x.2.1)
noncomputable def aBx (F : Md) : List (FuncId × aG) := [(57, (nZ F)), (58, (mA F)), (59, (wT F))]
theorem aN1 (F : Md) : bC Tryz.prog GL (aBx F) := .cons (aFq F) (by kernel_rfl) (.cons (aCH F) (by kernel_rfl) (.cons (aL4 F) (by kernel_rfl) (.nil)))
theorem aKx (F : Md) : gam (aBx F) 57 = some (nZ F) := rfl
theorem aKy (F : Md) : gam (aBx F) 58 = some (mA F) := rfl
theorem aKz (F : Md) : gam (aBx F) 59 = some (wT F) := rfl
attribute [go_sem] aJN aHv aKx aKy aKz
set_option maxHeartbeats 4000000 in
theorem aHw (F : Md) : FOK Tryz.prog GL 22 (qU F) := by
 refine bG (aW (aN1 F)) mix Tryz.func22 rfl (by kernel_rfl) (by decide) aHv fun w0 S x Θ hw h hF => ?_
 obtain ⟨(a_0 : (Bool × ((List Nat) × (Int × Unit)))), (b_1 : (Bool × ((List Nat) × (Int × Unit)))), u⟩ := x
 simp only [bH, go_sem]
 replace h : sat (tO F a_0 b_1) _ := h
 unfold tO at h
 obtain ⟨v_13, hv, h⟩ := aH h
 try simp only [hv, go_sem]
 obtain ⟨v_14, hv, h⟩ := aH h
 try simp only [hv, go_sem]
 obtain ⟨v_20, hv, h⟩ := aH h
 try simp only [hv, go_sem]
 obtain ⟨g0, h⟩ := aM h
 repeat (refine ⟨zAF, ?_⟩)
 refine ⟨fun hc => ?_, fun hc => ?_⟩
 ·replace h := hP zAB h
  exact aF hF [.tmp 4] rfl rfl rfl (aA h) (by simp only [aT, go_sem])
 ·replace h := hU zAB h
  refine ⟨fun hc => ?_, fun hc => ?_⟩
  ·replace h := hP hc h
   exact aF hF [.tmp 4] rfl rfl rfl (aA h) (by simp only [aT, go_sem])
  ·replace h := hU hc h
   refine cT h (fun hc h => ?_) fun hc h => ?_
   ·exact aF hF [.tmp 4] rfl rfl rfl (aA h) (by simp only [aT, go_sem])
   ·refine cT h (fun hc h => ?_) fun hc h => ?_
    ·exact aF hF [.tmp 4] rfl rfl rfl (aA h) (by simp only [aT, go_sem])
    ·obtain ⟨v_24, hv, h⟩ := aH h
     try simp only [hv, go_sem]
     obtain ⟨g0, h⟩ := aM h
     try simp only [I64, I32] at g0
     repeat (refine ⟨zAA, ?_⟩)
     exact aF hF [.tmp 4] rfl rfl rfl (aA h) (by simp only [aT, go_sem])
attribute [go_sem] qU
noncomputable def rS (F : Md) (n_0 : Int) (e_1 : Int) (m_3 : Nat) : Option ((Bool × ((List Nat) × (Int × Unit))) × (Int × Unit)) :=
 (yE F ([m_3] : List Nat)).bind (fun v_6 => (yK F (decide (n_0 < (0 : Int))) v_6 e_1).bind (fun v_7 => some (v_7.1, v_7.2.1, ())))
noncomputable def aDl (F : Md) (n_0 : Int) (e_1 : Int) : Option ((Bool × ((List Nat) × (Int × Unit))) × (Int × Unit)) :=
 if n_0 < (0 : Int) then rS F n_0 e_1 (aLO F .u64 (n_0 % (18446744073709551616 : Int)).toNat) else rS F n_0 e_1 (n_0 % (18446744073709551616 : Int)).toNat
def aJO : PlR := ⟨[(0, .B [0, 1, 4]), (1, .A [0, 1, 4, 6]), (2, .A [0, 1, 4, 6, 10]), (3, .A [0, 1, 4, 6]), (4, .B [4, 5])], [(5, 7)]⟩
def aLn : Ty := .pair (.i .i64) (.pair (.i .i64) .unit)
noncomputable def aBy (F : Md) : aG := mSpec aLn (.tup (.pair (.pair .bool (.pair (.sl (.u .u64)) (.pair (.i .i64) .unit))) (.pair (.i .i64) .unit))) (fun x => aDl F x.1 x.2.1)
noncomputable def aGw (F : Md) : List (FuncId × aG) := [(117, (qT F)), (231, (qP F))]
theorem aPx (F : Md) : bC Tryz.prog GL (aGw F) := .cons (aHq F) (by kernel_rfl) (.cons (aHg F) (by kernel_rfl) (.nil))
theorem aKA (F : Md) : gam (aGw F) 117 = some (qT F) := rfl
theorem aKB (F : Md) : gam (aGw F) 231 = some (qP F) := rfl
attribute [go_sem] aLn aJO aKA aKB
set_option maxHeartbeats 4000000 in
theorem aN2 (F : Md) : FOK Tryz.prog GL 200 (aBy F) := by
 refine bG (aW (aPx F)) mix Tryz.func200 rfl (by kernel_rfl) (by decide) aJO fun w0 S x Θ hw h hF => ?_
 obtain ⟨(n_0 : Int), (e_1 : Int), u⟩ := x
 simp only [bH, go_sem]
 replace h : sat (aDl F n_0 e_1) _ := h
 unfold aDl at h
 refine dH hF (D := Nat) (fun d => sat (rS F n_0 e_1 d) Θ) [0, 1] (fun d => [(4, .ptr 0 []), (6, .val (.u .u64) d)]) (fun d => [.inr (.box 3 (.val (.pair .bool (.pair (.sl (.u .u64)) (.pair (.i .i64) .unit))) (false, ([] : List Nat), (0 : Int), ())))]) ?_ ?_
 ·simp only [go_sem, aY F, aZ F, bA F]
  refine fF h (fun hc h => ?_) fun hc h => ?_
  ·exact aQ (aLO F .u64 (n_0 % (18446744073709551616 : Int)).toNat) h rfl (by simp only [go_sem, aY F, aZ F, bA F])
  ·exact aQ (n_0 % (18446744073709551616 : Int)).toNat h rfl (by simp only [go_sem, aY F, aZ F, bA F])
 ·rintro m_3 h
  simp only [go_sem, aY F, aZ F, bA F]
  replace h : sat (rS F n_0 e_1 m_3) _ := h
  unfold rS at h
  obtain ⟨v_6, hv, h⟩ := aH h
  try simp only [hv, go_sem, aY F, aZ F, bA F]
  obtain ⟨v_7, hv, h⟩ := aH h
  try simp only [hv, go_sem, aY F, aZ F, bA F]
  exact aF hF [.cell 4 25, .tmp 5] rfl rfl rfl (aA h) (by simp only [aT, go_sem, aY F, aZ F, bA F])
attribute [go_sem] aBy
noncomputable def rT (F : Md) (a_0 : (Bool × ((List Nat) × (Int × Unit)))) (b_1 : (Bool × ((List Nat) × (Int × Unit)))) : Option ((Bool × ((List Nat) × (Int × Unit))) ⊕ (Int × Unit)) :=
 ck ((fQ F a_0.2.1 b_1.2.1).isSome = true) (ck (I64 (a_0.2.2.1 + b_1.2.2.1)) ((yJ F (a_0.1 != b_1.1) ((fQ F a_0.2.1 b_1.2.1).getD ([] : List Nat)) (a_0.2.2.1 + b_1.2.2.1)).bind (fun e => match e with | .inl r_7 => some (.inl r_7) | .inr p_8 => some (.inr p_8))))
noncomputable def lF (F : Md) : lP where
 D := (Bool × ((List Nat) × (Int × Unit))) × (Bool × ((List Nat) × (Int × Unit))) × ((Bool × ((List Nat) × (Int × Unit))) ⊕ (Int × Unit))
 av := fun d => [.val (.pair .bool (.pair (.sl (.u .u64)) (.pair (.i .i64) .unit))) d.1, .val (.pair .bool (.pair (.sl (.u .u64)) (.pair (.i .i64) .unit))) d.2.1]
 hp := fun d => []
 m := 0
 pre := fun d => rT F d.1 d.2.1 = some d.2.2
 out := fun d => match d.2.2 with | .inl r => .ret (.val (.pair .bool (.pair (.sl (.u .u64)) (.pair (.i .i64) .unit))) r) [] | .inr p => .pan ⟨251, (.pair (.i .i64) .unit), p⟩ []
noncomputable def aBz (F : Md) : List (FuncId × aG) := [(94, (dW F))]
theorem aFs (F : Md) : bC Tryz.prog GL (aBz F) := .cons (nX F) (by kernel_rfl) (.nil)
theorem aHZ (F : Md) : gam (aBz F) 94 = some (dW F) := rfl
attribute [go_sem] aHZ
set_option maxHeartbeats 4000000 in
theorem uF (F : Md) : GOK Tryz.prog GL 239 (lF F) := by
 refine vD (aW (aFs F)) Tryz.func239 rfl (by kernel_rfl) (fun _ => Nat.le_of_ble_eq_true rfl) fun c0 w0 d hw1 hw2 h hn => ?_
 have hF : iQ ⟨Tryz.prog, EM (aBz F), GM (lF F) c0 d, w0, Tryz.f239.ntmps, []⟩ := ⟨aW (aFs F), mix⟩
 obtain ⟨(a_0 : (Bool × ((List Nat) × (Int × Unit)))), (b_1 : (Bool × ((List Nat) × (Int × Unit)))), r⟩ := d
 replace h : rT F a_0 b_1 = some r := h
 have hw1 : AV.wfL [.val (.pair .bool (.pair (.sl (.u .u64)) (.pair (.i .i64) .unit))) a_0, .val (.pair .bool (.pair (.sl (.u .u64)) (.pair (.i .i64) .unit))) b_1] := hw1
 simp only [AV.wfL, AV.wfV, Ty.wf, lO] at hw1
 show Tri _ _ _ [(0, .val (.pair .bool (.pair (.sl (.u .u64)) (.pair (.i .i64) .unit))) a_0), (1, .val (.pair .bool (.pair (.sl (.u .u64)) (.pair (.i .i64) .unit))) b_1)] []
 unfold rT at h
 refine aB (aU hF [2, 3, 4] ?_)
 simp only [go_sem]
 obtain ⟨g0, h⟩ := aJ h
 obtain ⟨g1, h⟩ := aJ h
 try simp only [I64, I32] at g1
 obtain ⟨e, he1, h⟩ := bind_some h
 rcases e with r_7 | p_8
 ·try dsimp only at h
  refine aC (aB (rM hF (bS (l := [(182, ⟨nP F, [], ((a_0.1 != b_1.1), ((fQ F a_0.2.1 b_1.2.1).getD ([] : List Nat)), (a_0.2.2.1 + b_1.2.2.1), .inl r_7)⟩)]) (.cons (zI F) (by kernel_rfl) (.nil))) 15 (by decide) [4] [] ?_))
  simp only [go_sem]
  repeat (refine ⟨zAA, ?_⟩)
  simp only [aLl, go_sem]
  repeat (refine ⟨zAA, ?_⟩)
  obtain rfl := Option.some.inj h
  refine aC (cH (aAH hF [.cell 4 25] [] rfl rfl rfl rfl rfl rfl rfl rfl rfl ?_))
  (try simp only [aT, aDo, aCC, dL, nL, AV.isAgg, go_sem]) <;> first | trivial | rfl | (simp; done)
 ·try dsimp only at h
  refine aC (aB (rM hF (bS (l := [(182, ⟨nP F, [], ((a_0.1 != b_1.1), ((fQ F a_0.2.1 b_1.2.1).getD ([] : List Nat)), (a_0.2.2.1 + b_1.2.2.1), .inr p_8)⟩)]) (.cons (zI F) (by kernel_rfl) (.nil))) 15 (by decide) [4] [] ?_))
  simp only [go_sem]
  repeat (refine ⟨zAA, ?_⟩)
  simp only [aLl, go_sem]
  repeat (refine ⟨zAA, ?_⟩)
  obtain rfl := Option.some.inj h
  refine mL (tY [] rfl rfl ?_)
  simp only [ren, eF, gZ, posOf, cQ, go_sem]
  refine rL rfl rfl rfl rfl
attribute [go_sem] lF
noncomputable def iA (F : Md) (a0_0 : (Bool × ((List Nat) × (Int × Unit)))) (a1_1 : (Bool × ((List Nat) × (Int × Unit)))) (a2_2 : Unit) : Option ((Bool × ((List Nat) × (Int × Unit))) ⊕ (Int × Unit)) :=
 ck ((eL F a0_0).isSome = true) (if ((eL F a0_0).getD false) = true then ck ((eL F a1_1).isSome = true) ((kV F (((eL F a0_0).getD false) && ((eL F a1_1).getD false)) (1 : Int)).bind (fun e => match e with | .inl r_12 => (rT F a0_0 a1_1).bind (fun e => match e with | .inl r_20 => some (.inl r_20) | .inr p_21 => some (.inr p_21)) | .inr p_13 => some (.inr p_13))) else (kV F false (1 : Int)).bind (fun e => match e with | .inl r_14 => (rT F a0_0 a1_1).bind (fun e => match e with | .inl r_26 => some (.inl r_26) | .inr p_27 => some (.inr p_27)) | .inr p_15 => some (.inr p_15)))
noncomputable def fG (F : Md) : lP where
 D := (Bool × ((List Nat) × (Int × Unit))) × (Bool × ((List Nat) × (Int × Unit))) × Unit × ((Bool × ((List Nat) × (Int × Unit))) ⊕ (Int × Unit))
 av := fun d => [.val (.rp (.pair .bool (.pair (.sl (.u .u64)) (.pair (.i .i64) .unit)))) d.1, .val (.rp (.pair .bool (.pair (.sl (.u .u64)) (.pair (.i .i64) .unit)))) d.2.1, .val (.rp (.clo 239 .unit)) d.2.2.1]
 hp := fun d => []
 m := 0
 pre := fun d => iA F d.1 d.2.1 d.2.2.1 = some d.2.2.2
 out := fun d => match d.2.2.2 with | .inl r => .ret (.val (.pair .bool (.pair (.sl (.u .u64)) (.pair (.i .i64) .unit))) r) [] | .inr p => .pan ⟨251, (.pair (.i .i64) .unit), p⟩ []
noncomputable def lQ (F : Md) : List (FuncId × aG) := [(58, (mA F))]
theorem qV (F : Md) : bC Tryz.prog GL (lQ F) := .cons (aCH F) (by kernel_rfl) (.nil)
theorem yL (F : Md) : gam (lQ F) 58 = some (mA F) := rfl
attribute [go_sem] yL
set_option maxHeartbeats 4000000 in
theorem pC (F : Md) : GOK Tryz.prog GL 256 (fG F) := by
 refine vD (aW (qV F)) Tryz.func256 rfl (by kernel_rfl) (fun _ => Nat.le_of_ble_eq_true rfl) fun c0 w0 d hw1 hw2 h hn => ?_
 have hF : iQ ⟨Tryz.prog, EM (lQ F), GM (fG F) c0 d, w0, Tryz.f256.ntmps, []⟩ := ⟨aW (qV F), mix⟩
 obtain ⟨(a0_0 : (Bool × ((List Nat) × (Int × Unit)))), (a1_1 : (Bool × ((List Nat) × (Int × Unit)))), (a2_2 : Unit), r⟩ := d
 replace h : iA F a0_0 a1_1 a2_2 = some r := h
 have hw1 : AV.wfL [.val (.rp (.pair .bool (.pair (.sl (.u .u64)) (.pair (.i .i64) .unit)))) a0_0, .val (.rp (.pair .bool (.pair (.sl (.u .u64)) (.pair (.i .i64) .unit)))) a1_1, .val (.rp (.clo 239 .unit)) a2_2] := hw1
 simp only [AV.wfL, AV.wfV, Ty.wf, lO] at hw1
 show Tri _ _ _ [(0, .roa (.pair .bool (.pair (.sl (.u .u64)) (.pair (.i .i64) .unit))) a0_0), (1, .roa (.pair .bool (.pair (.sl (.u .u64)) (.pair (.i .i64) .unit))) a1_1), (2, .roa (.clo 239 .unit) a2_2)] []
 unfold iA at h
 refine aB (aU hF [0, 1, 2, 3] ?_)
 simp only [go_sem]
 obtain ⟨g0, h⟩ := aJ h
 by_cases hq : ((eL F a0_0).getD false) = true
 ·have h := dP hq h
  obtain ⟨g1, h⟩ := aJ h
  obtain ⟨e, he1, h⟩ := bind_some h
  rcases e with r_12 | p_13
  ·try dsimp only at h
   refine aC (aB (aX hF (bS (l := [(233, ⟨dJ F, [], ((((eL F a0_0).getD false) && ((eL F a1_1).getD false)), (1 : Int), .inl r_12)⟩)]) (.cons (fM F) (by kernel_rfl) (.nil))) [0, 1, 2, 3] [] ?_))
   simp only [go_sem]
   repeat (refine ⟨zAA, ?_⟩)
   refine ⟨fun _ => ?_, fun hx => by first | (exfalso; omega) | (exfalso; simp_all; done)⟩
   repeat (refine ⟨zAA, ?_⟩)
   refine ⟨fun _ => ?_, fun hx => by first | (exfalso; omega) | (exfalso; simp_all; done)⟩
   repeat (refine ⟨zAA, ?_⟩)
   obtain ⟨e, he2, h⟩ := bind_some h
   rcases e with r_20 | p_21
   ·try dsimp only at h
    refine aC (aB (aX hF (bS (l := [(239, ⟨lF F, [], (a0_0, a1_1, .inl r_20)⟩)]) (.cons (uF F) (by kernel_rfl) (.nil))) [3] [] ?_))
    simp only [go_sem]
    repeat (refine ⟨zAA, ?_⟩)
    obtain rfl := Option.some.inj h
    refine aC (cH (aAH hF [.cell 3 25] [] rfl rfl rfl rfl rfl rfl rfl rfl rfl ?_))
    (try simp only [aT, aDo, aCC, dL, nL, AV.isAgg, go_sem]) <;> first | trivial | rfl | (simp; done)
   ·try dsimp only at h
    refine aC (aB (aX hF (bS (l := [(239, ⟨lF F, [], (a0_0, a1_1, .inr p_21)⟩)]) (.cons (uF F) (by kernel_rfl) (.nil))) [3] [] ?_))
    simp only [go_sem]
    repeat (refine ⟨zAA, ?_⟩)
    obtain rfl := Option.some.inj h
    refine mL (tY [] rfl rfl ?_)
    simp only [ren, eF, gZ, posOf, cQ, go_sem]
    refine rL rfl rfl rfl rfl
  ·try dsimp only at h
   refine aC (aB (aX hF (bS (l := [(233, ⟨dJ F, [], ((((eL F a0_0).getD false) && ((eL F a1_1).getD false)), (1 : Int), .inr p_13)⟩)]) (.cons (fM F) (by kernel_rfl) (.nil))) [0, 1, 2, 3] [] ?_))
   simp only [go_sem]
   repeat (refine ⟨zAA, ?_⟩)
   refine ⟨fun _ => ?_, fun hx => by first | (exfalso; omega) | (exfalso; simp_all; done)⟩
   repeat (refine ⟨zAA, ?_⟩)
   refine ⟨fun _ => ?_, fun hx => by first | (exfalso; omega) | (exfalso; simp_all; done)⟩
   repeat (refine ⟨zAA, ?_⟩)
   obtain rfl := Option.some.inj h
   refine mL (tY [] rfl rfl ?_)
   simp only [ren, eF, gZ, posOf, cQ, go_sem]
   refine rL rfl rfl rfl rfl
 ·have h := dQ hq h
  obtain ⟨e, he3, h⟩ := bind_some h
  rcases e with r_14 | p_15
  ·try dsimp only at h
   refine aC (aB (aX hF (bS (l := [(233, ⟨dJ F, [], (false, (1 : Int), .inl r_14)⟩)]) (.cons (fM F) (by kernel_rfl) (.nil))) [0, 1, 2, 3] [] ?_))
   simp only [go_sem]
   repeat (refine ⟨zAA, ?_⟩)
   first | (refine ⟨fun hx => by first | (exfalso; omega) | (exfalso; simp_all; done), fun _ => ?_⟩) | intro _
   repeat (refine ⟨zAA, ?_⟩)
   first | (refine ⟨fun hx => by first | (exfalso; omega) | (exfalso; simp_all; done), fun _ => ?_⟩) | intro _
   repeat (refine ⟨zAA, ?_⟩)
   obtain ⟨e, he4, h⟩ := bind_some h
   rcases e with r_26 | p_27
   ·try dsimp only at h
    refine aC (aB (aX hF (bS (l := [(239, ⟨lF F, [], (a0_0, a1_1, .inl r_26)⟩)]) (.cons (uF F) (by kernel_rfl) (.nil))) [3] [] ?_))
    simp only [go_sem]
    repeat (refine ⟨zAA, ?_⟩)
    obtain rfl := Option.some.inj h
    refine aC (cH (aAH hF [.cell 3 25] [] rfl rfl rfl rfl rfl rfl rfl rfl rfl ?_))
    (try simp only [aT, aDo, aCC, dL, nL, AV.isAgg, go_sem]) <;> first | trivial | rfl | (simp; done)
   ·try dsimp only at h
    refine aC (aB (aX hF (bS (l := [(239, ⟨lF F, [], (a0_0, a1_1, .inr p_27)⟩)]) (.cons (uF F) (by kernel_rfl) (.nil))) [3] [] ?_))
    simp only [go_sem]
    repeat (refine ⟨zAA, ?_⟩)
    obtain rfl := Option.some.inj h
    refine mL (tY [] rfl rfl ?_)
    simp only [ren, eF, gZ, posOf, cQ, go_sem]
    refine rL rfl rfl rfl rfl
  ·try dsimp only at h
   refine aC (aB (aX hF (bS (l := [(233, ⟨dJ F, [], (false, (1 : Int), .inr p_15)⟩)]) (.cons (fM F) (by kernel_rfl) (.nil))) [0, 1, 2, 3] [] ?_))
   simp only [go_sem]
   repeat (refine ⟨zAA, ?_⟩)
   first | (refine ⟨fun hx => by first | (exfalso; omega) | (exfalso; simp_all; done), fun _ => ?_⟩) | intro _
   repeat (refine ⟨zAA, ?_⟩)
   first | (refine ⟨fun hx => by first | (exfalso; omega) | (exfalso; simp_all; done), fun _ => ?_⟩) | intro _
   repeat (refine ⟨zAA, ?_⟩)
   obtain rfl := Option.some.inj h
   refine mL (tY [] rfl rfl ?_)
   simp only [ren, eF, gZ, posOf, cQ, go_sem]
   refine rL rfl rfl rfl rfl
attribute [go_sem] fG
noncomputable def cD (F : Md) (c0 : (Bool × ((List Nat) × (Int × Unit)))) (c1 : (Bool × ((List Nat) × (Int × Unit)))) (c2 : Unit) : Option ((Bool × ((List Nat) × (Int × Unit))) × Int × Unit) :=
 (iA F c0 c1 c2).bind fun q => some (match q with | .inl r => (r, 0, ()) | .inr p => ((false, ([] : List Nat), (0 : Int), ()), p.1, ()))
def jP : Ty := .pair (.clo 256 (.pair (.rp (.pair .bool (.pair (.sl (.u .u64)) (.pair (.i .i64) .unit)))) (.pair (.rp (.pair .bool (.pair (.sl (.u .u64)) (.pair (.i .i64) .unit)))) (.pair (.rp (.clo 239 .unit)) .unit)))) .unit
noncomputable def dF (F : Md) : aG := mSpec jP (.tup (.pair (.pair .bool (.pair (.sl (.u .u64)) (.pair (.i .i64) .unit))) (.pair (.i .i64) .unit))) (fun x => cD F x.1.1 x.1.2.1 x.1.2.2.1)
set_option maxHeartbeats 4000000 in
theorem pD (F : Md) : FOK Tryz.prog GL 180 (dF F) := by
 refine aJn (aW aDG) Tryz.func180 rfl (by kernel_rfl) (by decide) fun w0 S x r hw h => ?_
 have hF : iQ (fr Tryz.prog (EM []) S w0 Tryz.f180.ntmps) := ⟨aW aDG, mix⟩
 obtain ⟨⟨(c0 : (Bool × ((List Nat) × (Int × Unit)))), (c1 : (Bool × ((List Nat) × (Int × Unit)))), (c2 : Unit), u1⟩, u⟩ := x
 replace h : cD F c0 c1 c2 = some r := h
 show Tri _ _ _ [(0, .val (.clo 256 (.pair (.rp (.pair .bool (.pair (.sl (.u .u64)) (.pair (.i .i64) .unit)))) (.pair (.rp (.pair .bool (.pair (.sl (.u .u64)) (.pair (.i .i64) .unit)))) (.pair (.rp (.clo 239 .unit)) .unit)))) (c0, c1, c2, u1))] []
 unfold cD at h
 obtain ⟨q, hq, h⟩ := bind_some h
 obtain rfl := Option.some.inj h
 refine aB (aU hF [0, 2, 3] ?_)
 simp only [go_sem]
 refine aC (aDz 2 [0, 1] rfl rfl (Nat.zero_le _) (by decide) fun roots hroots => ?_)
 have hF' : iQ { fr Tryz.prog (EM []) S w0 Tryz.f180.ntmps with M := ⟨nothing, S, 2, roots⟩, ds := [⟨.fn (.func 232) ([0, 1].map roots).toArray, #[]⟩] } := ⟨aW aDG, mix⟩
 rcases q with q | q
 ·refine aB (aX hF' (bS (l := [(256, ⟨fG F, [], (c0, c1, c2, .inl q)⟩)]) (.cons (pC F) (by kernel_rfl) .nil)) [2, 3] [] ?_)
  simp only [go_sem]
  refine ⟨hq, ?_⟩
  refine aC (cH ?_)
  refine aOL (fn := Tryz.f180) (k := 2) (l2 := [0, 1]) hF' rfl rfl (by decide) rfl (aE6 (by kernel_rfl)) ⟨jI, [0, 1], (q, 0)⟩ aCF rfl [.cell 2 25, .cell 3 3] rfl ?_ ?_
  ·(simp only [jI, go_sem]) <;> first | decide | trivial
  ·(simp only [jI, aT, fE, go_sem]) <;> first | decide | trivial
 ·refine aB (aX hF' (bS (l := [(256, ⟨fG F, [], (c0, c1, c2, .inr q)⟩)]) (.cons (pC F) (by kernel_rfl) .nil)) [2, 3] [] ?_)
  simp only [go_sem]
  refine ⟨hq, ?_⟩
  refine mL ?_
  refine aOM (fn := Tryz.f180) (k := 2) (l2 := [0, 1]) hF' rfl rfl (by decide) rfl (aE6 (by kernel_rfl)) ⟨jJ q, [0, 1], ((false, ([] : List Nat), (0 : Int), ()), 0)⟩ (aCG q) rfl [.cell 2 25, .cell 3 3] rfl ?_ ?_
  ·(simp only [jJ, go_sem]) <;> first | decide | trivial
  ·(simp only [jJ, aT, fE, go_sem]) <;> first | decide | trivial
attribute [go_sem] dF jP
noncomputable def jX (F : Md) (a_0 : (Bool × ((List Nat) × (Int × Unit)))) (b_1 : (Bool × ((List Nat) × (Int × Unit)))) (do_2 : Unit) : Option ((Bool × ((List Nat) × (Int × Unit))) × (Int × Unit)) :=
 ck ((cD F a_0 b_1 do_2).isSome = true) (some (((cD F a_0 b_1 do_2).getD ((false, ([] : List Nat), (0 : Int), ()), (0 : Int), ())).1, ((cD F a_0 b_1 do_2).getD ((false, ([] : List Nat), (0 : Int), ()), (0 : Int), ())).2.1, ()))
def jY : Ty := .pair (.pair .bool (.pair (.sl (.u .u64)) (.pair (.i .i64) .unit))) (.pair (.pair .bool (.pair (.sl (.u .u64)) (.pair (.i .i64) .unit))) (.pair (.clo 239 .unit) .unit))
attribute [go_sem] jY
noncomputable def iX (F : Md) : aG := mSpec jY (.tup (.pair (.pair .bool (.pair (.sl (.u .u64)) (.pair (.i .i64) .unit))) (.pair (.i .i64) .unit))) (fun x => jX F x.1 x.2.1 x.2.2.1)
noncomputable def nA (F : Md) : List (FuncId × aG) := [(180, (dF F))]
theorem sZ (F : Md) : bC Tryz.prog GL (nA F) := .cons (pD F) (by kernel_rfl) (.nil)
theorem yV (F : Md) : gam (nA F) 180 = some (dF F) := rfl
attribute [go_sem] yV
set_option maxHeartbeats 4000000 in
theorem aBA (F : Md) : FOK Tryz.prog GL 238 (iX F) := by
 refine kN (aW (sZ F)) Tryz.func238 rfl (by kernel_rfl) (by decide) fun w0 S x r hw h => ?_
 have hF : iQ (fr Tryz.prog (EM (nA F)) S w0 Tryz.f238.ntmps) := ⟨aW (sZ F), mix⟩
 obtain ⟨(a_0 : (Bool × ((List Nat) × (Int × Unit)))), (b_1 : (Bool × ((List Nat) × (Int × Unit)))), (do_2 : Unit), u⟩ := x
 simp only [jY, Ty.wf, lO] at hw
 simp only [bH, jY]
 try dsimp only at h
 replace h : jX F a_0 b_1 do_2 = some r := h
 unfold jX at h
 refine aB (aU hF [3, 4, 5, 6] ?_)
 simp only [go_sem]
 refine aC (aB (vC 0 rfl ?_))
 simp only [go_sem]
 refine vC 1 rfl ?_
 simp only [go_sem]
 refine vC 2 rfl ?_
 simp only [go_sem]
 refine aU hF [6, 7] ?_
 simp only [go_sem]
 obtain ⟨g0, h⟩ := aJ h
 repeat (refine ⟨zAA, ?_⟩)
 obtain rfl := Option.some.inj h
 refine aC (cH (dC hF [.cell 6 25, .tmp 7] rfl rfl rfl ?_))
 exact zAH
attribute [go_sem] iX
noncomputable def aBB (F : Md) (a_0 : (Bool × ((List Nat) × (Int × Unit)))) (b_1 : (Bool × ((List Nat) × (Int × Unit)))) : Option ((Bool × ((List Nat) × (Int × Unit))) × (Int × Unit)) :=
 (jX F a_0 b_1 ()).bind (fun v_4 => some (v_4.1, v_4.2.1, ()))
def aHx : PlR := ⟨[(0, .B [2, 3, 4]), (1, .B [4, 5])], []⟩
def aJP : Ty := .pair (.pair .bool (.pair (.sl (.u .u64)) (.pair (.i .i64) .unit))) (.pair (.pair .bool (.pair (.sl (.u .u64)) (.pair (.i .i64) .unit))) .unit)
noncomputable def zL (F : Md) : aG := mSpec aJP (.tup (.pair (.pair .bool (.pair (.sl (.u .u64)) (.pair (.i .i64) .unit))) (.pair (.i .i64) .unit))) (fun x => aBB F x.1 x.2.1)
noncomputable def aJQ (F : Md) : List (FuncId × aG) := [(238, (iX F))]
theorem aN3 (F : Md) : bC Tryz.prog GL (aJQ F) := .cons (aBA F) (by kernel_rfl) (.nil)
theorem aJR (F : Md) : gam (aJQ F) 238 = some (iX F) := rfl
attribute [go_sem] aJP aHx aJR
set_option maxHeartbeats 4000000 in
theorem aM9 (F : Md) : FOK Tryz.prog GL 201 (zL F) := by
 refine bG (aW (aN3 F)) mix Tryz.func201 rfl (by kernel_rfl) (by decide) aHx fun w0 S x Θ hw h hF => ?_
 obtain ⟨(a_0 : (Bool × ((List Nat) × (Int × Unit)))), (b_1 : (Bool × ((List Nat) × (Int × Unit)))), u⟩ := x
 simp only [bH, go_sem]
 replace h : sat (aBB F a_0 b_1) _ := h
 unfold aBB at h
 obtain ⟨v_4, hv, h⟩ := aH h
 try simp only [hv, go_sem]
 exact aF hF [.cell 4 25, .tmp 5] rfl rfl rfl (aA h) (by simp only [aT, go_sem])
attribute [go_sem] zL
end Nu
end Go.Proofs
namespace Go.Proofs
open Go.Vc
set_option maxRecDepth 20000
namespace Nu
def aJS : ByteArray := ⟨⟨97 :: 98 :: 99 :: 100 :: 101 :: 102 :: 103 :: 104 :: 105 :: 106 :: 107 :: 108 :: 109 :: 110 :: 111 :: 112 :: 113 :: 114 :: 115 :: 116 :: 117 :: 118 :: 119 :: 120 :: 121 :: 122 :: 48 :: 49 :: 50 :: 51 :: 52 :: 53 :: 54 :: 55 :: 56 :: 57 :: 95 :: []⟩⟩
theorem aKC : (⟨⟨97 :: 98 :: 99 :: 100 :: 101 :: 102 :: 103 :: 104 :: 105 :: 106 :: 107 :: 108 :: 109 :: 110 :: 111 :: 112 :: 113 :: 114 :: 115 :: 116 :: 117 :: 118 :: 119 :: 120 :: 121 :: 122 :: 48 :: 49 :: 50 :: 51 :: 52 :: 53 :: 54 :: 55 :: 56 :: 57 :: 95 :: []⟩⟩ : ByteArray) = aJS := rfl
attribute [go_sem] aKC
noncomputable def jQ (F : Md) (c_1 : Nat) (s_5 : (List Nat)) : Option ((List Nat) ⊕ (List Nat)) :=
 ck (((0 : Int) < (((s_5.length) : Nat) : Int)) → (I64 ((((s_5.length) : Nat) : Int) - (1 : Int)))) (ck (((0 : Int) < (((s_5.length) : Nat) : Int)) → (0 ≤ ((((s_5.length) : Nat) : Int) - (1 : Int)) ∧ ((((s_5.length) : Nat) : Int) - (1 : Int)) < (((s_5.length) : Nat) : Int))) (if ((0 : Int) < (((s_5.length) : Nat) : Int)) ∧ ((s_5.getD ((((s_5.length) : Nat) : Int) - (1 : Int)).toNat (0 : Nat)) = c_1) then ck (I64 ((((s_5.length) : Nat) : Int) - (1 : Int))) (ck (0 ≤ ((((s_5.length) : Nat) : Int) - (1 : Int)) ∧ ((((s_5.length) : Nat) : Int) - (1 : Int)) ≤ (((s_5.length) : Nat) : Int)) (some (.inl (List.take ((((s_5.length) : Nat) : Int) - (1 : Int)).toNat s_5)))) else some (.inr s_5)))
noncomputable def iB (F : Md) (s_0 : (List Nat)) (c_1 : Nat) : Option (List Nat) :=
 (cW F (fun d : (List Nat) => jQ F c_1 d) s_0).bind (fun e => some e)
def pE : PlR := ⟨[(0, .A [0, 1]), (1, .A [0, 1, 16]), (2, .A [0, 1]), (3, .A [4])], []⟩
def qW : Ty := .pair .str (.pair (.u .u8) .unit)
noncomputable def gM (F : Md) : aG := mSpec qW (.one .str) (fun x => iB F x.1 x.2.1)
noncomputable def aAK (F : Md) : List (FuncId × aG) := []
theorem aAL (F : Md) : bC Tryz.prog GL (aAK F) := .nil
attribute [go_sem] qW pE
set_option maxHeartbeats 4000000 in
theorem aAh (F : Md) : FOK Tryz.prog GL 143 (gM F) := by
 refine bG (aW (aAL F)) mix Tryz.func143 rfl (by kernel_rfl) (by decide) pE fun w0 S x Θ hw h hF => ?_
 obtain ⟨(s_0 : (List Nat)), (c_1 : Nat), u⟩ := x
 simp only [bH, go_sem]
 replace h : sat (iB F s_0 c_1) _ := h
 unfold iB at h
 refine cB hF (D := (List Nat)) [1] (fun d => [(0, .val .str d)]) (fun d => []) h rfl (by simp only [go_sem]) ?_
 rintro s_5 A1 T1 hA1 hE1 h
 simp only [go_sem]
 replace h : sat (jQ F c_1 s_5) _ := h
 unfold jQ at h
 refine aP h fun g0 h => aP h fun g1 h => ?_
 refine ⟨fun hc => ?_, fun hc => ?_⟩
 ·replace h := hP hc h
  refine aP h fun g0 h => aP h fun g1 h => ?_
  replace h := hA1 _ (aA h)
  exact aQ _ h rfl (by simp only [go_sem])
 ·replace h := hU hc h
  replace h := hE1 _ (aA h)
  try dsimp only at h
  exact aF hF [.tmp 4] rfl rfl rfl (aA h) (by simp only [aT, go_sem])
attribute [go_sem] gM
noncomputable def kK (F : Md) (c_1 : Nat) (s_5 : (List Nat)) : Option ((List Nat) ⊕ (List Nat)) :=
 ck (((0 : Int) < (((s_5.length) : Nat) : Int)) → ((0 : Int) < (((s_5.length) : Nat) : Int))) (if ((0 : Int) < (((s_5.length) : Nat) : Int)) ∧ ((s_5.getD (0 : Nat) (0 : Nat)) = c_1) then ck ((1 : Int) ≤ (((s_5.length) : Nat) : Int)) (some (.inl (List.drop (1 : Nat) s_5))) else some (.inr s_5))
noncomputable def iY (F : Md) (s_0 : (List Nat)) (c_1 : Nat) : Option (List Nat) :=
 (cW F (fun d : (List Nat) => kK F c_1 d) s_0).bind (fun e => some e)
def qX : PlR := ⟨[(0, .A [0, 1]), (1, .A [0, 1, 13]), (2, .A [0, 1]), (3, .A [4])], []⟩
def rU : Ty := .pair .str (.pair (.u .u8) .unit)
noncomputable def iC (F : Md) : aG := mSpec rU (.one .str) (fun x => iY F x.1 x.2.1)
noncomputable def aBC (F : Md) : List (FuncId × aG) := []
theorem aBD (F : Md) : bC Tryz.prog GL (aBC F) := .nil
attribute [go_sem] rU qX
set_option maxHeartbeats 4000000 in
theorem aAM (F : Md) : FOK Tryz.prog GL 142 (iC F) := by
 refine bG (aW (aBD F)) mix Tryz.func142 rfl (by kernel_rfl) (by decide) qX fun w0 S x Θ hw h hF => ?_
 obtain ⟨(s_0 : (List Nat)), (c_1 : Nat), u⟩ := x
 simp only [bH, go_sem]
 replace h : sat (iY F s_0 c_1) _ := h
 unfold iY at h
 refine cB hF (D := (List Nat)) [1] (fun d => [(0, .val .str d)]) (fun d => []) h rfl (by simp only [go_sem]) ?_
 rintro s_5 A1 T1 hA1 hE1 h
 simp only [go_sem]
 replace h : sat (kK F c_1 s_5) _ := h
 unfold kK at h
 refine aP h fun g0 h => ?_
 refine ⟨fun hc => ?_, fun hc => ?_⟩
 ·replace h := hP hc h
  refine aP h fun g0 h => ?_
  replace h := hA1 _ (aA h)
  exact aQ _ h rfl (by simp only [go_sem])
 ·replace h := hU hc h
  replace h := hE1 _ (aA h)
  try dsimp only at h
  exact aF hF [.tmp 4] rfl rfl rfl (aA h) (by simp only [aT, go_sem])
attribute [go_sem] iC
noncomputable def dX (F : Md) (as_0 : (List Bool)) (c_1 : Nat) : Option Bool :=
 ck (0 ≤ ((c_1 : Nat) : Int) ∧ ((c_1 : Nat) : Int) < (256 : Int)) (some (as_0.getD c_1 false))
def mP : PlR := ⟨[(0, .A [0, 1]), (1, .A [4])], []⟩
def nC : Ty := .pair (.rp (.arr 256 .bool)) (.pair (.u .u8) .unit)
noncomputable def cR (F : Md) : aG := mSpec nC (.one .bool) (fun x => dX F x.1 x.2.1)
noncomputable def wU (F : Md) : List (FuncId × aG) := []
theorem wV (F : Md) : bC Tryz.prog GL (wU F) := .nil
attribute [go_sem] nC mP
set_option maxHeartbeats 4000000 in
theorem mQ (F : Md) : FOK Tryz.prog GL 205 (cR F) := by
 refine bG (aW (wV F)) mix Tryz.func205 rfl (by kernel_rfl) (by decide) mP fun w0 S x Θ hw h hF => ?_
 obtain ⟨(as_0 : (List Bool)), (c_1 : Nat), u⟩ := x
 simp only [bH, go_sem]
 replace h : sat (dX F as_0 c_1) _ := h
 unfold dX at h
 refine aP h fun g0 h => ?_
 exact aF hF [.tmp 4] rfl rfl rfl (aA h) (by simp only [aT, go_sem])
attribute [go_sem] cR
noncomputable def kL (F : Md) (chars_0 : (List Nat)) (i_6 : Int) (as_7 : (List Bool)) : Option ((Int × (List Bool)) ⊕ ((List Bool) ⊕ ((List Bool) × (Bool × Unit)))) :=
 if i_6 < (((chars_0.length) : Nat) : Int) then ck (0 ≤ i_6 ∧ i_6 < (((chars_0.length) : Nat) : Int)) (if (128 : Nat) ≤ (chars_0.getD (i_6.toNat) (0 : Nat)) then some (.inr (.inr (as_7, false, ()))) else ck (0 ≤ (((chars_0.getD (i_6.toNat) (0 : Nat)) : Nat) : Int) ∧ (((chars_0.getD (i_6.toNat) (0 : Nat)) : Nat) : Int) < (256 : Int)) (ck (I64 (i_6 + (1 : Int))) (some (.inl ((i_6 + (1 : Int)), (as_7.set (chars_0.getD (i_6.toNat) (0 : Nat)) true)))))) else some (.inr (.inl as_7))
noncomputable def iZ (F : Md) (chars_0 : (List Nat)) : Option ((List Bool) × (Bool × Unit)) :=
 (cW F (fun d : Int × (List Bool) => kL F chars_0 d.1 d.2) ((0 : Int), (List.replicate 256 false))).bind (fun e => match e with | (.inl e) => some (e, true, ()) | (.inr e) => some e)
def qY : PlR := ⟨[(0, .B [0, 2]), (1, .A [0, 2, 4]), (2, .A [0, 2, 4, 9]), (3, .A [0, 2, 4]), (4, .A [0, 2, 4, 5]), (5, .A [0, 2, 4, 5, 16]), (6, .B [2, 3]), (7, .B [0, 2, 4]), (8, .B [2, 3])], []⟩
def rV : Ty := .pair .str .unit
noncomputable def iD (F : Md) : aG := mSpec rV (.tup (.pair (.arr 256 .bool) (.pair .bool .unit))) (fun x => iZ F x.1)
noncomputable def aBE (F : Md) : List (FuncId × aG) := []
theorem aBF (F : Md) : bC Tryz.prog GL (aBE F) := .nil
attribute [go_sem] rV qY
set_option maxHeartbeats 4000000 in
theorem aAN (F : Md) : FOK Tryz.prog GL 144 (iD F) := by
 refine bG (aW (aBF F)) mix Tryz.func144 rfl (by kernel_rfl) (by decide) qY fun w0 S x Θ hw h hF => ?_
 obtain ⟨(chars_0 : (List Nat)), u⟩ := x
 simp only [bH, go_sem]
 replace h : sat (iZ F chars_0) _ := h
 unfold iZ at h
 refine cB hF (D := Int × (List Bool)) [0] (fun d => [(2, .ptr 0 []), (4, .val (.i .i64) d.1)]) (fun d => [.inr (.box 256 (.val (.arr 256 .bool) d.2))]) h rfl (by simp only [go_sem]) ?_
 rintro ⟨i_6, as_7⟩ A2 T2 hA2 hE2 h
 simp only [go_sem]
 replace h : sat (kL F chars_0 i_6 as_7) _ := h
 unfold kL at h
 refine fF h (fun hc h => ?_) fun hc h => ?_
 ·obtain ⟨g0, h⟩ := aM h
  repeat (refine ⟨by omega, ?_⟩)
  refine cT h (fun hc h => ?_) fun hc h => ?_
  ·replace h := hE2 _ (aA h)
   try dsimp only at h
   exact aF hF [.cell 2 174, .tmp 3] rfl rfl rfl (aA h) (by simp only [aT, go_sem])
  ·obtain ⟨g0, h⟩ := aM h
   repeat (refine ⟨by omega, ?_⟩)
   obtain ⟨g0, h⟩ := aM h
   repeat (refine ⟨by omega, ?_⟩)
   replace h := hA2 _ (aA h)
   exact aQ _ h rfl (by simp only [go_sem])
 ·replace h := hE2 _ (aA h)
  try dsimp only at h
  exact aF hF [.cell 2 174, .tmp 3] rfl rfl rfl (aA h) (by simp only [aT, go_sem])
attribute [go_sem] iD
noncomputable def jA (F : Md) (as_1 : (List Bool)) (s_11 : (List Nat)) : Option ((List Nat) ⊕ (List Nat)) :=
 if (0 : Int) < (((s_11.length) : Nat) : Int) then ck (I64 ((((s_11.length) : Nat) : Int) - (1 : Int))) (ck (0 ≤ ((((s_11.length) : Nat) : Int) - (1 : Int)) ∧ ((((s_11.length) : Nat) : Int) - (1 : Int)) < (((s_11.length) : Nat) : Int)) ((dX F as_1 (s_11.getD ((((s_11.length) : Nat) : Int) - (1 : Int)).toNat (0 : Nat))).bind (fun v_21 => if ¬ (v_21 = true) then some (.inr s_11) else ck (I64 ((((s_11.length) : Nat) : Int) - (1 : Int))) (ck (0 ≤ ((((s_11.length) : Nat) : Int) - (1 : Int)) ∧ ((((s_11.length) : Nat) : Int) - (1 : Int)) ≤ (((s_11.length) : Nat) : Int)) (some (.inl (List.take ((((s_11.length) : Nat) : Int) - (1 : Int)).toNat s_11))))))) else some (.inr s_11)
noncomputable def gN (F : Md) (s_0 : (List Nat)) (as_1 : (List Bool)) : Option (List Nat) :=
 (cW F (fun d : (List Nat) => jA F as_1 d) s_0).bind (fun e => some e)
def oP : PlR := ⟨[(0, .A [0, 1]), (1, .A [0, 1, 7]), (2, .A [0, 1, 15]), (3, .A [0, 1]), (4, .A [4])], []⟩
def pF : Ty := .pair .str (.pair (.rp (.arr 256 .bool)) .unit)
noncomputable def gA (F : Md) : aG := mSpec pF (.one .str) (fun x => gN F x.1 x.2.1)
noncomputable def pG (F : Md) : List (FuncId × aG) := [(205, (cR F))]
theorem aAi (F : Md) : bC Tryz.prog GL (pG F) := .cons (mQ F) (by kernel_rfl) (.nil)
theorem vP (F : Md) : gam (pG F) 205 = some (cR F) := rfl
attribute [go_sem] pF oP vP
set_option maxHeartbeats 4000000 in
theorem yW (F : Md) : FOK Tryz.prog GL 146 (gA F) := by
 refine bG (aW (aAi F)) mix Tryz.func146 rfl (by kernel_rfl) (by decide) oP fun w0 S x Θ hw h hF => ?_
 obtain ⟨(s_0 : (List Nat)), (as_1 : (List Bool)), u⟩ := x
 simp only [bH, go_sem]
 replace h : sat (gN F s_0 as_1) _ := h
 unfold gN at h
 refine cB hF (D := (List Nat)) [1] (fun d => [(0, .val .str d)]) (fun d => []) h rfl (by simp only [go_sem]) ?_
 rintro s_11 A1 T1 hA1 hE1 h
 simp only [go_sem]
 replace h : sat (jA F as_1 s_11) _ := h
 unfold jA at h
 refine fF h (fun hc h => ?_) fun hc h => ?_
 ·refine aP h fun g0 h => aP h fun g1 h => ?_
  obtain ⟨v_21, hv, h⟩ := aH h
  try simp only [hv, go_sem]
  refine aGn h (fun hc h => ?_) fun hc h => ?_
  ·replace h := hE1 _ (aA h)
   try dsimp only at h
   exact aF hF [.tmp 4] rfl rfl rfl (aA h) (by simp only [aT, go_sem])
  ·refine aP h fun g0 h => aP h fun g1 h => ?_
   replace h := hA1 _ (aA h)
   exact aQ _ h rfl (by simp only [go_sem])
 ·replace h := hE1 _ (aA h)
  try dsimp only at h
  exact aF hF [.tmp 4] rfl rfl rfl (aA h) (by simp only [aT, go_sem])
attribute [go_sem] gA
noncomputable def jR (F : Md) (as_1 : (List Bool)) (s_11 : (List Nat)) : Option ((List Nat) ⊕ (List Nat)) :=
 if (0 : Int) < (((s_11.length) : Nat) : Int) then ck ((0 : Int) < (((s_11.length) : Nat) : Int)) ((dX F as_1 (s_11.getD (0 : Nat) (0 : Nat))).bind (fun v_21 => if ¬ (v_21 = true) then some (.inr s_11) else ck ((1 : Int) ≤ (((s_11.length) : Nat) : Int)) (some (.inl (List.drop (1 : Nat) s_11))))) else some (.inr s_11)
noncomputable def iE (F : Md) (s_0 : (List Nat)) (as_1 : (List Bool)) : Option (List Nat) :=
 (cW F (fun d : (List Nat) => jR F as_1 d) s_0).bind (fun e => some e)
def pH : PlR := ⟨[(0, .A [0, 1]), (1, .A [0, 1, 7]), (2, .A [0, 1, 12]), (3, .A [0, 1]), (4, .A [4])], []⟩
def qZ : Ty := .pair .str (.pair (.rp (.arr 256 .bool)) .unit)
noncomputable def gO (F : Md) : aG := mSpec qZ (.one .str) (fun x => iE F x.1 x.2.1)
noncomputable def rA (F : Md) : List (FuncId × aG) := [(205, (cR F))]
theorem aAO (F : Md) : bC Tryz.prog GL (rA F) := .cons (mQ F) (by kernel_rfl) (.nil)
theorem wW (F : Md) : gam (rA F) 205 = some (cR F) := rfl
attribute [go_sem] qZ pH wW
set_option maxHeartbeats 4000000 in
theorem aAj (F : Md) : FOK Tryz.prog GL 145 (gO F) := by
 refine bG (aW (aAO F)) mix Tryz.func145 rfl (by kernel_rfl) (by decide) pH fun w0 S x Θ hw h hF => ?_
 obtain ⟨(s_0 : (List Nat)), (as_1 : (List Bool)), u⟩ := x
 simp only [bH, go_sem]
 replace h : sat (iE F s_0 as_1) _ := h
 unfold iE at h
 refine cB hF (D := (List Nat)) [1] (fun d => [(0, .val .str d)]) (fun d => []) h rfl (by simp only [go_sem]) ?_
 rintro s_11 A1 T1 hA1 hE1 h
 simp only [go_sem]
 replace h : sat (jR F as_1 s_11) _ := h
 unfold jR at h
 refine fF h (fun hc h => ?_) fun hc h => ?_
 ·refine aP h fun g0 h => ?_
  obtain ⟨v_21, hv, h⟩ := aH h
  try simp only [hv, go_sem]
  refine aGn h (fun hc h => ?_) fun hc h => ?_
  ·replace h := hE1 _ (aA h)
   try dsimp only at h
   exact aF hF [.tmp 4] rfl rfl rfl (aA h) (by simp only [aT, go_sem])
  ·refine aP h fun g0 h => ?_
   replace h := hA1 _ (aA h)
   exact aQ _ h rfl (by simp only [go_sem])
 ·replace h := hE1 _ (aA h)
  try dsimp only at h
  exact aF hF [.tmp 4] rfl rfl rfl (aA h) (by simp only [aT, go_sem])
attribute [go_sem] gO
noncomputable def rW (F : Md) (s_0 : (List Nat)) (cutset_1 : (List Nat)) : Option (List Nat) :=
 if (s_0 = (aI ⟨#[]⟩)) ∨ (cutset_1 = (aI ⟨#[]⟩)) then some s_0 else ck (((((cutset_1.length) : Nat) : Int) = (1 : Int)) → ((0 : Int) < (((cutset_1.length) : Nat) : Int))) (if ((((cutset_1.length) : Nat) : Int) = (1 : Int)) ∧ ((cutset_1.getD (0 : Nat) (0 : Nat)) < (128 : Nat)) then ck ((0 : Int) < (((cutset_1.length) : Nat) : Int)) ((iB F s_0 (cutset_1.getD (0 : Nat) (0 : Nat))).bind (fun v_19 => ck ((0 : Int) < (((cutset_1.length) : Nat) : Int)) ((iY F v_19 (cutset_1.getD (0 : Nat) (0 : Nat))).bind (fun v_20 => some v_20)))) else (iZ F cutset_1).bind (fun v_27 => if v_27.2.1 = true then (gN F s_0 v_27.1).bind (fun v_34 => (iE F v_34 v_27.1).bind (fun v_35 => some v_35)) else none))
def aBN : PlR := ⟨[(0, .A [0, 1]), (1, .A [0, 1, 12]), (2, .A [4]), (3, .A [0, 1, 21]), (4, .A [4]), (5, .B [0, 1, 5, 6]), (6, .A [0, 1, 5, 34]), (7, .A [4]), (8, .stop)], []⟩
def aCI : Ty := .pair .str (.pair .str .unit)
noncomputable def pU (F : Md) : aG := mSpec aCI (.one .str) (fun x => rW F x.1 x.2.1)
noncomputable def lR (F : Md) : List (FuncId × aG) := [(142, (iC F)), (143, (gM F)), (144, (iD F)), (145, (gO F)), (146, (gA F))]
theorem aJT (F : Md) : bC Tryz.prog GL (lR F) := .cons (aAM F) (by kernel_rfl) (.cons (aAh F) (by kernel_rfl) (.cons (aAN F) (by kernel_rfl) (.cons (aAj F) (by kernel_rfl) (.cons (yW F) (by kernel_rfl) (.nil)))))
theorem aEh (F : Md) : gam (lR F) 142 = some (iC F) := rfl
theorem aEi (F : Md) : gam (lR F) 143 = some (gM F) := rfl
theorem aEj (F : Md) : gam (lR F) 144 = some (iD F) := rfl
theorem aEk (F : Md) : gam (lR F) 145 = some (gO F) := rfl
theorem aEl (F : Md) : gam (lR F) 146 = some (gA F) := rfl
attribute [go_sem] aCI aBN aEh aEi aEj aEk aEl
set_option maxHeartbeats 4000000 in
theorem aH0 (F : Md) : FOK Tryz.prog GL 70 (pU F) := by
 refine bG (aW (aJT F)) mix Tryz.func70 rfl (by kernel_rfl) (by decide) aBN fun w0 S x Θ hw h hF => ?_
 obtain ⟨(s_0 : (List Nat)), (cutset_1 : (List Nat)), u⟩ := x
 simp only [bH, go_sem]
 replace h : sat (rW F s_0 cutset_1) _ := h
 unfold rW at h
 refine ⟨fun hc => ?_, fun hc => ?_⟩
 ·replace h := hP hc h
  exact aF hF [.tmp 4] rfl rfl rfl (aA h) (by simp only [aT, go_sem])
 ·replace h := hU hc h
  refine aP h fun g0 h => ?_
  refine ⟨fun hc => ?_, fun hc => ?_⟩
  ·replace h := hP hc h
   refine aP h fun g0 h => ?_
   obtain ⟨v_19, hv, h⟩ := aH h
   try simp only [hv, go_sem]
   refine aP h fun g0 h => ?_
   obtain ⟨v_20, hv, h⟩ := aH h
   try simp only [hv, go_sem]
   exact aF hF [.tmp 4] rfl rfl rfl (aA h) (by simp only [aT, go_sem])
  ·replace h := hU hc h
   obtain ⟨v_27, hv, h⟩ := aH h
   try simp only [hv, go_sem]
   refine aE8 h (fun hc h => ?_) fun hc h => ?_
   ·obtain ⟨v_34, hv, h⟩ := aH h
    try simp only [hv, go_sem]
    obtain ⟨v_35, hv, h⟩ := aH h
    try simp only [hv, go_sem]
    exact aF hF [.tmp 4] rfl rfl rfl (aA h) (by simp only [aT, go_sem])
   ·exact aAI h
attribute [go_sem] pU
noncomputable def jM (F : Md) : Option (List (List Nat)) :=
 some ([(aI ⟨#[116]⟩), (aI ⟨#[115, 113, 114]⟩), (aI ⟨#[115, 113, 114, 116]⟩), (aI ⟨#[101, 120, 112]⟩), (aI ⟨#[112, 114, 101, 99]⟩), (aI ⟨#[101, 110, 100]⟩), (aI ⟨#[115, 116, 101, 112]⟩), (aI ⟨#[116, 111, 108]⟩), (aI ⟨#[116, 114, 105, 101, 115]⟩), (aI ⟨#[111, 114, 100, 101, 114]⟩), (aI ⟨#[106, 97, 99, 111, 98, 105]⟩), (aI ⟨#[115, 101, 105, 100, 101, 108]⟩), (aI ⟨#[115, 117, 98]⟩), (aI ⟨#[115, 116, 97, 116, 101]⟩), (aI ⟨#[112, 97, 114]⟩), (aI ⟨#[105, 110]⟩), (aI ⟨#[111, 117, 116]⟩), (aI ⟨#[100, 101, 114]⟩), (aI ⟨#[108, 105, 110, 107]⟩)] : List (List Nat))
def zM : PlR := ⟨[(0, .A []), (1, .A [0])], []⟩
def aAP : Ty := .unit
noncomputable def nD (F : Md) : aG := mSpec aAP (.one (.sl .str)) (fun x => jM F )
noncomputable def aGx (F : Md) : List (FuncId × aG) := []
theorem aGy (F : Md) : bC Tryz.prog GL (aGx F) := .nil
attribute [go_sem] aAP zM
set_option maxHeartbeats 4000000 in
theorem aFt (F : Md) : FOK Tryz.prog GL 72 (nD F) := by
 refine bG (aW (aGy F)) mix Tryz.func72 rfl (by kernel_rfl) (by decide) zM fun w0 S x Θ hw h hF => ?_
 simp only [bH, go_sem]
 replace h : sat (jM F) _ := h
 unfold jM at h
 exact aF hF [.tmp 0] rfl rfl rfl (aA h) (by (simp only [aT, go_sem]) <;> first | rfl | (simp; done))
attribute [go_sem] nD
noncomputable def lG (F : Md) (s_0 : (List (List Nat))) (v_1 : (List Nat)) (x8_5 : Int) : Option ((Int) ⊕ ((Unit) ⊕ Int)) :=
 if x8_5 < (((s_0.length) : Nat) : Int) then ck (0 ≤ x8_5 ∧ x8_5 < (((s_0.length) : Nat) : Int)) (if v_1 = (s_0.getD (x8_5.toNat) ([] : List Nat)) then some (.inr (.inr x8_5)) else ck (I64 (x8_5 + (1 : Int))) (some (.inl (x8_5 + (1 : Int))))) else some (.inr (.inl ()))
noncomputable def jZ (F : Md) (s_0 : (List (List Nat))) (v_1 : (List Nat)) : Option Int :=
 (cW F (fun d : Int => lG F s_0 v_1 d) (0 : Int)).bind (fun e => match e with | (.inl e) => some (-1 : Int) | (.inr e) => some e)
def rX : PlR := ⟨[(0, .A [0, 1]), (1, .A [0, 1, 7, 8]), (2, .A [0, 1, 7, 8, 9]), (3, .A [0, 1, 5, 7, 8]), (4, .A [0, 1, 5, 7, 8, 16]), (5, .A [4]), (6, .A [0, 1, 7, 8]), (7, .A [4])], []⟩
def tA : Ty := .pair (.sl .str) (.pair .str .unit)
noncomputable def jB (F : Md) : aG := mSpec tA (.one (.i .i64)) (fun x => jZ F x.1 x.2.1)
noncomputable def aB7 (F : Md) : List (FuncId × aG) := []
theorem aB8 (F : Md) : bC Tryz.prog GL (aB7 F) := .nil
attribute [go_sem] tA rX
set_option maxHeartbeats 4000000 in
theorem aBG (F : Md) : FOK Tryz.prog GL 149 (jB F) := by
 refine bG (aW (aB8 F)) mix Tryz.func149 rfl (by kernel_rfl) (by decide) rX fun w0 S x Θ hw h hF => ?_
 obtain ⟨(s_0 : (List (List Nat))), (v_1 : (List Nat)), u⟩ := x
 simp only [bH, go_sem]
 replace h : sat (jZ F s_0 v_1) _ := h
 unfold jZ at h
 refine cB hF (D := Int) [0, 1, 7] (fun d => [(8, .val (.i .i64) d)]) (fun d => []) h rfl (by simp only [go_sem]) ?_
 rintro x8_5 A2 T2 hA2 hE2 h
 simp only [go_sem]
 replace h : sat (lG F s_0 v_1 x8_5) _ := h
 unfold lG at h
 refine fF h (fun hc h => ?_) fun hc h => ?_
 ·refine aP h fun g0 h => ?_
  refine cT h (fun hc h => ?_) fun hc h => ?_
  ·replace h := hE2 _ (aA h)
   try dsimp only at h
   exact aF hF [.tmp 4] rfl rfl rfl (aA h) (by simp only [aT, go_sem])
  ·refine aP h fun g0 h => ?_
   replace h := hA2 _ (aA h)
   exact aQ _ h rfl (by simp only [go_sem])
 ·replace h := hE2 _ (aA h)
  try dsimp only at h
  exact aF hF [.tmp 4] rfl rfl rfl (aA h) (by simp only [aT, go_sem])
attribute [go_sem] jB
noncomputable def cY (F : Md) (s_0 : (List (List Nat))) (v_1 : (List Nat)) : Option Bool :=
 (jZ F s_0 v_1).bind (fun v_6 => some (decide ((0 : Int) ≤ v_6)))
def oQ : PlR := ⟨[(0, .A [0, 1]), (1, .A [4])], []⟩
def pI : Ty := .pair (.sl .str) (.pair .str .unit)
noncomputable def dI (F : Md) : aG := mSpec pI (.one .bool) (fun x => cY F x.1 x.2.1)
noncomputable def pJ (F : Md) : List (FuncId × aG) := [(149, (jB F))]
theorem aAk (F : Md) : bC Tryz.prog GL (pJ F) := .cons (aBG F) (by kernel_rfl) (.nil)
theorem vQ (F : Md) : gam (pJ F) 149 = some (jB F) := rfl
attribute [go_sem] pI oQ vQ
set_option maxHeartbeats 4000000 in
theorem oR (F : Md) : FOK Tryz.prog GL 71 (dI F) := by
 refine bG (aW (aAk F)) mix Tryz.func71 rfl (by kernel_rfl) (by decide) oQ fun w0 S x Θ hw h hF => ?_
 obtain ⟨(s_0 : (List (List Nat))), (v_1 : (List Nat)), u⟩ := x
 simp only [bH, go_sem]
 replace h : sat (cY F s_0 v_1) _ := h
 unfold cY at h
 obtain ⟨v_6, hv, h⟩ := aH h
 try simp only [hv, go_sem]
 exact aF hF [.tmp 4] rfl rfl rfl (aA h) (by simp only [aT, go_sem])
attribute [go_sem] dI
noncomputable def wX (F : Md) (s_0 : (List Nat)) : Option Bool :=
 ck (¬ (((((s_0.length) : Nat) : Int) < (1 : Int)) ∨ ((20 : Int) < (((s_0.length) : Nat) : Int))) → ((0 : Int) < (((s_0.length) : Nat) : Int))) (ck (¬ ((((((s_0.length) : Nat) : Int) < (1 : Int)) ∨ ((20 : Int) < (((s_0.length) : Nat) : Int))) ∨ ((s_0.getD (0 : Nat) (0 : Nat)) < (97 : Nat))) → ((0 : Int) < (((s_0.length) : Nat) : Int))) (if ((((((s_0.length) : Nat) : Int) < (1 : Int)) ∨ ((20 : Int) < (((s_0.length) : Nat) : Int))) ∨ ((s_0.getD (0 : Nat) (0 : Nat)) < (97 : Nat))) ∨ ((122 : Nat) < (s_0.getD (0 : Nat) (0 : Nat))) then some false else (rW F s_0 (aI aJS)).bind (fun v_5 => ck ((v_5 = (aI ⟨#[]⟩)) → ((jM F).isSome = true)) (ck ((v_5 = (aI ⟨#[]⟩)) → ((cY F ((jM F).getD ([] : List (List Nat))) s_0).isSome = true)) (some ((decide (v_5 = (aI ⟨#[]⟩))) && (!((cY F ((jM F).getD ([] : List (List Nat))) s_0).getD false))))))))
def aDI : PlR := ⟨[(0, .A [0]), (1, .A [0, 20]), (2, .A [2]), (3, .A [2])], []⟩
def aFu : Ty := .pair .str .unit
noncomputable def uG (F : Md) : aG := mSpec aFu (.one .bool) (fun x => wX F x.1)
noncomputable def wY (F : Md) : List (FuncId × aG) := [(70, (pU F)), (71, (dI F)), (72, (nD F))]
theorem aL5 (F : Md) : bC Tryz.prog GL (wY F) := .cons (aH0 F) (by kernel_rfl) (.cons (oR F) (by kernel_rfl) (.cons (aFt F) (by kernel_rfl) (.nil)))
theorem aH1 (F : Md) : gam (wY F) 70 = some (pU F) := rfl
theorem aH2 (F : Md) : gam (wY F) 71 = some (dI F) := rfl
theorem aH3 (F : Md) : gam (wY F) 72 = some (nD F) := rfl
attribute [go_sem] aFu aDI aH1 aH2 aH3
set_option maxHeartbeats 4000000 in
theorem aKD (F : Md) : FOK Tryz.prog GL 29 (uG F) := by
 refine bG (aW (aL5 F)) mix Tryz.func29 rfl (by kernel_rfl) (by decide) aDI fun w0 S x Θ hw h hF => ?_
 obtain ⟨(s_0 : (List Nat)), u⟩ := x
 simp only [bH, go_sem]
 replace h : sat (wX F s_0) _ := h
 unfold wX at h
 obtain ⟨g0, h⟩ := aM h
 obtain ⟨g1, h⟩ := aM h
 repeat (refine ⟨zAE, ?_⟩)
 refine ⟨fun hc => ?_, fun hc => ?_⟩
 ·replace h := hP hc h
  exact aF hF [.tmp 2] rfl rfl rfl (aA h) (by simp only [aT, go_sem])
 ·replace h := hU hc h
  obtain ⟨v_5, hv, h⟩ := aH h
  try simp only [hv, go_sem]
  obtain ⟨g0, h⟩ := aM h
  obtain ⟨g1, h⟩ := aM h
  repeat (refine ⟨zAE, ?_⟩)
  exact aF hF [.tmp 2] rfl rfl rfl (aA h) (by simp only [aT, go_sem])
attribute [go_sem] uG
end Nu
end Go.Proofs
namespace Go.Proofs
open Go.Vc
set_option maxRecDepth 20000
namespace Nu
noncomputable def mG (F : Md) : Option (Int × (Unit × Unit)) :=
 none
noncomputable def mH (F : Md) (s_0 : (List Nat)) (n_14 : Int) : Option (Int × (Unit × Unit)) :=
 ck ((0 : Int) < (((s_0.length) : Nat) : Int)) (if (s_0.getD (0 : Nat) (0 : Nat)) = (45 : Nat) then ck (I64 (0 - n_14)) (some ((0 - n_14), (), ())) else some (n_14, (), ()))
noncomputable def oW (F : Md) (s_9 : (List Nat)) (n_15 : Int) (x49_16 : Int) : Option ((Int × Int) ⊕ ((Int) ⊕ (Int × (Unit × Unit)))) :=
 if x49_16 < (((s_9.length) : Nat) : Int) then ck (0 ≤ x49_16 ∧ x49_16 < (((s_9.length) : Nat) : Int)) (if (9 : Nat) < (vB F .u8 (s_9.getD (x49_16.toNat) (0 : Nat)) (48 : Nat)) then none else ck (I64 (n_15 * (10 : Int))) (ck (I64 ((n_15 * (10 : Int)) + (((vB F .u8 (s_9.getD (x49_16.toNat) (0 : Nat)) (48 : Nat)) : Nat) : Int))) (ck (I64 (x49_16 + (1 : Int))) (some (.inl (((n_15 * (10 : Int)) + (((vB F .u8 (s_9.getD (x49_16.toNat) (0 : Nat)) (48 : Nat)) : Nat) : Int)), (x49_16 + (1 : Int)))))))) else some (.inr (.inl n_15))
noncomputable def jS (F : Md) (s_0 : (List Nat)) (s_9 : (List Nat)) : Option (Int × (Unit × Unit)) :=
 (cW F (fun d : Int × Int => oW F s_9 d.1 d.2) ((0 : Int), (0 : Int))).bind (fun e => match e with | (.inl e) => mH F s_0 e | (.inr e) => some e)
noncomputable def pV (F : Md) (s_0 : (List Nat)) : Option (Int × (Unit × Unit)) :=
 if ((False) ∧ (((0 : Int) < (((s_0.length) : Nat) : Int)) ∧ ((((s_0.length) : Nat) : Int) < (10 : Int)))) ∨ ((True) ∧ (((0 : Int) < (((s_0.length) : Nat) : Int)) ∧ ((((s_0.length) : Nat) : Int) < (19 : Int)))) then ck ((0 : Int) < (((s_0.length) : Nat) : Int)) (ck (¬ ((s_0.getD (0 : Nat) (0 : Nat)) = (45 : Nat)) → ((0 : Int) < (((s_0.length) : Nat) : Int))) (if ((s_0.getD (0 : Nat) (0 : Nat)) = (45 : Nat)) ∨ ((s_0.getD (0 : Nat) (0 : Nat)) = (43 : Nat)) then ck ((1 : Int) ≤ (((s_0.length) : Nat) : Int)) (if (((List.drop (1 : Nat) s_0).length : Nat) : Int) < (1 : Int) then none else jS F s_0 (List.drop (1 : Nat) s_0)) else jS F s_0 s_0)) else mG F
def aAQ : PlR := ⟨[(0, .A [0]), (1, .A [0, 4]), (2, .A [0, 30]), (3, .A [0, 5]), (4, .A [0, 5, 39]), (5, .A [0, 5]), (6, .A [0, 5, 44]), (7, .A [2, 3]), (8, .A [0, 5, 6]), (9, .A [5, 6, 47, 48, 49]), (10, .A [5, 6, 47, 48, 49, 50]), (11, .A [5, 6, 8, 47, 48, 49]), (12, .A [5, 6, 8, 47, 48, 49]), (13, .A [5, 6, 8, 47, 48, 49, 56]), (14, .A [2, 3]), (15, .A [5, 6, 47, 48, 49]), (16, .A [5, 6, 47, 48, 49]), (17, .A [6, 66]), (18, .A [6]), (19, .A [2, 3]), (20, .stop)], [(5, 23), (7, 11), (12, 20)]⟩
def aBO : Ty := .pair .str .unit
noncomputable def oA (F : Md) : aG := mSpec aBO (.tup (.pair (.i .i64) (.pair .nili .unit))) (fun x => pV F x.1)
noncomputable def aH4 (F : Md) : List (FuncId × aG) := []
theorem aH5 (F : Md) : bC Tryz.prog GL (aH4 F) := .nil
attribute [go_sem] aBO aAQ
set_option maxHeartbeats 4000000 in
theorem aGz (F : Md) : FOK Tryz.prog GL 254 (oA F) := by
 refine bG (aW (aH5 F)) mix Tryz.func254 rfl (by kernel_rfl) (by decide) aAQ fun w0 S x Θ hw h hF => ?_
 obtain ⟨(s_0 : (List Nat)), u⟩ := x
 simp only [bH, go_sem]
 replace h : sat (pV F s_0) _ := h
 unfold pV at h
 refine dH hF (D := Unit) (fun d => sat (mG F) Θ) [0] (fun d => []) (fun d => []) ?_ ?_
 ·simp only [go_sem, aY F, aZ F, bA F]
  refine ⟨fun hc => ?_, fun hc => ?_⟩
  ·replace h := hP zAB h
   refine dH hF (D := (List Nat)) (fun d => sat (jS F s_0 d) Θ) [5] (fun d => [(0, .val .str d)]) (fun d => []) ?_ ?_
   ·simp only [go_sem, aY F, aZ F, bA F]
    refine aP h fun g0 h => aP h fun g1 h => ?_
    refine ⟨fun hc => ?_, fun hc => ?_⟩
    ·replace h := hP hc h
     refine aP h fun g0 h => ?_
     refine fF h (fun hc h => ?_) fun hc h => ?_
     ·exact aAI h
     ·exact aQ (List.drop (1 : Nat) s_0) h rfl (by simp only [go_sem, aY F, aZ F, bA F])
    ·replace h := hU hc h
     exact aQ (s_0) h rfl (by simp only [go_sem, aY F, aZ F, bA F])
   ·rintro s_9 h
    simp only [go_sem, aY F, aZ F, bA F]
    replace h : sat (jS F s_0 s_9) _ := h
    unfold jS at h
    refine dH hF (D := Int) (fun d => sat (mH F s_0 d) Θ) [5] (fun d => [(6, .val (.i .i64) d)]) (fun d => []) ?_ ?_
    ·simp only [go_sem, aY F, aZ F, bA F]
     refine cB hF (D := Int × Int) [5, 47, 48] (fun d => [(6, .val (.i .i64) d.1), (49, .val (.i .i64) d.2)]) (fun d => []) h rfl (by simp only [go_sem, aY F, aZ F, bA F]) ?_
     rintro ⟨n_15, x49_16⟩ A10 T10 hA10 hE10 h
     simp only [go_sem, aY F, aZ F, bA F]
     replace h : sat (oW F s_9 n_15 x49_16) _ := h
     unfold oW at h
     refine fF h (fun hc h => ?_) fun hc h => ?_
     ·refine aP h fun g0 h => ?_
      refine cT h (fun hc h => ?_) fun hc h => ?_
      ·exact aAI h
      ·refine aP h fun g0 h => aP h fun g1 h => ?_
       refine aP h fun g0 h => ?_
       replace h := hA10 _ (aA h)
       exact aQ _ h rfl (by simp only [go_sem, aY F, aZ F, bA F])
     ·replace h := hE10 _ (aA h)
      try dsimp only at h
      exact aQ (n_15) h rfl (by simp only [go_sem, aY F, aZ F, bA F])
    ·rintro n_14 h
     simp only [go_sem, aY F, aZ F, bA F]
     replace h : sat (mH F s_0 n_14) _ := h
     unfold mH at h
     refine aP h fun g0 h => ?_
     refine cT h (fun hc h => ?_) fun hc h => ?_
     ·refine aP h fun g0 h => ?_
      exact aF hF [.tmp 2, .tmp 3] rfl rfl rfl (aA h) (by simp only [aT, go_sem, aY F, aZ F, bA F])
     ·exact aF hF [.tmp 2, .tmp 3] rfl rfl rfl (aA h) (by simp only [aT, go_sem, aY F, aZ F, bA F])
  ·replace h := hU zAB h
   exact aQ () h rfl (by simp only [go_sem, aY F, aZ F, bA F])
 ·rintro u h
  simp only [go_sem, aY F, aZ F, bA F]
  replace h : sat (mG F) _ := h
  unfold mG at h
  exact aAI h
attribute [go_sem] oA
noncomputable def rY (F : Md) (s_0 : (List Nat)) : Option (Int × (Unit × Unit)) :=
 (pV F s_0).bind (fun v_5 => some (v_5.1, (), ()))
def aBP : PlR := ⟨[(0, .A [0]), (1, .A [0, 4, 5]), (2, .A [0, 4, 5, 12]), (4, .A [2, 3])], []⟩
def aCJ : Ty := .pair .str .unit
noncomputable def pW (F : Md) : aG := mSpec aCJ (.tup (.pair (.i .i64) (.pair .nili .unit))) (fun x => rY F x.1)
noncomputable def aCK (F : Md) : List (FuncId × aG) := [(254, (oA F))]
theorem aJU (F : Md) : bC Tryz.prog GL (aCK F) := .cons (aGz F) (by kernel_rfl) (.nil)
theorem aEm (F : Md) : gam (aCK F) 254 = some (oA F) := rfl
attribute [go_sem] aCJ aBP aEm
set_option maxHeartbeats 4000000 in
theorem aH6 (F : Md) : FOK Tryz.prog GL 230 (pW F) := by
 refine bG (aW (aJU F)) mix Tryz.func230 rfl (by kernel_rfl) (by decide) aBP fun w0 S x Θ hw h hF => ?_
 obtain ⟨(s_0 : (List Nat)), u⟩ := x
 simp only [bH, go_sem]
 replace h : sat (rY F s_0) _ := h
 unfold rY at h
 obtain ⟨v_5, hv, h⟩ := aH h
 try simp only [hv, go_sem]
 exact aF hF [.tmp 2, .tmp 3] rfl rfl rfl (aA h) (by simp only [aT, go_sem])
attribute [go_sem] pW
noncomputable def vR (F : Md) (at_1 : Int) (s_0 : (List Nat)) (n_5 : Int) : Option ((Int) ⊕ (Int)) :=
 ck (I64 (at_1 + n_5)) (ck (((at_1 + n_5) < (((s_0.length) : Nat) : Int)) → (I64 (at_1 + n_5))) (ck (((at_1 + n_5) < (((s_0.length) : Nat) : Int)) → (0 ≤ (at_1 + n_5) ∧ (at_1 + n_5) < (((s_0.length) : Nat) : Int))) (ck ((((at_1 + n_5) < (((s_0.length) : Nat) : Int)) ∧ ((48 : Nat) ≤ (s_0.getD (at_1 + n_5).toNat (0 : Nat)))) → (I64 (at_1 + n_5))) (ck ((((at_1 + n_5) < (((s_0.length) : Nat) : Int)) ∧ ((48 : Nat) ≤ (s_0.getD (at_1 + n_5).toNat (0 : Nat)))) → (0 ≤ (at_1 + n_5) ∧ (at_1 + n_5) < (((s_0.length) : Nat) : Int))) (if (((at_1 + n_5) < (((s_0.length) : Nat) : Int)) ∧ ((48 : Nat) ≤ (s_0.getD (at_1 + n_5).toNat (0 : Nat)))) ∧ ((s_0.getD (at_1 + n_5).toNat (0 : Nat)) ≤ (57 : Nat)) then ck (I64 (n_5 + (1 : Int))) (some (.inl (n_5 + (1 : Int)))) else some (.inr n_5))))))
noncomputable def oB (F : Md) (s_0 : (List Nat)) (at_1 : Int) : Option Int :=
 (cW F (fun d : Int => vR F at_1 s_0 d) (0 : Int)).bind (fun e => some e)
def aDJ : PlR := ⟨[(0, .A [0, 1]), (1, .A [0, 1, 5]), (2, .A [0, 1, 5, 27]), (3, .A [0, 1, 5]), (4, .A [4])], []⟩
def aFv : Ty := .pair .str (.pair (.i .i64) .unit)
noncomputable def uH (F : Md) : aG := mSpec aFv (.one (.i .i64)) (fun x => oB F x.1 x.2.1)
noncomputable def aL6 (F : Md) : List (FuncId × aG) := []
theorem aL7 (F : Md) : bC Tryz.prog GL (aL6 F) := .nil
attribute [go_sem] aFv aDJ
set_option maxHeartbeats 4000000 in
theorem aKE (F : Md) : FOK Tryz.prog GL 229 (uH F) := by
 refine bG (aW (aL7 F)) mix Tryz.func229 rfl (by kernel_rfl) (by decide) aDJ fun w0 S x Θ hw h hF => ?_
 obtain ⟨(s_0 : (List Nat)), (at_1 : Int), u⟩ := x
 simp only [bH, go_sem]
 replace h : sat (oB F s_0 at_1) _ := h
 unfold oB at h
 refine cB hF (D := Int) [0, 1] (fun d => [(5, .val (.i .i64) d)]) (fun d => []) h rfl (by simp only [go_sem]) ?_
 rintro n_5 A2 T2 hA2 hE2 h
 simp only [go_sem]
 replace h : sat (vR F at_1 s_0 n_5) _ := h
 unfold vR at h
 refine aP h fun g0 h => aP h fun g1 h => aP h fun g2 h => aP h fun g3 h => aP h fun g4 h => ?_
 refine ⟨fun hc => ?_, fun hc => ?_⟩
 ·replace h := hP hc h
  refine aP h fun g0 h => ?_
  replace h := hA2 _ (aA h)
  exact aQ _ h rfl (by simp only [go_sem])
 ·replace h := hU hc h
  replace h := hE2 _ (aA h)
  try dsimp only at h
  exact aF hF [.tmp 4] rfl rfl rfl (aA h) (by simp only [aT, go_sem])
attribute [go_sem] uH
noncomputable def lS (F : Md) (all_9 : (List Nat)) (s_0 : (List Nat)) (at_17 : Int) (pow_18 : Int) : Option ((List Nat) × (Int × (Bool × Unit))) :=
 some (all_9, pow_18, (decide (at_17 = (((s_0.length) : Nat) : Int))), ())
noncomputable def lT (F : Md) (pow_10 : Int) (at_19 : Int) (v_23 : Int) (all_9 : (List Nat)) (s_0 : (List Nat)) (x_28 : Int) : Option ((List Nat) × (Int × (Bool × Unit))) :=
 ck (I64 (pow_10 + x_28)) (ck (I64 (at_19 + v_23)) (lS F all_9 s_0 (at_19 + v_23) (pow_10 + x_28)))
noncomputable def lU (F : Md) (s_0 : (List Nat)) (at_8 : Int) (pow_10 : Int) (all_9 : (List Nat)) (at_19 : Int) : Option ((List Nat) × (Int × (Bool × Unit))) :=
 (oB F s_0 at_19).bind (fun v_23 => if (v_23 < (1 : Int)) ∨ ((3 : Int) < v_23) then some ((aI ⟨#[]⟩), (0 : Int), false, ()) else ck (I64 (at_19 + v_23)) (ck (0 ≤ at_19 ∧ at_19 ≤ (at_19 + v_23) ∧ (at_19 + v_23) ≤ (((s_0.length) : Nat) : Int)) ((rY F (List.drop (at_19.toNat) (List.take (at_19 + v_23).toNat s_0))).bind (fun v_27 => if (100 : Int) < v_27.1 then some ((aI ⟨#[]⟩), (0 : Int), false, ()) else if ((at_8 + (1 : Int)) < (((s_0.length) : Nat) : Int)) ∧ ((s_0.getD (at_8 + (1 : Int)).toNat (0 : Nat)) = (45 : Nat)) then ck (I64 (0 - v_27.1)) (lT F pow_10 at_19 v_23 all_9 s_0 (0 - v_27.1)) else lT F pow_10 at_19 v_23 all_9 s_0 v_27.1))))
noncomputable def lV (F : Md) (s_0 : (List Nat)) (at_8 : Int) (all_9 : (List Nat)) (pow_10 : Int) : Option ((List Nat) × (Int × (Bool × Unit))) :=
 ck ((at_8 < (((s_0.length) : Nat) : Int)) → (0 ≤ at_8 ∧ at_8 < (((s_0.length) : Nat) : Int))) (if (at_8 < (((s_0.length) : Nat) : Int)) ∧ ((s_0.getD (at_8.toNat) (0 : Nat)) = (101 : Nat)) then ck (I64 (at_8 + (1 : Int))) (ck (((at_8 + (1 : Int)) < (((s_0.length) : Nat) : Int)) → (0 ≤ (at_8 + (1 : Int)) ∧ (at_8 + (1 : Int)) < (((s_0.length) : Nat) : Int))) (ck (¬ (((at_8 + (1 : Int)) < (((s_0.length) : Nat) : Int)) ∧ ((s_0.getD (at_8 + (1 : Int)).toNat (0 : Nat)) = (45 : Nat))) → ((at_8 + (1 : Int)) < (((s_0.length) : Nat) : Int)) → (0 ≤ (at_8 + (1 : Int)) ∧ (at_8 + (1 : Int)) < (((s_0.length) : Nat) : Int))) (if (((at_8 + (1 : Int)) < (((s_0.length) : Nat) : Int)) ∧ ((s_0.getD (at_8 + (1 : Int)).toNat (0 : Nat)) = (45 : Nat))) ∨ (((at_8 + (1 : Int)) < (((s_0.length) : Nat) : Int)) ∧ ((s_0.getD (at_8 + (1 : Int)).toNat (0 : Nat)) = (43 : Nat))) then ck (I64 ((at_8 + (1 : Int)) + (1 : Int))) (lU F s_0 at_8 pow_10 all_9 ((at_8 + (1 : Int)) + (1 : Int))) else lU F s_0 at_8 pow_10 all_9 (at_8 + (1 : Int))))) else lS F all_9 s_0 at_8 pow_10)
noncomputable def mV (F : Md) (s_0 : (List Nat)) : Option ((List Nat) × (Int × (Bool × Unit))) :=
 (oB F s_0 (0 : Int)).bind (fun v_5 => ck (0 ≤ v_5 ∧ v_5 ≤ (((s_0.length) : Nat) : Int)) (if ((60 : Int) < (((s_0.length) : Nat) : Int)) ∨ (v_5 = (0 : Int)) then some ((aI ⟨#[]⟩), (0 : Int), false, ()) else ck ((v_5 < (((s_0.length) : Nat) : Int)) → (0 ≤ v_5 ∧ v_5 < (((s_0.length) : Nat) : Int))) (if (v_5 < (((s_0.length) : Nat) : Int)) ∧ ((s_0.getD (v_5.toNat) (0 : Nat)) = (46 : Nat)) then ck (I64 (v_5 + (1 : Int))) ((oB F s_0 (v_5 + (1 : Int))).bind (fun v_32 => if v_32 = (0 : Int) then some ((aI ⟨#[]⟩), (0 : Int), false, ()) else ck (I64 (v_5 + (1 : Int))) (ck (I64 (v_5 + (1 : Int))) (ck (I64 ((v_5 + (1 : Int)) + v_32)) (ck (0 ≤ (v_5 + (1 : Int)) ∧ (v_5 + (1 : Int)) ≤ ((v_5 + (1 : Int)) + v_32) ∧ ((v_5 + (1 : Int)) + v_32) ≤ (((s_0.length) : Nat) : Int)) (ck ((List.take (v_5.toNat) s_0).length + (List.drop (v_5 + (1 : Int)).toNat (List.take ((v_5 + (1 : Int)) + v_32).toNat s_0)).length ≤ 9223372036854775807) (ck (I64 (0 - v_32)) (ck (I64 (v_5 + (1 : Int))) (ck (I64 ((v_5 + (1 : Int)) + v_32)) (lV F s_0 ((v_5 + (1 : Int)) + v_32) ((List.take (v_5.toNat) s_0) ++ (List.drop (v_5 + (1 : Int)).toNat (List.take ((v_5 + (1 : Int)) + v_32).toNat s_0))) (0 - v_32))))))))))) else lV F s_0 v_5 (List.take (v_5.toNat) s_0) (0 : Int))))
def aCL : PlR := ⟨[(0, .A [0]), (1, .A [0, 5]), (2, .A [0, 5, 6, 7]), (3, .A [0, 5, 6, 7, 24]), (4, .A [2, 3, 4]), (5, .A [0, 5, 6, 7, 34]), (6, .A [0, 5, 6, 8]), (7, .A [0, 5, 6, 8, 40]), (8, .A [2, 3, 4]), (9, .A [0, 5, 6, 7]), (10, .A [0, 5, 6, 7, 66]), (11, .A [0, 5, 6, 7]), (12, .A [0, 5, 6, 7, 9]), (13, .A [0, 5, 6, 7, 9, 91]), (14, .A [0, 5, 6, 7, 9]), (15, .A [0, 5, 6, 7, 9, 10]), (16, .A [0, 5, 6, 7, 9, 10, 102]), (17, .A [2, 3, 4]), (18, .A [0, 5, 6, 7, 9, 10, 11]), (19, .A [0, 5, 6, 7, 9, 10, 11, 114]), (20, .A [2, 3, 4]), (21, .A [0, 5, 6, 7, 10, 11, 115]), (22, .A [0, 5, 6, 7, 10, 11]), (23, .A [0, 5, 6, 7]), (24, .A [2, 3, 4])], [(8, 13), (13, 27), (16, 18), (24, 26)]⟩
def aDK : Ty := .pair .str .unit
noncomputable def gU (F : Md) : aG := mSpec aDK (.tup (.pair .str (.pair (.i .i64) (.pair .bool .unit)))) (fun x => mV F x.1)
noncomputable def aAl (F : Md) : List (FuncId × aG) := [(229, (uH F)), (230, (pW F))]
theorem aKF (F : Md) : bC Tryz.prog GL (aAl F) := .cons (aKE F) (by kernel_rfl) (.cons (aH6 F) (by kernel_rfl) (.nil))
theorem aFw (F : Md) : gam (aAl F) 229 = some (uH F) := rfl
theorem aFx (F : Md) : gam (aAl F) 230 = some (pW F) := rfl
attribute [go_sem] aDK aCL aFw aFx
set_option maxHeartbeats 4000000 in
theorem yM (F : Md) : FOK Tryz.prog GL 178 (gU F) := by
 refine bG (aW (aKF F)) mix Tryz.func178 rfl (by kernel_rfl) (by decide) aCL fun w0 S x Θ hw h hF => ?_
 obtain ⟨(s_0 : (List Nat)), u⟩ := x
 simp only [bH, go_sem]
 replace h : sat (mV F s_0) _ := h
 unfold mV at h
 obtain ⟨v_5, hv, h⟩ := aH h
 try simp only [hv, go_sem]
 obtain ⟨g0, h⟩ := aM h
 repeat (refine ⟨by omega, ?_⟩)
 refine ⟨fun hc => ?_, fun hc => ?_⟩
 ·replace h := hP hc h
  exact aF hF [.tmp 2, .tmp 3, .tmp 4] rfl rfl rfl (aA h) (by simp only [aT, go_sem])
 ·replace h := hU hc h
  refine dH hF (D := Int × (List Nat) × Int) (fun d => sat (lV F s_0 d.1 d.2.1 d.2.2) Θ) [0] (fun d => [(5, .val (.i .i64) d.1), (6, .val .str d.2.1), (7, .val (.i .i64) d.2.2)]) (fun d => []) ?_ ?_
  ·simp only [go_sem]
   obtain ⟨g0, h⟩ := aM h
   repeat (refine ⟨by omega, ?_⟩)
   refine ⟨fun hc => ?_, fun hc => ?_⟩
   ·replace h := hP hc h
    obtain ⟨g0, h⟩ := aM h
    repeat (refine ⟨by omega, ?_⟩)
    obtain ⟨v_32, hv, h⟩ := aH h
    try simp only [hv, go_sem]
    refine cT h (fun hc h => ?_) fun hc h => ?_
    ·exact aF hF [.tmp 2, .tmp 3, .tmp 4] rfl rfl rfl (aA h) (by simp only [aT, go_sem])
    ·obtain ⟨g0, h⟩ := aM h
     obtain ⟨g1, h⟩ := aM h
     obtain ⟨g2, h⟩ := aM h
     obtain ⟨g3, h⟩ := aM h
     obtain ⟨g4, h⟩ := aM h
     obtain ⟨g5, h⟩ := aM h
     obtain ⟨g6, h⟩ := aM h
     obtain ⟨g7, h⟩ := aM h
     repeat (refine ⟨by omega, ?_⟩)
     exact aQ (((v_5 + (1 : Int)) + v_32), ((List.take (v_5.toNat) s_0) ++ (List.drop (v_5 + (1 : Int)).toNat (List.take ((v_5 + (1 : Int)) + v_32).toNat s_0))), (0 - v_32)) h rfl (by simp only [go_sem])
   ·replace h := hU hc h
    exact aQ (v_5, (List.take (v_5.toNat) s_0), (0 : Int)) h rfl (by simp only [go_sem])
  ·rintro ⟨at_8, all_9, pow_10⟩ h
   simp only [go_sem]
   replace h : sat (lV F s_0 at_8 all_9 pow_10) _ := h
   unfold lV at h
   refine dH hF (D := Int × Int) (fun d => sat (lS F all_9 s_0 d.1 d.2) Θ) [0, 6] (fun d => [(5, .val (.i .i64) d.1), (7, .val (.i .i64) d.2)]) (fun d => []) ?_ ?_
   ·simp only [go_sem]
    obtain ⟨g0, h⟩ := aM h
    repeat (refine ⟨by omega, ?_⟩)
    refine ⟨fun hc => ?_, fun hc => ?_⟩
    ·replace h := hP hc h
     obtain ⟨g0, h⟩ := aM h
     repeat (refine ⟨by omega, ?_⟩)
     obtain ⟨g0, h⟩ := aM h
     repeat (refine ⟨by omega, ?_⟩)
     refine dH hF (D := Int) (fun d => sat (lU F s_0 at_8 pow_10 all_9 d) Θ) [0, 6, 7, 9] (fun d => [(5, .val (.i .i64) d)]) (fun d => []) ?_ ?_
     ·simp only [go_sem]
      obtain ⟨g0, h⟩ := aM h
      repeat (refine ⟨by omega, ?_⟩)
      refine ⟨fun hc => ?_, fun hc => ?_⟩
      ·replace h := hP hc h
       obtain ⟨g0, h⟩ := aM h
       repeat (refine ⟨by omega, ?_⟩)
       exact aQ ((at_8 + (1 : Int)) + (1 : Int)) h rfl (by simp only [go_sem])
      ·replace h := hU hc h
       exact aQ (at_8 + (1 : Int)) h rfl (by simp only [go_sem])
     ·rintro at_19 h
      simp only [go_sem]
      replace h : sat (lU F s_0 at_8 pow_10 all_9 at_19) _ := h
      unfold lU at h
      obtain ⟨v_23, hv, h⟩ := aH h
      try simp only [hv, go_sem]
      refine ⟨fun hc => ?_, fun hc => ?_⟩
      ·replace h := hP hc h
       exact aF hF [.tmp 2, .tmp 3, .tmp 4] rfl rfl rfl (aA h) (by simp only [aT, go_sem])
      ·replace h := hU hc h
       obtain ⟨g0, h⟩ := aM h
       obtain ⟨g1, h⟩ := aM h
       repeat (refine ⟨by omega, ?_⟩)
       obtain ⟨v_27, hv, h⟩ := aH h
       try simp only [hv, go_sem]
       refine fF h (fun hc h => ?_) fun hc h => ?_
       ·exact aF hF [.tmp 2, .tmp 3, .tmp 4] rfl rfl rfl (aA h) (by simp only [aT, go_sem])
       ·refine dH hF (D := Int) (fun d => sat (lT F pow_10 at_19 v_23 all_9 s_0 d) Θ) [0, 5, 6, 7, 10] (fun d => [(11, .val (.i .i64) d)]) (fun d => []) ?_ ?_
        ·simp only [go_sem]
         refine ⟨fun hc => ?_, fun hc => ?_⟩
         ·replace h := hP hc h
          obtain ⟨g0, h⟩ := aM h
          repeat (refine ⟨by omega, ?_⟩)
          exact aQ (0 - v_27.1) h rfl (by simp only [go_sem])
         ·replace h := hU hc h
          exact aQ v_27.1 h rfl (by simp only [go_sem])
        ·rintro x_28 h
         simp only [go_sem]
         replace h : sat (lT F pow_10 at_19 v_23 all_9 s_0 x_28) _ := h
         unfold lT at h
         obtain ⟨g0, h⟩ := aM h
         obtain ⟨g1, h⟩ := aM h
         repeat (refine ⟨by omega, ?_⟩)
         exact aQ ((at_19 + v_23), (pow_10 + x_28)) h rfl (by simp only [go_sem])
    ·replace h := hU hc h
     exact aQ (at_8, pow_10) h rfl (by simp only [go_sem])
   ·rintro ⟨at_17, pow_18⟩ h
    simp only [go_sem]
    replace h : sat (lS F all_9 s_0 at_17 pow_18) _ := h
    unfold lS at h
    exact aF hF [.tmp 2, .tmp 3, .tmp 4] rfl rfl rfl (aA h) (by simp only [aT, go_sem])
attribute [go_sem] gU
noncomputable def yN (F : Md) (n_1 : Int) (b_0 : Nat) (m_13 : (List Nat)) (x8_14 : Int) : Option (((List Nat) × Int) ⊕ (List Nat)) :=
 if x8_14 < n_1 then (fQ F m_13 ([b_0] : List Nat)).bind (fun v_23 => ck (I64 (x8_14 + (1 : Int))) (some (.inl (v_23, (x8_14 + (1 : Int)))))) else some (.inr m_13)
noncomputable def nR (F : Md) (b_0 : Nat) (n_1 : Int) : Option (List Nat) :=
 (cW F (fun d : (List Nat) × Int => yN F n_1 b_0 d.1 d.2) (([1] : List Nat), (0 : Int))).bind (fun e => some e)
def aFy : PlR := ⟨[], []⟩
def aHy : Ty := .pair (.u .u64) (.pair (.i .i64) .unit)
noncomputable def oC (F : Md) : aG := mSpec aHy (.one (.sl (.u .u64))) (fun x => nR F x.1 x.2.1)
noncomputable def aHz (F : Md) : List (FuncId × aG) := [(94, (dW F))]
theorem aNa (F : Md) : bC Tryz.prog GL (aHz F) := .cons (nX F) (by kernel_rfl) (.nil)
theorem aJV (F : Md) : gam (aHz F) 94 = some (dW F) := rfl
attribute [go_sem] aHy aFy aJV
set_option maxHeartbeats 4000000 in
theorem aFz (F : Md) : FOK Tryz.prog GL 96 (oC F) := by
 refine bG (aW (aNa F)) mix Tryz.func96 rfl (by kernel_rfl) (by decide) aFy fun w0 S x Θ hw h hF => ?_
 obtain ⟨(b_0 : Nat), (n_1 : Int), u⟩ := x
 simp only [bH, go_sem]
 replace h : sat (nR F b_0 n_1) _ := h
 unfold nR at h
 refine qK hF [0, 1] ?_
 simp only [go_sem]
 refine qK hF [0, 1, 5] ?_
 simp only [go_sem]
 refine qK hF [0, 5, 7, 8] ?_
 simp only [go_sem]
 refine cB hF (D := (List Nat) × Int) [0, 7] (fun d => [(5, .val (.sl (.u .u64)) d.1), (8, .val (.i .i64) d.2)]) (fun d => []) h rfl (by simp only [go_sem]) ?_
 rintro ⟨m_13, x8_14⟩ A3 T3 hA3 hE3 h
 simp only [go_sem]
 replace h : sat (yN F n_1 b_0 m_13 x8_14) _ := h
 unfold yN at h
 refine qK hF [0, 5, 7, 8, 9] ?_
 simp only [go_sem]
 refine fF h (fun hc h => ?_) fun hc h => ?_
 ·refine qK hF [0, 5, 7, 8] ?_
  simp only [go_sem]
  obtain ⟨v_23, hv, h⟩ := aH h
  try simp only [hv, go_sem]
  refine qK hF [0, 5, 7, 8] ?_
  simp only [go_sem]
  refine aP h fun g0 h => ?_
  replace h := hA3 _ (aA h)
  exact aQ _ h rfl (by simp only [go_sem])
 ·replace h := hE3 _ (aA h)
  try dsimp only at h
  refine qK hF [4] ?_
  simp only [go_sem]
  exact aF hF [.tmp 4] rfl rfl rfl (aA h) (by simp only [aT, go_sem])
attribute [go_sem] oC
noncomputable def vS (F : Md) (s_0 : (List Nat)) (m_24 : (List Nat)) (x9_25 : Int) : Option (((List Nat) × Int) ⊕ (List Nat)) :=
 if x9_25 < (((s_0.length) : Nat) : Int) then ck (0 ≤ x9_25 ∧ x9_25 < (((s_0.length) : Nat) : Int)) ((fQ F m_24 ([10] : List Nat)).bind (fun v_44 => (yE F ([(vB F .u8 (s_0.getD (x9_25.toNat) (0 : Nat)) (48 : Nat))] : List Nat)).bind (fun v_45 => (aBt F v_44 v_45).bind (fun v_46 => ck (I64 (x9_25 + (1 : Int))) (some (.inl (v_46, (x9_25 + (1 : Int))))))))) else some (.inr m_24)
noncomputable def rZ (F : Md) (s_0 : (List Nat)) : Option (List Nat) :=
 (cW F (fun d : (List Nat) × Int => vS F s_0 d.1 d.2) (([] : List Nat), (0 : Int))).bind (fun e => some e)
def aDL : PlR := ⟨[], []⟩
def aFA : Ty := .pair .str .unit
noncomputable def mW (F : Md) : aG := mSpec aFA (.one (.sl (.u .u64))) (fun x => rZ F x.1)
noncomputable def wZ (F : Md) : List (FuncId × aG) := [(231, (qP F)), (94, (dW F)), (99, (zG F))]
theorem aL8 (F : Md) : bC Tryz.prog GL (wZ F) := .cons (aHg F) (by kernel_rfl) (.cons (nX F) (by kernel_rfl) (.cons (aM3 F) (by kernel_rfl) (.nil)))
theorem aGA (F : Md) : gam (wZ F) 231 = some (qP F) := rfl
theorem aH7 (F : Md) : gam (wZ F) 94 = some (dW F) := rfl
theorem aH8 (F : Md) : gam (wZ F) 99 = some (zG F) := rfl
attribute [go_sem] aFA aDL aGA aH7 aH8
set_option maxHeartbeats 4000000 in
theorem aDM (F : Md) : FOK Tryz.prog GL 179 (mW F) := by
 refine bG (aW (aL8 F)) mix Tryz.func179 rfl (by kernel_rfl) (by decide) aDL fun w0 S x Θ hw h hF => ?_
 obtain ⟨(s_0 : (List Nat)), u⟩ := x
 simp only [bH, go_sem]
 replace h : sat (rZ F s_0) _ := h
 unfold rZ at h
 refine qK hF [0] ?_
 simp only [go_sem, aY F, aZ F, bA F]
 refine qK hF [0, 3] ?_
 simp only [go_sem, aY F, aZ F, bA F]
 refine qK hF [3, 7, 8, 9] ?_
 simp only [go_sem, aY F, aZ F, bA F]
 refine cB hF (D := (List Nat) × Int) [7, 8] (fun d => [(3, .val (.sl (.u .u64)) d.1), (9, .val (.i .i64) d.2)]) (fun d => []) h rfl (by simp only [go_sem, aY F, aZ F, bA F]) ?_
 rintro ⟨m_24, x9_25⟩ A3 T3 hA3 hE3 h
 simp only [go_sem, aY F, aZ F, bA F]
 replace h : sat (vS F s_0 m_24 x9_25) _ := h
 unfold vS at h
 refine qK hF [3, 7, 8, 9, 10] ?_
 simp only [go_sem, aY F, aZ F, bA F]
 refine fF h (fun hc h => ?_) fun hc h => ?_
 ·refine qK hF [3, 5, 7, 8, 9] ?_
  simp only [go_sem, aY F, aZ F, bA F]
  refine aP h fun g0 h => ?_
  refine qK hF [3, 7, 8, 9] ?_
  simp only [go_sem, aY F, aZ F, bA F]
  obtain ⟨v_44, hv, h⟩ := aH h
  try simp only [hv, go_sem, aY F, aZ F, bA F]
  obtain ⟨v_45, hv, h⟩ := aH h
  try simp only [hv, go_sem, aY F, aZ F, bA F]
  obtain ⟨v_46, hv, h⟩ := aH h
  try simp only [hv, go_sem, aY F, aZ F, bA F]
  refine qK hF [3, 7, 8, 9] ?_
  simp only [go_sem, aY F, aZ F, bA F]
  refine aP h fun g0 h => ?_
  replace h := hA3 _ (aA h)
  exact aQ _ h rfl (by simp only [go_sem, aY F, aZ F, bA F])
 ·replace h := hE3 _ (aA h)
  try dsimp only at h
  refine qK hF [2] ?_
  simp only [go_sem, aY F, aZ F, bA F]
  exact aF hF [.tmp 2] rfl rfl rfl (aA h) (by simp only [aT, go_sem, aY F, aZ F, bA F])
attribute [go_sem] mW
noncomputable def yO (F : Md) (s_0 : (List Nat)) : Option Bool :=
 (mV F s_0).bind (fun v_5 => some v_5.2.2.1)
def aHA : PlR := ⟨[(0, .A [0]), (1, .A [5]), (2, .A [2])], []⟩
def aJW : Ty := .pair .str .unit
noncomputable def zN (F : Md) : aG := mSpec aJW (.one .bool) (fun x => yO F x.1)
noncomputable def aJX (F : Md) : List (FuncId × aG) := [(178, (gU F))]
theorem aN4 (F : Md) : bC Tryz.prog GL (aJX F) := .cons (yM F) (by kernel_rfl) (.nil)
theorem aJY (F : Md) : gam (aJX F) 178 = some (gU F) := rfl
attribute [go_sem] aJW aHA aJY
set_option maxHeartbeats 4000000 in
theorem aNb (F : Md) : FOK Tryz.prog GL 128 (zN F) := by
 refine bG (aW (aN4 F)) mix Tryz.func128 rfl (by kernel_rfl) (by decide) aHA fun w0 S x Θ hw h hF => ?_
 obtain ⟨(s_0 : (List Nat)), u⟩ := x
 simp only [bH, go_sem]
 replace h : sat (yO F s_0) _ := h
 unfold yO at h
 obtain ⟨v_5, hv, h⟩ := aH h
 try simp only [hv, go_sem]
 exact aF hF [.tmp 2] rfl rfl rfl (aA h) (by simp only [aT, go_sem])
attribute [go_sem] zN
noncomputable def zO (F : Md) (s_0 : (List Nat)) : Option ((List Nat) × ((List Nat) × (Bool × Unit))) :=
 (mV F s_0).bind (fun v_5 => if ¬ (v_5.2.2.1 = true) then some (([] : List Nat), ([] : List Nat), false, ()) else (rZ F v_5.1).bind (fun v_18 => (nR F (10 : Nat) (max v_5.2.1 (0 : Int))).bind (fun v_19 => (fQ F v_18 v_19).bind (fun v_20 => ck (I64 (0 - v_5.2.1)) ((nR F (10 : Nat) (max (0 - v_5.2.1) (0 : Int))).bind (fun v_21 => some (v_20, v_21, true, ())))))))
def aFB : PlR := ⟨[(0, .A [0]), (1, .A [5, 6, 7]), (2, .A [5, 6, 15]), (3, .A [2, 3, 4]), (4, .A [2, 3, 4])], []⟩
def aHB : Ty := .pair .str .unit
noncomputable def xA (F : Md) : aG := mSpec aHB (.tup (.pair (.sl (.u .u64)) (.pair (.sl (.u .u64)) (.pair .bool .unit)))) (fun x => zO F x.1)
noncomputable def vE (F : Md) : List (FuncId × aG) := [(178, (gU F)), (179, (mW F)), (94, (dW F)), (96, (oC F))]
theorem aNc (F : Md) : bC Tryz.prog GL (vE F) := .cons (yM F) (by kernel_rfl) (.cons (aDM F) (by kernel_rfl) (.cons (nX F) (by kernel_rfl) (.cons (aFz F) (by kernel_rfl) (.nil))))
theorem aH9 (F : Md) : gam (vE F) 178 = some (gU F) := rfl
theorem aIa (F : Md) : gam (vE F) 179 = some (mW F) := rfl
theorem aJZ (F : Md) : gam (vE F) 94 = some (dW F) := rfl
theorem aJ0 (F : Md) : gam (vE F) 96 = some (oC F) := rfl
attribute [go_sem] aHB aFB aH9 aIa aJZ aJ0
set_option maxHeartbeats 4000000 in
theorem aL9 (F : Md) : FOK Tryz.prog GL 116 (xA F) := by
 refine bG (aW (aNc F)) mix Tryz.func116 rfl (by kernel_rfl) (by decide) aFB fun w0 S x Θ hw h hF => ?_
 obtain ⟨(s_0 : (List Nat)), u⟩ := x
 simp only [bH, go_sem]
 replace h : sat (zO F s_0) _ := h
 unfold zO at h
 obtain ⟨v_5, hv, h⟩ := aH h
 try simp only [hv, go_sem]
 refine aGn h (fun hc h => ?_) fun hc h => ?_
 ·exact aF hF [.tmp 2, .tmp 3, .tmp 4] rfl rfl rfl (aA h) (by simp only [aT, go_sem])
 ·obtain ⟨v_18, hv, h⟩ := aH h
  try simp only [hv, go_sem]
  obtain ⟨v_19, hv, h⟩ := aH h
  try simp only [hv, go_sem]
  obtain ⟨v_20, hv, h⟩ := aH h
  try simp only [hv, go_sem]
  refine aP h fun g0 h => ?_
  obtain ⟨v_21, hv, h⟩ := aH h
  try simp only [hv, go_sem]
  exact aF hF [.tmp 2, .tmp 3, .tmp 4] rfl rfl rfl (aA h) (by simp only [aT, go_sem])
attribute [go_sem] xA
noncomputable def zP (F : Md) (s_0 : (List Nat)) : Option ((Bool × ((List Nat) × (Int × Unit))) × (Int × Unit)) :=
 (mV F s_0).bind (fun v_5 => if ¬ (v_5.2.2.1 = true) then some ((false, ([] : List Nat), (0 : Int), ()), (6 : Int), ()) else (rZ F v_5.1).bind (fun v_21 => (nR F (5 : Nat) (max v_5.2.1 (0 : Int))).bind (fun v_22 => (fQ F v_21 v_22).bind (fun v_23 => ck (I64 (0 - v_5.2.1)) ((nR F (5 : Nat) (max (0 - v_5.2.1) (0 : Int))).bind (fun v_24 => (wQ F v_23 v_24).bind (fun v_25 => (yK F false v_25.1 v_5.2.1).bind (fun v_27 => if ((0 : Int) < (((v_25.2.1.length) : Nat) : Int)) ∨ (¬ (v_27.2.1 = (0 : Int))) then some ((false, ([] : List Nat), (0 : Int), ()), (6 : Int), ()) else some (v_27.1, (0 : Int), ())))))))))
def aFC : PlR := ⟨[(0, .B [0, 2]), (1, .A [2, 4, 5, 6]), (2, .A [2, 4, 5, 18]), (3, .B [2, 3]), (4, .A [2, 5, 7, 8]), (5, .B [2, 8, 9, 10]), (6, .A [2, 9, 46]), (7, .B [2, 3]), (8, .B [2, 3])], []⟩
def aHC : Ty := .pair .str .unit
noncomputable def xB (F : Md) : aG := mSpec aHC (.tup (.pair (.pair .bool (.pair (.sl (.u .u64)) (.pair (.i .i64) .unit))) (.pair (.i .i64) .unit))) (fun x => zP F x.1)
noncomputable def nS (F : Md) : List (FuncId × aG) := [(117, (qT F)), (166, (uC F)), (178, (gU F)), (179, (mW F)), (94, (dW F)), (96, (oC F))]
theorem aNd (F : Md) : bC Tryz.prog GL (nS F) := .cons (aHq F) (by kernel_rfl) (.cons (aKu F) (by kernel_rfl) (.cons (yM F) (by kernel_rfl) (.cons (aDM F) (by kernel_rfl) (.cons (nX F) (by kernel_rfl) (.cons (aFz F) (by kernel_rfl) (.nil))))))
theorem aIb (F : Md) : gam (nS F) 117 = some (qT F) := rfl
theorem aIc (F : Md) : gam (nS F) 166 = some (uC F) := rfl
theorem aId (F : Md) : gam (nS F) 178 = some (gU F) := rfl
theorem aIe (F : Md) : gam (nS F) 179 = some (mW F) := rfl
theorem aJ1 (F : Md) : gam (nS F) 94 = some (dW F) := rfl
theorem aJ2 (F : Md) : gam (nS F) 96 = some (oC F) := rfl
attribute [go_sem] aHC aFC aIb aIc aId aIe aJ1 aJ2
set_option maxHeartbeats 4000000 in
theorem aMa (F : Md) : FOK Tryz.prog GL 133 (xB F) := by
 refine bG (aW (aNd F)) mix Tryz.func133 rfl (by kernel_rfl) (by decide) aFC fun w0 S x Θ hw h hF => ?_
 obtain ⟨(s_0 : (List Nat)), u⟩ := x
 simp only [bH, go_sem]
 replace h : sat (zP F s_0) _ := h
 unfold zP at h
 obtain ⟨v_5, hv, h⟩ := aH h
 try simp only [hv, go_sem]
 refine aGn h (fun hc h => ?_) fun hc h => ?_
 ·exact aF hF [.cell 2 25, .tmp 3] rfl rfl rfl (aA h) (by simp only [aT, go_sem])
 ·obtain ⟨v_21, hv, h⟩ := aH h
  try simp only [hv, go_sem]
  obtain ⟨v_22, hv, h⟩ := aH h
  try simp only [hv, go_sem]
  obtain ⟨v_23, hv, h⟩ := aH h
  try simp only [hv, go_sem]
  refine aP h fun g0 h => ?_
  obtain ⟨v_24, hv, h⟩ := aH h
  try simp only [hv, go_sem]
  obtain ⟨v_25, hv, h⟩ := aH h
  try simp only [hv, go_sem]
  obtain ⟨v_27, hv, h⟩ := aH h
  try simp only [hv, go_sem]
  refine ⟨fun hc => ?_, fun hc => ?_⟩
  ·replace h := hP hc h
   exact aF hF [.cell 2 25, .tmp 3] rfl rfl rfl (aA h) (by simp only [aT, go_sem])
  ·replace h := hU hc h
   exact aF hF [.cell 2 25, .tmp 3] rfl rfl rfl (aA h) (by simp only [aT, go_sem])
attribute [go_sem] xB
noncomputable def gP (F : Md) (a_0 : (Bool × ((List Nat) × (Int × Unit)))) (b_1 : (Bool × ((List Nat) × (Int × Unit)))) (n_2 : Int) : Option Bool :=
 (aDl F n_2 (0 : Int)).bind (fun v_5 => (aBB F b_1 v_5.1).bind (fun v_7 => ck ((v_7.2.1 = (0 : Int)) → ((tO F a_0 v_7.1).isSome = true)) (some ((decide (v_7.2.1 = (0 : Int))) && (decide (((tO F a_0 v_7.1).getD (0 : Int)) ≤ (0 : Int)))))))
def aDN : PlR := ⟨[(0, .B [2, 3, 4]), (1, .B [3, 4, 7]), (2, .B [3, 9, 10]), (3, .A [6])], []⟩
def aFD : Ty := .pair (.pair .bool (.pair (.sl (.u .u64)) (.pair (.i .i64) .unit))) (.pair (.pair .bool (.pair (.sl (.u .u64)) (.pair (.i .i64) .unit))) (.pair (.i .i64) .unit))
noncomputable def uI (F : Md) : aG := mSpec aFD (.one .bool) (fun x => gP F x.1 x.2.1 x.2.2.1)
noncomputable def xC (F : Md) : List (FuncId × aG) := [(200, (aBy F)), (201, (zL F)), (22, (qU F))]
theorem aMb (F : Md) : bC Tryz.prog GL (xC F) := .cons (aN2 F) (by kernel_rfl) (.cons (aM9 F) (by kernel_rfl) (.cons (aHw F) (by kernel_rfl) (.nil)))
theorem aGB (F : Md) : gam (xC F) 200 = some (aBy F) := rfl
theorem aGC (F : Md) : gam (xC F) 201 = some (zL F) := rfl
theorem aIf (F : Md) : gam (xC F) 22 = some (qU F) := rfl
attribute [go_sem] aFD aDN aGB aGC aIf
set_option maxHeartbeats 4000000 in
theorem aKG (F : Md) : FOK Tryz.prog GL 134 (uI F) := by
 refine bG (aW (aMb F)) mix Tryz.func134 rfl (by kernel_rfl) (by decide) aDN fun w0 S x Θ hw h hF => ?_
 obtain ⟨(a_0 : (Bool × ((List Nat) × (Int × Unit)))), (b_1 : (Bool × ((List Nat) × (Int × Unit)))), (n_2 : Int), u⟩ := x
 simp only [bH, go_sem]
 replace h : sat (gP F a_0 b_1 n_2) _ := h
 unfold gP at h
 obtain ⟨v_5, hv, h⟩ := aH h
 try simp only [hv, go_sem]
 obtain ⟨v_7, hv, h⟩ := aH h
 try simp only [hv, go_sem]
 refine aP h fun g0 h => ?_
 exact aF hF [.tmp 6] rfl rfl rfl (aA h) (by simp only [aT, go_sem])
attribute [go_sem] uI
end Nu
end Go.Proofs
namespace Go.Proofs
open Go.Vc
set_option maxRecDepth 100000
namespace Nu
section
open Go.Shelf Go.RowKit Go.Lib
set_option maxHeartbeats 4000000 in
theorem aQZ (n : Nat) (w : World) (hn : n ≤ 1073741824) :
  Calls Tryz.prog 202 #[.slice none 0 0, .int .i64 n] w fun e w' => (n = 0 ∧ e = .returned (.slice none 0 0) ∧ w' = w) ∨
   (0 < n ∧ e = .returned (.slice (some ⟨w.heap.size, 0, none⟩) 0 (grownCap w n 0 9)) ∧ w' = w.drew.alloc (.cells (Builtin.zeroCells #[Value.string ⟨#[]⟩] n ++ Builtin.zeroCells #[Value.string ⟨#[]⟩] (grownCap w n 0 9 - n)) 9)) := by
 have h1 : ¬ ((n : Int) < 0) := by omega
 have h3 : wrap64 ((n : Int) - wrap64 (0 - 0)) = (n : Int) := by unfold wrap64; omega
 have h5 : wrap64 (n : Int) = (n : Int) := by unfold wrap64; omega
 obtain ⟨i, hi, hz, hs, hb⟩ : ∃ i, Tryz.prog.info? 9 = some i ∧ i.zero = some (.string ⟨#[]⟩) ∧ i.size = 1 ∧ i.bytes = 16 := ⟨_, rfl, rfl, rfl, rfl⟩
 go_enter Tryz.func202, Tryz.ntmps202
 rcases Nat.eq_zero_or_pos n with rfl | hp
 ·go_wp2
  go_ret
  exact ⟨rfl, rfl⟩
 ·have h4 : (n : Int) > 0 := by omega
  have hrz : ∀ ty, (Builtin.append_ #[48, 3] ty #[.slice none 0 0, .int .i64 (n : Int)]).run Tryz.prog w = .ok (.slice (some ⟨w.heap.size, 0, none⟩) n (grownCap w n 0 9)) (w.drew.alloc (.cells (Builtin.zeroCells #[Value.string ⟨#[]⟩] n ++ Builtin.zeroCells #[Value.string ⟨#[]⟩] (grownCap w n 0 9 - n)) 9)) :=
   fun ty => Lib.run_append_nil_zeros w 48 3 ty 9 i (.string ⟨#[]⟩) .i64 .i64 rfl rfl hi hz n hp (by omega) (by omega) (by rw [hb]; omega)
  have hG := grownCap_ge w n 0 9
  have hG2 := grownCap_le_maxLen w n 0 9 (by unfold maxLen; omega)
  unfold maxLen at hG2
  generalize grownCap w n 0 9 = G at *
  go_wp2_with (at_builtin; refine Lib.wpList_append_run _ rfl _ _ _ _ rfl _ _ rfl rfl _ _ (hrz _) ?_)
  go_ret
  exact .inr ⟨rfl, rfl⟩
end
def kW (F : Md) (n : Int) : Option (List (List Nat)) := ck (0 ≤ n ∧ n ≤ 1073741824) (some [])
noncomputable def fA (F : Md) : lP where
 D := Int × (List (List Nat))
 av := fun d => [.nilS, .val (.i .i64) d.1]
 hp := fun d => []
 m := 0
 pre := fun d => kW F d.1 = some d.2
 out := fun d => (fun r : (List (List Nat)) => .ret (.own 0) [.row 9 .str (r)]) d.2
attribute [go_sem] fA
theorem aNe {F : Md} {c : Ctx} {w w' : World} {d : (fA F).D} (hd : d.2 = []) (good : Go.Vc.Good (GM (fA F) c d) w c [] w) (hk : dV nothing w w') (v : Value) (hv : ∃ a n m, v = .slice a n m) (hr : w'.ownsRow 0 9 1 v 0 []) (hb : ∀ b, aK v = some b → w.heap.size ≤ b ∧ b < w'.heap.size) :
  aE3 (fA F) c w d (.returned v) w' := by
 have e1 : (c.push v).hd c.n = v := by simp [Ctx.push]
 have h0 : c.n = 0 := good.n
 have := good.push hk (o := .row 9 .str []) (hv := v) (by
  show rC _ _ _ _ _ _
  rw [e1]
  exact ⟨[], hr, ⟨rfl, [], rfl, rfl, fun i h => by simp at h⟩⟩) (fun b h => hb b (by simpa [cZ, e1] using h))
 refine ⟨c.push v, ?_⟩
 show ∃ u, _ ∧ Go.Vc.Good _ _ _ [.row 9 .str d.2] _ ∧ aL _ _ (.own 0) u
 rw [hd]
 refine ⟨v, rfl, this.1, ?_⟩
 have := xY (c := c) (v' := v) hv (w' := w') (S' := c.S)
 rw [h0] at this
 exact this
theorem aB9 (F : Md) : GOK Tryz.prog GL 202 (fA F) := by
 rintro c w ⟨n, r⟩ vs hpre ⟨good, glob, len, val⟩
 have hpre : kW F n = some r := hpre
 unfold kW at hpre
 obtain ⟨⟨h1, h2⟩, hpre⟩ := aJ hpre
 have hr : [] = r := Option.some.inj hpre
 have hv0 := val 0 (by show 0 < 2; decide) (by rw [len]; show 0 < 2; decide)
 have hv1 := val 1 (by show 1 < 2; decide) (by rw [len]; show 1 < 2; decide)
 have e0 : vs.toList[0]'(by rw [len]; show 0 < 2; decide) = .slice none 0 0 := by
  obtain ⟨q1, _, q3⟩ := hv0
  have q3 := q3 rfl
  revert q1 q3
  generalize vs.toList[0]'(by rw [len]; show 0 < 2; decide) = sv
  intro q1 q3
  have q1 : sv.cells.toList = [.slice none 0 0] := q1
  cases sv <;> simp [Value.cells] at q1 q3 <;> simp [q1]
 obtain ⟨e1, _, _⟩ := aCh (k := .i64) (n := n) hv1
 have hvs : vs = #[.slice none 0 0, .int .i64 (n.toNat : Int)] := by
  have hlen : vs.toList.length = 2 := len
  rw [← Array.toList_inj]
  apply List.ext_getElem
  ·exact hlen
  ·intro i a1 a2
   match i, a2 with
   | 0, _ => exact e0
   | 1, _ => show _ = Value.int .i64 (n.toNat : Int); rw [Int.toNat_of_nonneg h1]; exact e1
 rw [hvs]
 refine Calls.mono (f := 202) (aQZ n.toNat w (by omega)) ?_
 rintro e w' (⟨_, rfl, rfl⟩ | ⟨hp, rfl, rfl⟩)
 ·exact aNe (d := (n, r)) hr.symm good (.refl nothing _) _ ⟨_, _, _, rfl⟩ ⟨rfl, .inl ⟨rfl, rfl⟩⟩ (fun b h => by simp [aK] at h)
 ·have hG := grownCap_ge w n.toNat 0 9
  have hG2 := grownCap_le_maxLen w n.toNat 0 9 (by unfold maxLen; omega)
  have hk : ∀ o, dV nothing w (w.drew.alloc o) := fun o => have k := dV.alloc nothing w.drew o; ⟨rfl, rfl, rfl, k.size, k.block⟩
  refine aNe (d := (n, r)) hr.symm good (hk _) _ ⟨_, _, _, rfl⟩ ⟨rfl, .inr ⟨w.heap.size, _, Builtin.zeroCells #[Value.string ⟨#[]⟩] n.toNat ++ Builtin.zeroCells #[Value.string ⟨#[]⟩] (grownCap w n.toNat 0 9 - n.toNat), rfl, Nat.zero_le _, ?_, Nat.zero_le _, hG2, ?_, rfl⟩⟩ ?_
  ·show (w.heap.push _)[w.heap.size]? = _
   simp
  ·simp [Builtin.zeroCells]
   omega
  ·intro b h
   simp only [aK, Option.some.injEq] at h
   subst h
   refine ⟨Nat.le_refl _, ?_⟩
   show w.heap.size < (w.heap.push _).size
   simp
end Nu
end Go.Proofs
