import Derived.Test.YtkihplehmkbfaaaGreatDoorZL6
import Derived.Test.YtkihplehmkbfaaaGreatDoorProg
import Derived.KernelRfl
import Derived.Laws.Externs
set_option linter.unusedVariables false
set_option linter.unusedSimpArgs false
namespace Go.Proofs
open Go.Vc
set_option maxRecDepth 20000
namespace Nu
def aQR : List Nat := [0, 1, 56, 2, 57, 49, 28, 3, 61, 58, 42, 50, 38, 29, 17, 4, 62, 47, 59, 36, 45, 43, 51, 22, 53, 39, 33, 30, 24, 18, 12, 5, 63, 55, 48, 27, 60, 41, 37, 16, 46, 35, 44, 21, 52, 32, 23, 11, 54, 26, 40, 15, 34, 20, 31, 10, 25, 14, 19, 9, 13, 8, 7, 6]
theorem aRF : aQR = [0, 1, 56, 2, 57, 49, 28, 3, 61, 58, 42, 50, 38, 29, 17, 4, 62, 47, 59, 36, 45, 43, 51, 22, 53, 39, 33, 30, 24, 18, 12, 5, 63, 55, 48, 27, 60, 41, 37, 16, 46, 35, 44, 21, 52, 32, 23, 11, 54, 26, 40, 15, 34, 20, 31, 10, 25, 14, 19, 9, 13, 8, 7, 6] := rfl
def p10 : List Nat := [1, 10, 100, 1000, 10000, 100000, 1000000, 10000000, 100000000, 1000000000, 10000000000, 100000000000, 1000000000000, 10000000000000, 100000000000000, 1000000000000000, 10000000000000000, 100000000000000000, 1000000000000000000, 10000000000000000000]
theorem aSf : p10 = [1, 10, 100, 1000, 10000, 100000, 1000000, 10000000, 100000000, 1000000000, 10000000000, 100000000000, 1000000000000, 10000000000000, 100000000000000, 1000000000000000, 10000000000000000, 100000000000000000, 1000000000000000000, 10000000000000000000] := rfl
noncomputable def GL : Nat → AV
 | 0 => .roa (.arr 64 (.u .u8)) aQR
 | 1 => .roa (.arr 20 (.u .u64)) p10
 | _ => .junk
theorem GL0 : GL 0 = .roa (.arr 64 (.u .u8)) aQR := rfl
theorem GL3 : GL 1 = .roa (.arr 20 (.u .u64)) p10 := rfl
attribute [go_sem] GL0 GL3 mSpec
def tab : List (TypeId × Ty) := [(258, .clo 239 .unit), (2, .i .i64), (3, .i .i64), (4, .bool), (5, .u .u8), (9, .str), (21, .i .i32), (22, .sl (.pair (.i .i64) (.pair (.i .i64) (.pair (.i .i64) (.pair (.pair .bool (.pair (.sl (.u .u64)) (.pair (.i .i64) .unit))) (.pair (.pair .bool (.pair (.sl (.u .u64)) (.pair (.i .i64) .unit))) (.pair (.sl (.sl (.pair (.pair .bool (.pair (.sl (.u .u64)) (.pair (.i .i64) .unit))) (.pair (.pair .bool (.pair (.sl (.u .u64)) (.pair (.i .i64) .unit))) .unit)))) (.pair (.sl (.sl (.pair (.sl (.pair .bool (.pair (.sl (.u .u64)) (.pair (.i .i64) .unit)))) (.pair (.sl (.pair (.pair .bool (.pair (.sl (.u .u64)) (.pair (.i .i64) .unit))) (.pair (.pair .bool (.pair (.sl (.u .u64)) (.pair (.i .i64) .unit))) .unit))) .unit)))) .unit)))))))), (23, .sl (.u .u64)), (25, .pair .bool (.pair (.sl (.u .u64)) (.pair (.i .i64) .unit))), (27, .pair (.pair .bool (.pair (.sl (.u .u64)) (.pair (.i .i64) .unit))) (.pair (.pair .bool (.pair (.sl (.u .u64)) (.pair (.i .i64) .unit))) .unit)), (30, .sl (.sl (.pair (.pair .bool (.pair (.sl (.u .u64)) (.pair (.i .i64) .unit))) (.pair (.pair .bool (.pair (.sl (.u .u64)) (.pair (.i .i64) .unit))) .unit)))), (31, .sl (.sl (.pair (.sl (.pair .bool (.pair (.sl (.u .u64)) (.pair (.i .i64) .unit)))) (.pair (.sl (.pair (.pair .bool (.pair (.sl (.u .u64)) (.pair (.i .i64) .unit))) (.pair (.pair .bool (.pair (.sl (.u .u64)) (.pair (.i .i64) .unit))) .unit))) .unit)))), (33, .pair (.i .i64) (.pair (.i .i64) (.pair (.i .i64) (.pair (.pair .bool (.pair (.sl (.u .u64)) (.pair (.i .i64) .unit))) (.pair (.pair .bool (.pair (.sl (.u .u64)) (.pair (.i .i64) .unit))) (.pair (.sl (.sl (.pair (.pair .bool (.pair (.sl (.u .u64)) (.pair (.i .i64) .unit))) (.pair (.pair .bool (.pair (.sl (.u .u64)) (.pair (.i .i64) .unit))) .unit)))) (.pair (.sl (.sl (.pair (.sl (.pair .bool (.pair (.sl (.u .u64)) (.pair (.i .i64) .unit)))) (.pair (.sl (.pair (.pair .bool (.pair (.sl (.u .u64)) (.pair (.i .i64) .unit))) (.pair (.pair .bool (.pair (.sl (.u .u64)) (.pair (.i .i64) .unit))) .unit))) .unit)))) .unit))))))), (39, .u .u64), (45, .sl .expr), (47, .expr), (48, .sl .str), (51, .sl (.pair .str (.pair (.sl (.pair .str (.pair (.pair .str (.pair .str .unit)) (.pair .expr .unit)))) (.pair (.sl (.pair .str (.pair (.pair .str (.pair .str .unit)) .unit))) (.pair (.sl .str) (.pair (.sl (.pair .str (.pair .expr .unit))) .unit)))))), (52, .sl (.pair .str (.pair .str (.pair .str (.pair .str .unit))))), (54, .pair (.i .i64) (.pair (.i .i64) (.pair (.i .i64) (.pair (.i .i64) (.pair .str (.pair .str (.pair .str (.pair .str (.pair (.sl (.pair .str (.pair (.sl (.pair .str (.pair (.pair .str (.pair .str .unit)) (.pair .expr .unit)))) (.pair (.sl (.pair .str (.pair (.pair .str (.pair .str .unit)) .unit))) (.pair (.sl .str) (.pair (.sl (.pair .str (.pair .expr .unit))) .unit)))))) (.pair (.sl (.pair .str (.pair .str (.pair .str (.pair .str .unit))))) .unit)))))))))), (56, .sl (.pair .str (.pair (.pair .str (.pair .str .unit)) (.pair .expr .unit)))), (57, .sl (.pair .str (.pair (.pair .str (.pair .str .unit)) .unit))), (58, .sl (.pair .str (.pair .expr .unit))), (60, .pair .str (.pair (.sl (.pair .str (.pair (.pair .str (.pair .str .unit)) (.pair .expr .unit)))) (.pair (.sl (.pair .str (.pair (.pair .str (.pair .str .unit)) .unit))) (.pair (.sl .str) (.pair (.sl (.pair .str (.pair .expr .unit))) .unit))))), (62, .pair .str (.pair .str .unit)), (64, .pair .str (.pair (.pair .str (.pair .str .unit)) (.pair .expr .unit))), (68, .pair .str (.pair .str (.pair .str (.pair .str .unit)))), (71, .pair .str (.pair (.pair .str (.pair .str .unit)) .unit)), (73, .pair .str (.pair .expr .unit)), (81, .sl (.i .i64)), (83, .u .u64), (85, .sl (.pair (.pair .bool (.pair (.sl (.u .u64)) (.pair (.i .i64) .unit))) (.pair (.pair .bool (.pair (.sl (.u .u64)) (.pair (.i .i64) .unit))) .unit))), (86, .sl (.pair (.sl (.pair .bool (.pair (.sl (.u .u64)) (.pair (.i .i64) .unit)))) (.pair (.sl (.pair (.pair .bool (.pair (.sl (.u .u64)) (.pair (.i .i64) .unit))) (.pair (.pair .bool (.pair (.sl (.u .u64)) (.pair (.i .i64) .unit))) .unit))) .unit))), (88, .sl (.pair .bool (.pair (.sl (.u .u64)) (.pair (.i .i64) .unit)))), (90, .pair (.sl (.pair .bool (.pair (.sl (.u .u64)) (.pair (.i .i64) .unit)))) (.pair (.sl (.pair (.pair .bool (.pair (.sl (.u .u64)) (.pair (.i .i64) .unit))) (.pair (.pair .bool (.pair (.sl (.u .u64)) (.pair (.i .i64) .unit))) .unit))) .unit)), (91, .nilf), (98, .nilp), (99, .sl (.u .u8)), (101, .pair .nilp (.pair (.sl (.u .u8)) .unit)), (103, .nili), (140, .sl (.u .u32)), (146, .u .u32), (174, .arr 256 (.bool)), (202, .pair .bool (.pair (.sl (.u .u32)) (.pair (.i .i64) .unit))), (221, .nilf), (226, .sl (.sl .str)), (238, .arr 24 (.u .u8)), (242, .arr 64 (.u .u8)), (251, .pair (.i .i64) .unit), (254, .pair (.i .i64) .unit), (264, .arr 20 (.u .u64)), (265, .arr 65 (.u .u8)), (268, .arr 256 (.u .u8)), (270, .pair (.u .u8) (.pair (.u .u8) .unit)), (271, .arr 16 (.pair (.u .u8) (.pair (.u .u8) .unit))), (278, .i .i64), (284, .arr 32 (.u .u8)), (294, .pair .str .unit)]
def elT : TypeId → TypeId
 | 22 => 33
 | 23 => 83
 | 30 => 85
 | 31 => 86
 | 45 => 47
 | 48 => 9
 | 51 => 60
 | 52 => 68
 | 56 => 64
 | 57 => 71
 | 58 => 73
 | 81 => 3
 | 85 => 27
 | 86 => 90
 | 88 => 25
 | 99 => 5
 | 140 => 146
 | 226 => 48
 | _ => 0
def mpT : TypeId → Option (TypeId × TypeId)
 | 96 => some (3, 9)
 | 171 => some (9, 4)
 | _ => none
theorem aM6 : gG Tryz.prog (aDV tab) := aPE (by kernel_rfl)
theorem aSn : ∀ t ct, aDV tab t = some (.sl ct) → Tryz.prog.underlying t = some (.slice (elT t)) := aRk (by kernel_rfl)
theorem aSo : ∀ t k e, mpT t = some (k, e) → Tryz.prog.underlying t = some (.map k e) := by
 intro t k e h
 unfold mpT at h
 split at h
 ·cases h; rfl
 ·cases h; rfl
 ·cases h
def TM : Tab := aDV tab
noncomputable def EM (l : List (FuncId × aG)) : Env := ⟨TM, GL, fun f _ => gam l f, elT, mpT, fun _ => none, fun _ => false⟩
def dmT : TypeId → Option Mk
 | 48 => some .no
 | 51 => some (.pair .no (.pair (.sl 64 .no) (.pair (.sl 71 .no) (.pair (.sl 9 .no) (.pair (.sl 73 .no) .no)))))
 | 52 => some .no
 | 56 => some .no
 | 57 => some .no
 | 58 => some .no
 | _ => none
def dzT : TypeId → Bool
 | 54 => true
 | 60 => true
 | _ => false
noncomputable def EX (l : List (FuncId × aG)) : Env := ⟨TM, GL, fun f _ => gam l f, elT, mpT, dmT, dzT⟩
theorem aSD (l : List (FuncId × aG)) (t : TypeId) : (EM l).T t = TM t := rfl
theorem aSE (l : List (FuncId × aG)) (t : Nat) : (EM l).G t = GL t := rfl
theorem aSF (l : List (FuncId × aG)) (f : FuncId) (vs : List AV) : (EM l).Γ f vs = gam l f := rfl
theorem aSp (l : List (FuncId × aG)) (t : TypeId) : (EM l).el t = elT t := rfl
theorem aSq (l : List (FuncId × aG)) (t : TypeId) : (EM l).mp t = mpT t := rfl
theorem bA {l : List (FuncId × aG)} (h : bE Tryz.prog GL l) : eK Tryz.prog (EM l) := aMS aM6 aSn aSo h
theorem mix : Tryz.prog.follows .mixedOrders = true := by kernel_rfl
theorem aSr (l : List (FuncId × aG)) (t : TypeId) : (EM l).dm t = none := rfl
theorem aSs (l : List (FuncId × aG)) (t : TypeId) : (EM l).dz t = false := rfl
theorem aSG (l : List (FuncId × aG)) (t : TypeId) : (EX l).T t = TM t := rfl
theorem aSH (l : List (FuncId × aG)) (t : Nat) : (EX l).G t = GL t := rfl
theorem aSI (l : List (FuncId × aG)) (f : FuncId) (vs : List AV) : (EX l).Γ f vs = gam l f := rfl
theorem aSt (l : List (FuncId × aG)) (t : TypeId) : (EX l).el t = elT t := rfl
theorem aSu (l : List (FuncId × aG)) (t : TypeId) : (EX l).mp t = mpT t := rfl
theorem aSv (l : List (FuncId × aG)) (t : TypeId) : (EX l).dm t = dmT t := rfl
theorem aSw (l : List (FuncId × aG)) (t : TypeId) : (EX l).dz t = dzT t := rfl
theorem aLy {l : List (FuncId × aG)} (h : bE Tryz.prog GL l) : eK Tryz.prog (EX l) := aMS aM6 aSn aSo h
attribute [go_sem] aSr aSs aSG aSH aSI aSt aSu aSv aSw dmT dzT
theorem T2 : TM 2 = some (.i .i64) := rfl
theorem T3 : TM 3 = some (.i .i64) := rfl
theorem T4 : TM 4 = some (.bool) := rfl
theorem T5 : TM 5 = some (.u .u8) := rfl
theorem T9 : TM 9 = some (.str) := rfl
theorem T21 : TM 21 = some (.i .i32) := rfl
theorem T22 : TM 22 = some (.sl (.pair (.i .i64) (.pair (.i .i64) (.pair (.i .i64) (.pair (.pair .bool (.pair (.sl (.u .u64)) (.pair (.i .i64) .unit))) (.pair (.pair .bool (.pair (.sl (.u .u64)) (.pair (.i .i64) .unit))) (.pair (.sl (.sl (.pair (.pair .bool (.pair (.sl (.u .u64)) (.pair (.i .i64) .unit))) (.pair (.pair .bool (.pair (.sl (.u .u64)) (.pair (.i .i64) .unit))) .unit)))) (.pair (.sl (.sl (.pair (.sl (.pair .bool (.pair (.sl (.u .u64)) (.pair (.i .i64) .unit)))) (.pair (.sl (.pair (.pair .bool (.pair (.sl (.u .u64)) (.pair (.i .i64) .unit))) (.pair (.pair .bool (.pair (.sl (.u .u64)) (.pair (.i .i64) .unit))) .unit))) .unit)))) .unit)))))))) := rfl
theorem T23 : TM 23 = some (.sl (.u .u64)) := rfl
theorem T25 : TM 25 = some (.pair .bool (.pair (.sl (.u .u64)) (.pair (.i .i64) .unit))) := rfl
theorem T27 : TM 27 = some (.pair (.pair .bool (.pair (.sl (.u .u64)) (.pair (.i .i64) .unit))) (.pair (.pair .bool (.pair (.sl (.u .u64)) (.pair (.i .i64) .unit))) .unit)) := rfl
theorem T30 : TM 30 = some (.sl (.sl (.pair (.pair .bool (.pair (.sl (.u .u64)) (.pair (.i .i64) .unit))) (.pair (.pair .bool (.pair (.sl (.u .u64)) (.pair (.i .i64) .unit))) .unit)))) := rfl
theorem T31 : TM 31 = some (.sl (.sl (.pair (.sl (.pair .bool (.pair (.sl (.u .u64)) (.pair (.i .i64) .unit)))) (.pair (.sl (.pair (.pair .bool (.pair (.sl (.u .u64)) (.pair (.i .i64) .unit))) (.pair (.pair .bool (.pair (.sl (.u .u64)) (.pair (.i .i64) .unit))) .unit))) .unit)))) := rfl
theorem T33 : TM 33 = some (.pair (.i .i64) (.pair (.i .i64) (.pair (.i .i64) (.pair (.pair .bool (.pair (.sl (.u .u64)) (.pair (.i .i64) .unit))) (.pair (.pair .bool (.pair (.sl (.u .u64)) (.pair (.i .i64) .unit))) (.pair (.sl (.sl (.pair (.pair .bool (.pair (.sl (.u .u64)) (.pair (.i .i64) .unit))) (.pair (.pair .bool (.pair (.sl (.u .u64)) (.pair (.i .i64) .unit))) .unit)))) (.pair (.sl (.sl (.pair (.sl (.pair .bool (.pair (.sl (.u .u64)) (.pair (.i .i64) .unit)))) (.pair (.sl (.pair (.pair .bool (.pair (.sl (.u .u64)) (.pair (.i .i64) .unit))) (.pair (.pair .bool (.pair (.sl (.u .u64)) (.pair (.i .i64) .unit))) .unit))) .unit)))) .unit))))))) := rfl
theorem T39 : TM 39 = some (.u .u64) := rfl
theorem T45 : TM 45 = some (.sl .expr) := rfl
theorem T47 : TM 47 = some (.expr) := rfl
theorem T48 : TM 48 = some (.sl .str) := rfl
theorem T51 : TM 51 = some (.sl (.pair .str (.pair (.sl (.pair .str (.pair (.pair .str (.pair .str .unit)) (.pair .expr .unit)))) (.pair (.sl (.pair .str (.pair (.pair .str (.pair .str .unit)) .unit))) (.pair (.sl .str) (.pair (.sl (.pair .str (.pair .expr .unit))) .unit)))))) := rfl
theorem T52 : TM 52 = some (.sl (.pair .str (.pair .str (.pair .str (.pair .str .unit))))) := rfl
theorem T54 : TM 54 = some (.pair (.i .i64) (.pair (.i .i64) (.pair (.i .i64) (.pair (.i .i64) (.pair .str (.pair .str (.pair .str (.pair .str (.pair (.sl (.pair .str (.pair (.sl (.pair .str (.pair (.pair .str (.pair .str .unit)) (.pair .expr .unit)))) (.pair (.sl (.pair .str (.pair (.pair .str (.pair .str .unit)) .unit))) (.pair (.sl .str) (.pair (.sl (.pair .str (.pair .expr .unit))) .unit)))))) (.pair (.sl (.pair .str (.pair .str (.pair .str (.pair .str .unit))))) .unit)))))))))) := rfl
theorem T56 : TM 56 = some (.sl (.pair .str (.pair (.pair .str (.pair .str .unit)) (.pair .expr .unit)))) := rfl
theorem T57 : TM 57 = some (.sl (.pair .str (.pair (.pair .str (.pair .str .unit)) .unit))) := rfl
theorem T58 : TM 58 = some (.sl (.pair .str (.pair .expr .unit))) := rfl
theorem T60 : TM 60 = some (.pair .str (.pair (.sl (.pair .str (.pair (.pair .str (.pair .str .unit)) (.pair .expr .unit)))) (.pair (.sl (.pair .str (.pair (.pair .str (.pair .str .unit)) .unit))) (.pair (.sl .str) (.pair (.sl (.pair .str (.pair .expr .unit))) .unit))))) := rfl
theorem T62 : TM 62 = some (.pair .str (.pair .str .unit)) := rfl
theorem T64 : TM 64 = some (.pair .str (.pair (.pair .str (.pair .str .unit)) (.pair .expr .unit))) := rfl
theorem T68 : TM 68 = some (.pair .str (.pair .str (.pair .str (.pair .str .unit)))) := rfl
theorem T71 : TM 71 = some (.pair .str (.pair (.pair .str (.pair .str .unit)) .unit)) := rfl
theorem T73 : TM 73 = some (.pair .str (.pair .expr .unit)) := rfl
theorem T81 : TM 81 = some (.sl (.i .i64)) := rfl
theorem T83 : TM 83 = some (.u .u64) := rfl
theorem T85 : TM 85 = some (.sl (.pair (.pair .bool (.pair (.sl (.u .u64)) (.pair (.i .i64) .unit))) (.pair (.pair .bool (.pair (.sl (.u .u64)) (.pair (.i .i64) .unit))) .unit))) := rfl
theorem T86 : TM 86 = some (.sl (.pair (.sl (.pair .bool (.pair (.sl (.u .u64)) (.pair (.i .i64) .unit)))) (.pair (.sl (.pair (.pair .bool (.pair (.sl (.u .u64)) (.pair (.i .i64) .unit))) (.pair (.pair .bool (.pair (.sl (.u .u64)) (.pair (.i .i64) .unit))) .unit))) .unit))) := rfl
theorem T88 : TM 88 = some (.sl (.pair .bool (.pair (.sl (.u .u64)) (.pair (.i .i64) .unit)))) := rfl
theorem T90 : TM 90 = some (.pair (.sl (.pair .bool (.pair (.sl (.u .u64)) (.pair (.i .i64) .unit)))) (.pair (.sl (.pair (.pair .bool (.pair (.sl (.u .u64)) (.pair (.i .i64) .unit))) (.pair (.pair .bool (.pair (.sl (.u .u64)) (.pair (.i .i64) .unit))) .unit))) .unit)) := rfl
theorem T91 : TM 91 = some (.nilf) := rfl
theorem T98 : TM 98 = some (.nilp) := rfl
theorem T99 : TM 99 = some (.sl (.u .u8)) := rfl
theorem aSJ : TM 101 = some (.pair .nilp (.pair (.sl (.u .u8)) .unit)) := rfl
theorem aSK : TM 103 = some (.nili) := rfl
theorem aSL : TM 140 = some (.sl (.u .u32)) := rfl
theorem aSM : TM 146 = some (.u .u32) := rfl
theorem aSN : TM 174 = some (.arr 256 (.bool)) := rfl
theorem aSO : TM 202 = some (.pair .bool (.pair (.sl (.u .u32)) (.pair (.i .i64) .unit))) := rfl
theorem aSP : TM 221 = some (.nilf) := rfl
theorem aSQ : TM 226 = some (.sl (.sl .str)) := rfl
theorem aSR : TM 238 = some (.arr 24 (.u .u8)) := rfl
theorem aSS : TM 242 = some (.arr 64 (.u .u8)) := rfl
theorem aST : TM 251 = some (.pair (.i .i64) .unit) := rfl
theorem aSU : TM 254 = some (.pair (.i .i64) .unit) := rfl
theorem aSV : TM 264 = some (.arr 20 (.u .u64)) := rfl
theorem aSW : TM 265 = some (.arr 65 (.u .u8)) := rfl
theorem aSX : TM 268 = some (.arr 256 (.u .u8)) := rfl
theorem aSY : TM 270 = some (.pair (.u .u8) (.pair (.u .u8) .unit)) := rfl
theorem aSZ : TM 271 = some (.arr 16 (.pair (.u .u8) (.pair (.u .u8) .unit))) := rfl
theorem aS0 : TM 278 = some (.i .i64) := rfl
theorem aS1 : TM 284 = some (.arr 32 (.u .u8)) := rfl
theorem aS2 : TM 294 = some (.pair .str .unit) := rfl
theorem aS3 : TM 258 = some (.clo 239 .unit) := rfl
attribute [go_sem] aSD aSE aSF aSp aSq elT mpT aS3 T2 T3 T4 T5 T9 T21 T22 T23 T25 T27 T30 T31 T33 T39 T45 T47 T48 T51 T52 T54 T56 T57 T58 T60 T62 T64 T68 T71 T73 T81 T83 T85 T86 T88 T90 T91 T98 T99 aSJ aSK aSL aSM aSN aSO aSP aSQ aSR aSS aST aSU aSV aSW aSX aSY aSZ aS0 aS1 aS2
end Nu
end Go.Proofs
namespace Go.Proofs
open Go.Vc
set_option maxRecDepth 20000
namespace Nu
def hU (x y c : Nat) : Nat × Nat × Unit := ((x + y + c) % 18446744073709551616, (x + y + c) / 18446744073709551616, ())
def aC5 (x y c : Nat) : Nat × Nat × Unit := ((x + 18446744073709551616 - y - c) % 18446744073709551616, (if x < y + c then 1 else 0), ())
abbrev yQ (x y c : Nat) : Prop := c ≤ 1
def aFt : Ty := .pair (.u .u64) (.pair (.u .u64) (.pair (.u .u64) .unit))
noncomputable def kM : aG := ⟨aFt, .tup (.pair (.u .u64) (.pair (.u .u64) .unit)), fun x => yQ x.1 x.2.1 x.2.2.1, fun x => hU x.1 x.2.1 x.2.2.1⟩
attribute [go_sem] kM aFt
def aFu : Ty := .pair (.u .u64) (.pair (.u .u64) (.pair (.u .u64) .unit))
noncomputable def vE : aG := ⟨aFu, .tup (.pair (.u .u64) (.pair (.u .u64) .unit)), fun x => yQ x.1 x.2.1 x.2.2.1, fun x => aC5 x.1 x.2.1 x.2.2.1⟩
attribute [go_sem] vE aFu
theorem aL3 {w : World} {S : Nat → Prop} {x : Nat} {v : Value} (h : cM w S (.u .u64) x v) : v = .int .u64 (x : Int) := by
 unfold cM at h
 rw [if_neg (by simp [Ty.isAgg])] at h
 simp only [aR, List.cons.injEq, and_true] at h
 exact h.1
theorem aJK {w : World} {S : Nat → Prop} {vs : List Value} {x : Nat × Nat × Nat × Unit} (h : lU w S (.pair (.u .u64) (.pair (.u .u64) (.pair (.u .u64) .unit))) x vs) : vs = [.int .u64 (x.1 : Int), .int .u64 (x.2.1 : Int), .int .u64 (x.2.2.1 : Int)] := by
 obtain ⟨v1, r1, rfl, h1, v2, r2, rfl, h2, v3, r3, rfl, h3, h4⟩ := h
 rw [aL3 h1, aL3 h2, aL3 h3]
 have h4 : r3 = [] := h4
 rw [h4]
theorem aQS {w : World} {S : Nat → Prop} {x : Nat} (h : x < 18446744073709551616) : cM w S (.u .u64) x (.int .u64 (x : Int)) := by
 unfold cM
 rw [if_neg (by simp [Ty.isAgg])]
 refine ⟨rfl, rfl, ?_⟩
 simp [IntKind.max, IntKind.signed, IntKind.bits]; omega
theorem aM7 {w : World} {S : Nat → Prop} {x y : Nat} (hx : x < 18446744073709551616) (hy : y < 18446744073709551616) : lU w S (.pair (.u .u64) (.pair (.u .u64) .unit)) (x, y, ()) [.int .u64 (x : Int), .int .u64 (y : Int)] :=
 ⟨_, _, rfl, aQS hx, _, _, rfl, aQS hy, rfl⟩
theorem wf_u64 {x : Nat} (h : (Ty.u .u64).wf x) : x < 18446744073709551616 := by
 simp only [Ty.wf, IntKind.max, IntKind.signed, IntKind.bits] at h
 simp at h; omega
def aJL : Array Value → Sem Value := fun args => do
 let (x, y, b) ← Extern.MathBitsCarry.three "Sub64" args
 pure (Extern.MathBitsCarry.pair ((x + Extern.MathBitsCarry.m64 - y - b) % Extern.MathBitsCarry.m64) (if x < y + b then 1 else 0))
theorem aPs {P : Program} (x y b : Nat) (hb : b ≤ 1) (w : World) :
  (aJL #[.int .u64 x, .int .u64 y, .int .u64 b]).run P w =
   .ok (.tuple #[.int .u64 (((x + 18446744073709551616 - y - b) % 18446744073709551616 : Nat) : Int), .int .u64 ((if x < y + b then 1 else 0 : Nat) : Int)]) w := by
 have : b = 0 ∨ b = 1 := by omega
 rcases this with rfl | rfl <;> rfl
theorem aAz : NOK Tryz.prog GL 162 kM := by
 refine aQd fun w S vs x ha hp => ?_
 have hp : x.2.2.1 ≤ 1 := hp
 have hw := aDF _ _ _ ha
 obtain ⟨h1, h2, h3, _⟩ := hw
 have h1 := wf_u64 h1
 have h2 := wf_u64 h2
 rw [aJK ha]
 refine ⟨[.int .u64 (((x.1 + x.2.1 + x.2.2.1) % 18446744073709551616 : Nat) : Int), .int .u64 (((x.1 + x.2.1 + x.2.2.1) / 18446744073709551616 : Nat) : Int)], ?_, aM7 (by omega) (by omega)⟩
 rw [run_callFunc_extern Tryz.func162 (by kernel_rfl) (by kernel_rfl) (by kernel_rfl) (e := add64Entry) (by kernel_rfl), run_add64 x.1 x.2.1 x.2.2.1 (by omega) (by omega) (by omega) (by omega)]
 simp only [Result.andThen]
 congr 5 <;> omega
theorem aKG : NOK Tryz.prog GL 253 vE := by
 refine aQd fun w S vs x ha hp => ?_
 have hp : x.2.2.1 ≤ 1 := hp
 have hw := aDF _ _ _ ha
 obtain ⟨h1, h2, h3, _⟩ := hw
 have h1 := wf_u64 h1
 have h2 := wf_u64 h2
 rw [aJK ha]
 refine ⟨[.int .u64 (((x.1 + 18446744073709551616 - x.2.1 - x.2.2.1) % 18446744073709551616 : Nat) : Int), .int .u64 ((if x.1 < x.2.1 + x.2.2.1 then 1 else 0 : Nat) : Int)], ?_, aM7 (by omega) (by split <;> omega)⟩
 rw [run_callFunc_extern Tryz.func253 (by kernel_rfl) (by kernel_rfl) (by kernel_rfl) (e := aJL) (by kernel_rfl), aPs x.1 x.2.1 x.2.2.1 hp]
 rfl
abbrev aQT (s : List Nat) : Prop := s.length * 8 ≤ 140737488355328
def oC : Ty := .pair (.sl (.u .u64)) .unit
noncomputable def cC : aG := ⟨oC, .own 83 (.u .u64), fun x => aQT x.1, fun x => id x.1⟩
attribute [go_sem] cC oC
noncomputable def uF (F : Md) : List (FuncId × aG) := []
theorem uG (F : Md) : bE Tryz.prog GL (uF F) := .nil
theorem jZ : FOK Tryz.prog GL 165 cC := by
 refine aNH (bA (uG none)) Tryz.func165 rfl (by kernel_rfl) (by decide) fun w0 S x hw hp => ?_
 have hF : jQ (fr Tryz.prog (EM (uF none)) S w0 Tryz.f165.ntmps) := ⟨bA (uG none), mix⟩
 obtain ⟨(s : (List Nat)), u⟩ := x
 have hp : s.length * 8 ≤ 140737488355328 := hp
 simp only [bL, oC, cC]
 refine aB (aD hF [0, 2] ?_)
 simp only [go_sem]
 refine aC (aB (aB (aLw hF rfl rfl rfl fun b hb => ?_)))
 refine aC (cB rfl (fun hc => ?_) (fun hc => ?_))
 ·have hs := hb hc
  refine aB (aD hF [2] ?_)
  simp only [go_sem]
  refine aC (cV (dC (eZ hF [.tmp 2] rfl rfl rfl ?_)))
  simp only [gZ, aT, go_sem, hs]
  try trivial
 ·refine cP (aC (aB (aZ hF [2] ?_)))
  simp only [go_sem]
  refine ⟨by omega, ?_⟩
  refine aC (cV (eZ hF [.tmp 2] rfl rfl rfl ?_))
  simp only [gZ, aT, go_sem]
  try trivial
end Nu
end Go.Proofs
namespace Go.Proofs
open Go.Vc
set_option maxRecDepth 20000
namespace Nu
def aBJ : ByteArray := ⟨⟨0 :: 1 :: 2 :: 2 :: 3 :: 3 :: 3 :: 3 :: 4 :: 4 :: 4 :: 4 :: 4 :: 4 :: 4 :: 4 :: 5 :: 5 :: 5 :: 5 :: 5 :: 5 :: 5 :: 5 :: 5 :: 5 :: 5 :: 5 :: 5 :: 5 :: 5 :: 5 :: 6 :: 6 :: 6 :: 6 :: 6 :: 6 :: 6 :: 6 :: 6 :: 6 :: 6 :: 6 :: 6 :: 6 :: 6 :: 6 :: 6 :: 6 :: 6 :: 6 :: 6 :: 6 :: 6 :: 6 :: 6 :: 6 :: 6 :: 6 :: 6 :: 6 :: 6 :: 6 :: 7 :: 7 :: 7 :: 7 :: 7 :: 7 :: 7 :: 7 :: 7 :: 7 :: 7 :: 7 :: 7 :: 7 :: 7 :: 7 :: 7 :: 7 :: 7 :: 7 :: 7 :: 7 :: 7 :: 7 :: 7 :: 7 :: 7 :: 7 :: 7 :: 7 :: 7 :: 7 :: 7 :: 7 :: 7 :: 7 :: 7 :: 7 :: 7 :: 7 :: 7 :: 7 :: 7 :: 7 :: 7 :: 7 :: 7 :: 7 :: 7 :: 7 :: 7 :: 7 :: 7 :: 7 :: 7 :: 7 :: 7 :: 7 :: 7 :: 7 :: 7 :: 7 :: 7 :: 7 :: 8 :: 8 :: 8 :: 8 :: 8 :: 8 :: 8 :: 8 :: 8 :: 8 :: 8 :: 8 :: 8 :: 8 :: 8 :: 8 :: 8 :: 8 :: 8 :: 8 :: 8 :: 8 :: 8 :: 8 :: 8 :: 8 :: 8 :: 8 :: 8 :: 8 :: 8 :: 8 :: 8 :: 8 :: 8 :: 8 :: 8 :: 8 :: 8 :: 8 :: 8 :: 8 :: 8 :: 8 :: 8 :: 8 :: 8 :: 8 :: 8 :: 8 :: 8 :: 8 :: 8 :: 8 :: 8 :: 8 :: 8 :: 8 :: 8 :: 8 :: 8 :: 8 :: 8 :: 8 :: 8 :: 8 :: 8 :: 8 :: 8 :: 8 :: 8 :: 8 :: 8 :: 8 :: 8 :: 8 :: 8 :: 8 :: 8 :: 8 :: 8 :: 8 :: 8 :: 8 :: 8 :: 8 :: 8 :: 8 :: 8 :: 8 :: 8 :: 8 :: 8 :: 8 :: 8 :: 8 :: 8 :: 8 :: 8 :: 8 :: 8 :: 8 :: 8 :: 8 :: 8 :: 8 :: 8 :: 8 :: 8 :: 8 :: 8 :: 8 :: 8 :: 8 :: 8 :: 8 :: 8 :: 8 :: 8 :: 8 :: 8 :: 8 :: 8 :: 8 :: 8 :: 8 :: 8 :: 8 :: []⟩⟩
theorem aKH : (⟨⟨0 :: 1 :: 2 :: 2 :: 3 :: 3 :: 3 :: 3 :: 4 :: 4 :: 4 :: 4 :: 4 :: 4 :: 4 :: 4 :: 5 :: 5 :: 5 :: 5 :: 5 :: 5 :: 5 :: 5 :: 5 :: 5 :: 5 :: 5 :: 5 :: 5 :: 5 :: 5 :: 6 :: 6 :: 6 :: 6 :: 6 :: 6 :: 6 :: 6 :: 6 :: 6 :: 6 :: 6 :: 6 :: 6 :: 6 :: 6 :: 6 :: 6 :: 6 :: 6 :: 6 :: 6 :: 6 :: 6 :: 6 :: 6 :: 6 :: 6 :: 6 :: 6 :: 6 :: 6 :: 7 :: 7 :: 7 :: 7 :: 7 :: 7 :: 7 :: 7 :: 7 :: 7 :: 7 :: 7 :: 7 :: 7 :: 7 :: 7 :: 7 :: 7 :: 7 :: 7 :: 7 :: 7 :: 7 :: 7 :: 7 :: 7 :: 7 :: 7 :: 7 :: 7 :: 7 :: 7 :: 7 :: 7 :: 7 :: 7 :: 7 :: 7 :: 7 :: 7 :: 7 :: 7 :: 7 :: 7 :: 7 :: 7 :: 7 :: 7 :: 7 :: 7 :: 7 :: 7 :: 7 :: 7 :: 7 :: 7 :: 7 :: 7 :: 7 :: 7 :: 7 :: 7 :: 7 :: 7 :: 8 :: 8 :: 8 :: 8 :: 8 :: 8 :: 8 :: 8 :: 8 :: 8 :: 8 :: 8 :: 8 :: 8 :: 8 :: 8 :: 8 :: 8 :: 8 :: 8 :: 8 :: 8 :: 8 :: 8 :: 8 :: 8 :: 8 :: 8 :: 8 :: 8 :: 8 :: 8 :: 8 :: 8 :: 8 :: 8 :: 8 :: 8 :: 8 :: 8 :: 8 :: 8 :: 8 :: 8 :: 8 :: 8 :: 8 :: 8 :: 8 :: 8 :: 8 :: 8 :: 8 :: 8 :: 8 :: 8 :: 8 :: 8 :: 8 :: 8 :: 8 :: 8 :: 8 :: 8 :: 8 :: 8 :: 8 :: 8 :: 8 :: 8 :: 8 :: 8 :: 8 :: 8 :: 8 :: 8 :: 8 :: 8 :: 8 :: 8 :: 8 :: 8 :: 8 :: 8 :: 8 :: 8 :: 8 :: 8 :: 8 :: 8 :: 8 :: 8 :: 8 :: 8 :: 8 :: 8 :: 8 :: 8 :: 8 :: 8 :: 8 :: 8 :: 8 :: 8 :: 8 :: 8 :: 8 :: 8 :: 8 :: 8 :: 8 :: 8 :: 8 :: 8 :: 8 :: 8 :: 8 :: 8 :: 8 :: 8 :: 8 :: 8 :: 8 :: 8 :: 8 :: 8 :: 8 :: 8 :: []⟩⟩ : ByteArray) = aBJ := rfl
attribute [go_sem] aKH
noncomputable def nN (F : Md) (x_6 : Nat) (n_7 : Int) : Option (Int) :=
 ck (0 ≤ (((x_6 % 256) : Nat) : Int) ∧ (((x_6 % 256) : Nat) : Int) < ((((aE aBJ).length) : Nat) : Int)) (ck (I64 (n_7 + ((((aE aBJ).getD (x_6 % 256) (0 : Nat)) : Nat) : Int))) (some (n_7 + ((((aE aBJ).getD (x_6 % 256) (0 : Nat)) : Nat) : Int))))
noncomputable def nO (F : Md) (x_4 : Nat) (n_5 : Int) : Option (Int) :=
 if (256 : Nat) ≤ x_4 then ck (I64 (n_5 + (8 : Int))) (nN F (x_4 / (256 : Nat)) (n_5 + (8 : Int))) else nN F x_4 n_5
noncomputable def nP (F : Md) (x_2 : Nat) (n_3 : Int) : Option (Int) :=
 if (65536 : Nat) ≤ x_2 then ck (I64 (n_3 + (16 : Int))) (nO F (x_2 / (65536 : Nat)) (n_3 + (16 : Int))) else nO F x_2 n_3
noncomputable def xD (F : Md) (x_0 : Nat) : Option Int :=
 if (4294967296 : Nat) ≤ x_0 then nP F (x_0 / (4294967296 : Nat)) (32 : Int) else nP F x_0 (0 : Int)
def aDZ : PlR := ⟨[(0, .A [0, 2]), (1, .A [0, 2, 4]), (2, .A [0]), (3, .A [0, 2]), (4, .A [0, 2, 8]), (5, .A [0, 2]), (6, .A [0, 2]), (7, .A [0, 2, 14]), (8, .A [0, 2]), (9, .A [0, 2]), (10, .A [2])], [(4, 7), (7, 10), (10, 13)]⟩
def aFv : Ty := .pair (.u .u64) .unit
noncomputable def vF (F : Md) : aG := mSpec aFv (.one (.i .i64)) (fun x => xD F x.1)
noncomputable def aL4 (F : Md) : List (FuncId × aG) := []
theorem aL5 (F : Md) : bE Tryz.prog GL (aL4 F) := .nil
attribute [go_sem] aFv aDZ
set_option maxHeartbeats 4000000 in
theorem aKI (F : Md) : FOK Tryz.prog GL 235 (vF F) := by
 refine bH (bA (aL5 F)) mix Tryz.func235 rfl (by kernel_rfl) (by decide) aDZ fun w0 S x Θ hw h hF => ?_
 obtain ⟨(x_0 : Nat), u⟩ := x
 simp only [bL, go_sem]
 replace h : sat (xD F x_0) _ := h
 unfold xD at h
 refine dZ hF (D := Nat × Int) (fun d => sat (nP F d.1 d.2) Θ) [] (fun d => [(0, .val (.u .u64) d.1), (2, .val (.i .i64) d.2)]) (fun d => []) ?_ ?_
 ·simp only [go_sem]
  refine dP h (fun hc h => ?_) fun hc h => ?_
  ·exact aV (((x_0 / (4294967296 : Nat)), (32 : Int))) h rfl (by simp only [go_sem])
  ·exact aV ((x_0, (0 : Int))) h rfl (by simp only [go_sem])
 ·rintro ⟨x_2, n_3⟩ h
  simp only [go_sem]
  replace h : sat (nP F x_2 n_3) _ := h
  unfold nP at h
  refine dZ hF (D := Nat × Int) (fun d => sat (nO F d.1 d.2) Θ) [] (fun d => [(0, .val (.u .u64) d.1), (2, .val (.i .i64) d.2)]) (fun d => []) ?_ ?_
  ·simp only [go_sem]
   refine dP h (fun hc h => ?_) fun hc h => ?_
   ·refine aS h fun g0 h => ?_
    exact aV (((x_2 / (65536 : Nat)), (n_3 + (16 : Int)))) h rfl (by simp only [go_sem])
   ·exact aV ((x_2, n_3)) h rfl (by simp only [go_sem])
  ·rintro ⟨x_4, n_5⟩ h
   simp only [go_sem]
   replace h : sat (nO F x_4 n_5) _ := h
   unfold nO at h
   refine dZ hF (D := Nat × Int) (fun d => sat (nN F d.1 d.2) Θ) [] (fun d => [(0, .val (.u .u64) d.1), (2, .val (.i .i64) d.2)]) (fun d => []) ?_ ?_
   ·simp only [go_sem]
    refine dP h (fun hc h => ?_) fun hc h => ?_
    ·refine aS h fun g0 h => ?_
     exact aV (((x_4 / (256 : Nat)), (n_5 + (8 : Int)))) h rfl (by simp only [go_sem])
    ·exact aV ((x_4, n_5)) h rfl (by simp only [go_sem])
   ·rintro ⟨x_6, n_7⟩ h
    simp only [go_sem]
    replace h : sat (nN F x_6 n_7) _ := h
    unfold nN at h
    refine aS h fun g0 h => aS h fun g1 h => ?_
    exact aI hF [.tmp 2] rfl rfl rfl (aA h) (by simp only [aT, go_sem])
attribute [go_sem] vF
noncomputable def bM (F : Md) (x_0 : Nat) : Option Int :=
 (xD F x_0).bind (fun v_5 => ck (I64 ((64 : Int) - v_5)) (some ((64 : Int) - v_5)))
def sX : PlR := ⟨[(0, .A [0]), (1, .A [2])], []⟩
def uH : Ty := .pair (.u .u64) .unit
noncomputable def dM (F : Md) : aG := mSpec uH (.one (.i .i64)) (fun x => bM F x.1)
noncomputable def uI (F : Md) : List (FuncId × aG) := [(235, (vF F))]
theorem aCt (F : Md) : bE Tryz.prog GL (uI F) := .cons (aKI F) (by kernel_rfl) (.nil)
theorem zS (F : Md) : gam (uI F) 235 = some (vF F) := rfl
attribute [go_sem] uH sX zS
set_option maxHeartbeats 4000000 in
theorem nB (F : Md) : FOK Tryz.prog GL 188 (dM F) := by
 refine bH (bA (aCt F)) mix Tryz.func188 rfl (by kernel_rfl) (by decide) sX fun w0 S x Θ hw h hF => ?_
 obtain ⟨(x_0 : Nat), u⟩ := x
 simp only [bL, go_sem]
 replace h : sat (bM F x_0) _ := h
 unfold bM at h
 obtain ⟨v_5, hv, h⟩ := aM h
 try simp only [hv, go_sem]
 refine aS h fun g0 h => ?_
 exact aI hF [.tmp 2] rfl rfl rfl (aA h) (by simp only [aT, go_sem])
attribute [go_sem] dM
noncomputable def kA (F : Md) (x_0 : Nat) : Option Int :=
 if x_0 = (0 : Nat) then some (64 : Int) else ck (0 ≤ ((((mulM F .u64 (x_0 &&& (aNP F .u64 x_0)) (285870213051353865 : Nat)) / (288230376151711744 : Nat)) : Nat) : Int) ∧ ((((mulM F .u64 (x_0 &&& (aNP F .u64 x_0)) (285870213051353865 : Nat)) / (288230376151711744 : Nat)) : Nat) : Int) < (64 : Int)) (some (((aQR.getD ((mulM F .u64 (x_0 &&& (aNP F .u64 x_0)) (285870213051353865 : Nat)) / (288230376151711744 : Nat)) (0 : Nat)) : Nat) : Int))
def rW : PlR := ⟨[(0, .A [0]), (1, .A [0, 4]), (2, .A [2]), (3, .A [2])], []⟩
def sY : Ty := .pair (.u .u64) .unit
noncomputable def jD (F : Md) : aG := mSpec sY (.one (.i .i64)) (fun x => kA F x.1)
noncomputable def aBK (F : Md) : List (FuncId × aG) := []
theorem aBL (F : Md) : bE Tryz.prog GL (aBK F) := .nil
attribute [go_sem] sY rW
set_option maxHeartbeats 4000000 in
theorem aA0 (F : Md) : FOK Tryz.prog GL 164 (jD F) := by
 refine bH (bA (aBL F)) mix Tryz.func164 rfl (by kernel_rfl) (by decide) rW fun w0 S x Θ hw h hF => ?_
 obtain ⟨(x_0 : Nat), u⟩ := x
 simp only [bL, go_sem]
 replace h : sat (kA F x_0) _ := h
 unfold kA at h
 refine dP h (fun hc h => ?_) fun hc h => ?_
 ·exact aI hF [.tmp 2] rfl rfl rfl (aA h) (by simp only [aT, go_sem, aJ F, aK F, aL F])
 ·obtain ⟨g0, h⟩ := aN h
  repeat (refine ⟨by first | with_reducible assumption | omega | (intros; first | with_reducible assumption | omega) | (simp only [go_sem, aJ F, aK F, aL F] at *; first | assumption | omega) | decide, ?_⟩)
  exact aI hF [.tmp 2] rfl rfl rfl (aA h) (by (simp only [aT, go_sem, aJ F, aK F, aL F]) <;> first | rfl | (simp; done))
attribute [go_sem] jD
noncomputable def cD (F : Md) (x_0 : Nat) (y_1 : Nat) : Option (Nat × (Nat × Unit)) :=
 some ((((((mulM F .u64 (x_0 / (4294967296 : Nat)) (y_1 / (4294967296 : Nat))) + ((((mulM F .u64 (x_0 / (4294967296 : Nat)) (y_1 &&& (4294967295 : Nat))) + ((mulM F .u64 (x_0 &&& (4294967295 : Nat)) (y_1 &&& (4294967295 : Nat))) / (4294967296 : Nat))) % 18446744073709551616) / (4294967296 : Nat))) % 18446744073709551616) + (((((((mulM F .u64 (x_0 / (4294967296 : Nat)) (y_1 &&& (4294967295 : Nat))) + ((mulM F .u64 (x_0 &&& (4294967295 : Nat)) (y_1 &&& (4294967295 : Nat))) / (4294967296 : Nat))) % 18446744073709551616) &&& (4294967295 : Nat)) + (mulM F .u64 (x_0 &&& (4294967295 : Nat)) (y_1 / (4294967296 : Nat)))) % 18446744073709551616) / (4294967296 : Nat))) % 18446744073709551616), (mulM F .u64 x_0 y_1), ())
def aD0 : PlR := ⟨[(0, .A [0, 1]), (1, .A [0, 1, 6]), (2, .A [0, 1, 6, 7]), (3, .A [0, 1, 6, 7, 8]), (4, .A [0, 1, 6, 7, 8, 9]), (5, .A [0, 1, 6, 7, 8, 9, 10]), (6, .A [0, 1, 6, 7, 9, 11]), (7, .A [0, 1, 6, 7, 9, 11, 12]), (8, .A [0, 1, 6, 7, 9, 12, 13]), (9, .A [0, 1, 7, 9, 12, 13]), (10, .A [0, 1, 4]), (11, .A [4, 5])], []⟩
def aFw : Ty := .pair (.u .u64) (.pair (.u .u64) .unit)
noncomputable def nW (F : Md) : aG := mSpec aFw (.tup (.pair (.u .u64) (.pair (.u .u64) .unit))) (fun x => cD F x.1 x.2.1)
noncomputable def aL6 (F : Md) : List (FuncId × aG) := []
theorem aL7 (F : Md) : bE Tryz.prog GL (aL6 F) := .nil
attribute [go_sem] aFw aD0
set_option maxHeartbeats 4000000 in
theorem aD1 (F : Md) : FOK Tryz.prog GL 161 (nW F) := by
 refine bH (bA (aL7 F)) mix Tryz.func161 rfl (by kernel_rfl) (by decide) aD0 fun w0 S x Θ hw h hF => ?_
 obtain ⟨(x_0 : Nat), (y_1 : Nat), u⟩ := x
 simp only [bL, go_sem]
 replace h : sat (cD F x_0 y_1) _ := h
 unfold cD at h
 exact aI hF [.tmp 4, .tmp 5] rfl rfl rfl (aA h) (by simp only [aT, go_sem, aJ F, aK F, aL F])
attribute [go_sem] nW
noncomputable def rA (F : Md) (x15_12 : Nat) (hi_0 : Nat) (v_7 : Int) (lo_1 : Nat) (y_2 : Nat) (x18_17 : Nat) : Option ((Nat × (Nat × Unit))) :=
 some ((((mulM F .u64 x15_12 (4294967296 : Nat)) + x18_17) % 18446744073709551616), ((sW F .u64 (((mulM F .u64 (sW F .u64 (((mulM F .u64 (((hi_0 * (2 ^ ((v_7 % (18446744073709551616 : Int)).toNat))) % 18446744073709551616) ||| (lo_1 / (2 ^ (sW F .u64 (64 : Nat) ((v_7 % (18446744073709551616 : Int)).toNat))))) (4294967296 : Nat)) + (((lo_1 * (2 ^ ((v_7 % (18446744073709551616 : Int)).toNat))) % 18446744073709551616) / (4294967296 : Nat))) % 18446744073709551616) (mulM F .u64 x15_12 ((y_2 * (2 ^ ((v_7 % (18446744073709551616 : Int)).toNat))) % 18446744073709551616))) (4294967296 : Nat)) + (((lo_1 * (2 ^ ((v_7 % (18446744073709551616 : Int)).toNat))) % 18446744073709551616) &&& (4294967295 : Nat))) % 18446744073709551616) (mulM F .u64 x18_17 ((y_2 * (2 ^ ((v_7 % (18446744073709551616 : Int)).toNat))) % 18446744073709551616))) / (2 ^ ((v_7 % (18446744073709551616 : Int)).toNat))), ())
noncomputable def uV (F : Md) (lo_1 : Nat) (v_7 : Int) (y_2 : Nat) (rhat_18 : Nat) (x18_19 : Nat) : Option ((Nat × Nat) ⊕ ((Nat))) :=
 if ((4294967296 : Nat) ≤ x18_19) ∨ ((((mulM F .u64 (4294967296 : Nat) rhat_18) + (((lo_1 * (2 ^ ((v_7 % (18446744073709551616 : Int)).toNat))) % 18446744073709551616) &&& (4294967295 : Nat))) % 18446744073709551616) < (mulM F .u64 x18_19 (((y_2 * (2 ^ ((v_7 % (18446744073709551616 : Int)).toNat))) % 18446744073709551616) &&& (4294967295 : Nat)))) then if (4294967296 : Nat) ≤ ((rhat_18 + (((y_2 * (2 ^ ((v_7 % (18446744073709551616 : Int)).toNat))) % 18446744073709551616) / (4294967296 : Nat))) % 18446744073709551616) then some (.inr (sW F .u64 x18_19 (1 : Nat))) else some (.inl (((rhat_18 + (((y_2 * (2 ^ ((v_7 % (18446744073709551616 : Int)).toNat))) % 18446744073709551616) / (4294967296 : Nat))) % 18446744073709551616), (sW F .u64 x18_19 (1 : Nat)))) else some (.inr x18_19)
noncomputable def rB (F : Md) (y_2 : Nat) (v_7 : Int) (lo_1 : Nat) (hi_0 : Nat) (x15_12 : Nat) : Option ((Nat × (Nat × Unit))) :=
 ck ((((y_2 * (2 ^ ((v_7 % (18446744073709551616 : Int)).toNat))) % 18446744073709551616) / (4294967296 : Nat)) ≠ 0) ((dG F (fun d : Nat × Nat => uV F lo_1 v_7 y_2 d.1 d.2) ((sW F .u64 (sW F .u64 (((mulM F .u64 (((hi_0 * (2 ^ ((v_7 % (18446744073709551616 : Int)).toNat))) % 18446744073709551616) ||| (lo_1 / (2 ^ (sW F .u64 (64 : Nat) ((v_7 % (18446744073709551616 : Int)).toNat))))) (4294967296 : Nat)) + (((lo_1 * (2 ^ ((v_7 % (18446744073709551616 : Int)).toNat))) % 18446744073709551616) / (4294967296 : Nat))) % 18446744073709551616) (mulM F .u64 x15_12 ((y_2 * (2 ^ ((v_7 % (18446744073709551616 : Int)).toNat))) % 18446744073709551616))) (mulM F .u64 ((sW F .u64 (((mulM F .u64 (((hi_0 * (2 ^ ((v_7 % (18446744073709551616 : Int)).toNat))) % 18446744073709551616) ||| (lo_1 / (2 ^ (sW F .u64 (64 : Nat) ((v_7 % (18446744073709551616 : Int)).toNat))))) (4294967296 : Nat)) + (((lo_1 * (2 ^ ((v_7 % (18446744073709551616 : Int)).toNat))) % 18446744073709551616) / (4294967296 : Nat))) % 18446744073709551616) (mulM F .u64 x15_12 ((y_2 * (2 ^ ((v_7 % (18446744073709551616 : Int)).toNat))) % 18446744073709551616))) / (((y_2 * (2 ^ ((v_7 % (18446744073709551616 : Int)).toNat))) % 18446744073709551616) / (4294967296 : Nat))) (((y_2 * (2 ^ ((v_7 % (18446744073709551616 : Int)).toNat))) % 18446744073709551616) / (4294967296 : Nat)))), ((sW F .u64 (((mulM F .u64 (((hi_0 * (2 ^ ((v_7 % (18446744073709551616 : Int)).toNat))) % 18446744073709551616) ||| (lo_1 / (2 ^ (sW F .u64 (64 : Nat) ((v_7 % (18446744073709551616 : Int)).toNat))))) (4294967296 : Nat)) + (((lo_1 * (2 ^ ((v_7 % (18446744073709551616 : Int)).toNat))) % 18446744073709551616) / (4294967296 : Nat))) % 18446744073709551616) (mulM F .u64 x15_12 ((y_2 * (2 ^ ((v_7 % (18446744073709551616 : Int)).toNat))) % 18446744073709551616))) / (((y_2 * (2 ^ ((v_7 % (18446744073709551616 : Int)).toNat))) % 18446744073709551616) / (4294967296 : Nat))))).bind (fun e => rA F x15_12 hi_0 v_7 lo_1 y_2 e))
noncomputable def uW (F : Md) (lo_1 : Nat) (v_7 : Int) (y_2 : Nat) (x15_23 : Nat) (rhat_24 : Nat) : Option ((Nat × Nat) ⊕ ((Nat))) :=
 if ((4294967296 : Nat) ≤ x15_23) ∨ ((((mulM F .u64 (4294967296 : Nat) rhat_24) + (((lo_1 * (2 ^ ((v_7 % (18446744073709551616 : Int)).toNat))) % 18446744073709551616) / (4294967296 : Nat))) % 18446744073709551616) < (mulM F .u64 x15_23 (((y_2 * (2 ^ ((v_7 % (18446744073709551616 : Int)).toNat))) % 18446744073709551616) &&& (4294967295 : Nat)))) then if (4294967296 : Nat) ≤ ((rhat_24 + (((y_2 * (2 ^ ((v_7 % (18446744073709551616 : Int)).toNat))) % 18446744073709551616) / (4294967296 : Nat))) % 18446744073709551616) then some (.inr (sW F .u64 x15_23 (1 : Nat))) else some (.inl ((sW F .u64 x15_23 (1 : Nat)), ((rhat_24 + (((y_2 * (2 ^ ((v_7 % (18446744073709551616 : Int)).toNat))) % 18446744073709551616) / (4294967296 : Nat))) % 18446744073709551616))) else some (.inr x15_23)
noncomputable def kB (F : Md) (hi_0 : Nat) (lo_1 : Nat) (y_2 : Nat) : Option (Nat × (Nat × Unit)) :=
 if y_2 = (0 : Nat) then none else if y_2 ≤ hi_0 then none else if hi_0 = (0 : Nat) then ck (y_2 ≠ 0) (ck (y_2 ≠ 0) (some ((lo_1 / y_2), (lo_1 % y_2), ()))) else (bM F y_2).bind (fun v_7 => ck ((((y_2 * (2 ^ ((v_7 % (18446744073709551616 : Int)).toNat))) % 18446744073709551616) / (4294967296 : Nat)) ≠ 0) ((dG F (fun d : Nat × Nat => uW F lo_1 v_7 y_2 d.1 d.2) (((((hi_0 * (2 ^ ((v_7 % (18446744073709551616 : Int)).toNat))) % 18446744073709551616) ||| (lo_1 / (2 ^ (sW F .u64 (64 : Nat) ((v_7 % (18446744073709551616 : Int)).toNat))))) / (((y_2 * (2 ^ ((v_7 % (18446744073709551616 : Int)).toNat))) % 18446744073709551616) / (4294967296 : Nat))), (sW F .u64 (((hi_0 * (2 ^ ((v_7 % (18446744073709551616 : Int)).toNat))) % 18446744073709551616) ||| (lo_1 / (2 ^ (sW F .u64 (64 : Nat) ((v_7 % (18446744073709551616 : Int)).toNat))))) (mulM F .u64 ((((hi_0 * (2 ^ ((v_7 % (18446744073709551616 : Int)).toNat))) % 18446744073709551616) ||| (lo_1 / (2 ^ (sW F .u64 (64 : Nat) ((v_7 % (18446744073709551616 : Int)).toNat))))) / (((y_2 * (2 ^ ((v_7 % (18446744073709551616 : Int)).toNat))) % 18446744073709551616) / (4294967296 : Nat))) (((y_2 * (2 ^ ((v_7 % (18446744073709551616 : Int)).toNat))) % 18446744073709551616) / (4294967296 : Nat)))))).bind (fun e => rB F y_2 v_7 lo_1 hi_0 e)))
def aD2 : PlR := ⟨[(0, .A [0, 1, 2]), (1, .A [0, 1, 2, 20]), (2, .stop), (3, .A [0, 1, 2, 24]), (4, .stop), (5, .A [0, 1, 2, 27]), (6, .A [6, 7]), (7, .A [0, 1, 2, 8]), (8, .A [0, 1, 2, 8]), (9, .A [0, 1, 2, 8, 9]), (10, .A [0, 1, 2, 8, 9, 10]), (11, .A [1, 2, 8, 9, 10, 11]), (12, .A [2, 8, 9, 10, 11, 12]), (13, .A [2, 8, 9, 10, 11, 12, 13]), (14, .A [2, 8, 9, 10, 11, 13, 14]), (15, .A [2, 8, 9, 10, 11, 13, 14, 15]), (16, .A [2, 8, 9, 10, 11, 13, 14, 15, 16]), (17, .A [2, 8, 9, 10, 11, 13, 14, 15, 16, 78]), (18, .A [2, 8, 9, 10, 11, 13, 14, 15, 16]), (19, .A [2, 8, 9, 10, 11, 13, 14, 15, 16]), (20, .A [2, 8, 9, 10, 11, 13, 14, 15, 16, 85]), (21, .A [2, 8, 9, 10, 14, 15, 17]), (22, .A [2, 8, 9, 10, 14, 15, 17, 18]), (23, .A [2, 8, 9, 10, 14, 15, 16, 17, 18]), (24, .A [2, 8, 9, 10, 14, 15, 16, 17, 18, 113]), (25, .A [2, 8, 9, 10, 14, 15, 16, 17, 18]), (26, .A [2, 8, 9, 10, 14, 15, 16, 17, 18]), (27, .A [2, 8, 9, 10, 14, 15, 16, 17, 18, 120]), (28, .A [6, 7])], [(20, 24), (27, 31)]⟩
def aFx : Ty := .pair (.u .u64) (.pair (.u .u64) (.pair (.u .u64) .unit))
noncomputable def nX (F : Md) : aG := mSpec aFx (.tup (.pair (.u .u64) (.pair (.u .u64) .unit))) (fun x => kB F x.1 x.2.1 x.2.2.1)
noncomputable def aFy (F : Md) : List (FuncId × aG) := [(188, (dM F))]
theorem aL8 (F : Md) : bE Tryz.prog GL (aFy F) := .cons (nB F) (by kernel_rfl) (.nil)
theorem aGJ (F : Md) : gam (aFy F) 188 = some (dM F) := rfl
attribute [go_sem] aFx aD2 aGJ
set_option maxHeartbeats 4000000 in
theorem aD3 (F : Md) : FOK Tryz.prog GL 252 (nX F) := by
 refine bH (bA (aL8 F)) mix Tryz.func252 rfl (by kernel_rfl) (by decide) aD2 fun w0 S x Θ hw h hF => ?_
 obtain ⟨(hi_0 : Nat), (lo_1 : Nat), (y_2 : Nat), u⟩ := x
 simp only [bL, go_sem]
 replace h : sat (kB F hi_0 lo_1 y_2) _ := h
 unfold kB at h
 refine dP h (fun hc h => ?_) fun hc h => ?_
 ·exact aAZ h
 ·refine dP h (fun hc h => ?_) fun hc h => ?_
  ·exact aAZ h
  ·refine dP h (fun hc h => ?_) fun hc h => ?_
   ·refine aS h fun g0 h => aS h fun g1 h => ?_
    exact aI hF [.tmp 6, .tmp 7] rfl rfl rfl (aA h) (by simp only [aT, go_sem, aJ F, aK F, aL F])
   ·obtain ⟨v_7, hv, h⟩ := aM h
    try simp only [hv, go_sem, aJ F, aK F, aL F]
    refine aS h fun g0 h => ?_
    refine dZ hF (D := Nat) (fun d => sat (rB F y_2 v_7 lo_1 hi_0 d) Θ) [2, 8, 9, 10, 11, 13, 14] (fun d => [(15, .val (.u .u64) d)]) (fun d => []) ?_ ?_
    ·simp only [go_sem, aJ F, aK F, aL F]
     refine bS hF (D := Nat × Nat) [2, 8, 9, 10, 11, 13, 14] (fun d => [(15, .val (.u .u64) d.1), (16, .val (.u .u64) d.2)]) (fun d => []) h rfl (by simp only [go_sem, aJ F, aK F, aL F]) ?_
     rintro ⟨x15_23, rhat_24⟩ A17 T17 hA17 hE17 h
     simp only [go_sem, aJ F, aK F, aL F]
     replace h : sat (uW F lo_1 v_7 y_2 x15_23 rhat_24) _ := h
     unfold uW at h
     refine ⟨fun hc => ?_, fun hc => ?_⟩
     ·replace h := iR hc h
      refine dP h (fun hc h => ?_) fun hc h => ?_
      ·replace h := hE17 _ (aA h)
       try dsimp only at h
       exact aV ((sW F .u64 x15_23 (1 : Nat))) h rfl (by simp only [go_sem, aJ F, aK F, aL F])
      ·replace h := hA17 _ (aA h)
       exact aV _ h rfl (by simp only [go_sem, aJ F, aK F, aL F])
     ·replace h := iS hc h
      replace h := hE17 _ (aA h)
      try dsimp only at h
      exact aV (x15_23) h rfl (by simp only [go_sem, aJ F, aK F, aL F])
    ·rintro x15_12 h
     simp only [go_sem, aJ F, aK F, aL F]
     replace h : sat (rB F y_2 v_7 lo_1 hi_0 x15_12) _ := h
     unfold rB at h
     refine aS h fun g0 h => ?_
     refine dZ hF (D := Nat) (fun d => sat (rA F x15_12 hi_0 v_7 lo_1 y_2 d) Θ) [2, 8, 14, 15, 17] (fun d => [(18, .val (.u .u64) d)]) (fun d => []) ?_ ?_
     ·simp only [go_sem, aJ F, aK F, aL F]
      refine bS hF (D := Nat × Nat) [2, 8, 9, 10, 14, 15, 17] (fun d => [(16, .val (.u .u64) d.1), (18, .val (.u .u64) d.2)]) (fun d => []) h rfl (by simp only [go_sem, aJ F, aK F, aL F]) ?_
      rintro ⟨rhat_18, x18_19⟩ A24 T24 hA24 hE24 h
      simp only [go_sem, aJ F, aK F, aL F]
      replace h : sat (uV F lo_1 v_7 y_2 rhat_18 x18_19) _ := h
      unfold uV at h
      refine ⟨fun hc => ?_, fun hc => ?_⟩
      ·replace h := iR hc h
       refine dP h (fun hc h => ?_) fun hc h => ?_
       ·replace h := hE24 _ (aA h)
        try dsimp only at h
        exact aV ((sW F .u64 x18_19 (1 : Nat))) h rfl (by simp only [go_sem, aJ F, aK F, aL F])
       ·replace h := hA24 _ (aA h)
        exact aV _ h rfl (by simp only [go_sem, aJ F, aK F, aL F])
      ·replace h := iS hc h
       replace h := hE24 _ (aA h)
       try dsimp only at h
       exact aV (x18_19) h rfl (by simp only [go_sem, aJ F, aK F, aL F])
     ·rintro x18_17 h
      simp only [go_sem, aJ F, aK F, aL F]
      replace h : sat (rA F x15_12 hi_0 v_7 lo_1 y_2 x18_17) _ := h
      unfold rA at h
      exact aI hF [.tmp 6, .tmp 7] rfl rfl rfl (aA h) (by simp only [aT, go_sem, aJ F, aK F, aL F])
attribute [go_sem] nX
noncomputable def aDH (F : Md) (a_0 : (List Nat)) : Option Bool :=
 ck ((¬ ((((a_0.length) : Nat) : Int) = (0 : Int)) → ((((a_0.length) : Nat) : Int) ≤ (64 : Int)) → (I64 ((((a_0.length) : Nat) : Int) - (1 : Int))))) (ck ((¬ ((((a_0.length) : Nat) : Int) = (0 : Int)) → ((((a_0.length) : Nat) : Int) ≤ (64 : Int)) → (0 ≤ ((((a_0.length) : Nat) : Int) - (1 : Int)) ∧ ((((a_0.length) : Nat) : Int) - (1 : Int)) < (((a_0.length) : Nat) : Int)))) (some ((decide ((((a_0.length) : Nat) : Int) = (0 : Int))) || ((decide ((((a_0.length) : Nat) : Int) ≤ (64 : Int))) && (!(decide ((a_0.getD (((((a_0.length) : Nat) : Int) - (1 : Int)).toNat) (0 : Nat)) = (0 : Nat))))))))
def aJM : PlR := ⟨[(0, .A [0]), (1, .A [2])], []⟩
def aLz : Ty := .pair (.sl (.u .u64)) .unit
noncomputable def aBM (F : Md) : aG := mSpec aLz (.one .bool) (fun x => aDH F x.1)
noncomputable def aPt (F : Md) : List (FuncId × aG) := []
theorem aPu (F : Md) : bE Tryz.prog GL (aPt F) := .nil
attribute [go_sem] aLz aJM
set_option maxHeartbeats 4000000 in
theorem aNU (F : Md) : FOK Tryz.prog GL 120 (aBM F) := by
 refine bH (bA (aPu F)) mix Tryz.func120 rfl (by kernel_rfl) (by decide) aJM fun w0 S x Θ hw h hF => ?_
 obtain ⟨(a_0 : (List Nat)), u⟩ := x
 simp only [bL, go_sem]
 replace h : sat (aDH F a_0) _ := h
 unfold aDH at h
 obtain ⟨g0, h⟩ := aN h
 obtain ⟨g1, h⟩ := aN h
 try simp only [I64, I32] at g0
 repeat (refine ⟨by first | with_reducible assumption | omega | (intros; first | with_reducible assumption | omega) | (simp only [go_sem] at *; first | with_reducible assumption | omega) | (intro q0 q1; (try have e0 := g0 (by first | exact q0 | omega | (simpa using q0)) (by first | exact q1 | omega | (simpa using q1))); (try have e1 := g1 (by first | exact q0 | omega | (simpa using q0)) (by first | exact q1 | omega | (simpa using q1))); first | assumption | omega) | (rintro ⟨q0, q1⟩; (try have e0 := g0 (by first | exact q0 | omega | (simpa using q0)) (by first | exact q1 | omega | (simpa using q1))); (try have e1 := g1 (by first | exact q0 | omega | (simpa using q0)) (by first | exact q1 | omega | (simpa using q1))); first | assumption | omega) | decide, ?_⟩)
 exact aI hF [.tmp 2] rfl rfl rfl (aA h) (by simp only [aT, go_sem])
attribute [go_sem] aBM
noncomputable def aAA (F : Md) (a_4 : (List Nat)) : Option (((List Nat)) ⊕ (((List Nat)))) :=
 ck ((((0 : Int) < (((a_4.length) : Nat) : Int)) → (I64 ((((a_4.length) : Nat) : Int) - (1 : Int))))) (ck ((((0 : Int) < (((a_4.length) : Nat) : Int)) → (0 ≤ ((((a_4.length) : Nat) : Int) - (1 : Int)) ∧ ((((a_4.length) : Nat) : Int) - (1 : Int)) < (((a_4.length) : Nat) : Int)))) (if ((0 : Int) < (((a_4.length) : Nat) : Int)) ∧ ((a_4.getD (((((a_4.length) : Nat) : Int) - (1 : Int)).toNat) (0 : Nat)) = (0 : Nat)) then ck (I64 ((((a_4.length) : Nat) : Int) - (1 : Int))) (ck (0 ≤ ((((a_4.length) : Nat) : Int) - (1 : Int)) ∧ ((((a_4.length) : Nat) : Int) - (1 : Int)) ≤ (((a_4.length) : Nat) : Int)) (some (.inl (List.take (((((a_4.length) : Nat) : Int) - (1 : Int)).toNat) a_4)))) else some (.inr a_4)))
noncomputable def gE (F : Md) (a_0 : (List Nat)) : Option (List Nat) :=
 (dG F (fun d : (List Nat) => aAA F d) a_0).bind (fun e => some e)
def aHq : PlR := ⟨[(0, .A [0]), (1, .A [0, 14]), (2, .A [0]), (3, .A [2])], []⟩
def aJN : Ty := .pair (.sl (.u .u64)) .unit
noncomputable def eF (F : Md) : aG := mSpec aJN (.one (.sl (.u .u64))) (fun x => gE F x.1)
noncomputable def aNV (F : Md) : List (FuncId × aG) := []
theorem aNW (F : Md) : bE Tryz.prog GL (aNV F) := .nil
attribute [go_sem] aJN aHq
set_option maxHeartbeats 4000000 in
theorem oT (F : Md) : FOK Tryz.prog GL 163 (eF F) := by
 refine bH (bA (aNW F)) mix Tryz.func163 rfl (by kernel_rfl) (by decide) aHq fun w0 S x Θ hw h hF => ?_
 obtain ⟨(a_0 : (List Nat)), u⟩ := x
 simp only [bL, go_sem]
 replace h : sat (gE F a_0) _ := h
 unfold gE at h
 refine bS hF (D := (List Nat)) [] (fun d => [(0, .val (.sl (.u .u64)) d)]) (fun d => []) h rfl (by simp only [go_sem]) ?_
 rintro a_4 A1 T1 hA1 hE1 h
 simp only [go_sem]
 replace h : sat (aAA F a_4) _ := h
 unfold aAA at h
 refine aS h fun g0 h => aS h fun g1 h => ?_
 refine ⟨fun hc => ?_, fun hc => ?_⟩
 ·replace h := iR hc h
  refine aS h fun g0 h => aS h fun g1 h => ?_
  replace h := hA1 _ (aA h)
  exact aV _ h rfl (by simp only [go_sem])
 ·replace h := iS hc h
  replace h := hE1 _ (aA h)
  try dsimp only at h
  exact aI hF [.tmp 2] rfl rfl rfl (aA h) (by simp only [aT, go_sem])
attribute [go_sem] eF
noncomputable def yR (F : Md) (less_0 : Bool) : Option Int :=
 if less_0 = true then some (-1 : Int) else some (1 : Int)
def aHr : PlR := ⟨[(0, .A [0]), (1, .A [3]), (2, .A [2]), (3, .A [2])], []⟩
def aJO : Ty := .pair .bool .unit
noncomputable def aAb (F : Md) : aG := mSpec aJO (.one (.i .i64)) (fun x => yR F x.1)
noncomputable def aNX (F : Md) : List (FuncId × aG) := []
theorem aNY (F : Md) : bE Tryz.prog GL (aNX F) := .nil
attribute [go_sem] aJO aHr
set_option maxHeartbeats 4000000 in
theorem aM8 (F : Md) : FOK Tryz.prog GL 189 (aAb F) := by
 refine bH (bA (aNY F)) mix Tryz.func189 rfl (by kernel_rfl) (by decide) aHr fun w0 S x Θ hw h hF => ?_
 obtain ⟨(less_0 : Bool), u⟩ := x
 simp only [bL, go_sem]
 replace h : sat (yR F less_0) _ := h
 unfold yR at h
 refine aHp h (fun hc h => ?_) fun hc h => ?_
 ·exact aI hF [.tmp 2] rfl rfl rfl (aA h) (by simp only [aT, go_sem])
 ·exact aI hF [.tmp 2] rfl rfl rfl (aA h) (by simp only [aT, go_sem])
attribute [go_sem] aAb
noncomputable def yS (F : Md) (a_0 : (List Nat)) (b_1 : (List Nat)) (i_20 : Int) : Option ((Int) ⊕ ((Unit) ⊕ Int)) :=
 if (0 : Int) ≤ i_20 then ck (0 ≤ i_20 ∧ i_20 < (((a_0.length) : Nat) : Int)) (ck (0 ≤ i_20 ∧ i_20 < (((b_1.length) : Nat) : Int)) (if ¬ ((a_0.getD (i_20.toNat) (0 : Nat)) = (b_1.getD (i_20.toNat) (0 : Nat))) then ck (0 ≤ i_20 ∧ i_20 < (((a_0.length) : Nat) : Int)) (ck (0 ≤ i_20 ∧ i_20 < (((b_1.length) : Nat) : Int)) ((yR F (decide ((a_0.getD (i_20.toNat) (0 : Nat)) < (b_1.getD (i_20.toNat) (0 : Nat))))).bind (fun v_33 => some (.inr (.inr v_33))))) else ck (I64 (i_20 - (1 : Int))) (some (.inl (i_20 - (1 : Int)))))) else some (.inr (.inl ()))
noncomputable def oU (F : Md) (a_0 : (List Nat)) (b_1 : (List Nat)) : Option Int :=
 if ¬ ((((a_0.length) : Nat) : Int) = (((b_1.length) : Nat) : Int)) then (yR F (decide ((((a_0.length) : Nat) : Int) < (((b_1.length) : Nat) : Int)))).bind (fun v_8 => some v_8) else ck (I64 ((((a_0.length) : Nat) : Int) - (1 : Int))) ((dG F (fun d : Int => yS F a_0 b_1 d) ((((a_0.length) : Nat) : Int) - (1 : Int))).bind (fun e => match e with | (.inl e) => some (0 : Int) | (.inr e) => some e))
def aFz : PlR := ⟨[(0, .A [0, 1]), (1, .A [0, 1, 10]), (2, .A [4]), (3, .A [0, 1, 5]), (4, .A [0, 1, 5, 21]), (5, .A [0, 1, 5]), (6, .A [0, 1, 5, 32]), (7, .A [4]), (8, .A [4])], []⟩
def aHs : Ty := .pair (.sl (.u .u64)) (.pair (.sl (.u .u64)) .unit)
noncomputable def lW (F : Md) : aG := mSpec aHs (.one (.i .i64)) (fun x => oU F x.1 x.2.1)
noncomputable def aHt (F : Md) : List (FuncId × aG) := [(189, (aAb F))]
theorem aM9 (F : Md) : bE Tryz.prog GL (aHt F) := .cons (aM8 F) (by kernel_rfl) (.nil)
theorem aH4 (F : Md) : gam (aHt F) 189 = some (aAb F) := rfl
attribute [go_sem] aHs aFz aH4
set_option maxHeartbeats 4000000 in
theorem aBN (F : Md) : FOK Tryz.prog GL 122 (lW F) := by
 refine bH (bA (aM9 F)) mix Tryz.func122 rfl (by kernel_rfl) (by decide) aFz fun w0 S x Θ hw h hF => ?_
 obtain ⟨(a_0 : (List Nat)), (b_1 : (List Nat)), u⟩ := x
 simp only [bL, go_sem]
 replace h : sat (oU F a_0 b_1) _ := h
 unfold oU at h
 refine dP h (fun hc h => ?_) fun hc h => ?_
 ·obtain ⟨v_8, hv, h⟩ := aM h
  try simp only [hv, go_sem]
  exact aI hF [.tmp 4] rfl rfl rfl (aA h) (by simp only [aT, go_sem])
 ·refine aS h fun g0 h => ?_
  refine bS hF (D := Int) [0, 1] (fun d => [(5, .val (.i .i64) d)]) (fun d => []) h rfl (by simp only [go_sem]) ?_
  rintro i_20 A4 T4 hA4 hE4 h
  simp only [go_sem]
  replace h : sat (yS F a_0 b_1 i_20) _ := h
  unfold yS at h
  refine aNS h (fun hc h => ?_) fun hc h => ?_
  ·refine aS h fun g0 h => aS h fun g1 h => ?_
   refine dP h (fun hc h => ?_) fun hc h => ?_
   ·refine aS h fun g0 h => aS h fun g1 h => ?_
    obtain ⟨v_33, hv, h⟩ := aM h
    try simp only [hv, go_sem]
    replace h := hE4 _ (aA h)
    try dsimp only at h
    exact aI hF [.tmp 4] rfl rfl rfl (aA h) (by simp only [aT, go_sem])
   ·refine aS h fun g0 h => ?_
    replace h := hA4 _ (aA h)
    exact aV _ h rfl (by simp only [go_sem])
  ·replace h := hE4 _ (aA h)
   try dsimp only at h
   exact aI hF [.tmp 4] rfl rfl rfl (aA h) (by simp only [aT, go_sem])
attribute [go_sem] lW
noncomputable def yT (F : Md) (a_0 : (List Nat)) : Option Int :=
 if (((a_0.length) : Nat) : Int) = (0 : Int) then some (0 : Int) else ck (I64 ((64 : Int) * (((a_0.length) : Nat) : Int))) (ck (I64 ((((a_0.length) : Nat) : Int) - (1 : Int))) (ck (0 ≤ ((((a_0.length) : Nat) : Int) - (1 : Int)) ∧ ((((a_0.length) : Nat) : Int) - (1 : Int)) < (((a_0.length) : Nat) : Int)) ((bM F (a_0.getD (((((a_0.length) : Nat) : Int) - (1 : Int)).toNat) (0 : Nat))).bind (fun v_5 => ck (I64 (((64 : Int) * (((a_0.length) : Nat) : Int)) - v_5)) (some (((64 : Int) * (((a_0.length) : Nat) : Int)) - v_5))))))
def aHu : PlR := ⟨[(0, .A [0]), (1, .A [0, 5]), (2, .A [2]), (3, .A [2])], []⟩
def aJP : Ty := .pair (.sl (.u .u64)) .unit
noncomputable def aAc (F : Md) : aG := mSpec aJP (.one (.i .i64)) (fun x => yT F x.1)
noncomputable def aJQ (F : Md) : List (FuncId × aG) := [(188, (dM F))]
theorem aNZ (F : Md) : bE Tryz.prog GL (aJQ F) := .cons (nB F) (by kernel_rfl) (.nil)
theorem aJR (F : Md) : gam (aJQ F) 188 = some (dM F) := rfl
attribute [go_sem] aJP aHu aJR
set_option maxHeartbeats 4000000 in
theorem aNa (F : Md) : FOK Tryz.prog GL 121 (aAc F) := by
 refine bH (bA (aNZ F)) mix Tryz.func121 rfl (by kernel_rfl) (by decide) aHu fun w0 S x Θ hw h hF => ?_
 obtain ⟨(a_0 : (List Nat)), u⟩ := x
 simp only [bL, go_sem]
 replace h : sat (yT F a_0) _ := h
 unfold yT at h
 refine dP h (fun hc h => ?_) fun hc h => ?_
 ·exact aI hF [.tmp 2] rfl rfl rfl (aA h) (by simp only [aT, go_sem])
 ·refine aS h fun g0 h => aS h fun g1 h => aS h fun g2 h => ?_
  obtain ⟨v_5, hv, h⟩ := aM h
  try simp only [hv, go_sem]
  refine aS h fun g0 h => ?_
  exact aI hF [.tmp 2] rfl rfl rfl (aA h) (by simp only [aT, go_sem])
attribute [go_sem] aAc
noncomputable def yU (F : Md) (a_0 : (List Nat)) (x7_10 : Int) : Option ((Int) ⊕ ((Unit) ⊕ Int)) :=
 if x7_10 < (((a_0.length) : Nat) : Int) then ck (0 ≤ x7_10 ∧ x7_10 < (((a_0.length) : Nat) : Int)) (if ¬ ((a_0.getD (x7_10.toNat) (0 : Nat)) = (0 : Nat)) then ck (I64 ((64 : Int) * x7_10)) ((kA F (a_0.getD (x7_10.toNat) (0 : Nat))).bind (fun v_19 => ck (I64 (((64 : Int) * x7_10) + v_19)) (some (.inr (.inr (((64 : Int) * x7_10) + v_19)))))) else ck (I64 (x7_10 + (1 : Int))) (some (.inl (x7_10 + (1 : Int))))) else some (.inr (.inl ()))
noncomputable def dN (F : Md) (a_0 : (List Nat)) : Option Int :=
 (dG F (fun d : Int => yU F a_0 d) (0 : Int)).bind (fun e => match e with | (.inl e) => some (-1 : Int) | (.inr e) => some e)
def aFA : PlR := ⟨[(0, .A [0]), (1, .A [5, 6, 7]), (2, .A [5, 6, 7, 8]), (3, .A [3, 4, 5, 6, 7]), (4, .A [3, 4, 5, 6, 7, 13]), (5, .A [2]), (6, .A [5, 6, 7]), (7, .A [2])], []⟩
def aHv : Ty := .pair (.sl (.u .u64)) .unit
noncomputable def xE (F : Md) : aG := mSpec aHv (.one (.i .i64)) (fun x => dN F x.1)
noncomputable def aHw (F : Md) : List (FuncId × aG) := [(164, (jD F))]
theorem aNb (F : Md) : bE Tryz.prog GL (aHw F) := .cons (aA0 F) (by kernel_rfl) (.nil)
theorem aH5 (F : Md) : gam (aHw F) 164 = some (jD F) := rfl
attribute [go_sem] aHv aFA aH5
set_option maxHeartbeats 4000000 in
theorem aL9 (F : Md) : FOK Tryz.prog GL 98 (xE F) := by
 refine bH (bA (aNb F)) mix Tryz.func98 rfl (by kernel_rfl) (by decide) aFA fun w0 S x Θ hw h hF => ?_
 obtain ⟨(a_0 : (List Nat)), u⟩ := x
 simp only [bL, go_sem]
 replace h : sat (dN F a_0) _ := h
 unfold dN at h
 refine bS hF (D := Int) [5, 6] (fun d => [(7, .val (.i .i64) d)]) (fun d => []) h rfl (by simp only [go_sem]) ?_
 rintro x7_10 A2 T2 hA2 hE2 h
 simp only [go_sem]
 replace h : sat (yU F a_0 x7_10) _ := h
 unfold yU at h
 refine eC h (fun hc h => ?_) fun hc h => ?_
 ·refine aS h fun g0 h => ?_
  refine dP h (fun hc h => ?_) fun hc h => ?_
  ·refine aS h fun g0 h => ?_
   obtain ⟨v_19, hv, h⟩ := aM h
   try simp only [hv, go_sem]
   refine aS h fun g0 h => ?_
   replace h := hE2 _ (aA h)
   try dsimp only at h
   exact aI hF [.tmp 2] rfl rfl rfl (aA h) (by simp only [aT, go_sem])
  ·refine aS h fun g0 h => ?_
   replace h := hA2 _ (aA h)
   exact aV _ h rfl (by simp only [go_sem])
 ·replace h := hE2 _ (aA h)
  try dsimp only at h
  exact aI hF [.tmp 2] rfl rfl rfl (aA h) (by simp only [aT, go_sem])
attribute [go_sem] xE
noncomputable def yV (F : Md) (a_0 : (List Nat)) : Option (List Nat) :=
 (gE F a_0).bind (fun v_3 => ck ((aQT v_3)) (some (id v_3)))
def aHx : PlR := ⟨[(0, .A [0]), (1, .B [2])], []⟩
def aJS : Ty := .pair (.sl (.u .u64)) .unit
noncomputable def rX (F : Md) : aG := mSpec aJS (.one (.sl (.u .u64))) (fun x => yV F x.1)
noncomputable def aEC (F : Md) : List (FuncId × aG) := [(163, (eF F)), (165, cC)]
theorem aN0 (F : Md) : bE Tryz.prog GL (aEC F) := .cons (oT F) (by kernel_rfl) (.cons jZ (by kernel_rfl) (.nil))
theorem aJT (F : Md) : gam (aEC F) 163 = some (eF F) := rfl
theorem aJU (F : Md) : gam (aEC F) 165 = some cC := rfl
attribute [go_sem] aJS aHx aJT aJU
set_option maxHeartbeats 4000000 in
theorem aHy (F : Md) : FOK Tryz.prog GL 231 (rX F) := by
 refine bH (bA (aN0 F)) mix Tryz.func231 rfl (by kernel_rfl) (by decide) aHx fun w0 S x Θ hw h hF => ?_
 obtain ⟨(a_0 : (List Nat)), u⟩ := x
 simp only [bL, go_sem]
 replace h : sat (yV F a_0) _ := h
 unfold yV at h
 obtain ⟨v_3, hv, h⟩ := aM h
 try simp only [hv, go_sem]
 refine aS h fun g0 h => ?_
 exact aI hF [.tmp 2] rfl rfl rfl (aA h) (by simp only [aT, go_sem])
attribute [go_sem] rX
noncomputable def qH (F : Md) (x22_13 : Int) (out_14 : (List Nat)) (carry_12 : Nat) (x_21 : Nat) : Option ((Nat × Int × (List Nat)) ⊕ (((List Nat)))) :=
 ck (0 ≤ x22_13 ∧ x22_13 < (((out_14.length) : Nat) : Int)) (ck ((yQ (out_14.getD (x22_13.toNat) (0 : Nat)) x_21 carry_12)) (ck (0 ≤ x22_13 ∧ x22_13 < (((out_14.length) : Nat) : Int)) (ck (I64 (x22_13 + (1 : Int))) (some (.inl ((((hU (out_14.getD (x22_13.toNat) (0 : Nat)) x_21 carry_12).2).1), (x22_13 + (1 : Int)), (out_14.set (x22_13.toNat) ((hU (out_14.getD (x22_13.toNat) (0 : Nat)) x_21 carry_12).1))))))))
noncomputable def aAB (F : Md) (a_3 : (List Nat)) (b_4 : (List Nat)) (carry_12 : Nat) (x22_13 : Int) (out_14 : (List Nat)) : Option ((Nat × Int × (List Nat)) ⊕ (((List Nat)))) :=
 if x22_13 < (((((id a_3) ++ ([0] : List Nat)).length) : Nat) : Int) then if x22_13 < (((b_4.length) : Nat) : Int) then ck (0 ≤ x22_13 ∧ x22_13 < (((b_4.length) : Nat) : Int)) (qH F x22_13 out_14 carry_12 (b_4.getD (x22_13.toNat) (0 : Nat))) else if carry_12 = (0 : Nat) then some (.inr out_14) else qH F x22_13 out_14 carry_12 (0 : Nat) else some (.inr out_14)
noncomputable def qI (F : Md) (a_3 : (List Nat)) (b_4 : (List Nat)) : Option ((List Nat)) :=
 ck ((aQT a_3)) (ck ((((id a_3).length) + (1 : Nat)) * 8 ≤ 140737488355328) ((dG F (fun d : Nat × Int × (List Nat) => aAB F a_3 b_4 d.1 d.2.1 d.2.2) ((0 : Nat), (0 : Int), ((id a_3) ++ ([0] : List Nat)))).bind (fun e => (gE F e).bind (fun v_27 => some v_27))))
noncomputable def aBO (F : Md) (a_0 : (List Nat)) (b_1 : (List Nat)) : Option (List Nat) :=
 if (((a_0.length) : Nat) : Int) < (((b_1.length) : Nat) : Int) then qI F b_1 a_0 else qI F a_0 b_1
def aHz : PlR := ⟨[(0, .A [0, 1]), (1, .A [0, 1, 13]), (2, .A [0, 1]), (3, .B [1, 5]), (4, .A [1, 5, 6]), (5, .A [1, 5, 6, 21, 22]), (6, .A [1, 5, 6, 21, 22, 23]), (7, .A [1, 5, 6, 7, 21, 22]), (8, .A [1, 5, 6, 7, 8, 21, 22]), (9, .A [1, 5, 6, 7, 8, 21, 22, 25]), (10, .A [1, 5, 6, 7, 8, 21, 22]), (11, .A [1, 5, 6, 7, 8, 21, 22, 34]), (12, .B [1, 5, 6, 21, 22]), (13, .A [1, 5, 6, 21, 22]), (14, .B [4])], [(4, 6), (12, 15)]⟩
def aJV : Ty := .pair (.sl (.u .u64)) (.pair (.sl (.u .u64)) .unit)
noncomputable def aAd (F : Md) : aG := mSpec aJV (.one (.sl (.u .u64))) (fun x => aBO F x.1 x.2.1)
noncomputable def aBP (F : Md) : List (FuncId × aG) := [(162, kM), (163, (eF F)), (165, cC)]
theorem aN1 (F : Md) : bE Tryz.prog GL (aBP F) := .nat aAz (.cons (oT F) (by kernel_rfl) (.cons jZ (by kernel_rfl) (.nil)))
theorem aJW (F : Md) : gam (aBP F) 162 = some kM := rfl
theorem aJX (F : Md) : gam (aBP F) 163 = some (eF F) := rfl
theorem aJY (F : Md) : gam (aBP F) 165 = some cC := rfl
attribute [go_sem] aJV aHz aJW aJX aJY
set_option maxHeartbeats 4000000 in
theorem aNc (F : Md) : FOK Tryz.prog GL 99 (aAd F) := by
 refine bH (bA (aN1 F)) mix Tryz.func99 rfl (by kernel_rfl) (by decide) aHz fun w0 S x Θ hw h hF => ?_
 obtain ⟨(a_0 : (List Nat)), (b_1 : (List Nat)), u⟩ := x
 simp only [bL, go_sem]
 replace h : sat (aBO F a_0 b_1) _ := h
 unfold aBO at h
 refine dZ hF (D := (List Nat) × (List Nat)) (fun d => sat (qI F d.1 d.2) Θ) [] (fun d => [(0, .val (.sl (.u .u64)) d.1), (1, .val (.sl (.u .u64)) d.2)]) (fun d => []) ?_ ?_
 ·simp only [go_sem]
  refine eC h (fun hc h => ?_) fun hc h => ?_
  ·exact aV ((b_1, a_0)) h rfl (by simp only [go_sem])
  ·exact aV ((a_0, b_1)) h rfl (by simp only [go_sem])
 ·rintro ⟨a_3, b_4⟩ h
  simp only [go_sem]
  replace h : sat (qI F a_3 b_4) _ := h
  unfold qI at h
  refine aS h fun g0 h => ?_
  obtain ⟨g0, h⟩ := aN h
  repeat (refine ⟨by omega, ?_⟩)
  refine aDG [1] rfl rfl ?_
  simp only [go_sem]
  refine bS hF (D := Nat × Int × (List Nat)) [1, 21] (fun d => [(5, .own 0), (6, .val (.u .u64) d.1), (22, .val (.i .i64) d.2.1)]) (fun d => [.inr (.row 83 (.u .u64) d.2.2)]) h rfl (by simp only [go_sem]) ?_
  rintro ⟨carry_12, x22_13, out_14⟩ A6 T6 hA6 hE6 h
  simp only [go_sem]
  replace h : sat (aAB F a_3 b_4 carry_12 x22_13 out_14) _ := h
  unfold aAB at h
  refine eC h (fun hc h => ?_) fun hc h => ?_
  ·refine dZ hF (D := Nat) (fun d => sat (qH F x22_13 out_14 carry_12 d) T6) [1, 6, 7, 21, 22] (fun d => [(5, .own 0), (8, .val (.u .u64) d)]) (fun d => [.inr (.row 83 (.u .u64) out_14)]) ?_ ?_
   ·simp only [go_sem]
    refine eC h (fun hc h => ?_) fun hc h => ?_
    ·obtain ⟨g0, h⟩ := aN h
     repeat (refine ⟨by omega, ?_⟩)
     exact aV ((b_4.getD (x22_13.toNat) (0 : Nat))) h rfl (by simp only [go_sem])
    ·refine dP h (fun hc h => ?_) fun hc h => ?_
     ·replace h := hE6 _ (aA h)
      try dsimp only at h
      obtain ⟨v_23, hv, h⟩ := aM h
      try simp only [hv, go_sem]
      exact aI hF [.tmp 4] rfl rfl rfl (aA h) (by simp only [aT, go_sem])
     ·exact aV ((0 : Nat)) h rfl (by simp only [go_sem])
   ·rintro x_21 h
    simp only [go_sem]
    replace h : sat (qH F x22_13 out_14 carry_12 x_21) _ := h
    unfold qH at h
    obtain ⟨g0, h⟩ := aN h
    repeat (refine ⟨by omega, ?_⟩)
    obtain ⟨g0, h⟩ := aN h
    repeat (refine ⟨by omega, ?_⟩)
    obtain ⟨g0, h⟩ := aN h
    repeat (refine ⟨by omega, ?_⟩)
    refine aS h fun g0 h => ?_
    replace h := hA6 _ (aA h)
    exact aV _ h rfl (by simp only [go_sem])
  ·replace h := hE6 _ (aA h)
   try dsimp only at h
   obtain ⟨v_25, hv, h⟩ := aM h
   try simp only [hv, go_sem]
   exact aI hF [.tmp 4] rfl rfl rfl (aA h) (by simp only [aT, go_sem])
attribute [go_sem] aAd
noncomputable def sZ (F : Md) (x22_46 : Int) (b_1 : (List Nat)) (carry_86 : Nat) (out_87 : (List Nat)) : Option ((Int × (List Nat)) ⊕ (((List Nat)))) :=
 ck (I64 (x22_46 + (((b_1.length) : Nat) : Int))) (ck (0 ≤ (x22_46 + (((b_1.length) : Nat) : Int)) ∧ (x22_46 + (((b_1.length) : Nat) : Int)) < (((out_87.length) : Nat) : Int)) (ck (I64 (x22_46 + (1 : Int))) (some (.inl ((x22_46 + (1 : Int)), (out_87.set ((x22_46 + (((b_1.length) : Nat) : Int)).toNat) carry_86))))))
noncomputable def yW (F : Md) (b_1 : (List Nat)) (a_0 : (List Nat)) (x22_46 : Int) (carry_90 : Nat) (x29_91 : Int) (out_92 : (List Nat)) : Option ((Nat × Int × (List Nat)) ⊕ ((Nat × (List Nat)))) :=
 if x29_91 < (((b_1.length) : Nat) : Int) then ck (0 ≤ x29_91 ∧ x29_91 < (((b_1.length) : Nat) : Int)) ((cD F (a_0.getD (x22_46.toNat) (0 : Nat)) (b_1.getD (x29_91.toNat) (0 : Nat))).bind (fun v_105 => ck ((yQ ((v_105.2).1) carry_90 (0 : Nat))) (ck (I64 (x22_46 + x29_91)) (ck (I64 (x22_46 + x29_91)) (ck (0 ≤ (x22_46 + x29_91) ∧ (x22_46 + x29_91) < (((out_92.length) : Nat) : Int)) (ck ((yQ (out_92.getD ((x22_46 + x29_91).toNat) (0 : Nat)) ((hU ((v_105.2).1) carry_90 (0 : Nat)).1) (0 : Nat))) (ck (0 ≤ (x22_46 + x29_91) ∧ (x22_46 + x29_91) < (((out_92.length) : Nat) : Int)) (ck (I64 (x29_91 + (1 : Int))) (some (.inl ((((((v_105.1) + (((hU ((v_105.2).1) carry_90 (0 : Nat)).2).1)) % 18446744073709551616) + (((hU (out_92.getD ((x22_46 + x29_91).toNat) (0 : Nat)) ((hU ((v_105.2).1) carry_90 (0 : Nat)).1) (0 : Nat)).2).1)) % 18446744073709551616), (x29_91 + (1 : Int)), (out_92.set ((x22_46 + x29_91).toNat) ((hU (out_92.getD ((x22_46 + x29_91).toNat) (0 : Nat)) ((hU ((v_105.2).1) carry_90 (0 : Nat)).1) (0 : Nat)).1))))))))))))) else some (.inr (carry_90, out_92))
noncomputable def yX (F : Md) (a_0 : (List Nat)) (b_1 : (List Nat)) (x22_46 : Int) (out_47 : (List Nat)) : Option ((Int × (List Nat)) ⊕ (((List Nat)))) :=
 if x22_46 < (((a_0.length) : Nat) : Int) then ck (0 ≤ x22_46 ∧ x22_46 < (((a_0.length) : Nat) : Int)) ((dG F (fun d : Nat × Int × (List Nat) => yW F b_1 a_0 x22_46 d.1 d.2.1 d.2.2) ((0 : Nat), (0 : Int), out_47)).bind (fun e => sZ F x22_46 b_1 e.1 e.2)) else some (.inr out_47)
noncomputable def gH (F : Md) (a_0 : (List Nat)) (b_1 : (List Nat)) : Option (List Nat) :=
 ck (I64 ((((a_0.length) : Nat) : Int) + (((b_1.length) : Nat) : Int))) (ck (0 ≤ ((((a_0.length) : Nat) : Int) + (((b_1.length) : Nat) : Int))) (ck ((8 : Int) * ((((a_0.length) : Nat) : Int) + (((b_1.length) : Nat) : Int)) ≤ 281474976710656) ((dG F (fun d : Int × (List Nat) => yX F a_0 b_1 d.1 d.2) ((0 : Int), (List.replicate (((((a_0.length) : Nat) : Int) + (((b_1.length) : Nat) : Int)).toNat) (0 : Nat)))).bind (fun e => (gE F e).bind (fun v_109 => some v_109)))))
def aFB : PlR := ⟨[(0, .A [0, 1]), (1, .B [0, 1, 5]), (2, .A [1, 5, 20, 21, 22]), (3, .A [1, 5, 20, 21, 22, 23]), (4, .A [1, 5, 6, 7, 20, 21, 22]), (5, .A [1, 5, 6, 7, 8, 20, 21, 22]), (6, .A [1, 5, 6, 7, 8, 20, 21, 22, 27, 28, 29]), (7, .A [1, 5, 6, 7, 8, 20, 21, 22, 27, 28, 29, 30]), (8, .A [1, 5, 6, 7, 8, 9, 10, 20, 21, 22, 27, 28, 29]), (9, .A [1, 5, 6, 7, 8, 9, 11, 12, 20, 21, 22, 27, 28, 29]), (10, .A [1, 5, 6, 7, 8, 9, 11, 12, 20, 21, 22, 27, 28, 29]), (11, .A [1, 5, 6, 7, 9, 11, 12, 13, 20, 21, 22, 27, 28, 29]), (12, .A [1, 5, 6, 7, 9, 11, 12, 20, 21, 22, 27, 28, 29]), (13, .B [1, 5, 6, 7, 11, 13, 20, 21, 22, 27, 28, 29]), (14, .A [1, 5, 6, 7, 8, 20, 21, 22, 27, 28, 29]), (15, .A [1, 5, 6, 7, 8, 20, 21, 22, 27, 28, 29]), (16, .B [1, 5, 20, 21, 22]), (17, .A [1, 5, 20, 21, 22]), (18, .B [4])], [(9, 19)]⟩
def aHA : Ty := .pair (.sl (.u .u64)) (.pair (.sl (.u .u64)) .unit)
noncomputable def eL (F : Md) : aG := mSpec aHA (.one (.sl (.u .u64))) (fun x => gH F x.1 x.2.1)
noncomputable def aAe (F : Md) : List (FuncId × aG) := [(161, (nW F)), (162, kM), (163, (eF F))]
theorem aNd (F : Md) : bE Tryz.prog GL (aAe F) := .cons (aD1 F) (by kernel_rfl) (.nat aAz (.cons (oT F) (by kernel_rfl) (.nil)))
theorem aH6 (F : Md) : gam (aAe F) 161 = some (nW F) := rfl
theorem aH7 (F : Md) : gam (aAe F) 162 = some kM := rfl
theorem aH8 (F : Md) : gam (aAe F) 163 = some (eF F) := rfl
attribute [go_sem] aHA aFB aH6 aH7 aH8
set_option maxHeartbeats 4000000 in
theorem pD (F : Md) : FOK Tryz.prog GL 94 (eL F) := by
 refine bH (bA (aNd F)) mix Tryz.func94 rfl (by kernel_rfl) (by decide) aFB fun w0 S x Θ hw h hF => ?_
 obtain ⟨(a_0 : (List Nat)), (b_1 : (List Nat)), u⟩ := x
 simp only [bL, go_sem]
 replace h : sat (gH F a_0 b_1) _ := h
 unfold gH at h
 obtain ⟨g0, h⟩ := aN h
 repeat (refine ⟨by omega, ?_⟩)
 obtain ⟨g0, h⟩ := aN h
 obtain ⟨g1, h⟩ := aN h
 repeat (refine ⟨by omega, ?_⟩)
 refine bS hF (D := Int × (List Nat)) [1, 20, 21] (fun d => [(5, .own 0), (22, .val (.i .i64) d.1)]) (fun d => [.inr (.row 83 (.u .u64) d.2)]) h rfl (by simp only [go_sem]) ?_
 rintro ⟨x22_46, out_47⟩ A3 T3 hA3 hE3 h
 simp only [go_sem]
 replace h : sat (yX F a_0 b_1 x22_46 out_47) _ := h
 unfold yX at h
 refine eC h (fun hc h => ?_) fun hc h => ?_
 ·obtain ⟨g0, h⟩ := aN h
  repeat (refine ⟨by omega, ?_⟩)
  refine dZ hF (D := Nat × (List Nat)) (fun d => sat (sZ F x22_46 b_1 d.1 d.2) T3) [1, 6, 20, 21, 22] (fun d => [(5, .own 0), (8, .val (.u .u64) d.1)]) (fun d => [.inr (.row 83 (.u .u64) d.2)]) ?_ ?_
  ·simp only [go_sem]
   refine bS hF (D := Nat × Int × (List Nat)) [1, 6, 7, 20, 21, 22, 27, 28] (fun d => [(5, .own 0), (8, .val (.u .u64) d.1), (29, .val (.i .i64) d.2.1)]) (fun d => [.inr (.row 83 (.u .u64) d.2.2)]) h rfl (by simp only [go_sem]) ?_
   rintro ⟨carry_90, x29_91, out_92⟩ A7 T7 hA7 hE7 h
   simp only [go_sem]
   replace h : sat (yW F b_1 a_0 x22_46 carry_90 x29_91 out_92) _ := h
   unfold yW at h
   refine eC h (fun hc h => ?_) fun hc h => ?_
   ·obtain ⟨g0, h⟩ := aN h
    repeat (refine ⟨by omega, ?_⟩)
    obtain ⟨v_105, hv, h⟩ := aM h
    try simp only [hv, go_sem]
    obtain ⟨g0, h⟩ := aN h
    repeat (refine ⟨by omega, ?_⟩)
    obtain ⟨g0, h⟩ := aN h
    repeat (refine ⟨by omega, ?_⟩)
    obtain ⟨g0, h⟩ := aN h
    repeat (refine ⟨by omega, ?_⟩)
    obtain ⟨g0, h⟩ := aN h
    repeat (refine ⟨by omega, ?_⟩)
    obtain ⟨g0, h⟩ := aN h
    repeat (refine ⟨by omega, ?_⟩)
    obtain ⟨g0, h⟩ := aN h
    repeat (refine ⟨by omega, ?_⟩)
    obtain ⟨g0, h⟩ := aN h
    repeat (refine ⟨by omega, ?_⟩)
    replace h := hA7 _ (aA h)
    exact aV _ h rfl (by simp only [go_sem])
   ·replace h := hE7 _ (aA h)
    try dsimp only at h
    exact aV ((carry_90, out_92)) h rfl (by simp only [go_sem])
  ·rintro ⟨carry_86, out_87⟩ h
   simp only [go_sem]
   replace h : sat (sZ F x22_46 b_1 carry_86 out_87) _ := h
   unfold sZ at h
   obtain ⟨g0, h⟩ := aN h
   repeat (refine ⟨by omega, ?_⟩)
   obtain ⟨g0, h⟩ := aN h
   repeat (refine ⟨by omega, ?_⟩)
   obtain ⟨g0, h⟩ := aN h
   try simp only [I64, I32] at g0
   repeat (refine ⟨by first | with_reducible assumption | omega | (intros; first | with_reducible assumption | omega) | (simp only [go_sem] at *; first | with_reducible assumption | omega) | decide, ?_⟩)
   replace h := hA3 _ (aA h)
   exact aV _ h rfl (by simp only [go_sem])
 ·replace h := hE3 _ (aA h)
  try dsimp only at h
  obtain ⟨v_107, hv, h⟩ := aM h
  try simp only [hv, go_sem]
  exact aI hF [.tmp 4] rfl rfl rfl (aA h) (by simp only [aT, go_sem])
attribute [go_sem] eL
noncomputable def aAC (F : Md) (a_0 : (List Nat)) (n_1 : Int) (x20_7 : Int) (out_8 : (List Nat)) : Option ((Int × (List Nat)) ⊕ (((List Nat)))) :=
 if x20_7 < (((a_0.length) : Nat) : Int) then ck (0 ≤ x20_7 ∧ x20_7 < (((a_0.length) : Nat) : Int)) (ck (I64 (Int.tdiv n_1 (64 : Int))) (ck (I64 ((Int.tdiv n_1 (64 : Int)) + x20_7)) (ck (0 ≤ ((Int.tdiv n_1 (64 : Int)) + x20_7) ∧ ((Int.tdiv n_1 (64 : Int)) + x20_7) < (((out_8.length) : Nat) : Int)) (ck (0 ≤ ((Int.tdiv n_1 (64 : Int)) + x20_7) ∧ ((Int.tdiv n_1 (64 : Int)) + x20_7) < (((out_8.length) : Nat) : Int)) (ck (I64 (Int.tdiv n_1 (64 : Int))) (ck (I64 ((Int.tdiv n_1 (64 : Int)) + x20_7)) (ck (I64 (((Int.tdiv n_1 (64 : Int)) + x20_7) + (1 : Int))) (ck (0 ≤ (((Int.tdiv n_1 (64 : Int)) + x20_7) + (1 : Int)) ∧ (((Int.tdiv n_1 (64 : Int)) + x20_7) + (1 : Int)) < ((((out_8.set (((Int.tdiv n_1 (64 : Int)) + x20_7).toNat) ((out_8.getD (((Int.tdiv n_1 (64 : Int)) + x20_7).toNat) (0 : Nat)) ||| (((a_0.getD (x20_7.toNat) (0 : Nat)) * (2 ^ (((Int.tmod n_1 (64 : Int)) % (18446744073709551616 : Int)).toNat))) % 18446744073709551616))).length) : Nat) : Int)) (ck (I64 ((63 : Int) - (Int.tmod n_1 (64 : Int)))) (ck (0 ≤ (((Int.tdiv n_1 (64 : Int)) + x20_7) + (1 : Int)) ∧ (((Int.tdiv n_1 (64 : Int)) + x20_7) + (1 : Int)) < ((((out_8.set (((Int.tdiv n_1 (64 : Int)) + x20_7).toNat) ((out_8.getD (((Int.tdiv n_1 (64 : Int)) + x20_7).toNat) (0 : Nat)) ||| (((a_0.getD (x20_7.toNat) (0 : Nat)) * (2 ^ (((Int.tmod n_1 (64 : Int)) % (18446744073709551616 : Int)).toNat))) % 18446744073709551616))).length) : Nat) : Int)) (ck (I64 (x20_7 + (1 : Int))) (some (.inl ((x20_7 + (1 : Int)), ((out_8.set (((Int.tdiv n_1 (64 : Int)) + x20_7).toNat) ((out_8.getD (((Int.tdiv n_1 (64 : Int)) + x20_7).toNat) (0 : Nat)) ||| (((a_0.getD (x20_7.toNat) (0 : Nat)) * (2 ^ (((Int.tmod n_1 (64 : Int)) % (18446744073709551616 : Int)).toNat))) % 18446744073709551616))).set ((((Int.tdiv n_1 (64 : Int)) + x20_7) + (1 : Int)).toNat) (((out_8.set (((Int.tdiv n_1 (64 : Int)) + x20_7).toNat) ((out_8.getD (((Int.tdiv n_1 (64 : Int)) + x20_7).toNat) (0 : Nat)) ||| (((a_0.getD (x20_7.toNat) (0 : Nat)) * (2 ^ (((Int.tmod n_1 (64 : Int)) % (18446744073709551616 : Int)).toNat))) % 18446744073709551616))).getD ((((Int.tdiv n_1 (64 : Int)) + x20_7) + (1 : Int)).toNat) (0 : Nat)) ||| (((a_0.getD (x20_7.toNat) (0 : Nat)) / (2 : Nat)) / (2 ^ ((((63 : Int) - (Int.tmod n_1 (64 : Int))) % (18446744073709551616 : Int)).toNat))))))))))))))))))) else some (.inr out_8)
noncomputable def jP (F : Md) (a_0 : (List Nat)) (n_1 : Int) : Option (List Nat) :=
 if (((a_0.length) : Nat) : Int) = (0 : Int) then some ([] : List Nat) else ck (I64 (Int.tdiv n_1 (64 : Int))) (ck (I64 ((Int.tdiv n_1 (64 : Int)) + (((a_0.length) : Nat) : Int))) (ck (I64 (((Int.tdiv n_1 (64 : Int)) + (((a_0.length) : Nat) : Int)) + (1 : Int))) (ck (0 ≤ (((Int.tdiv n_1 (64 : Int)) + (((a_0.length) : Nat) : Int)) + (1 : Int))) (ck ((8 : Int) * (((Int.tdiv n_1 (64 : Int)) + (((a_0.length) : Nat) : Int)) + (1 : Int)) ≤ 281474976710656) ((dG F (fun d : Int × (List Nat) => aAC F a_0 n_1 d.1 d.2) ((0 : Int), (List.replicate ((((Int.tdiv n_1 (64 : Int)) + (((a_0.length) : Nat) : Int)) + (1 : Int)).toNat) (0 : Nat)))).bind (fun e => (gE F e).bind (fun v_15 => some v_15)))))))
def aHB : PlR := ⟨[(0, .A [0, 1]), (1, .A [0, 1, 10]), (2, .A [4]), (3, .B [0, 1, 5]), (4, .A [1, 5, 18, 19, 20]), (5, .A [1, 5, 18, 19, 20, 21]), (6, .A [1, 5, 6, 7, 18, 19, 20]), (7, .B [1, 5, 6, 7, 18, 19, 20]), (8, .B [1, 5, 18, 19, 20]), (9, .A [1, 5, 18, 19, 20]), (10, .B [4])], []⟩
def aJZ : Ty := .pair (.sl (.u .u64)) (.pair (.i .i64) .unit)
noncomputable def rY (F : Md) : aG := mSpec aJZ (.one (.sl (.u .u64))) (fun x => jP F x.1 x.2.1)
noncomputable def aJ0 (F : Md) : List (FuncId × aG) := [(163, (eF F))]
theorem aN2 (F : Md) : bE Tryz.prog GL (aJ0 F) := .cons (oT F) (by kernel_rfl) (.nil)
theorem aJ1 (F : Md) : gam (aJ0 F) 163 = some (eF F) := rfl
attribute [go_sem] aJZ aHB aJ1
set_option maxHeartbeats 4000000 in
theorem aHC (F : Md) : FOK Tryz.prog GL 95 (rY F) := by
 refine bH (bA (aN2 F)) mix Tryz.func95 rfl (by kernel_rfl) (by decide) aHB fun w0 S x Θ hw h hF => ?_
 obtain ⟨(a_0 : (List Nat)), (n_1 : Int), u⟩ := x
 simp only [bL, go_sem]
 replace h : sat (jP F a_0 n_1) _ := h
 unfold jP at h
 refine dP h (fun hc h => ?_) fun hc h => ?_
 ·exact aI hF [.tmp 4] rfl rfl rfl (aA h) (by simp only [aT, go_sem])
 ·obtain ⟨g0, h⟩ := aN h
  try simp only [I64, I32] at g0
  repeat (refine ⟨by first | with_reducible assumption | omega | (intros; first | with_reducible assumption | omega) | (simp only [go_sem] at *; first | with_reducible assumption | omega) | decide, ?_⟩)
  obtain ⟨g0, h⟩ := aN h
  try simp only [I64, I32] at g0
  repeat (refine ⟨by first | with_reducible assumption | omega | (intros; first | with_reducible assumption | omega) | (simp only [go_sem] at *; first | with_reducible assumption | omega) | decide, ?_⟩)
  obtain ⟨g0, h⟩ := aN h
  try simp only [I64, I32] at g0
  repeat (refine ⟨by first | with_reducible assumption | omega | (intros; first | with_reducible assumption | omega) | (simp only [go_sem] at *; first | with_reducible assumption | omega) | decide, ?_⟩)
  obtain ⟨g0, h⟩ := aN h
  obtain ⟨g1, h⟩ := aN h
  repeat (refine ⟨by first | with_reducible assumption | omega | (intros; first | with_reducible assumption | omega) | (simp only [go_sem] at *; first | with_reducible assumption | omega) | decide, ?_⟩)
  refine bS hF (D := Int × (List Nat)) [1, 18, 19] (fun d => [(5, .own 0), (20, .val (.i .i64) d.1)]) (fun d => [.inr (.row 83 (.u .u64) d.2)]) h rfl (by simp only [go_sem]) ?_
  rintro ⟨x20_7, out_8⟩ A5 T5 hA5 hE5 h
  simp only [go_sem]
  replace h : sat (aAC F a_0 n_1 x20_7 out_8) _ := h
  unfold aAC at h
  refine eC h (fun hc h => ?_) fun hc h => ?_
  ·obtain ⟨g0, h⟩ := aN h
   repeat (refine ⟨by first | with_reducible assumption | omega | (intros; first | with_reducible assumption | omega) | (simp only [go_sem] at *; first | with_reducible assumption | omega) | decide, ?_⟩)
   obtain ⟨g0, h⟩ := aN h
   try simp only [I64, I32] at g0
   repeat (refine ⟨by first | with_reducible assumption | omega | (intros; first | with_reducible assumption | omega) | (simp only [go_sem] at *; first | with_reducible assumption | omega) | decide, ?_⟩)
   obtain ⟨g0, h⟩ := aN h
   try simp only [I64, I32] at g0
   repeat (refine ⟨by first | with_reducible assumption | omega | (intros; first | with_reducible assumption | omega) | (simp only [go_sem] at *; first | with_reducible assumption | omega) | decide, ?_⟩)
   obtain ⟨g0, h⟩ := aN h
   repeat (refine ⟨by first | with_reducible assumption | omega | (intros; first | with_reducible assumption | omega) | (simp only [go_sem] at *; first | with_reducible assumption | omega) | decide, ?_⟩)
   obtain ⟨g0, h⟩ := aN h
   repeat (refine ⟨by first | with_reducible assumption | omega | (intros; first | with_reducible assumption | omega) | (simp only [go_sem] at *; first | with_reducible assumption | omega) | decide, ?_⟩)
   obtain ⟨g0, h⟩ := aN h
   try simp only [I64, I32] at g0
   repeat (refine ⟨by first | with_reducible assumption | omega | (intros; first | with_reducible assumption | omega) | (simp only [go_sem] at *; first | with_reducible assumption | omega) | decide, ?_⟩)
   obtain ⟨g0, h⟩ := aN h
   try simp only [I64, I32] at g0
   repeat (refine ⟨by first | with_reducible assumption | omega | (intros; first | with_reducible assumption | omega) | (simp only [go_sem] at *; first | with_reducible assumption | omega) | decide, ?_⟩)
   obtain ⟨g0, h⟩ := aN h
   try simp only [I64, I32] at g0
   repeat (refine ⟨by first | with_reducible assumption | omega | (intros; first | with_reducible assumption | omega) | (simp only [go_sem] at *; first | with_reducible assumption | omega) | decide, ?_⟩)
   obtain ⟨g0, h⟩ := aN h
   repeat (refine ⟨by first | with_reducible assumption | omega | (intros; first | with_reducible assumption | omega) | (simp only [go_sem] at *; first | with_reducible assumption | omega) | decide, ?_⟩)
   obtain ⟨g0, h⟩ := aN h
   try simp only [I64, I32] at g0
   repeat (refine ⟨by first | with_reducible assumption | omega | (intros; first | with_reducible assumption | omega) | (simp only [go_sem] at *; first | with_reducible assumption | omega) | decide, ?_⟩)
   obtain ⟨g0, h⟩ := aN h
   repeat (refine ⟨by first | with_reducible assumption | omega | (intros; first | with_reducible assumption | omega) | (simp only [go_sem] at *; first | with_reducible assumption | omega) | decide, ?_⟩)
   obtain ⟨g0, h⟩ := aN h
   try simp only [I64, I32] at g0
   repeat (refine ⟨by first | with_reducible assumption | omega | (intros; first | with_reducible assumption | omega) | (simp only [go_sem] at *; first | with_reducible assumption | omega) | decide, ?_⟩)
   replace h := hA5 _ (aA h)
   exact aV _ h rfl (by (try simp only [jN, gD, true_or, and_self, go_sem]) <;> (repeat' apply And.intro) <;> first | rfl | (left; rfl) | (right; rfl) | (left; simp only [go_sem]; done) | (right; simp only [go_sem]; done) | (simp; done) | (simp only [*]; done) | omega)
  ·replace h := hE5 _ (aA h)
   try dsimp only at h
   obtain ⟨v_13, hv, h⟩ := aM h
   try simp only [hv, go_sem]
   exact aI hF [.tmp 4] rfl rfl rfl (aA h) (by simp only [aT, go_sem])
attribute [go_sem] rY
noncomputable def yY (F : Md) (n_1 : Int) (a_0 : (List Nat)) (x22_10 : Int) (out_11 : (List Nat)) : Option ((Int × (List Nat)) ⊕ (((List Nat)))) :=
 if x22_10 < ((((List.drop ((Int.tdiv n_1 (64 : Int)).toNat) a_0).length) : Nat) : Int) then ck (0 ≤ x22_10 ∧ x22_10 < ((((List.drop ((Int.tdiv n_1 (64 : Int)).toNat) a_0).length) : Nat) : Int)) (ck (0 ≤ x22_10 ∧ x22_10 < (((out_11.length) : Nat) : Int)) (ck (I64 (x22_10 + (1 : Int))) (if (x22_10 + (1 : Int)) < ((((List.drop ((Int.tdiv n_1 (64 : Int)).toNat) a_0).length) : Nat) : Int) then ck (0 ≤ x22_10 ∧ x22_10 < ((((out_11.set (x22_10.toNat) (((List.drop ((Int.tdiv n_1 (64 : Int)).toNat) a_0).getD (x22_10.toNat) (0 : Nat)) / (2 ^ (((Int.tmod n_1 (64 : Int)) % (18446744073709551616 : Int)).toNat)))).length) : Nat) : Int)) (ck (I64 (x22_10 + (1 : Int))) (ck (0 ≤ (x22_10 + (1 : Int)) ∧ (x22_10 + (1 : Int)) < ((((List.drop ((Int.tdiv n_1 (64 : Int)).toNat) a_0).length) : Nat) : Int)) (ck (I64 ((63 : Int) - (Int.tmod n_1 (64 : Int)))) (ck (0 ≤ x22_10 ∧ x22_10 < ((((out_11.set (x22_10.toNat) (((List.drop ((Int.tdiv n_1 (64 : Int)).toNat) a_0).getD (x22_10.toNat) (0 : Nat)) / (2 ^ (((Int.tmod n_1 (64 : Int)) % (18446744073709551616 : Int)).toNat)))).length) : Nat) : Int)) (ck (I64 (x22_10 + (1 : Int))) (some (.inl ((x22_10 + (1 : Int)), ((out_11.set (x22_10.toNat) (((List.drop ((Int.tdiv n_1 (64 : Int)).toNat) a_0).getD (x22_10.toNat) (0 : Nat)) / (2 ^ (((Int.tmod n_1 (64 : Int)) % (18446744073709551616 : Int)).toNat)))).set (x22_10.toNat) (((out_11.set (x22_10.toNat) (((List.drop ((Int.tdiv n_1 (64 : Int)).toNat) a_0).getD (x22_10.toNat) (0 : Nat)) / (2 ^ (((Int.tmod n_1 (64 : Int)) % (18446744073709551616 : Int)).toNat)))).getD (x22_10.toNat) (0 : Nat)) ||| ((((((List.drop ((Int.tdiv n_1 (64 : Int)).toNat) a_0).getD ((x22_10 + (1 : Int)).toNat) (0 : Nat)) * (2 : Nat)) % 18446744073709551616) * (2 ^ ((((63 : Int) - (Int.tmod n_1 (64 : Int))) % (18446744073709551616 : Int)).toNat))) % 18446744073709551616))))))))))) else ck (I64 (x22_10 + (1 : Int))) (some (.inl ((x22_10 + (1 : Int)), (out_11.set (x22_10.toNat) (((List.drop ((Int.tdiv n_1 (64 : Int)).toNat) a_0).getD (x22_10.toNat) (0 : Nat)) / (2 ^ (((Int.tmod n_1 (64 : Int)) % (18446744073709551616 : Int)).toNat)))))))))) else some (.inr out_11)
noncomputable def kN (F : Md) (a_0 : (List Nat)) (n_1 : Int) : Option (List Nat) :=
 ck (I64 (Int.tdiv n_1 (64 : Int))) (if (((a_0.length) : Nat) : Int) ≤ (Int.tdiv n_1 (64 : Int)) then some ([] : List Nat) else ck (I64 (Int.tdiv n_1 (64 : Int))) (ck (0 ≤ (Int.tdiv n_1 (64 : Int)) ∧ (Int.tdiv n_1 (64 : Int)) ≤ (((a_0.length) : Nat) : Int)) (ck (0 ≤ ((((List.drop ((Int.tdiv n_1 (64 : Int)).toNat) a_0).length) : Nat) : Int)) (ck ((8 : Int) * ((((List.drop ((Int.tdiv n_1 (64 : Int)).toNat) a_0).length) : Nat) : Int) ≤ 281474976710656) ((dG F (fun d : Int × (List Nat) => yY F n_1 a_0 d.1 d.2) ((0 : Int), (List.replicate ((List.drop ((Int.tdiv n_1 (64 : Int)).toNat) a_0).length) (0 : Nat)))).bind (fun e => (gE F e).bind (fun v_19 => some v_19)))))))
def aFC : PlR := ⟨[(0, .A [0, 1]), (1, .A [0, 1, 12]), (2, .A [4]), (3, .A [0, 1]), (4, .B [0, 1, 5]), (5, .A [0, 1, 5, 20, 21, 22]), (6, .A [0, 1, 5, 20, 21, 22, 23]), (7, .A [0, 1, 5, 6, 7, 20, 21, 22]), (8, .B [0, 1, 5, 6, 20, 21, 22]), (9, .A [0, 1, 5, 6, 20, 21, 22, 39]), (10, .C 17 [0, 1, 5, 20, 21, 22]), (11, .A [0, 1, 5, 20, 21, 22]), (12, .B [4])], []⟩
def aHD : Ty := .pair (.sl (.u .u64)) (.pair (.i .i64) .unit)
noncomputable def pE (F : Md) : aG := mSpec aHD (.one (.sl (.u .u64))) (fun x => kN F x.1 x.2.1)
noncomputable def aHE (F : Md) : List (FuncId × aG) := [(163, (eF F))]
theorem aNe (F : Md) : bE Tryz.prog GL (aHE F) := .cons (oT F) (by kernel_rfl) (.nil)
theorem aH9 (F : Md) : gam (aHE F) 163 = some (eF F) := rfl
attribute [go_sem] aHD aFC aH9
set_option maxHeartbeats 4000000 in
theorem aFD (F : Md) : FOK Tryz.prog GL 97 (pE F) := by
 refine bH (bA (aNe F)) mix Tryz.func97 rfl (by kernel_rfl) (by decide) aFC fun w0 S x Θ hw h hF => ?_
 obtain ⟨(a_0 : (List Nat)), (n_1 : Int), u⟩ := x
 simp only [bL, go_sem]
 replace h : sat (kN F a_0 n_1) _ := h
 unfold kN at h
 obtain ⟨g0, h⟩ := aN h
 try simp only [I64, I32] at g0
 repeat (refine ⟨by first | with_reducible assumption | omega | (intros; first | with_reducible assumption | omega) | (simp only [go_sem] at *; first | with_reducible assumption | omega) | decide, ?_⟩)
 refine aNS h (fun hc h => ?_) fun hc h => ?_
 ·exact aI hF [.tmp 4] rfl rfl rfl (aA h) (by simp only [aT, go_sem])
 ·obtain ⟨g0, h⟩ := aN h
  obtain ⟨g1, h⟩ := aN h
  try simp only [I64, I32] at g0
  repeat (refine ⟨by first | with_reducible assumption | omega | (intros; first | with_reducible assumption | omega) | (simp only [go_sem] at *; first | with_reducible assumption | omega) | decide, ?_⟩)
  obtain ⟨g0, h⟩ := aN h
  obtain ⟨g1, h⟩ := aN h
  repeat (refine ⟨by first | with_reducible assumption | omega | (intros; first | with_reducible assumption | omega) | (simp only [go_sem] at *; first | with_reducible assumption | omega) | decide, ?_⟩)
  refine bS hF (D := Int × (List Nat)) [0, 1, 20, 21] (fun d => [(5, .own 0), (22, .val (.i .i64) d.1)]) (fun d => [.inr (.row 83 (.u .u64) d.2)]) h rfl (by simp only [go_sem]) ?_
  rintro ⟨x22_10, out_11⟩ A6 T6 hA6 hE6 h
  simp only [go_sem]
  replace h : sat (yY F n_1 a_0 x22_10 out_11) _ := h
  unfold yY at h
  refine eC h (fun hc h => ?_) fun hc h => ?_
  ·obtain ⟨g0, h⟩ := aN h
   repeat (refine ⟨by first | with_reducible assumption | omega | (intros; first | with_reducible assumption | omega) | (simp only [go_sem] at *; first | with_reducible assumption | omega) | decide, ?_⟩)
   obtain ⟨g0, h⟩ := aN h
   repeat (refine ⟨by first | with_reducible assumption | omega | (intros; first | with_reducible assumption | omega) | (simp only [go_sem] at *; first | with_reducible assumption | omega) | decide, ?_⟩)
   obtain ⟨g0, h⟩ := aN h
   try simp only [I64, I32] at g0
   repeat (refine ⟨by first | with_reducible assumption | omega | (intros; first | with_reducible assumption | omega) | (simp only [go_sem] at *; first | with_reducible assumption | omega) | decide, ?_⟩)
   refine ⟨fun hc => ?_, fun hc => ?_⟩
   ·replace h := iR hc h
    obtain ⟨g0, h⟩ := aN h
    obtain ⟨g1, h⟩ := aN h
    obtain ⟨g2, h⟩ := aN h
    obtain ⟨g3, h⟩ := aN h
    obtain ⟨g4, h⟩ := aN h
    try simp only [I64, I32] at g1
    try simp only [I64, I32] at g3
    repeat (refine ⟨by first | with_reducible assumption | omega | (intros; first | with_reducible assumption | omega) | (simp only [go_sem] at *; first | with_reducible assumption | omega) | decide, ?_⟩)
    obtain ⟨g0, h⟩ := aN h
    try simp only [I64, I32] at g0
    repeat (refine ⟨by first | with_reducible assumption | omega | (intros; first | with_reducible assumption | omega) | (simp only [go_sem] at *; first | with_reducible assumption | omega) | decide, ?_⟩)
    replace h := hA6 _ (aA h)
    exact aV _ h rfl (by (try simp only [jN, gD, true_or, and_self, go_sem]) <;> (repeat' apply And.intro) <;> first | rfl | (left; rfl) | (right; rfl) | (left; simp only [go_sem]; done) | (right; simp only [go_sem]; done) | (simp; done) | (simp only [*]; done) | omega)
   ·replace h := iS (by first | exact hc | omega) h
    obtain ⟨g0, h⟩ := aN h
    try simp only [I64, I32] at g0
    repeat (refine ⟨by first | with_reducible assumption | omega | (intros; first | with_reducible assumption | omega) | (simp only [go_sem] at *; first | with_reducible assumption | omega) | decide, ?_⟩)
    replace h := hA6 _ (aA h)
    exact aV _ h rfl (by simp only [go_sem])
  ·replace h := hE6 _ (aA h)
   try dsimp only at h
   obtain ⟨v_17, hv, h⟩ := aM h
   try simp only [hv, go_sem]
   exact aI hF [.tmp 4] rfl rfl rfl (aA h) (by simp only [aT, go_sem])
attribute [go_sem] pE
noncomputable def tA (F : Md) (rest_11 : Nat) (q_12 : (List Nat)) : Option (((List Nat) × ((List Nat) × Unit))) :=
 (gE F q_12).bind (fun v_15 => (gE F ([rest_11] : List Nat)).bind (fun v_16 => some (v_15, v_16, ())))
noncomputable def yZ (F : Md) (a_0 : (List Nat)) (b_1 : Nat) (rest_18 : Nat) (i_19 : Int) (q_20 : (List Nat)) : Option ((Nat × Int × (List Nat)) ⊕ ((Nat × (List Nat)))) :=
 if (0 : Int) ≤ i_19 then ck (0 ≤ i_19 ∧ i_19 < (((a_0.length) : Nat) : Int)) ((kB F rest_18 (a_0.getD (i_19.toNat) (0 : Nat)) b_1).bind (fun v_28 => ck (0 ≤ i_19 ∧ i_19 < (((q_20.length) : Nat) : Int)) (ck (I64 (i_19 - (1 : Int))) (some (.inl (((v_28.2).1), (i_19 - (1 : Int)), (q_20.set (i_19.toNat) (v_28.1)))))))) else some (.inr (rest_18, q_20))
noncomputable def rZ (F : Md) (a_0 : (List Nat)) (b_1 : Nat) : Option ((List Nat) × ((List Nat) × Unit)) :=
 ck (0 ≤ (((a_0.length) : Nat) : Int)) (ck ((8 : Int) * (((a_0.length) : Nat) : Int) ≤ 281474976710656) (ck (I64 ((((a_0.length) : Nat) : Int) - (1 : Int))) ((dG F (fun d : Nat × Int × (List Nat) => yZ F a_0 b_1 d.1 d.2.1 d.2.2) ((0 : Nat), ((((a_0.length) : Nat) : Int) - (1 : Int)), (List.replicate (a_0.length) (0 : Nat)))).bind (fun e => tA F e.1 e.2))))
def aFE : PlR := ⟨[(0, .A [0, 1]), (1, .B [0, 1, 6]), (2, .A [0, 1, 6, 7]), (3, .A [0, 1, 6, 7, 8]), (4, .A [0, 1, 6, 7, 8, 16]), (5, .A [0, 1, 6, 7, 8]), (6, .B [0, 1, 6, 7, 8]), (7, .B [4, 5])], [(6, 10)]⟩
def aHF : Ty := .pair (.sl (.u .u64)) (.pair (.u .u64) .unit)
noncomputable def xF (F : Md) : aG := mSpec aHF (.tup (.pair (.sl (.u .u64)) (.pair (.sl (.u .u64)) .unit))) (fun x => rZ F x.1 x.2.1)
noncomputable def aC6 (F : Md) : List (FuncId × aG) := [(163, (eF F)), (252, (nX F))]
theorem aNf (F : Md) : bE Tryz.prog GL (aC6 F) := .cons (oT F) (by kernel_rfl) (.cons (aD3 F) (by kernel_rfl) (.nil))
theorem aIa (F : Md) : gam (aC6 F) 163 = some (eF F) := rfl
theorem aIb (F : Md) : gam (aC6 F) 252 = some (nX F) := rfl
attribute [go_sem] aHF aFE aIa aIb
set_option maxHeartbeats 4000000 in
theorem aMa (F : Md) : FOK Tryz.prog GL 219 (xF F) := by
 refine bH (bA (aNf F)) mix Tryz.func219 rfl (by kernel_rfl) (by decide) aFE fun w0 S x Θ hw h hF => ?_
 obtain ⟨(a_0 : (List Nat)), (b_1 : Nat), u⟩ := x
 simp only [bL, go_sem]
 replace h : sat (rZ F a_0 b_1) _ := h
 unfold rZ at h
 obtain ⟨g0, h⟩ := aN h
 obtain ⟨g1, h⟩ := aN h
 repeat (refine ⟨by omega, ?_⟩)
 refine dZ hF (D := Nat × (List Nat)) (fun d => sat (tA F d.1 d.2) Θ) [] (fun d => [(6, .own 0), (7, .val (.u .u64) d.1)]) (fun d => [.inr (.row 83 (.u .u64) d.2)]) ?_ ?_
 ·simp only [go_sem]
  obtain ⟨g0, h⟩ := aN h
  repeat (refine ⟨by omega, ?_⟩)
  refine bS hF (D := Nat × Int × (List Nat)) [0, 1] (fun d => [(6, .own 0), (7, .val (.u .u64) d.1), (8, .val (.i .i64) d.2.1)]) (fun d => [.inr (.row 83 (.u .u64) d.2.2)]) h rfl (by simp only [go_sem]) ?_
  rintro ⟨rest_18, i_19, q_20⟩ A4 T4 hA4 hE4 h
  simp only [go_sem]
  replace h : sat (yZ F a_0 b_1 rest_18 i_19 q_20) _ := h
  unfold yZ at h
  refine aNS h (fun hc h => ?_) fun hc h => ?_
  ·obtain ⟨g0, h⟩ := aN h
   repeat (refine ⟨by omega, ?_⟩)
   obtain ⟨v_28, hv, h⟩ := aM h
   try simp only [hv, go_sem]
   obtain ⟨g0, h⟩ := aN h
   repeat (refine ⟨by omega, ?_⟩)
   obtain ⟨g0, h⟩ := aN h
   repeat (refine ⟨by omega, ?_⟩)
   replace h := hA4 _ (aA h)
   exact aV _ h rfl (by simp only [go_sem])
  ·replace h := hE4 _ (aA h)
   try dsimp only at h
   exact aV ((rest_18, q_20)) h rfl (by simp only [go_sem])
 ·rintro ⟨rest_11, q_12⟩ h
  simp only [go_sem]
  replace h : sat (tA F rest_11 q_12) _ := h
  unfold tA at h
  obtain ⟨v_15, hv, h⟩ := aM h
  try simp only [hv, go_sem]
  obtain ⟨v_16, hv, h⟩ := aM h
  try simp only [hv, go_sem]
  exact aI hF [.tmp 4, .tmp 5] rfl rfl rfl (aA h) (by simp only [aT, go_sem])
attribute [go_sem] xF
noncomputable def lX (F : Md) (a_0 : (List Nat)) (n_1 : Int) : Option (List Nat) :=
 ck ((aQT a_0)) (ck (I64 (n_1 - (((a_0.length) : Nat) : Int))) (ck (0 ≤ (n_1 - (((a_0.length) : Nat) : Int))) (ck ((((id a_0).length) + ((n_1 - (((a_0.length) : Nat) : Int)).toNat)) * 8 ≤ 140737488355328) (some ((id a_0) ++ (List.replicate ((n_1 - (((a_0.length) : Nat) : Int)).toNat) (0 : Nat)))))))
def aD4 : PlR := ⟨[(0, .A [0, 1]), (1, .B [4])], []⟩
def aFF : Ty := .pair (.sl (.u .u64)) (.pair (.i .i64) .unit)
noncomputable def vG (F : Md) : aG := mSpec aFF (.own 83 (.u .u64)) (fun x => lX F x.1 x.2.1)
noncomputable def aFG (F : Md) : List (FuncId × aG) := [(165, cC)]
theorem aMb (F : Md) : bE Tryz.prog GL (aFG F) := .cons jZ (by kernel_rfl) (.nil)
theorem aGK (F : Md) : gam (aFG F) 165 = some cC := rfl
attribute [go_sem] aFF aD4 aGK
set_option maxHeartbeats 4000000 in
theorem aKJ (F : Md) : FOK Tryz.prog GL 220 (vG F) := by
 refine bH (bA (aMb F)) mix Tryz.func220 rfl (by kernel_rfl) (by decide) aD4 fun w0 S x Θ hw h hF => ?_
 obtain ⟨(a_0 : (List Nat)), (n_1 : Int), u⟩ := x
 simp only [bL, go_sem]
 replace h : sat (lX F a_0 n_1) _ := h
 unfold lX at h
 refine aS h fun g0 h => ?_
 refine aS h fun g0 h => ?_
 obtain ⟨g0, h⟩ := aN h
 obtain ⟨g1, h⟩ := aN h
 repeat (refine ⟨by omega, ?_⟩)
 exact aI hF [.tmp 4] rfl rfl rfl (aA h) (by simp only [aT, go_sem])
attribute [go_sem] vG
noncomputable def zA (F : Md) (v_1 : (List Nat)) (un_0 : Nat) (uo_0 : Nat) (x_13 : Nat) (carry_31 : Nat) (u_32 : (List Nat)) : Option (((Nat × (List Nat)))) :=
 ck (0 ≤ (((v_1.length) : Nat) : Int) ∧ (((v_1.length) : Nat) : Int) < ((un_0 : Nat) : Int)) (ck (uo_0 + (v_1.length) < (u_32.length)) (ck (0 ≤ (((v_1.length) : Nat) : Int) ∧ (((v_1.length) : Nat) : Int) < ((un_0 : Nat) : Int)) (ck (uo_0 + (v_1.length) < (u_32.length)) (some ((sW F .u64 x_13 (1 : Nat)), (u_32.set (uo_0 + (v_1.length)) (((u_32.getD (uo_0 + (v_1.length)) (0 : Nat)) + carry_31) % 18446744073709551616)))))))
noncomputable def aCc (F : Md) (v_1 : (List Nat)) (un_0 : Nat) (uo_0 : Nat) (carry_33 : Nat) (x159_34 : Int) (u_35 : (List Nat)) : Option ((Nat × Int × (List Nat)) ⊕ ((Nat × (List Nat)))) :=
 if x159_34 < (((v_1.length) : Nat) : Int) then ck (0 ≤ x159_34 ∧ x159_34 < (((v_1.length) : Nat) : Int)) (ck (0 ≤ x159_34 ∧ x159_34 < ((un_0 : Nat) : Int)) (ck (uo_0 + (x159_34.toNat) < (u_35.length)) (ck ((yQ (u_35.getD (uo_0 + (x159_34.toNat)) (0 : Nat)) (v_1.getD (x159_34.toNat) (0 : Nat)) carry_33)) (ck (0 ≤ x159_34 ∧ x159_34 < ((un_0 : Nat) : Int)) (ck (uo_0 + (x159_34.toNat) < (u_35.length)) (ck (I64 (x159_34 + (1 : Int))) (some (.inl ((((hU (u_35.getD (uo_0 + (x159_34.toNat)) (0 : Nat)) (v_1.getD (x159_34.toNat) (0 : Nat)) carry_33).2).1), (x159_34 + (1 : Int)), (u_35.set (uo_0 + (x159_34.toNat)) ((hU (u_35.getD (uo_0 + (x159_34.toNat)) (0 : Nat)) (v_1.getD (x159_34.toNat) (0 : Nat)) carry_33).1))))))))))) else some (.inr (carry_33, u_35))
noncomputable def zB (F : Md) (v_1 : (List Nat)) (un_0 : Nat) (uo_0 : Nat) (x_13 : Nat) (carry_22 : Nat) (borrow_23 : Nat) (u_24 : (List Nat)) : Option (((Nat × (List Nat)))) :=
 ck (0 ≤ (((v_1.length) : Nat) : Int) ∧ (((v_1.length) : Nat) : Int) < ((un_0 : Nat) : Int)) (ck (uo_0 + (v_1.length) < (u_24.length)) (ck ((yQ (u_24.getD (uo_0 + (v_1.length)) (0 : Nat)) carry_22 borrow_23)) (ck (0 ≤ (((v_1.length) : Nat) : Int) ∧ (((v_1.length) : Nat) : Int) < ((un_0 : Nat) : Int)) (ck (uo_0 + (v_1.length) < (u_24.length)) (if (((aC5 (u_24.getD (uo_0 + (v_1.length)) (0 : Nat)) carry_22 borrow_23).2).1) = (0 : Nat) then some (x_13, (u_24.set (uo_0 + (v_1.length)) ((aC5 (u_24.getD (uo_0 + (v_1.length)) (0 : Nat)) carry_22 borrow_23).1))) else (dG F (fun d : Nat × Int × (List Nat) => aCc F v_1 un_0 uo_0 d.1 d.2.1 d.2.2) ((0 : Nat), (0 : Int), (u_24.set (uo_0 + (v_1.length)) ((aC5 (u_24.getD (uo_0 + (v_1.length)) (0 : Nat)) carry_22 borrow_23).1)))).bind (fun e => zA F v_1 un_0 uo_0 x_13 e.1 e.2))))))
noncomputable def aCd (F : Md) (v_1 : (List Nat)) (x_13 : Nat) (un_0 : Nat) (uo_0 : Nat) (carry_41 : Nat) (borrow_42 : Nat) (x107_43 : Int) (u_44 : (List Nat)) : Option ((Nat × Nat × Int × (List Nat)) ⊕ ((Nat × Nat × (List Nat)))) :=
 if x107_43 < (((v_1.length) : Nat) : Int) then ck (0 ≤ x107_43 ∧ x107_43 < (((v_1.length) : Nat) : Int)) (ck (((cD F x_13 (v_1.getD (x107_43.toNat) (0 : Nat))).isSome = true)) (ck ((yQ ((((cD F x_13 (v_1.getD (x107_43.toNat) (0 : Nat))).getD ((0 : Nat), (0 : Nat), ())).2).1) carry_41 (0 : Nat))) (ck (0 ≤ x107_43 ∧ x107_43 < ((un_0 : Nat) : Int)) (ck (uo_0 + (x107_43.toNat) < (u_44.length)) (ck ((yQ (u_44.getD (uo_0 + (x107_43.toNat)) (0 : Nat)) ((hU ((((cD F x_13 (v_1.getD (x107_43.toNat) (0 : Nat))).getD ((0 : Nat), (0 : Nat), ())).2).1) carry_41 (0 : Nat)).1) borrow_42)) (ck (0 ≤ x107_43 ∧ x107_43 < ((un_0 : Nat) : Int)) (ck (uo_0 + (x107_43.toNat) < (u_44.length)) (ck (I64 (x107_43 + (1 : Int))) (some (.inl ((((((cD F x_13 (v_1.getD (x107_43.toNat) (0 : Nat))).getD ((0 : Nat), (0 : Nat), ())).1) + (((hU ((((cD F x_13 (v_1.getD (x107_43.toNat) (0 : Nat))).getD ((0 : Nat), (0 : Nat), ())).2).1) carry_41 (0 : Nat)).2).1)) % 18446744073709551616), (((aC5 (u_44.getD (uo_0 + (x107_43.toNat)) (0 : Nat)) ((hU ((((cD F x_13 (v_1.getD (x107_43.toNat) (0 : Nat))).getD ((0 : Nat), (0 : Nat), ())).2).1) carry_41 (0 : Nat)).1) borrow_42).2).1), (x107_43 + (1 : Int)), (u_44.set (uo_0 + (x107_43.toNat)) ((aC5 (u_44.getD (uo_0 + (x107_43.toNat)) (0 : Nat)) ((hU ((((cD F x_13 (v_1.getD (x107_43.toNat) (0 : Nat))).getD ((0 : Nat), (0 : Nat), ())).2).1) carry_41 (0 : Nat)).1) borrow_42).1))))))))))))) else some (.inr (carry_41, borrow_42, u_44))
noncomputable def zC (F : Md) (v_1 : (List Nat)) (un_0 : Nat) (uo_0 : Nat) (o0_2 : (List Nat)) (x_13 : Nat) : Option (((Nat × (List Nat)))) :=
 (dG F (fun d : Nat × Nat × Int × (List Nat) => aCd F v_1 x_13 un_0 uo_0 d.1 d.2.1 d.2.2.1 d.2.2.2) ((0 : Nat), (0 : Nat), (0 : Int), o0_2)).bind (fun e => zB F v_1 un_0 uo_0 x_13 e.1 e.2.1 e.2.2)
noncomputable def aC7 (F : Md) (v_1 : (List Nat)) (un_0 : Nat) (uo_0 : Nat) (o0_2 : (List Nat)) (x_52 : Nat) (rest_53 : Nat) (over_54 : Nat) : Option ((Nat × Nat × Nat) ⊕ ((Nat))) :=
 if over_54 = (0 : Nat) then ck (I64 ((((v_1.length) : Nat) : Int) - (2 : Int))) (ck (0 ≤ ((((v_1.length) : Nat) : Int) - (2 : Int)) ∧ ((((v_1.length) : Nat) : Int) - (2 : Int)) < (((v_1.length) : Nat) : Int)) (ck (((cD F x_52 (v_1.getD (((((v_1.length) : Nat) : Int) - (2 : Int)).toNat) (0 : Nat))).isSome = true)) (ck ((¬ ((((cD F x_52 (v_1.getD (((((v_1.length) : Nat) : Int) - (2 : Int)).toNat) (0 : Nat))).getD ((0 : Nat), (0 : Nat), ())).1) < rest_53) → ((((cD F x_52 (v_1.getD (((((v_1.length) : Nat) : Int) - (2 : Int)).toNat) (0 : Nat))).getD ((0 : Nat), (0 : Nat), ())).1) = rest_53) → (I64 ((((v_1.length) : Nat) : Int) - (2 : Int))))) (ck ((¬ ((((cD F x_52 (v_1.getD (((((v_1.length) : Nat) : Int) - (2 : Int)).toNat) (0 : Nat))).getD ((0 : Nat), (0 : Nat), ())).1) < rest_53) → ((((cD F x_52 (v_1.getD (((((v_1.length) : Nat) : Int) - (2 : Int)).toNat) (0 : Nat))).getD ((0 : Nat), (0 : Nat), ())).1) = rest_53) → (0 ≤ ((((v_1.length) : Nat) : Int) - (2 : Int)) ∧ ((((v_1.length) : Nat) : Int) - (2 : Int)) < ((un_0 : Nat) : Int) ∧ uo_0 + (((((v_1.length) : Nat) : Int) - (2 : Int)).toNat) < (o0_2.length)))) (if ((((cD F x_52 (v_1.getD (((((v_1.length) : Nat) : Int) - (2 : Int)).toNat) (0 : Nat))).getD ((0 : Nat), (0 : Nat), ())).1) < rest_53) ∨ (((((cD F x_52 (v_1.getD (((((v_1.length) : Nat) : Int) - (2 : Int)).toNat) (0 : Nat))).getD ((0 : Nat), (0 : Nat), ())).1) = rest_53) ∧ (((((cD F x_52 (v_1.getD (((((v_1.length) : Nat) : Int) - (2 : Int)).toNat) (0 : Nat))).getD ((0 : Nat), (0 : Nat), ())).2).1) ≤ (o0_2.getD (uo_0 + (((((v_1.length) : Nat) : Int) - (2 : Int)).toNat)) (0 : Nat)))) then some (.inr x_52) else ck (I64 ((((v_1.length) : Nat) : Int) - (1 : Int))) (ck (0 ≤ ((((v_1.length) : Nat) : Int) - (1 : Int)) ∧ ((((v_1.length) : Nat) : Int) - (1 : Int)) < (((v_1.length) : Nat) : Int)) (ck ((yQ rest_53 (v_1.getD (((((v_1.length) : Nat) : Int) - (1 : Int)).toNat) (0 : Nat)) (0 : Nat))) (some (.inl ((sW F .u64 x_52 (1 : Nat)), ((hU rest_53 (v_1.getD (((((v_1.length) : Nat) : Int) - (1 : Int)).toNat) (0 : Nat)) (0 : Nat)).1), (((hU rest_53 (v_1.getD (((((v_1.length) : Nat) : Int) - (1 : Int)).toNat) (0 : Nat)) (0 : Nat)).2).1))))))))))) else some (.inr x_52)
noncomputable def tB (F : Md) (v_1 : (List Nat)) (un_0 : Nat) (uo_0 : Nat) (o0_2 : (List Nat)) (x_4 : Nat) (rest_5 : Nat) (over_6 : Nat) : Option (((Nat × (List Nat)))) :=
 (dG F (fun d : Nat × Nat × Nat => aC7 F v_1 un_0 uo_0 o0_2 d.1 d.2.1 d.2.2) (x_4, rest_5, over_6)).bind (fun e => zC F v_1 un_0 uo_0 o0_2 e)
noncomputable def aAf (F : Md) (uo_0 : Nat) (un_0 : Nat) (v_1 : (List Nat)) (o0_2 : (List Nat)) : Option ((Nat × (List Nat))) :=
 ck (0 ≤ (((v_1.length) : Nat) : Int) ∧ (((v_1.length) : Nat) : Int) < ((un_0 : Nat) : Int)) (ck (uo_0 + (v_1.length) < (o0_2.length)) (ck (I64 ((((v_1.length) : Nat) : Int) - (1 : Int))) (ck (0 ≤ ((((v_1.length) : Nat) : Int) - (1 : Int)) ∧ ((((v_1.length) : Nat) : Int) - (1 : Int)) < (((v_1.length) : Nat) : Int)) (if (o0_2.getD (uo_0 + (v_1.length)) (0 : Nat)) < (v_1.getD (((((v_1.length) : Nat) : Int) - (1 : Int)).toNat) (0 : Nat)) then ck (0 ≤ (((v_1.length) : Nat) : Int) ∧ (((v_1.length) : Nat) : Int) < ((un_0 : Nat) : Int)) (ck (uo_0 + (v_1.length) < (o0_2.length)) (ck (I64 ((((v_1.length) : Nat) : Int) - (1 : Int))) (ck (0 ≤ ((((v_1.length) : Nat) : Int) - (1 : Int)) ∧ ((((v_1.length) : Nat) : Int) - (1 : Int)) < ((un_0 : Nat) : Int)) (ck (uo_0 + (((((v_1.length) : Nat) : Int) - (1 : Int)).toNat) < (o0_2.length)) (ck (I64 ((((v_1.length) : Nat) : Int) - (1 : Int))) (ck (0 ≤ ((((v_1.length) : Nat) : Int) - (1 : Int)) ∧ ((((v_1.length) : Nat) : Int) - (1 : Int)) < (((v_1.length) : Nat) : Int)) (ck (((kB F (o0_2.getD (uo_0 + (v_1.length)) (0 : Nat)) (o0_2.getD (uo_0 + (((((v_1.length) : Nat) : Int) - (1 : Int)).toNat)) (0 : Nat)) (v_1.getD (((((v_1.length) : Nat) : Int) - (1 : Int)).toNat) (0 : Nat))).isSome = true)) (tB F v_1 un_0 uo_0 o0_2 (((kB F (o0_2.getD (uo_0 + (v_1.length)) (0 : Nat)) (o0_2.getD (uo_0 + (((((v_1.length) : Nat) : Int) - (1 : Int)).toNat)) (0 : Nat)) (v_1.getD (((((v_1.length) : Nat) : Int) - (1 : Int)).toNat) (0 : Nat))).getD ((0 : Nat), (0 : Nat), ())).1) ((((kB F (o0_2.getD (uo_0 + (v_1.length)) (0 : Nat)) (o0_2.getD (uo_0 + (((((v_1.length) : Nat) : Int) - (1 : Int)).toNat)) (0 : Nat)) (v_1.getD (((((v_1.length) : Nat) : Int) - (1 : Int)).toNat) (0 : Nat))).getD ((0 : Nat), (0 : Nat), ())).2).1) (0 : Nat))))))))) else ck (I64 ((((v_1.length) : Nat) : Int) - (1 : Int))) (ck (0 ≤ ((((v_1.length) : Nat) : Int) - (1 : Int)) ∧ ((((v_1.length) : Nat) : Int) - (1 : Int)) < ((un_0 : Nat) : Int)) (ck (uo_0 + (((((v_1.length) : Nat) : Int) - (1 : Int)).toNat) < (o0_2.length)) (ck (I64 ((((v_1.length) : Nat) : Int) - (1 : Int))) (ck (0 ≤ ((((v_1.length) : Nat) : Int) - (1 : Int)) ∧ ((((v_1.length) : Nat) : Int) - (1 : Int)) < (((v_1.length) : Nat) : Int)) (ck ((yQ (o0_2.getD (uo_0 + (((((v_1.length) : Nat) : Int) - (1 : Int)).toNat)) (0 : Nat)) (v_1.getD (((((v_1.length) : Nat) : Int) - (1 : Int)).toNat) (0 : Nat)) (0 : Nat))) (tB F v_1 un_0 uo_0 o0_2 (18446744073709551615 : Nat) ((hU (o0_2.getD (uo_0 + (((((v_1.length) : Nat) : Int) - (1 : Int)).toNat)) (0 : Nat)) (v_1.getD (((((v_1.length) : Nat) : Int) - (1 : Int)).toNat) (0 : Nat)) (0 : Nat)).1) (((hU (o0_2.getD (uo_0 + (((((v_1.length) : Nat) : Int) - (1 : Int)).toNat)) (0 : Nat)) (v_1.getD (((((v_1.length) : Nat) : Int) - (1 : Int)).toNat) (0 : Nat)) (0 : Nat)).2).1)))))))))))
noncomputable def xG (F : Md) : nL where
 D := Nat × Nat × (List Nat) × (List Nat) × ((Nat × (List Nat)))
 av := fun d => [.sub 0 1 d.1 d.2.1, .val (.sl (.u .u64)) d.2.2.1]
 hp := fun d => [.row 83 (.u .u64) d.2.2.2.1]
 m := 1
 pre := fun d => aAf F d.1 d.2.1 d.2.2.1 d.2.2.2.1 = some d.2.2.2.2
 out := fun d => (fun r : (Nat × (List Nat)) => .ret (.val (.u .u64) r.1) [.row 83 (.u .u64) (r.2)]) d.2.2.2.2
noncomputable def sA (F : Md) : List (FuncId × aG) := [(161, (nW F)), (162, kM), (252, (nX F)), (253, vE)]
theorem aHG (F : Md) : bE Tryz.prog GL (sA F) := .cons (aD1 F) (by kernel_rfl) (.nat aAz (.cons (aD3 F) (by kernel_rfl) (.nat aKG (.nil))))
theorem aIc (F : Md) : gam (sA F) 161 = some (nW F) := rfl
attribute [go_sem] aIc
theorem aId (F : Md) : gam (sA F) 162 = some kM := rfl
attribute [go_sem] aId
theorem aIe (F : Md) : gam (sA F) 252 = some (nX F) := rfl
attribute [go_sem] aIe
theorem aIf (F : Md) : gam (sA F) 253 = some vE := rfl
attribute [go_sem] aIf
set_option maxHeartbeats 4000000 in
theorem aMc (F : Md) : GOK Tryz.prog GL 221 (xG F) := by
 refine wB (bA (aHG F)) Tryz.func221 rfl (by kernel_rfl) (fun _ => Nat.le_of_ble_eq_true rfl) fun c0 w0 d hw1 hw2 h hn => ?_
 have hF : jQ ⟨Tryz.prog, EM (sA F), GM (xG F) c0 d, w0, Tryz.f221.ntmps, []⟩ := ⟨bA (aHG F), mix⟩
 obtain ⟨(uo_0 : Nat), (un_0 : Nat), (v_1 : (List Nat)), (o0_2 : (List Nat)), r⟩ := d
 replace h : aAf F uo_0 un_0 v_1 o0_2 = some r := h
 have hw1 : AV.wfL [.sub 0 1 uo_0 un_0, .val (.sl (.u .u64)) v_1] := hw1
 simp only [AV.wfL, AV.wfV, Ty.wf, mM] at hw1
 show Tri _ _ _ [(0, .sub 0 1 uo_0 un_0), (1, .val (.sl (.u .u64)) v_1)] [.row 83 (.u .u64) o0_2]
 unfold aAf at h
 refine aB (aD hF [0, 1] ?_)
 simp only [go_sem, aJ F, aK F, aL F]
 refine aC (aB (aD hF [0, 1, 5] ?_))
 simp only [go_sem, aJ F, aK F, aL F]
 refine aC (aB (aD hF [0, 1, 5, 6, 8] ?_))
 simp only [go_sem, aJ F, aK F, aL F]
 refine aC (lQ (D := Nat × Nat × Nat) (fun d => tB F v_1 un_0 uo_0 o0_2 d.1 d.2.1 d.2.2 = some r) [1, 5] (fun d => [(0, .sub 0 1 uo_0 un_0), (6, .val (.u .u64) d.1), (7, .val (.u .u64) d.2.1), (8, .val (.u .u64) d.2.2)]) (fun d => [.inr (.row 83 (.u .u64) o0_2)]) ?_ ?_)
 ·refine aB (aD hF [0, 1, 5, 6, 8, 31] ?_)
  simp only [go_sem, aJ F, aK F, aL F]
  obtain ⟨g0, h⟩ := aH h
  obtain ⟨g1, h⟩ := aH h
  obtain ⟨g2, h⟩ := aH h
  obtain ⟨g3, h⟩ := aH h
  try simp only [I64, I32] at g2
  repeat (refine ⟨by first | with_reducible assumption | omega | (intros; first | with_reducible assumption | omega) | (simp only [go_sem, aJ F, aK F, aL F] at *; first | assumption | omega) | decide, ?_⟩)
  refine aC (cB rfl (fun hc => ?_) (fun hc => ?_))
  ·try simp only [go_sem, aJ F, aK F, aL F] at hc
   have h := hD (by first | exact hc | omega | (simpa using hc) | (simp at hc ⊢; omega)) h
   refine aD hF [0, 1, 5, 6, 7, 8] ?_
   simp only [go_sem, aJ F, aK F, aL F]
   obtain ⟨g0, h⟩ := aH h
   obtain ⟨g1, h⟩ := aH h
   obtain ⟨g2, h⟩ := aH h
   obtain ⟨g3, h⟩ := aH h
   obtain ⟨g4, h⟩ := aH h
   obtain ⟨g5, h⟩ := aH h
   obtain ⟨g6, h⟩ := aH h
   obtain ⟨g7, h⟩ := aH h
   try simp only [I64, I32] at g2
   try simp only [I64, I32] at g5
   repeat (refine ⟨by first | with_reducible assumption | omega | (intros; first | with_reducible assumption | omega) | (simp only [go_sem, aJ F, aK F, aL F] at *; first | assumption | omega) | decide, ?_⟩)
   refine bF (aV (((((kB F (o0_2.getD (uo_0 + (v_1.length)) (0 : Nat)) (o0_2.getD (uo_0 + (((((v_1.length) : Nat) : Int) - (1 : Int)).toNat)) (0 : Nat)) (v_1.getD (((((v_1.length) : Nat) : Int) - (1 : Int)).toNat) (0 : Nat))).getD ((0 : Nat), (0 : Nat), ())).1), ((((kB F (o0_2.getD (uo_0 + (v_1.length)) (0 : Nat)) (o0_2.getD (uo_0 + (((((v_1.length) : Nat) : Int) - (1 : Int)).toNat)) (0 : Nat)) (v_1.getD (((((v_1.length) : Nat) : Int) - (1 : Int)).toNat) (0 : Nat))).getD ((0 : Nat), (0 : Nat), ())).2).1), (0 : Nat))) h rfl ?_)
   ·(try simp only [jN, gD, true_or, and_self, go_sem, aJ F, aK F, aL F]) <;> (repeat' apply And.intro) <;> first | rfl | (left; rfl) | (right; rfl) | (left; simp only [go_sem, aJ F, aK F, aL F]; done) | (right; simp only [go_sem, aJ F, aK F, aL F]; done) | (simp; done) | (simp only [*]; done) | omega
  ·try simp only [go_sem, aJ F, aK F, aL F] at hc
   have h := hN (by first | exact hc | omega | (simpa using hc) | (simp at hc ⊢; omega)) h
   refine aD hF [0, 1, 5, 6, 7, 8] ?_
   simp only [go_sem, aJ F, aK F, aL F]
   obtain ⟨g0, h⟩ := aH h
   obtain ⟨g1, h⟩ := aH h
   obtain ⟨g2, h⟩ := aH h
   obtain ⟨g3, h⟩ := aH h
   obtain ⟨g4, h⟩ := aH h
   obtain ⟨g5, h⟩ := aH h
   try simp only [I64, I32] at g0
   try simp only [I64, I32] at g3
   repeat (refine ⟨by first | with_reducible assumption | omega | (intros; first | with_reducible assumption | omega) | (simp only [go_sem, aJ F, aK F, aL F] at *; first | assumption | omega) | decide, ?_⟩)
   refine bF (aV (((18446744073709551615 : Nat), ((hU (o0_2.getD (uo_0 + (((((v_1.length) : Nat) : Int) - (1 : Int)).toNat)) (0 : Nat)) (v_1.getD (((((v_1.length) : Nat) : Int) - (1 : Int)).toNat) (0 : Nat)) (0 : Nat)).1), (((hU (o0_2.getD (uo_0 + (((((v_1.length) : Nat) : Int) - (1 : Int)).toNat)) (0 : Nat)) (v_1.getD (((((v_1.length) : Nat) : Int) - (1 : Int)).toNat) (0 : Nat)) (0 : Nat)).2).1))) h rfl ?_)
   ·(try simp only [jN, gD, true_or, and_self, go_sem, aJ F, aK F, aL F]) <;> (repeat' apply And.intro) <;> first | rfl | (left; rfl) | (right; rfl) | (left; simp only [go_sem, aJ F, aK F, aL F]; done) | (right; simp only [go_sem, aJ F, aK F, aL F]; done) | (simp; done) | (simp only [*]; done) | omega
 ·rintro ⟨x_4, rest_5, over_6⟩ h
  try dsimp only at h
  simp only [go_sem, aJ F, aK F, aL F]
  unfold tB at h
  refine lQ (D := Nat) (fun d => zC F v_1 un_0 uo_0 o0_2 d = some r) [1, 5] (fun d => [(0, .sub 0 1 uo_0 un_0), (6, .val (.u .u64) d)]) (fun d => [.inr (.row 83 (.u .u64) o0_2)]) ?_ ?_
  ·refine dU (nV (D := Nat × Nat × Nat) [1, 5] (fun d => [(0, .sub 0 1 uo_0 un_0), (6, .val (.u .u64) d.1), (7, .val (.u .u64) d.2.1), (8, .val (.u .u64) d.2.2)]) (fun d => [.inr (.row 83 (.u .u64) o0_2)]) h ?_ ?_ ?_)
   ·first | rfl | (simp only [go_sem, aJ F, aK F, aL F]; done)
   ·(try simp only [jN, gD, true_or, and_self, go_sem, aJ F, aK F, aL F]) <;> (repeat' apply And.intro) <;> first | rfl | (left; rfl) | (right; rfl) | (left; simp only [go_sem, aJ F, aK F, aL F]; done) | (right; simp only [go_sem, aJ F, aK F, aL F]; done) | (simp; done) | (simp only [*]; done) | omega
   rintro ⟨x_52, rest_53, over_54⟩ s6 h hs6
   simp only [go_sem, aJ F, aK F, aL F]
   try dsimp only at h
   unfold aC7 at h
   refine aB (aB (aD hF [0, 1, 5, 6, 7, 65] ?_))
   simp only [go_sem, aJ F, aK F, aL F]
   refine aC (cB rfl (fun hc => ?_) (fun hc => ?_))
   ·try simp only [go_sem, aJ F, aK F, aL F] at hc
    have h := hD (by first | exact hc | omega | (simpa using hc) | (simp at hc ⊢; omega)) h
    refine cP (aC (dU (aB (aD hF [0, 1, 5, 6, 7, 9, 10] ?_))))
    simp only [go_sem, aJ F, aK F, aL F]
    obtain ⟨g0, h⟩ := aH h
    obtain ⟨g1, h⟩ := aH h
    obtain ⟨g2, h⟩ := aH h
    try simp only [I64, I32] at g0
    repeat (refine ⟨by first | with_reducible assumption | omega | (intros; first | with_reducible assumption | omega) | (simp only [go_sem, aJ F, aK F, aL F] at *; first | assumption | omega) | decide, ?_⟩)
    refine aC (aB (aB (aD hF [0, 1, 5, 6, 7, 92] ?_)))
    simp only [go_sem, aJ F, aK F, aL F]
    obtain ⟨g0, h⟩ := aH h
    obtain ⟨g1, h⟩ := aH h
    try simp only [I64, I32] at g0
    repeat (refine ⟨by first | with_reducible assumption | omega | (intros; first | with_reducible assumption | omega) | (simp only [go_sem, aJ F, aK F, aL F] at *; first | assumption | omega) | (intro q0 q1; (try have e0 := g0 (by first | exact q0 | omega | (simpa using q0)) (by first | exact q1 | omega | (simpa using q1))); (try have e1 := g1 (by first | exact q0 | omega | (simpa using q0)) (by first | exact q1 | omega | (simpa using q1))); first | assumption | omega) | (rintro ⟨q0, q1⟩; (try have e0 := g0 (by first | exact q0 | omega | (simpa using q0)) (by first | exact q1 | omega | (simpa using q1))); (try have e1 := g1 (by first | exact q0 | omega | (simpa using q0)) (by first | exact q1 | omega | (simpa using q1))); first | assumption | omega) | decide, ?_⟩)
    refine aC (cB rfl (fun hc => ?_) (fun hc => ?_))
    ·try simp only [go_sem, aJ F, aK F, aL F] at hc
     have h := hD (by first | exact hc | omega | (simpa using hc) | (simp at hc ⊢; omega)) h
     obtain rfl := Option.some.inj h
     dsimp only [mW] at hs6
     have h := hs6
     try dsimp only at h
     refine nK (cL (yM (by decide) (cL (eE (bF (aV (x_52) h rfl ?_))))))
     ·(try simp only [jN, gD, true_or, and_self, go_sem, aJ F, aK F, aL F]) <;> (repeat' apply And.intro) <;> first | rfl | (left; rfl) | (right; rfl) | (left; simp only [go_sem, aJ F, aK F, aL F]; done) | (right; simp only [go_sem, aJ F, aK F, aL F]; done) | (simp; done) | (simp only [*]; done) | omega
    ·try simp only [go_sem, aJ F, aK F, aL F] at hc
     have h := hN (by first | exact hc | omega | (simpa using hc) | (simp at hc ⊢; omega)) h
     refine cP (aC (aB (aD hF [0, 1, 5, 6, 7] ?_)))
     simp only [go_sem, aJ F, aK F, aL F]
     refine aC (aD hF [0, 1, 5, 6, 7, 8] ?_)
     simp only [go_sem, aJ F, aK F, aL F]
     obtain ⟨g0, h⟩ := aH h
     obtain ⟨g1, h⟩ := aH h
     obtain ⟨g2, h⟩ := aH h
     try simp only [I64, I32] at g0
     repeat (refine ⟨by first | with_reducible assumption | omega | (intros; first | with_reducible assumption | omega) | (simp only [go_sem, aJ F, aK F, aL F] at *; first | assumption | omega) | decide, ?_⟩)
     obtain rfl := Option.some.inj h
     dsimp only [mW] at hs6
     refine fH (bF (aV (((sW F .u64 x_52 (1 : Nat)), ((hU rest_53 (v_1.getD (((((v_1.length) : Nat) : Int) - (1 : Int)).toNat) (0 : Nat)) (0 : Nat)).1), (((hU rest_53 (v_1.getD (((((v_1.length) : Nat) : Int) - (1 : Int)).toNat) (0 : Nat)) (0 : Nat)).2).1))) hs6 rfl ?_))
     ·(try simp only [jN, gD, true_or, and_self, go_sem, aJ F, aK F, aL F]) <;> (repeat' apply And.intro) <;> first | rfl | (left; rfl) | (right; rfl) | (left; simp only [go_sem, aJ F, aK F, aL F]; done) | (right; simp only [go_sem, aJ F, aK F, aL F]; done) | (simp; done) | (simp only [*]; done) | omega
   ·try simp only [go_sem, aJ F, aK F, aL F] at hc
    have h := hN (by first | exact hc | omega | (simpa using hc) | (simp at hc ⊢; omega)) h
    obtain rfl := Option.some.inj h
    dsimp only [mW] at hs6
    have h := hs6
    try dsimp only at h
    refine nK (cL (cL (eE (bF (aV (x_52) h rfl ?_)))))
    ·(try simp only [jN, gD, true_or, and_self, go_sem, aJ F, aK F, aL F]) <;> (repeat' apply And.intro) <;> first | rfl | (left; rfl) | (right; rfl) | (left; simp only [go_sem, aJ F, aK F, aL F]; done) | (right; simp only [go_sem, aJ F, aK F, aL F]; done) | (simp; done) | (simp only [*]; done) | omega
  ·rintro x_13 h
   try dsimp only at h
   simp only [go_sem, aJ F, aK F, aL F]
   unfold zC at h
   refine aB (aD hF [0, 1, 5, 6, 11, 12] ?_)
   simp only [go_sem, aJ F, aK F, aL F]
   refine aC (lQ (D := Nat × Nat × (List Nat)) (fun d => zB F v_1 un_0 uo_0 x_13 d.1 d.2.1 d.2.2 = some r) [1, 5, 6] (fun d => [(0, .sub 0 1 uo_0 un_0), (11, .val (.u .u64) d.1), (12, .val (.u .u64) d.2.1)]) (fun d => [.inr (.row 83 (.u .u64) d.2.2)]) ?_ ?_)
   ·refine aB (aD hF [0, 1, 5, 6, 11, 12, 105, 106, 107] ?_)
    simp only [go_sem, aJ F, aK F, aL F]
    refine aC (dU (nV (D := Nat × Nat × Int × (List Nat)) [1, 5, 6, 105, 106] (fun d => [(0, .sub 0 1 uo_0 un_0), (11, .val (.u .u64) d.1), (12, .val (.u .u64) d.2.1), (107, .val (.i .i64) d.2.2.1)]) (fun d => [.inr (.row 83 (.u .u64) d.2.2.2)]) h ?_ ?_ ?_))
    ·first | rfl | (simp only [go_sem, aJ F, aK F, aL F]; done)
    ·(try simp only [jN, gD, true_or, and_self, go_sem, aJ F, aK F, aL F]) <;> (repeat' apply And.intro) <;> first | rfl | (left; rfl) | (right; rfl) | (left; simp only [go_sem, aJ F, aK F, aL F]; done) | (right; simp only [go_sem, aJ F, aK F, aL F]; done) | (simp; done) | (simp only [*]; done) | omega
    rintro ⟨carry_41, borrow_42, x107_43, u_44⟩ s13 h hs13
    simp only [go_sem, aJ F, aK F, aL F]
    try dsimp only at h
    unfold aCd at h
    refine aB (aD hF [0, 1, 5, 6, 11, 12, 105, 106, 107, 108] ?_)
    simp only [go_sem, aJ F, aK F, aL F]
    refine aC (aB (cB rfl (fun hc => ?_) (fun hc => ?_)))
    ·try simp only [go_sem, aJ F, aK F, aL F] at hc
     have h := hD (by first | exact hc | omega | (simpa using hc) | (simp at hc ⊢; omega)) h
     refine cP (aC (aB (dU (aB (aD hF [0, 1, 5, 6, 11, 12, 13, 14, 105, 106, 107] ?_)))))
     simp only [go_sem, aJ F, aK F, aL F]
     obtain ⟨g0, h⟩ := aH h
     repeat (refine ⟨by first | with_reducible assumption | omega | (intros; first | with_reducible assumption | omega) | (simp only [go_sem, aJ F, aK F, aL F] at *; first | assumption | omega) | decide, ?_⟩)
     refine aC (aB (aD hF [0, 1, 5, 6, 11, 12, 13, 15, 16, 105, 106, 107] ?_))
     simp only [go_sem, aJ F, aK F, aL F]
     obtain ⟨g0, h⟩ := aH h
     repeat (refine ⟨by first | with_reducible assumption | omega | (intros; first | with_reducible assumption | omega) | (simp only [go_sem, aJ F, aK F, aL F] at *; first | assumption | omega) | decide, ?_⟩)
     refine aC (aB (aD hF [0, 1, 5, 6, 11, 12, 13, 15, 16, 105, 106, 107] ?_))
     simp only [go_sem, aJ F, aK F, aL F]
     refine aC (aB (aD hF [0, 1, 5, 6, 12, 13, 15, 16, 17, 105, 106, 107] ?_))
     simp only [go_sem, aJ F, aK F, aL F]
     obtain ⟨g0, h⟩ := aH h
     repeat (refine ⟨by first | with_reducible assumption | omega | (intros; first | with_reducible assumption | omega) | (simp only [go_sem, aJ F, aK F, aL F] at *; first | assumption | omega) | decide, ?_⟩)
     refine aC (aB (aD hF [0, 1, 5, 6, 11, 12, 13, 16, 105, 106, 107] ?_))
     simp only [go_sem, aJ F, aK F, aL F]
     refine aC (aZ hF [0, 1, 5, 6, 11, 12, 105, 106, 107] ?_)
     simp only [go_sem, aJ F, aK F, aL F]
     obtain ⟨g0, h⟩ := aH h
     obtain ⟨g1, h⟩ := aH h
     repeat (refine ⟨by first | with_reducible assumption | omega | (intros; first | with_reducible assumption | omega) | (simp only [go_sem, aJ F, aK F, aL F] at *; first | assumption | omega) | decide, ?_⟩)
     obtain ⟨g0, h⟩ := aH h
     repeat (refine ⟨by first | with_reducible assumption | omega | (intros; first | with_reducible assumption | omega) | (simp only [go_sem, aJ F, aK F, aL F] at *; first | assumption | omega) | decide, ?_⟩)
     obtain ⟨g0, h⟩ := aH h
     obtain ⟨g1, h⟩ := aH h
     repeat (refine ⟨by first | with_reducible assumption | omega | (intros; first | with_reducible assumption | omega) | (simp only [go_sem, aJ F, aK F, aL F] at *; first | assumption | omega) | decide, ?_⟩)
     refine fH (aC (aD hF [0, 1, 5, 6, 11, 12, 105, 106, 107] ?_))
     simp only [go_sem, aJ F, aK F, aL F]
     obtain ⟨g0, h⟩ := aH h
     try simp only [I64, I32] at g0
     repeat (refine ⟨by first | with_reducible assumption | omega | (intros; first | with_reducible assumption | omega) | (simp only [go_sem, aJ F, aK F, aL F] at *; first | assumption | omega) | decide, ?_⟩)
     obtain rfl := Option.some.inj h
     dsimp only [mW] at hs13
     refine bF (aV (((((((cD F x_13 (v_1.getD (x107_43.toNat) (0 : Nat))).getD ((0 : Nat), (0 : Nat), ())).1) + (((hU ((((cD F x_13 (v_1.getD (x107_43.toNat) (0 : Nat))).getD ((0 : Nat), (0 : Nat), ())).2).1) carry_41 (0 : Nat)).2).1)) % 18446744073709551616), (((aC5 (u_44.getD (uo_0 + (x107_43.toNat)) (0 : Nat)) ((hU ((((cD F x_13 (v_1.getD (x107_43.toNat) (0 : Nat))).getD ((0 : Nat), (0 : Nat), ())).2).1) carry_41 (0 : Nat)).1) borrow_42).2).1), (x107_43 + (1 : Int)), (u_44.set (uo_0 + (x107_43.toNat)) ((aC5 (u_44.getD (uo_0 + (x107_43.toNat)) (0 : Nat)) ((hU ((((cD F x_13 (v_1.getD (x107_43.toNat) (0 : Nat))).getD ((0 : Nat), (0 : Nat), ())).2).1) carry_41 (0 : Nat)).1) borrow_42).1)))) hs13 rfl ?_)
     ·(try simp only [jN, gD, true_or, and_self, go_sem, aJ F, aK F, aL F]) <;> (repeat' apply And.intro) <;> first | rfl | (left; rfl) | (right; rfl) | (left; simp only [go_sem, aJ F, aK F, aL F]; done) | (right; simp only [go_sem, aJ F, aK F, aL F]; done) | (simp; done) | (simp only [*]; done) | omega
    ·try simp only [go_sem, aJ F, aK F, aL F] at hc
     have h := hN (by first | exact hc | omega | (simpa using hc) | (simp at hc ⊢; omega)) h
     obtain rfl := Option.some.inj h
     dsimp only [mW] at hs13
     have h := hs13
     try dsimp only at h
     refine nK (cL (cL (eE (bF (aV ((carry_41, borrow_42, u_44)) h rfl ?_)))))
     ·(try simp only [jN, gD, true_or, and_self, go_sem, aJ F, aK F, aL F]) <;> (repeat' apply And.intro) <;> first | rfl | (left; rfl) | (right; rfl) | (left; simp only [go_sem, aJ F, aK F, aL F]; done) | (right; simp only [go_sem, aJ F, aK F, aL F]; done) | (simp; done) | (simp only [*]; done) | omega
   ·rintro ⟨carry_22, borrow_23, u_24⟩ h
    try dsimp only at h
    simp only [go_sem, aJ F, aK F, aL F]
    unfold zB at h
    refine aB (aB (aZ hF [0, 1, 5, 6, 12] ?_))
    simp only [go_sem, aJ F, aK F, aL F]
    obtain ⟨g0, h⟩ := aH h
    obtain ⟨g1, h⟩ := aH h
    repeat (refine ⟨by first | with_reducible assumption | omega | (intros; first | with_reducible assumption | omega) | (simp only [go_sem, aJ F, aK F, aL F] at *; first | assumption | omega) | decide, ?_⟩)
    obtain ⟨g0, h⟩ := aH h
    repeat (refine ⟨by first | with_reducible assumption | omega | (intros; first | with_reducible assumption | omega) | (simp only [go_sem, aJ F, aK F, aL F] at *; first | assumption | omega) | decide, ?_⟩)
    obtain ⟨g0, h⟩ := aH h
    obtain ⟨g1, h⟩ := aH h
    repeat (refine ⟨by first | with_reducible assumption | omega | (intros; first | with_reducible assumption | omega) | (simp only [go_sem, aJ F, aK F, aL F] at *; first | assumption | omega) | decide, ?_⟩)
    refine aC (aB (aD hF [0, 1, 5, 6, 155] ?_))
    simp only [go_sem, aJ F, aK F, aL F]
    refine aC (cB rfl (fun hc => ?_) (fun hc => ?_))
    ·try simp only [go_sem, aJ F, aK F, aL F] at hc
     have h := hD (by first | exact hc | omega | (simpa using hc) | (simp at hc ⊢; omega)) h
     refine aB (aD hF [4] ?_)
     simp only [go_sem, aJ F, aK F, aL F]
     obtain rfl := Option.some.inj h
     refine aC (cV (dC (aBG hF [.tmp 4] rfl rfl rfl rfl rfl rfl ?_)))
     (try simp only [aT, aDJ, aC3, gD, oR, AV.isAgg, go_sem, aJ F, aK F, aL F]) <;> first | trivial | rfl | (simp; done)
    ·try simp only [go_sem, aJ F, aK F, aL F] at hc
     have h := hN (by first | exact hc | omega | (simpa using hc) | (simp at hc ⊢; omega)) h
     refine cP (aC (aB (aD hF [0, 1, 5, 6, 11] ?_)))
     simp only [go_sem, aJ F, aK F, aL F]
     refine aC (lQ (D := Nat × (List Nat)) (fun d => zA F v_1 un_0 uo_0 x_13 d.1 d.2 = some r) [5, 6] (fun d => [(0, .sub 0 1 uo_0 un_0), (11, .val (.u .u64) d.1)]) (fun d => [.inr (.row 83 (.u .u64) d.2)]) ?_ ?_)
     ·refine aB (aD hF [0, 5, 6, 11, 157, 158, 159] ?_)
      simp only [go_sem, aJ F, aK F, aL F]
      refine aC (dU (nV (D := Nat × Int × (List Nat)) [5, 6, 157, 158] (fun d => [(0, .sub 0 1 uo_0 un_0), (11, .val (.u .u64) d.1), (159, .val (.i .i64) d.2.1)]) (fun d => [.inr (.row 83 (.u .u64) d.2.2)]) h ?_ ?_ ?_))
      ·first | rfl | (simp only [go_sem, aJ F, aK F, aL F]; done)
      ·(try simp only [jN, gD, true_or, and_self, go_sem, aJ F, aK F, aL F]) <;> (repeat' apply And.intro) <;> first | rfl | (left; rfl) | (right; rfl) | (left; simp only [go_sem, aJ F, aK F, aL F]; done) | (right; simp only [go_sem, aJ F, aK F, aL F]; done) | (simp; done) | (simp only [*]; done) | omega
      rintro ⟨carry_33, x159_34, u_35⟩ s26 h hs26
      simp only [go_sem, aJ F, aK F, aL F]
      try dsimp only at h
      unfold aCc at h
      refine aB (aD hF [0, 5, 6, 11, 157, 158, 159, 160] ?_)
      simp only [go_sem, aJ F, aK F, aL F]
      refine aC (aB (cB rfl (fun hc => ?_) (fun hc => ?_)))
      ·try simp only [go_sem, aJ F, aK F, aL F] at hc
       have h := hD (by first | exact hc | omega | (simpa using hc) | (simp at hc ⊢; omega)) h
       refine cP (aC (aB (dU (aB (aD hF [0, 5, 6, 11, 18, 19, 157, 158, 159] ?_)))))
       simp only [go_sem, aJ F, aK F, aL F]
       obtain ⟨g0, h⟩ := aH h
       repeat (refine ⟨by first | with_reducible assumption | omega | (intros; first | with_reducible assumption | omega) | (simp only [go_sem, aJ F, aK F, aL F] at *; first | assumption | omega) | decide, ?_⟩)
       refine aC (aZ hF [0, 5, 6, 11, 157, 158, 159] ?_)
       simp only [go_sem, aJ F, aK F, aL F]
       obtain ⟨g0, h⟩ := aH h
       obtain ⟨g1, h⟩ := aH h
       repeat (refine ⟨by first | with_reducible assumption | omega | (intros; first | with_reducible assumption | omega) | (simp only [go_sem, aJ F, aK F, aL F] at *; first | assumption | omega) | decide, ?_⟩)
       obtain ⟨g0, h⟩ := aH h
       repeat (refine ⟨by first | with_reducible assumption | omega | (intros; first | with_reducible assumption | omega) | (simp only [go_sem, aJ F, aK F, aL F] at *; first | assumption | omega) | decide, ?_⟩)
       obtain ⟨g0, h⟩ := aH h
       obtain ⟨g1, h⟩ := aH h
       repeat (refine ⟨by first | with_reducible assumption | omega | (intros; first | with_reducible assumption | omega) | (simp only [go_sem, aJ F, aK F, aL F] at *; first | assumption | omega) | decide, ?_⟩)
       refine fH (aC (aD hF [0, 5, 6, 11, 157, 158, 159] ?_))
       simp only [go_sem, aJ F, aK F, aL F]
       obtain ⟨g0, h⟩ := aH h
       try simp only [I64, I32] at g0
       repeat (refine ⟨by first | with_reducible assumption | omega | (intros; first | with_reducible assumption | omega) | (simp only [go_sem, aJ F, aK F, aL F] at *; first | assumption | omega) | decide, ?_⟩)
       obtain rfl := Option.some.inj h
       dsimp only [mW] at hs26
       refine bF (aV (((((hU (u_35.getD (uo_0 + (x159_34.toNat)) (0 : Nat)) (v_1.getD (x159_34.toNat) (0 : Nat)) carry_33).2).1), (x159_34 + (1 : Int)), (u_35.set (uo_0 + (x159_34.toNat)) ((hU (u_35.getD (uo_0 + (x159_34.toNat)) (0 : Nat)) (v_1.getD (x159_34.toNat) (0 : Nat)) carry_33).1)))) hs26 rfl ?_)
       ·(try simp only [jN, gD, true_or, and_self, go_sem, aJ F, aK F, aL F]) <;> (repeat' apply And.intro) <;> first | rfl | (left; rfl) | (right; rfl) | (left; simp only [go_sem, aJ F, aK F, aL F]; done) | (right; simp only [go_sem, aJ F, aK F, aL F]; done) | (simp; done) | (simp only [*]; done) | omega
      ·try simp only [go_sem, aJ F, aK F, aL F] at hc
       have h := hN (by first | exact hc | omega | (simpa using hc) | (simp at hc ⊢; omega)) h
       obtain rfl := Option.some.inj h
       dsimp only [mW] at hs26
       have h := hs26
       try dsimp only at h
       refine nK (cL (cL (eE (bF (aV ((carry_33, u_35)) h rfl ?_)))))
       ·(try simp only [jN, gD, true_or, and_self, go_sem, aJ F, aK F, aL F]) <;> (repeat' apply And.intro) <;> first | rfl | (left; rfl) | (right; rfl) | (left; simp only [go_sem, aJ F, aK F, aL F]; done) | (right; simp only [go_sem, aJ F, aK F, aL F]; done) | (simp; done) | (simp only [*]; done) | omega
     ·rintro ⟨carry_31, u_32⟩ h
      try dsimp only at h
      simp only [go_sem, aJ F, aK F, aL F]
      unfold zA at h
      refine aB (aZ hF [6] ?_)
      simp only [go_sem, aJ F, aK F, aL F]
      obtain ⟨g0, h⟩ := aH h
      obtain ⟨g1, h⟩ := aH h
      repeat (refine ⟨by first | with_reducible assumption | omega | (intros; first | with_reducible assumption | omega) | (simp only [go_sem, aJ F, aK F, aL F] at *; first | assumption | omega) | decide, ?_⟩)
      obtain ⟨g0, h⟩ := aH h
      obtain ⟨g1, h⟩ := aH h
      repeat (refine ⟨by first | with_reducible assumption | omega | (intros; first | with_reducible assumption | omega) | (simp only [go_sem, aJ F, aK F, aL F] at *; first | assumption | omega) | decide, ?_⟩)
      refine aC (aB (aD hF [4] ?_))
      simp only [go_sem, aJ F, aK F, aL F]
      obtain rfl := Option.some.inj h
      refine aC (cV (aBG hF [.tmp 4] rfl rfl rfl rfl rfl rfl ?_))
      (try simp only [aT, aDJ, aC3, gD, oR, AV.isAgg, go_sem, aJ F, aK F, aL F]) <;> first | trivial | rfl | (simp; done)
attribute [go_sem] xG
noncomputable def wI (F : Md) (b_1 : (List Nat)) (u_11 : (List Nat)) (q_12 : (List Nat)) : Option (((List Nat) × ((List Nat) × Unit))) :=
 ck (((gE F q_12).isSome = true)) (ck (0 ≤ (((b_1.length) : Nat) : Int) ∧ (((b_1.length) : Nat) : Int) ≤ (((u_11.length) : Nat) : Int)) (ck (((gE F (List.take (b_1.length) u_11)).isSome = true)) (ck (((kN F ((gE F (List.take (b_1.length) u_11)).getD ([] : List Nat)) ((bM F (b_1.getD (((((b_1.length) : Nat) : Int) - (1 : Int)).toNat) (0 : Nat))).getD (0 : Int))).isSome = true)) (some (((gE F q_12).getD ([] : List Nat)), ((kN F ((gE F (List.take (b_1.length) u_11)).getD ([] : List Nat)) ((bM F (b_1.getD (((((b_1.length) : Nat) : Int) - (1 : Int)).toNat) (0 : Nat))).getD (0 : Int))).getD ([] : List Nat)), ())))))
noncomputable def aCe (F : Md) (b_1 : (List Nat)) (j_14 : Int) (u_15 : (List Nat)) (q_16 : (List Nat)) : Option ((Int × (List Nat) × (List Nat)) ⊕ (((List Nat) × (List Nat)))) :=
 if (0 : Int) ≤ j_14 then ck (I64 (j_14 + (((b_1.length) : Nat) : Int))) (ck (I64 ((j_14 + (((b_1.length) : Nat) : Int)) + (1 : Int))) (ck (0 ≤ j_14 ∧ j_14 < ((j_14 + (((b_1.length) : Nat) : Int)) + (1 : Int)) ∧ ((j_14 + (((b_1.length) : Nat) : Int)) + (1 : Int)) ≤ (((u_15.length) : Nat) : Int)) (((aAf F (j_14.toNat) ((((j_14 + (((b_1.length) : Nat) : Int)) + (1 : Int)) - j_14).toNat) ((lX F ((jP F b_1 ((bM F (b_1.getD (((((b_1.length) : Nat) : Int) - (1 : Int)).toNat) (0 : Nat))).getD (0 : Int))).getD ([] : List Nat)) (((b_1.length) : Nat) : Int)).getD ([] : List Nat)) u_15)).bind (fun r_24 => ck (0 ≤ j_14 ∧ j_14 < (((q_16.length) : Nat) : Int)) (ck (I64 (j_14 - (1 : Int))) (some (.inl ((j_14 - (1 : Int)), (r_24.2), (q_16.set (j_14.toNat) (r_24.1)))))))))) else some (.inr (u_15, q_16))
noncomputable def xH (F : Md) (a_0 : (List Nat)) (b_1 : (List Nat)) : Option ((List Nat) × ((List Nat) × Unit)) :=
 ck (((oU F a_0 b_1).isSome = true)) (if ((oU F a_0 b_1).getD (0 : Int)) < (0 : Int) then ck ((aQT a_0)) (some (([] : List Nat), (id a_0), ())) else if (((b_1.length) : Nat) : Int) = (1 : Int) then ck ((0 : Int) < (((b_1.length) : Nat) : Int)) (ck (((rZ F a_0 (b_1.getD (0 : Nat) (0 : Nat))).isSome = true)) (some ((((rZ F a_0 (b_1.getD (0 : Nat) (0 : Nat))).getD (([] : List Nat), ([] : List Nat), ())).1), ((((rZ F a_0 (b_1.getD (0 : Nat) (0 : Nat))).getD (([] : List Nat), ([] : List Nat), ())).2).1), ()))) else ck (I64 ((((b_1.length) : Nat) : Int) - (1 : Int))) (ck (0 ≤ ((((b_1.length) : Nat) : Int) - (1 : Int)) ∧ ((((b_1.length) : Nat) : Int) - (1 : Int)) < (((b_1.length) : Nat) : Int)) (ck (((bM F (b_1.getD (((((b_1.length) : Nat) : Int) - (1 : Int)).toNat) (0 : Nat))).isSome = true)) (ck (((jP F b_1 ((bM F (b_1.getD (((((b_1.length) : Nat) : Int) - (1 : Int)).toNat) (0 : Nat))).getD (0 : Int))).isSome = true)) (ck (((lX F ((jP F b_1 ((bM F (b_1.getD (((((b_1.length) : Nat) : Int) - (1 : Int)).toNat) (0 : Nat))).getD (0 : Int))).getD ([] : List Nat)) (((b_1.length) : Nat) : Int)).isSome = true)) (ck (((jP F a_0 ((bM F (b_1.getD (((((b_1.length) : Nat) : Int) - (1 : Int)).toNat) (0 : Nat))).getD (0 : Int))).isSome = true)) (ck (I64 ((((a_0.length) : Nat) : Int) + (1 : Int))) (ck (((lX F ((jP F a_0 ((bM F (b_1.getD (((((b_1.length) : Nat) : Int) - (1 : Int)).toNat) (0 : Nat))).getD (0 : Int))).getD ([] : List Nat)) ((((a_0.length) : Nat) : Int) + (1 : Int))).isSome = true)) (ck (I64 ((((a_0.length) : Nat) : Int) - (((b_1.length) : Nat) : Int))) (ck (I64 (((((a_0.length) : Nat) : Int) - (((b_1.length) : Nat) : Int)) + (1 : Int))) (ck (0 ≤ (((((a_0.length) : Nat) : Int) - (((b_1.length) : Nat) : Int)) + (1 : Int))) (ck ((8 : Int) * (((((a_0.length) : Nat) : Int) - (((b_1.length) : Nat) : Int)) + (1 : Int)) ≤ 281474976710656) (ck (I64 ((((a_0.length) : Nat) : Int) - (((b_1.length) : Nat) : Int))) ((dG F (fun d : Int × (List Nat) × (List Nat) => aCe F b_1 d.1 d.2.1 d.2.2) (((((a_0.length) : Nat) : Int) - (((b_1.length) : Nat) : Int)), ((lX F ((jP F a_0 ((bM F (b_1.getD (((((b_1.length) : Nat) : Int) - (1 : Int)).toNat) (0 : Nat))).getD (0 : Int))).getD ([] : List Nat)) ((((a_0.length) : Nat) : Int) + (1 : Int))).getD ([] : List Nat)), (List.replicate ((((((a_0.length) : Nat) : Int) - (((b_1.length) : Nat) : Int)) + (1 : Int)).toNat) (0 : Nat)))).bind (fun e => wI F b_1 e.1 e.2)))))))))))))))
def xI : Ty := .pair (.sl (.u .u64)) (.pair (.sl (.u .u64)) .unit)
attribute [go_sem] xI
noncomputable def vH (F : Md) : aG := mSpec xI (.tup (.pair (.sl (.u .u64)) (.pair (.sl (.u .u64)) .unit))) (fun x => xH F x.1 x.2.1)
noncomputable def iG (F : Md) : List (FuncId × aG) := [(122, (lW F)), (163, (eF F)), (165, cC), (188, (dM F)), (219, (xF F)), (220, (vG F)), (95, (rY F)), (97, (pE F))]
theorem aFH (F : Md) : bE Tryz.prog GL (iG F) := .cons (aBN F) (by kernel_rfl) (.cons (oT F) (by kernel_rfl) (.cons jZ (by kernel_rfl) (.cons (nB F) (by kernel_rfl) (.cons (aMa F) (by kernel_rfl) (.cons (aKJ F) (by kernel_rfl) (.cons (aHC F) (by kernel_rfl) (.cons (aFD F) (by kernel_rfl) (.nil))))))))
theorem aGL (F : Md) : gam (iG F) 122 = some (lW F) := rfl
attribute [go_sem] aGL
theorem aGM (F : Md) : gam (iG F) 163 = some (eF F) := rfl
attribute [go_sem] aGM
theorem aGN (F : Md) : gam (iG F) 165 = some cC := rfl
attribute [go_sem] aGN
theorem aGO (F : Md) : gam (iG F) 188 = some (dM F) := rfl
attribute [go_sem] aGO
theorem aGP (F : Md) : gam (iG F) 219 = some (xF F) := rfl
attribute [go_sem] aGP
theorem aGQ (F : Md) : gam (iG F) 220 = some (vG F) := rfl
attribute [go_sem] aGQ
theorem aIg (F : Md) : gam (iG F) 95 = some (rY F) := rfl
attribute [go_sem] aIg
theorem aIh (F : Md) : gam (iG F) 97 = some (pE F) := rfl
attribute [go_sem] aIh
set_option maxHeartbeats 4000000 in
theorem aKK (F : Md) : FOK Tryz.prog GL 166 (vH F) := by
 refine lR (bA (aFH F)) Tryz.func166 rfl (by kernel_rfl) (by decide) fun w0 S x r hw h => ?_
 have hF : jQ (fr Tryz.prog (EM (iG F)) S w0 Tryz.f166.ntmps) := ⟨bA (aFH F), mix⟩
 obtain ⟨(a_0 : (List Nat)), (b_1 : (List Nat)), u⟩ := x
 simp only [xI, Ty.wf, mM] at hw
 simp only [bL, xI]
 try dsimp only at h
 replace h : xH F a_0 b_1 = some r := h
 unfold xH at h
 refine aB (aD hF [0, 1] ?_)
 simp only [go_sem]
 refine aC (aB (aB (aD hF [0, 1, 15] ?_)))
 simp only [go_sem]
 obtain ⟨g0, h⟩ := aH h
 repeat (refine ⟨by first | with_reducible assumption | omega | (intros; first | with_reducible assumption | omega) | (simp only [go_sem] at *; first | with_reducible assumption | omega) | decide, ?_⟩)
 refine aC (cB rfl (fun hc => ?_) (fun hc => ?_))
 ·try simp only [go_sem] at hc
  have h := hD (by first | exact hc | omega | (simpa using hc) | (simp at hc ⊢; omega)) h
  refine aB (aZ hF [4, 5] ?_)
  simp only [go_sem]
  obtain ⟨g0, h⟩ := aH h
  repeat (refine ⟨by first | with_reducible assumption | omega | (intros; first | with_reducible assumption | omega) | (simp only [go_sem] at *; first | with_reducible assumption | omega) | decide, ?_⟩)
  obtain rfl := Option.some.inj h
  refine aC (cV (dC (eZ hF [.tmp 4, .tmp 5] rfl rfl rfl ?_)))
  (try simp only [gZ, aT, go_sem]) <;> first | rfl | (simp; done)
 ·try simp only [go_sem] at hc
  have h := hN (by first | exact hc | omega | (simpa using hc) | (simp at hc ⊢; omega)) h
  refine cP (aC (aB (aB (aD hF [0, 1, 20] ?_))))
  simp only [go_sem]
  refine aC (cB rfl (fun hc => ?_) (fun hc => ?_))
  ·try simp only [go_sem] at hc
   have h := hD (by first | exact hc | omega | (simpa using hc) | (simp at hc ⊢; omega)) h
   refine aB (aD hF [4, 5] ?_)
   simp only [go_sem]
   obtain ⟨g0, h⟩ := aH h
   obtain ⟨g1, h⟩ := aH h
   repeat (refine ⟨by first | with_reducible assumption | omega | (intros; first | with_reducible assumption | omega) | (simp only [go_sem] at *; first | with_reducible assumption | omega) | decide, ?_⟩)
   obtain rfl := Option.some.inj h
   refine aC (cV (dC (eZ hF [.tmp 4, .tmp 5] rfl rfl rfl ?_)))
   (try simp only [gZ, aT, go_sem]) <;> first | rfl | (simp; done)
  ·try simp only [go_sem] at hc
   have h := hN (by first | exact hc | omega | (simpa using hc) | (simp at hc ⊢; omega)) h
   refine cP (aC (aB (aD hF [0, 1, 6, 7] ?_)))
   simp only [go_sem]
   obtain ⟨g0, h⟩ := aH h
   obtain ⟨g1, h⟩ := aH h
   obtain ⟨g2, h⟩ := aH h
   try simp only [I64, I32] at g0
   repeat (refine ⟨by first | with_reducible assumption | omega | (intros; first | with_reducible assumption | omega) | (simp only [go_sem] at *; first | with_reducible assumption | omega) | decide, ?_⟩)
   refine aC (aB (aZ hF [0, 6, 7, 8, 9] ?_))
   simp only [go_sem]
   obtain ⟨g0, h⟩ := aH h
   repeat (refine ⟨by first | with_reducible assumption | omega | (intros; first | with_reducible assumption | omega) | (simp only [go_sem] at *; first | with_reducible assumption | omega) | decide, ?_⟩)
   obtain ⟨g0, h⟩ := aH h
   repeat (refine ⟨by first | with_reducible assumption | omega | (intros; first | with_reducible assumption | omega) | (simp only [go_sem] at *; first | with_reducible assumption | omega) | decide, ?_⟩)
   obtain ⟨g0, h⟩ := aH h
   repeat (refine ⟨by first | with_reducible assumption | omega | (intros; first | with_reducible assumption | omega) | (simp only [go_sem] at *; first | with_reducible assumption | omega) | decide, ?_⟩)
   obtain ⟨g0, h⟩ := aH h
   try simp only [I64, I32] at g0
   repeat (refine ⟨by first | with_reducible assumption | omega | (intros; first | with_reducible assumption | omega) | (simp only [go_sem] at *; first | with_reducible assumption | omega) | decide, ?_⟩)
   obtain ⟨g0, h⟩ := aH h
   repeat (refine ⟨by first | with_reducible assumption | omega | (intros; first | with_reducible assumption | omega) | (simp only [go_sem] at *; first | with_reducible assumption | omega) | decide, ?_⟩)
   refine aC (aB (aZ hF [0, 6, 7, 8, 9, 10] ?_))
   simp only [go_sem]
   obtain ⟨g0, h⟩ := aH h
   try simp only [I64, I32] at g0
   repeat (refine ⟨by first | with_reducible assumption | omega | (intros; first | with_reducible assumption | omega) | (simp only [go_sem] at *; first | with_reducible assumption | omega) | decide, ?_⟩)
   obtain ⟨g0, h⟩ := aH h
   try simp only [I64, I32] at g0
   repeat (refine ⟨by first | with_reducible assumption | omega | (intros; first | with_reducible assumption | omega) | (simp only [go_sem] at *; first | with_reducible assumption | omega) | decide, ?_⟩)
   obtain ⟨g0, h⟩ := aH h
   obtain ⟨g1, h⟩ := aH h
   repeat (refine ⟨by first | with_reducible assumption | omega | (intros; first | with_reducible assumption | omega) | (simp only [go_sem] at *; first | with_reducible assumption | omega) | decide, ?_⟩)
   refine aC (lQ (D := (List Nat) × (List Nat)) (fun d => wI F b_1 d.1 d.2 = some r) [6, 7] (fun d => [(9, .own 0), (10, .own 1)]) (fun d => [.inr (.row 83 (.u .u64) d.1), .inr (.row 83 (.u .u64) d.2)]) ?_ ?_)
   ·refine aB (aD hF [6, 7, 8, 9, 10, 11] ?_)
    simp only [go_sem]
    obtain ⟨g0, h⟩ := aH h
    try simp only [I64, I32] at g0
    repeat (refine ⟨by first | with_reducible assumption | omega | (intros; first | with_reducible assumption | omega) | (simp only [go_sem] at *; first | with_reducible assumption | omega) | decide, ?_⟩)
    refine aC (dU (aEw 0 ?_))
    simp only [go_sem]
    refine aDG [1, 2] rfl rfl ?_
    simp only [ren, iY, oM, posOf, gM, go_sem]
    refine nV (D := Int × (List Nat) × (List Nat)) [6, 7, 8] (fun d => [(9, .own 0), (10, .own 1), (11, .val (.i .i64) d.1)]) (fun d => [.inr (.row 83 (.u .u64) d.2.1), .inr (.row 83 (.u .u64) d.2.2)]) h ?_ ?_ ?_
    ·first | rfl | (simp only [go_sem]; done)
    ·(try simp only [jN, gD, true_or, and_self, go_sem]) <;> (repeat' apply And.intro) <;> first | rfl | (left; rfl) | (right; rfl) | (left; simp only [go_sem]; done) | (right; simp only [go_sem]; done) | (simp; done) | (simp only [*]; done) | omega
    rintro ⟨j_14, u_15, q_16⟩ s9 h hs9
    simp only [go_sem]
    try dsimp only at h
    unfold aCe at h
    refine aB (aB (aD hF [6, 7, 8, 9, 10, 11, 60] ?_))
    simp only [go_sem]
    refine aC (cB rfl (fun hc => ?_) (fun hc => ?_))
    ·try simp only [go_sem] at hc
     have h := hD (by first | exact hc | omega | (simpa using hc) | (simp at hc ⊢; omega)) h
     obtain ⟨g0, h⟩ := aH h
     try simp only [I64, I32] at g0
     obtain ⟨g1, h⟩ := aH h
     try simp only [I64, I32] at g1
     obtain ⟨g2, h⟩ := aH h
     obtain ⟨r_24, he1, h⟩ := bind_some h
     try dsimp only at h
     obtain ⟨g3, h⟩ := aH h
     refine cP (aC (aB (dU (bU hF (dW (l := [(221, ⟨xG F, [0], ((j_14.toNat), ((((j_14 + (((b_1.length) : Nat) : Int)) + (1 : Int)) - j_14).toNat), ((lX F ((jP F b_1 ((bM F (b_1.getD (((((b_1.length) : Nat) : Int) - (1 : Int)).toNat) (0 : Nat))).getD (0 : Int))).getD ([] : List Nat)) (((b_1.length) : Nat) : Int)).getD ([] : List Nat)), u_15, r_24)⟩)]) (.cons (aMc F) (by kernel_rfl) (.nil))) [6, 7, 8, 9, 10, 11] [71] ?_))))
     simp only [go_sem]
     repeat (refine ⟨by first | with_reducible assumption | omega | (intros; first | with_reducible assumption | omega) | (simp only [go_sem] at *; first | with_reducible assumption | omega) | decide, ?_⟩)
     refine fH (aC (aD hF [6, 7, 8, 9, 10, 11] ?_))
     simp only [go_sem]
     obtain ⟨g0, h⟩ := aH h
     try simp only [I64, I32] at g0
     repeat (refine ⟨by first | with_reducible assumption | omega | (intros; first | with_reducible assumption | omega) | (simp only [go_sem] at *; first | with_reducible assumption | omega) | decide, ?_⟩)
     obtain rfl := Option.some.inj h
     dsimp only [mW] at hs9
     refine bF (aV (((j_14 - (1 : Int)), (r_24.2), (q_16.set (j_14.toNat) (r_24.1)))) hs9 rfl ?_)
     ·(try simp only [jN, gD, true_or, and_self, go_sem]) <;> (repeat' apply And.intro) <;> first | rfl | (left; rfl) | (right; rfl) | (left; simp only [go_sem]; done) | (right; simp only [go_sem]; done) | (simp; done) | (simp only [*]; done) | omega
    ·try simp only [go_sem] at hc
     have h := hN (by first | exact hc | omega | (simpa using hc) | (simp at hc ⊢; omega)) h
     obtain rfl := Option.some.inj h
     dsimp only [mW] at hs9
     have h := hs9
     try dsimp only at h
     refine nK (cL (cL (eE (bF (aV ((u_15, q_16)) h rfl ?_)))))
     ·(try simp only [jN, gD, true_or, and_self, go_sem]) <;> (repeat' apply And.intro) <;> first | rfl | (left; rfl) | (right; rfl) | (left; simp only [go_sem]; done) | (right; simp only [go_sem]; done) | (simp; done) | (simp only [*]; done) | omega
   ·rintro ⟨u_11, q_12⟩ h
    try dsimp only at h
    simp only [go_sem]
    unfold wI at h
    refine aB (aEw 1 ?_)
    simp only [go_sem]
    refine aEw 0 ?_
    simp only [go_sem]
    refine aD hF [4, 5] ?_
    simp only [go_sem]
    obtain ⟨g0, h⟩ := aH h
    obtain ⟨g1, h⟩ := aH h
    obtain ⟨g2, h⟩ := aH h
    obtain ⟨g3, h⟩ := aH h
    repeat (refine ⟨by first | with_reducible assumption | omega | (intros; first | with_reducible assumption | omega) | (simp only [go_sem] at *; first | with_reducible assumption | omega) | decide, ?_⟩)
    obtain rfl := Option.some.inj h
    refine aC (cV (eZ hF [.tmp 4, .tmp 5] rfl rfl rfl ?_))
    (try simp only [gZ, aT, go_sem]) <;> first | rfl | (simp; done)
attribute [go_sem] vH
end Nu
end Go.Proofs
namespace Go.Proofs
open Go.Vc
set_option maxRecDepth 20000
namespace Nu
theorem aD5 : bE Tryz.prog GL [] := .nil
noncomputable def lY (F : Md) (is_0 : Bool) (e_1 : Int) : Option (Unit ⊕ (Int × Unit)) :=
 if ¬ (is_0 = true) then some (.inr (e_1, ())) else some (.inl ())
noncomputable def eB (F : Md) : nL where
 D := Bool × Int × (Unit ⊕ (Int × Unit))
 av := fun d => [.val .bool d.1, .val (.i .i64) d.2.1]
 hp := fun d => []
 m := 0
 pre := fun d => lY F d.1 d.2.1 = some d.2.2
 out := fun d => match d.2.2 with | .inl r => .ret (.tup []) [] | .inr p => .pan ⟨251, (.pair (.i .i64) .unit), p⟩ []
noncomputable def aHH (F : Md) : List (FuncId × aG) := []
theorem aHI (F : Md) : bE Tryz.prog GL (aHH F) := .nil
set_option maxHeartbeats 4000000 in
theorem gA (F : Md) : GOK Tryz.prog GL 233 (eB F) := by
 refine wB (bA (aHI F)) Tryz.func233 rfl (by kernel_rfl) (fun _ => Nat.le_of_ble_eq_true rfl) fun c0 w0 d hw1 hw2 h hn => ?_
 have hF : jQ ⟨Tryz.prog, EM (aHH F), GM (eB F) c0 d, w0, Tryz.f233.ntmps, []⟩ := ⟨bA (aHI F), mix⟩
 obtain ⟨(is_0 : Bool), (e_1 : Int), r⟩ := d
 replace h : lY F is_0 e_1 = some r := h
 have hw1 : AV.wfL [.val .bool is_0, .val (.i .i64) e_1] := hw1
 simp only [AV.wfL, AV.wfV, Ty.wf, mM] at hw1
 show Tri _ _ _ [(0, .val .bool is_0), (1, .val (.i .i64) e_1)] []
 unfold lY at h
 refine aB (aD hF [1, 5] ?_)
 simp only [go_sem]
 refine aC (cB rfl (fun hc => ?_) (fun hc => ?_))
 ·try simp only [go_sem] at hc
  have h := hD (by first | exact hc | omega | (simpa using hc) | (simp at hc ⊢; omega)) h
  refine bU hF (dW (l := []) (.nil)) [] [] ?_
  simp only [go_sem]
  repeat (refine ⟨by first | with_reducible assumption | omega | (intros; first | with_reducible assumption | omega) | (simp only [go_sem] at *; first | with_reducible assumption | omega) | decide, ?_⟩)
  obtain rfl := Option.some.inj h
  refine sV rfl rfl rfl rfl
 ·try simp only [go_sem] at hc
  have h := hN (by first | exact hc | omega | (simpa using hc) | (simp at hc ⊢; omega)) h
  obtain rfl := Option.some.inj h
  refine cP (aIX (aBG hF [] rfl rfl rfl rfl rfl rfl ?_))
  (try simp only [aT, aDJ, aC3, gD, oR, AV.isAgg, go_sem]) <;> first | trivial | rfl | (simp; done)
attribute [go_sem] eB
noncomputable def vI (F : Md) (e_2 : Int) (m_1 : (List Nat)) (neg_0 : Bool) : Option (((Bool × ((List Nat) × (Int × Unit))) ⊕ (Int × Unit))) :=
 ck (I64 (e_2 + ((dN F m_1).getD (0 : Int)))) (((lY F (decide ((e_2 + ((dN F m_1).getD (0 : Int))) ≤ (1048576 : Int))) (3 : Int))).bind (fun e => match e with | .inl r_22 => ck (I64 (e_2 + ((dN F m_1).getD (0 : Int)))) (some (.inl (neg_0, ((kN F m_1 ((dN F m_1).getD (0 : Int))).getD ([] : List Nat)), (e_2 + ((dN F m_1).getD (0 : Int))), ()))) | .inr p_23 => some (.inr p_23)))
noncomputable def zD (F : Md) (neg_0 : Bool) (m_1 : (List Nat)) (e_2 : Int) : Option ((Bool × ((List Nat) × (Int × Unit))) ⊕ (Int × Unit)) :=
 if (((m_1.length) : Nat) : Int) = (0 : Int) then some (.inl (false, ([] : List Nat), (0 : Int), ())) else ck (((dN F m_1).isSome = true)) (ck (((kN F m_1 ((dN F m_1).getD (0 : Int))).isSome = true)) (((lY F (decide ((((((kN F m_1 ((dN F m_1).getD (0 : Int))).getD ([] : List Nat)).length) : Nat) : Int) ≤ (64 : Int))) (2 : Int))).bind (fun e => match e with | .inl r_8 => if e_2 ≤ (1048576 : Int) then ck (I64 ((-1048576 : Int) - ((dN F m_1).getD (0 : Int)))) (((lY F ((decide (e_2 ≤ (1048576 : Int))) && (decide (((-1048576 : Int) - ((dN F m_1).getD (0 : Int))) ≤ e_2))) (3 : Int))).bind (fun e => match e with | .inl r_24 => vI F e_2 m_1 neg_0 | .inr p_25 => some (.inr p_25))) else ((lY F false (3 : Int))).bind (fun e => match e with | .inl r_26 => vI F e_2 m_1 neg_0 | .inr p_27 => some (.inr p_27)) | .inr p_9 => some (.inr p_9))))
noncomputable def oV (F : Md) : nL where
 D := Bool × (List Nat) × Int × ((Bool × ((List Nat) × (Int × Unit))) ⊕ (Int × Unit))
 av := fun d => [.val .bool d.1, .val (.sl (.u .u64)) d.2.1, .val (.i .i64) d.2.2.1]
 hp := fun d => []
 m := 0
 pre := fun d => zD F d.1 d.2.1 d.2.2.1 = some d.2.2.2
 out := fun d => match d.2.2.2 with | .inl r => .ret (.val (.pair .bool (.pair (.sl (.u .u64)) (.pair (.i .i64) .unit))) r) [] | .inr p => .pan ⟨251, (.pair (.i .i64) .unit), p⟩ []
noncomputable def aBQ (F : Md) : List (FuncId × aG) := [(97, (pE F)), (98, (xE F))]
theorem aJ2 (F : Md) : bE Tryz.prog GL (aBQ F) := .cons (aFD F) (by kernel_rfl) (.cons (aL9 F) (by kernel_rfl) (.nil))
theorem aKL (F : Md) : gam (aBQ F) 97 = some (pE F) := rfl
attribute [go_sem] aKL
theorem aKM (F : Md) : gam (aBQ F) 98 = some (xE F) := rfl
attribute [go_sem] aKM
set_option maxHeartbeats 4000000 in
theorem aAg (F : Md) : GOK Tryz.prog GL 182 (oV F) := by
 refine wB (bA (aJ2 F)) Tryz.func182 rfl (by kernel_rfl) (fun _ => Nat.le_of_ble_eq_true rfl) fun c0 w0 d hw1 hw2 h hn => ?_
 have hF : jQ ⟨Tryz.prog, EM (aBQ F), GM (oV F) c0 d, w0, Tryz.f182.ntmps, []⟩ := ⟨bA (aJ2 F), mix⟩
 obtain ⟨(neg_0 : Bool), (m_1 : (List Nat)), (e_2 : Int), r⟩ := d
 replace h : zD F neg_0 m_1 e_2 = some r := h
 have hw1 : AV.wfL [.val .bool neg_0, .val (.sl (.u .u64)) m_1, .val (.i .i64) e_2] := hw1
 simp only [AV.wfL, AV.wfV, Ty.wf, mM] at hw1
 show Tri _ _ _ [(0, .val .bool neg_0), (1, .val (.sl (.u .u64)) m_1), (2, .val (.i .i64) e_2)] []
 unfold zD at h
 refine aB (aZ hF [0, 1, 2, 6] ?_)
 simp only [go_sem]
 refine aC (aB (aB (aD hF [0, 1, 2, 6, 10] ?_)))
 simp only [go_sem]
 refine aC (cB rfl (fun hc => ?_) (fun hc => ?_))
 ·try simp only [go_sem] at hc
  have h := hD (by first | exact hc | omega | (simpa using hc) | (simp at hc ⊢; omega)) h
  refine aB (aZ hF [6] ?_)
  simp only [go_sem]
  obtain rfl := Option.some.inj h
  refine aC (cV (dC (aAY hF [.cell 6 25] [] rfl rfl rfl rfl rfl rfl rfl rfl rfl ?_)))
  (try simp only [aT, aDJ, aC3, gD, oR, AV.isAgg, go_sem]) <;> first | trivial | rfl | (simp; done)
 ·try simp only [go_sem] at hc
  have h := hN (by first | exact hc | omega | (simpa using hc) | (simp at hc ⊢; omega)) h
  refine cP (aC (aB (aD hF [0, 1, 2, 6, 7] ?_)))
  simp only [go_sem]
  obtain ⟨g0, h⟩ := aH h
  repeat (refine ⟨by first | with_reducible assumption | omega | (intros; first | with_reducible assumption | omega) | (simp only [go_sem] at *; first | with_reducible assumption | omega) | decide, ?_⟩)
  refine aC (aB (aD hF [0, 1, 2, 6, 7] ?_))
  simp only [go_sem]
  obtain ⟨g0, h⟩ := aH h
  repeat (refine ⟨by first | with_reducible assumption | omega | (intros; first | with_reducible assumption | omega) | (simp only [go_sem] at *; first | with_reducible assumption | omega) | decide, ?_⟩)
  obtain ⟨e, he1, h⟩ := bind_some h
  rcases e with r_8 | p_9
  ·try dsimp only at h
   refine aC (aB (bU hF (dW (l := [(233, ⟨eB F, [], ((decide ((((((kN F m_1 ((dN F m_1).getD (0 : Int))).getD ([] : List Nat)).length) : Nat) : Int) ≤ (64 : Int))), (2 : Int), .inl r_8)⟩)]) (.cons (gA F) (by kernel_rfl) (.nil))) [0, 1, 2, 6, 7] [] ?_))
   simp only [go_sem]
   repeat (refine ⟨by first | with_reducible assumption | omega | (intros; first | with_reducible assumption | omega) | (simp only [go_sem] at *; first | with_reducible assumption | omega) | decide, ?_⟩)
   refine aC (lQ (D := Unit) (fun d => vI F e_2 m_1 neg_0 = some r) [0, 1, 2, 7] (fun d => [(6, .ptr 0 [])]) (fun d => [.inr (.box 3 (.val (.pair .bool (.pair (.sl (.u .u64)) (.pair (.i .i64) .unit))) (false, ([] : List Nat), (0 : Int), ())))]) ?_ ?_)
   ·by_cases hq : e_2 ≤ (1048576 : Int)
    ·have h := hD hq h
     obtain ⟨g0, h⟩ := aH h
     try simp only [I64, I32] at g0
     obtain ⟨e, he3, h⟩ := bind_some h
     rcases e with r_24 | p_25
     ·try dsimp only at h
      refine bU hF (dW (l := [(233, ⟨eB F, [], (((decide (e_2 ≤ (1048576 : Int))) && (decide (((-1048576 : Int) - ((dN F m_1).getD (0 : Int))) ≤ e_2))), (3 : Int), .inl r_24)⟩)]) (.cons (gA F) (by kernel_rfl) (.nil))) [0, 1, 2, 6, 7] [] ?_
      simp only [go_sem]
      repeat (refine ⟨by first | with_reducible assumption | omega | (intros; first | with_reducible assumption | omega) | (simp only [go_sem] at *; first | with_reducible assumption | omega) | decide, ?_⟩)
      refine ⟨fun _ => ?_, fun hx => by first | (exfalso; omega) | (exfalso; simp_all; done)⟩
      repeat (refine ⟨by first | with_reducible assumption | omega | (intros; first | with_reducible assumption | omega) | (simp only [go_sem] at *; first | with_reducible assumption | omega) | decide, ?_⟩)
      refine ⟨fun _ => ?_, fun hx => by first | (exfalso; omega) | (exfalso; simp_all; done)⟩
      repeat (refine ⟨by first | with_reducible assumption | omega | (intros; first | with_reducible assumption | omega) | (simp only [go_sem] at *; first | with_reducible assumption | omega) | decide, ?_⟩)
      refine ⟨fun _ => ?_, fun hx => by first | (exfalso; omega) | (exfalso; simp_all; done)⟩
      repeat (refine ⟨by first | with_reducible assumption | omega | (intros; first | with_reducible assumption | omega) | (simp only [go_sem] at *; first | with_reducible assumption | omega) | decide, ?_⟩)
      refine ⟨fun _ => ?_, fun hx => by first | (exfalso; omega) | (exfalso; simp_all; done)⟩
      repeat (refine ⟨by first | with_reducible assumption | omega | (intros; first | with_reducible assumption | omega) | (simp only [go_sem] at *; first | with_reducible assumption | omega) | decide, ?_⟩)
      refine bF (aV (()) h rfl ?_)
      ·(try simp only [jN, gD, true_or, and_self, go_sem]) <;> (repeat' apply And.intro) <;> first | rfl | (left; rfl) | (right; rfl) | (left; simp only [go_sem]; done) | (right; simp only [go_sem]; done) | (simp; done) | (simp only [*]; done) | omega
     ·try dsimp only at h
      refine bU hF (dW (l := [(233, ⟨eB F, [], (((decide (e_2 ≤ (1048576 : Int))) && (decide (((-1048576 : Int) - ((dN F m_1).getD (0 : Int))) ≤ e_2))), (3 : Int), .inr p_25)⟩)]) (.cons (gA F) (by kernel_rfl) (.nil))) [0, 1, 2, 6, 7] [] ?_
      simp only [go_sem]
      repeat (refine ⟨by first | with_reducible assumption | omega | (intros; first | with_reducible assumption | omega) | (simp only [go_sem] at *; first | with_reducible assumption | omega) | decide, ?_⟩)
      refine ⟨fun _ => ?_, fun hx => by first | (exfalso; omega) | (exfalso; simp_all; done)⟩
      repeat (refine ⟨by first | with_reducible assumption | omega | (intros; first | with_reducible assumption | omega) | (simp only [go_sem] at *; first | with_reducible assumption | omega) | decide, ?_⟩)
      refine ⟨fun _ => ?_, fun hx => by first | (exfalso; omega) | (exfalso; simp_all; done)⟩
      repeat (refine ⟨by first | with_reducible assumption | omega | (intros; first | with_reducible assumption | omega) | (simp only [go_sem] at *; first | with_reducible assumption | omega) | decide, ?_⟩)
      refine ⟨fun _ => ?_, fun hx => by first | (exfalso; omega) | (exfalso; simp_all; done)⟩
      repeat (refine ⟨by first | with_reducible assumption | omega | (intros; first | with_reducible assumption | omega) | (simp only [go_sem] at *; first | with_reducible assumption | omega) | decide, ?_⟩)
      refine ⟨fun _ => ?_, fun hx => by first | (exfalso; omega) | (exfalso; simp_all; done)⟩
      repeat (refine ⟨by first | with_reducible assumption | omega | (intros; first | with_reducible assumption | omega) | (simp only [go_sem] at *; first | with_reducible assumption | omega) | decide, ?_⟩)
      obtain rfl := Option.some.inj h
      refine nM (vD [] rfl rfl ?_)
      simp only [ren, iY, oM, posOf, gM, go_sem]
      refine sV rfl rfl rfl rfl
    ·have h := hN hq h
     obtain ⟨e, he4, h⟩ := bind_some h
     rcases e with r_26 | p_27
     ·try dsimp only at h
      refine bU hF (dW (l := [(233, ⟨eB F, [], (false, (3 : Int), .inl r_26)⟩)]) (.cons (gA F) (by kernel_rfl) (.nil))) [0, 1, 2, 6, 7] [] ?_
      simp only [go_sem]
      repeat (refine ⟨by first | with_reducible assumption | omega | (intros; first | with_reducible assumption | omega) | (simp only [go_sem] at *; first | with_reducible assumption | omega) | decide, ?_⟩)
      first | (refine ⟨fun hx => by first | (exfalso; omega) | (exfalso; simp_all; done), fun _ => ?_⟩) | intro _
      repeat (refine ⟨by first | with_reducible assumption | omega | (intros; first | with_reducible assumption | omega) | (simp only [go_sem] at *; first | with_reducible assumption | omega) | decide, ?_⟩)
      first | (refine ⟨fun hx => by first | (exfalso; omega) | (exfalso; simp_all; done), fun _ => ?_⟩) | intro _
      repeat (refine ⟨by first | with_reducible assumption | omega | (intros; first | with_reducible assumption | omega) | (simp only [go_sem] at *; first | with_reducible assumption | omega) | decide, ?_⟩)
      first | (refine ⟨fun hx => by first | (exfalso; omega) | (exfalso; simp_all; done), fun _ => ?_⟩) | intro _
      repeat (refine ⟨by first | with_reducible assumption | omega | (intros; first | with_reducible assumption | omega) | (simp only [go_sem] at *; first | with_reducible assumption | omega) | decide, ?_⟩)
      first | (refine ⟨fun hx => by first | (exfalso; omega) | (exfalso; simp_all; done), fun _ => ?_⟩) | intro _
      repeat (refine ⟨by first | with_reducible assumption | omega | (intros; first | with_reducible assumption | omega) | (simp only [go_sem] at *; first | with_reducible assumption | omega) | decide, ?_⟩)
      refine bF (aV (()) h rfl ?_)
      ·(try simp only [jN, gD, true_or, and_self, go_sem]) <;> (repeat' apply And.intro) <;> first | rfl | (left; rfl) | (right; rfl) | (left; simp only [go_sem]; done) | (right; simp only [go_sem]; done) | (simp; done) | (simp only [*]; done) | omega
     ·try dsimp only at h
      refine bU hF (dW (l := [(233, ⟨eB F, [], (false, (3 : Int), .inr p_27)⟩)]) (.cons (gA F) (by kernel_rfl) (.nil))) [0, 1, 2, 6, 7] [] ?_
      simp only [go_sem]
      repeat (refine ⟨by first | with_reducible assumption | omega | (intros; first | with_reducible assumption | omega) | (simp only [go_sem] at *; first | with_reducible assumption | omega) | decide, ?_⟩)
      first | (refine ⟨fun hx => by first | (exfalso; omega) | (exfalso; simp_all; done), fun _ => ?_⟩) | intro _
      repeat (refine ⟨by first | with_reducible assumption | omega | (intros; first | with_reducible assumption | omega) | (simp only [go_sem] at *; first | with_reducible assumption | omega) | decide, ?_⟩)
      first | (refine ⟨fun hx => by first | (exfalso; omega) | (exfalso; simp_all; done), fun _ => ?_⟩) | intro _
      repeat (refine ⟨by first | with_reducible assumption | omega | (intros; first | with_reducible assumption | omega) | (simp only [go_sem] at *; first | with_reducible assumption | omega) | decide, ?_⟩)
      first | (refine ⟨fun hx => by first | (exfalso; omega) | (exfalso; simp_all; done), fun _ => ?_⟩) | intro _
      repeat (refine ⟨by first | with_reducible assumption | omega | (intros; first | with_reducible assumption | omega) | (simp only [go_sem] at *; first | with_reducible assumption | omega) | decide, ?_⟩)
      first | (refine ⟨fun hx => by first | (exfalso; omega) | (exfalso; simp_all; done), fun _ => ?_⟩) | intro _
      repeat (refine ⟨by first | with_reducible assumption | omega | (intros; first | with_reducible assumption | omega) | (simp only [go_sem] at *; first | with_reducible assumption | omega) | decide, ?_⟩)
      obtain rfl := Option.some.inj h
      refine nM (vD [] rfl rfl ?_)
      simp only [ren, iY, oM, posOf, gM, go_sem]
      refine sV rfl rfl rfl rfl
   ·rintro u h
    try dsimp only at h
    simp only [go_sem]
    unfold vI at h
    obtain ⟨g0, h⟩ := aH h
    try simp only [I64, I32] at g0
    obtain ⟨e, he2, h⟩ := bind_some h
    rcases e with r_22 | p_23
    ·try dsimp only at h
     refine aB (bU hF (dW (l := [(233, ⟨eB F, [], ((decide ((e_2 + ((dN F m_1).getD (0 : Int))) ≤ (1048576 : Int))), (3 : Int), .inl r_22)⟩)]) (.cons (gA F) (by kernel_rfl) (.nil))) [0, 1, 2, 6, 7] [] ?_)
     simp only [go_sem]
     repeat (refine ⟨by first | with_reducible assumption | omega | (intros; first | with_reducible assumption | omega) | (simp only [go_sem] at *; first | with_reducible assumption | omega) | decide, ?_⟩)
     refine aC (aB (aZ hF [6] ?_))
     simp only [go_sem]
     obtain ⟨g0, h⟩ := aH h
     try simp only [I64, I32] at g0
     repeat (refine ⟨by first | with_reducible assumption | omega | (intros; first | with_reducible assumption | omega) | (simp only [go_sem] at *; first | with_reducible assumption | omega) | decide, ?_⟩)
     obtain rfl := Option.some.inj h
     refine aC (cV (aAY hF [.cell 6 25] [] rfl rfl rfl rfl rfl rfl rfl rfl rfl ?_))
     (try simp only [aT, aDJ, aC3, gD, oR, AV.isAgg, go_sem]) <;> first | trivial | rfl | (simp; done)
    ·try dsimp only at h
     refine aB (bU hF (dW (l := [(233, ⟨eB F, [], ((decide ((e_2 + ((dN F m_1).getD (0 : Int))) ≤ (1048576 : Int))), (3 : Int), .inr p_23)⟩)]) (.cons (gA F) (by kernel_rfl) (.nil))) [0, 1, 2, 6, 7] [] ?_)
     simp only [go_sem]
     repeat (refine ⟨by first | with_reducible assumption | omega | (intros; first | with_reducible assumption | omega) | (simp only [go_sem] at *; first | with_reducible assumption | omega) | decide, ?_⟩)
     obtain rfl := Option.some.inj h
     refine nM (vD [] rfl rfl ?_)
     simp only [ren, iY, oM, posOf, gM, go_sem]
     refine sV rfl rfl rfl rfl
  ·try dsimp only at h
   refine aC (aB (bU hF (dW (l := [(233, ⟨eB F, [], ((decide ((((((kN F m_1 ((dN F m_1).getD (0 : Int))).getD ([] : List Nat)).length) : Nat) : Int) ≤ (64 : Int))), (2 : Int), .inr p_9)⟩)]) (.cons (gA F) (by kernel_rfl) (.nil))) [0, 1, 2, 6, 7] [] ?_))
   simp only [go_sem]
   repeat (refine ⟨by first | with_reducible assumption | omega | (intros; first | with_reducible assumption | omega) | (simp only [go_sem] at *; first | with_reducible assumption | omega) | decide, ?_⟩)
   obtain rfl := Option.some.inj h
   refine nM (vD [] rfl rfl ?_)
   simp only [ren, iY, oM, posOf, gM, go_sem]
   refine sV rfl rfl rfl rfl
attribute [go_sem] oV
noncomputable def xJ (F : Md) (a0_0 : Bool) (a1_1 : (List Nat)) (a2_2 : Int) : Option ((Bool × ((List Nat) × (Int × Unit))) ⊕ (Int × Unit)) :=
 ((zD F a0_0 a1_1 a2_2)).bind (fun e => match e with | .inl r_8 => some (.inl r_8) | .inr p_9 => some (.inr p_9))
noncomputable def qJ (F : Md) : nL where
 D := Bool × (List Nat) × Int × ((Bool × ((List Nat) × (Int × Unit))) ⊕ (Int × Unit))
 av := fun d => [.val (.rp .bool) d.1, .val (.rp (.sl (.u .u64))) d.2.1, .val (.rp (.i .i64)) d.2.2.1]
 hp := fun d => []
 m := 0
 pre := fun d => xJ F d.1 d.2.1 d.2.2.1 = some d.2.2.2
 out := fun d => match d.2.2.2 with | .inl r => .ret (.val (.pair .bool (.pair (.sl (.u .u64)) (.pair (.i .i64) .unit))) r) [] | .inr p => .pan ⟨251, (.pair (.i .i64) .unit), p⟩ []
noncomputable def aFI (F : Md) : List (FuncId × aG) := []
theorem aFJ (F : Md) : bE Tryz.prog GL (aFI F) := .nil
set_option maxHeartbeats 4000000 in
theorem aD6 (F : Md) : GOK Tryz.prog GL 181 (qJ F) := by
 refine wB (bA (aFJ F)) Tryz.func181 rfl (by kernel_rfl) (fun _ => Nat.le_of_ble_eq_true rfl) fun c0 w0 d hw1 hw2 h hn => ?_
 have hF : jQ ⟨Tryz.prog, EM (aFI F), GM (qJ F) c0 d, w0, Tryz.f181.ntmps, []⟩ := ⟨bA (aFJ F), mix⟩
 obtain ⟨(a0_0 : Bool), (a1_1 : (List Nat)), (a2_2 : Int), r⟩ := d
 replace h : xJ F a0_0 a1_1 a2_2 = some r := h
 have hw1 : AV.wfL [.val (.rp .bool) a0_0, .val (.rp (.sl (.u .u64))) a1_1, .val (.rp (.i .i64)) a2_2] := hw1
 simp only [AV.wfL, AV.wfV, Ty.wf, mM] at hw1
 show Tri _ _ _ [(0, .roa .bool a0_0), (1, .roa (.sl (.u .u64)) a1_1), (2, .roa (.i .i64) a2_2)] []
 unfold xJ at h
 refine aB (aZ hF [0, 1, 2, 3] ?_)
 simp only [go_sem]
 obtain ⟨e, he1, h⟩ := bind_some h
 rcases e with r_8 | p_9
 ·try dsimp only at h
  refine aC (aB (bU hF (dW (l := [(182, ⟨oV F, [], (a0_0, a1_1, a2_2, .inl r_8)⟩)]) (.cons (aAg F) (by kernel_rfl) (.nil))) [3] [] ?_))
  simp only [go_sem]
  repeat (refine ⟨by first | with_reducible assumption | omega | (intros; first | with_reducible assumption | omega) | (simp only [go_sem] at *; first | with_reducible assumption | omega) | decide, ?_⟩)
  obtain rfl := Option.some.inj h
  refine aC (cV (aAY hF [.cell 3 25] [] rfl rfl rfl rfl rfl rfl rfl rfl rfl ?_))
  (try simp only [aT, aDJ, aC3, gD, oR, AV.isAgg, go_sem]) <;> first | trivial | rfl | (simp; done)
 ·try dsimp only at h
  refine aC (aB (bU hF (dW (l := [(182, ⟨oV F, [], (a0_0, a1_1, a2_2, .inr p_9)⟩)]) (.cons (aAg F) (by kernel_rfl) (.nil))) [3] [] ?_))
  simp only [go_sem]
  repeat (refine ⟨by first | with_reducible assumption | omega | (intros; first | with_reducible assumption | omega) | (simp only [go_sem] at *; first | with_reducible assumption | omega) | decide, ?_⟩)
  obtain rfl := Option.some.inj h
  refine nM (vD [] rfl rfl ?_)
  simp only [ren, iY, oM, posOf, gM, go_sem]
  refine sV rfl rfl rfl rfl
attribute [go_sem] qJ
def kO : nL where
 D := (Bool × ((List Nat) × (Int × Unit))) × Int
 av := fun _ => [.ptr 0 [], .ptr 1 []]
 hp := fun d => [.box 3 (.val (.pair .bool (.pair (.sl (.u .u64)) (.pair (.i .i64) .unit))) d.1), .box 1 (.val (.i .i64) d.2)]
 m := 2
 pre := fun _ => True
 out := fun d => .ret (.tup []) [.box 3 (.val (.pair .bool (.pair (.sl (.u .u64)) (.pair (.i .i64) .unit))) d.1), .box 1 (.val (.i .i64) d.2)]
def kP (x : (Int × Unit)) : nL where
 D := (Bool × ((List Nat) × (Int × Unit))) × Int
 av := fun _ => [.ptr 0 [], .ptr 1 []]
 hp := fun d => [.box 3 (.val (.pair .bool (.pair (.sl (.u .u64)) (.pair (.i .i64) .unit))) d.1), .box 1 (.val (.i .i64) d.2)]
 m := 2
 pre := fun _ => True
 out := fun d => .ret (.tup []) [.box 3 (.val (.pair .bool (.pair (.sl (.u .u64)) (.pair (.i .i64) .unit))) (false, ([] : List Nat), (0 : Int), ())), .box 1 (.val (.i .i64) x.1)]
theorem aC8 : DOK Tryz.prog GL 232 none kO := by
 refine aQs (bA aD5) Tryz.func232 rfl (by kernel_rfl) (fun _ => Nat.le_of_ble_eq_true rfl) rfl fun c w d hw1 hw2 hp hn => ?_
 have hF : jQ ⟨Tryz.prog, EM [], GM kO c d, w, Tryz.f232.ntmps, []⟩ := ⟨bA aD5, mix⟩
 obtain ⟨d, e⟩ := d
 show oQ _ _ _ [(5, .val .nili ()), (0, .ptr 0 []), (1, .ptr 1 [])] [.box 3 (.val (.pair .bool (.pair (.sl (.u .u64)) (.pair (.i .i64) .unit))) d), .box 1 (.val (.i .i64) e)] _
 simp only [go_sem]
 refine aB (aD hF [0, 1, 2, 9] ?_)
 simp only [go_sem]
 refine aC (cB rfl (fun hc => absurd hc (by decide)) (fun hc => ?_))
 refine cP ?_
 refine nA [0, 1] rfl rfl ?_
 simp only [ren, iY, oM, posOf, gM, go_sem]
 refine aIX (aBG hF [] rfl rfl rfl rfl rfl rfl ?_)
 simp only [aT, aDJ, aC3, go_sem]
 try decide
theorem aC9 (x : (Int × Unit)) : DOK Tryz.prog GL 232 (some ⟨251, (.pair (.i .i64) .unit), x⟩) (kP x) := by
 refine aQs (bA aD5) Tryz.func232 rfl (by kernel_rfl) (fun _ => Nat.le_of_ble_eq_true rfl) rfl fun c w d hw1 hw2 hp hn => ?_
 have hF : jQ ⟨Tryz.prog, EM [], GM (kP x) c d, w, Tryz.f232.ntmps, []⟩ := ⟨bA aD5, mix⟩
 obtain ⟨d, e⟩ := d
 show oQ _ _ _ [(5, .val (.ifc 251 (.pair (.i .i64) .unit)) x), (0, .ptr 0 []), (1, .ptr 1 [])] [.box 3 (.val (.pair .bool (.pair (.sl (.u .u64)) (.pair (.i .i64) .unit))) d), .box 1 (.val (.i .i64) e)] _
 simp only [go_sem]
 refine aB (aD hF [0, 1, 2, 9] ?_)
 simp only [go_sem]
 refine aC (cB rfl (fun hc => ?_) (fun hc => absurd hc (by decide)))
 refine aHo hF [] [] [.box 3 (.val (.pair .bool (.pair (.sl (.u .u64)) (.pair (.i .i64) .unit))) (false, ([] : List Nat), (0 : Int), ())), .box 1 (.val (.i .i64) x.1), .box 1 (.val (.pair (.i .i64) .unit) x)] (by decide) ?_ ?_
 ·simp only [go_sem]
  unfold anyS
  intro i hi
  have hi : i = 0 ∨ i = 1 := by revert hi; revert i; decide
  rcases hi with rfl | rfl
  ·simp only [go_sem]
   skip
   unfold anyS
   intro i hi
   have hi : i = 1 ∨ i = 3 := by revert hi; revert i; decide
   rcases hi with rfl | rfl
   ·simp only [go_sem]
    skip
    unfold anyS
    intro i hi
    have hi : i = 2 ∨ i = 3 := by revert hi; revert i; decide
    rcases hi with rfl | rfl
    ·simp only [go_sem]
     skip
     unfold anyS
     intro i hi
     have hi : i = 3 := by revert hi; revert i; decide
     subst hi
     simp only [go_sem]
     skip
     unfold anyS
     intro i hi
     have hi : i = 4 := by revert hi; revert i; decide
     subst hi
     simp only [go_sem]
     skip
     (simp only [anyS, go_sem]) <;> first | exact ⟨rfl, rfl⟩ | trivial
    ·simp only [go_sem]
     skip
     unfold anyS
     intro i hi
     have hi : i = 2 := by revert hi; revert i; decide
     subst hi
     simp only [go_sem]
     skip
     unfold anyS
     intro i hi
     have hi : i = 4 := by revert hi; revert i; decide
     subst hi
     simp only [go_sem]
     skip
     (simp only [anyS, go_sem]) <;> first | exact ⟨rfl, rfl⟩ | trivial
   ·simp only [go_sem]
    skip
    unfold anyS
    intro i hi
    have hi : i = 1 := by revert hi; revert i; decide
    subst hi
    simp only [go_sem]
    skip
    unfold anyS
    intro i hi
    have hi : i = 2 := by revert hi; revert i; decide
    subst hi
    simp only [go_sem]
    skip
    unfold anyS
    intro i hi
    have hi : i = 4 := by revert hi; revert i; decide
    subst hi
    simp only [go_sem]
    skip
    (simp only [anyS, go_sem]) <;> first | exact ⟨rfl, rfl⟩ | trivial
  ·simp only [go_sem]
   skip
   unfold anyS
   intro i hi
   have hi : i = 0 ∨ i = 2 := by revert hi; revert i; decide
   rcases hi with rfl | rfl
   ·simp only [go_sem]
    skip
    unfold anyS
    intro i hi
    have hi : i = 2 ∨ i = 3 := by revert hi; revert i; decide
    rcases hi with rfl | rfl
    ·simp only [go_sem]
     skip
     unfold anyS
     intro i hi
     have hi : i = 3 := by revert hi; revert i; decide
     subst hi
     simp only [go_sem]
     skip
     unfold anyS
     intro i hi
     have hi : i = 4 := by revert hi; revert i; decide
     subst hi
     simp only [go_sem]
     skip
     (simp only [anyS, go_sem]) <;> first | exact ⟨rfl, rfl⟩ | trivial
    ·simp only [go_sem]
     skip
     unfold anyS
     intro i hi
     have hi : i = 2 := by revert hi; revert i; decide
     subst hi
     simp only [go_sem]
     skip
     unfold anyS
     intro i hi
     have hi : i = 4 := by revert hi; revert i; decide
     subst hi
     simp only [go_sem]
     skip
     (simp only [anyS, go_sem]) <;> first | exact ⟨rfl, rfl⟩ | trivial
   ·simp only [go_sem]
    skip
    unfold anyS
    intro i hi
    have hi : i = 0 := by revert hi; revert i; decide
    subst hi
    simp only [go_sem]
    skip
    unfold anyS
    intro i hi
    have hi : i = 3 := by revert hi; revert i; decide
    subst hi
    simp only [go_sem]
    skip
    unfold anyS
    intro i hi
    have hi : i = 4 := by revert hi; revert i; decide
    subst hi
    simp only [go_sem]
    skip
    (simp only [anyS, go_sem]) <;> first | exact ⟨rfl, rfl⟩ | trivial
 refine nA [0, 1] rfl rfl ?_
 simp only [ren, iY, oM, posOf, gM, go_sem]
 refine aIX (aBG hF [] rfl rfl rfl rfl rfl rfl ?_)
 simp only [aT, aDJ, aC3, go_sem]
 try decide
noncomputable def eW (F : Md) (c0 : Bool) (c1 : (List Nat)) (c2 : Int) : Option ((Bool × ((List Nat) × (Int × Unit))) × Int × Unit) :=
 (xJ F c0 c1 c2).bind fun q => some (match q with | .inl r => (r, 0, ()) | .inr p => ((false, ([] : List Nat), (0 : Int), ()), p.1, ()))
def sB : Ty := .pair (.clo 181 (.pair (.rp .bool) (.pair (.rp (.sl (.u .u64))) (.pair (.rp (.i .i64)) .unit)))) .unit
noncomputable def iH (F : Md) : aG := mSpec sB (.tup (.pair (.pair .bool (.pair (.sl (.u .u64)) (.pair (.i .i64) .unit))) (.pair (.i .i64) .unit))) (fun x => eW F x.1.1 x.1.2.1 x.1.2.2.1)
set_option maxHeartbeats 4000000 in
theorem aAD (F : Md) : FOK Tryz.prog GL 180 (iH F) := by
 refine aJJ (bA aD5) Tryz.func180 rfl (by kernel_rfl) (by decide) fun w0 S x r hw h => ?_
 have hF : jQ (fr Tryz.prog (EM []) S w0 Tryz.f180.ntmps) := ⟨bA aD5, mix⟩
 obtain ⟨⟨(c0 : Bool), (c1 : (List Nat)), (c2 : Int), u1⟩, u⟩ := x
 replace h : eW F c0 c1 c2 = some r := h
 show Tri _ _ _ [(0, .val (.clo 181 (.pair (.rp .bool) (.pair (.rp (.sl (.u .u64))) (.pair (.rp (.i .i64)) .unit)))) (c0, c1, c2, u1))] []
 unfold eW at h
 obtain ⟨q, hq, h⟩ := bind_some h
 obtain rfl := Option.some.inj h
 refine aB (aZ hF [0, 2, 3] ?_)
 simp only [go_sem]
 refine aC (aDY 2 [0, 1] rfl rfl (Nat.zero_le _) (by decide) fun roots hroots => ?_)
 have hF' : jQ { fr Tryz.prog (EM []) S w0 Tryz.f180.ntmps with M := ⟨nothing, S, 2, roots⟩, ds := [⟨.fn (.func 232) ([0, 1].map roots).toArray, #[]⟩] } := ⟨bA aD5, mix⟩
 rcases q with q | q
 ·refine aB (bU hF' (dW (l := [(181, ⟨qJ F, [], (c0, c1, c2, .inl q)⟩)]) (.cons (aD6 F) (by kernel_rfl) .nil)) [2, 3] [] ?_)
  simp only [go_sem]
  refine ⟨hq, ?_⟩
  refine aC (cV ?_)
  refine aON (fn := Tryz.f180) (k := 2) (l2 := [0, 1]) hF' rfl rfl (by decide) rfl (aFr (by kernel_rfl)) ⟨kO, [0, 1], (q, 0)⟩ aC8 rfl [.cell 2 25, .cell 3 3] rfl ?_ ?_
  ·(simp only [kO, go_sem]) <;> first | decide | trivial
  ·(simp only [kO, aT, gZ, go_sem]) <;> first | decide | trivial
 ·refine aB (bU hF' (dW (l := [(181, ⟨qJ F, [], (c0, c1, c2, .inr q)⟩)]) (.cons (aD6 F) (by kernel_rfl) .nil)) [2, 3] [] ?_)
  simp only [go_sem]
  refine ⟨hq, ?_⟩
  refine nM ?_
  refine aOO (fn := Tryz.f180) (k := 2) (l2 := [0, 1]) hF' rfl rfl (by decide) rfl (aFr (by kernel_rfl)) ⟨kP q, [0, 1], ((false, ([] : List Nat), (0 : Int), ()), 0)⟩ (aC9 q) rfl [.cell 2 25, .cell 3 3] rfl ?_ ?_
  ·(simp only [kP, go_sem]) <;> first | decide | trivial
  ·(simp only [kP, aT, gZ, go_sem]) <;> first | decide | trivial
attribute [go_sem] iH sB
noncomputable def zE (F : Md) (neg_0 : Bool) (m_1 : (List Nat)) (e_2 : Int) : Option ((Bool × ((List Nat) × (Int × Unit))) × (Int × Unit)) :=
 ck (((eW F neg_0 m_1 e_2).isSome = true)) (some ((((eW F neg_0 m_1 e_2).getD ((false, ([] : List Nat), (0 : Int), ()), (0 : Int), ())).1), ((((eW F neg_0 m_1 e_2).getD ((false, ([] : List Nat), (0 : Int), ()), (0 : Int), ())).2).1), ()))
def aBR : Ty := .pair .bool (.pair (.sl (.u .u64)) (.pair (.i .i64) .unit))
attribute [go_sem] aBR
noncomputable def sC (F : Md) : aG := mSpec aBR (.tup (.pair (.pair .bool (.pair (.sl (.u .u64)) (.pair (.i .i64) .unit))) (.pair (.i .i64) .unit))) (fun x => zE F x.1 x.2.1 x.2.2.1)
noncomputable def aED (F : Md) : List (FuncId × aG) := [(180, (iH F))]
theorem aJ3 (F : Md) : bE Tryz.prog GL (aED F) := .cons (aAD F) (by kernel_rfl) (.nil)
theorem aJ4 (F : Md) : gam (aED F) 180 = some (iH F) := rfl
attribute [go_sem] aJ4
set_option maxHeartbeats 4000000 in
theorem aHJ (F : Md) : FOK Tryz.prog GL 117 (sC F) := by
 refine lR (bA (aJ3 F)) Tryz.func117 rfl (by kernel_rfl) (by decide) fun w0 S x r hw h => ?_
 have hF : jQ (fr Tryz.prog (EM (aED F)) S w0 Tryz.f117.ntmps) := ⟨bA (aJ3 F), mix⟩
 obtain ⟨(neg_0 : Bool), (m_1 : (List Nat)), (e_2 : Int), u⟩ := x
 simp only [aBR, Ty.wf, mM] at hw
 simp only [bL, aBR]
 try dsimp only at h
 replace h : zE F neg_0 m_1 e_2 = some r := h
 unfold zE at h
 refine aB (aZ hF [3, 4, 5, 6] ?_)
 simp only [go_sem]
 refine aC (aB (wA 0 rfl ?_))
 simp only [go_sem]
 refine wA 1 rfl ?_
 simp only [go_sem]
 refine wA 2 rfl ?_
 simp only [go_sem]
 refine aZ hF [6, 7] ?_
 simp only [go_sem]
 obtain ⟨g0, h⟩ := aH h
 repeat (refine ⟨by first | with_reducible assumption | omega | (intros; first | with_reducible assumption | omega) | (simp only [go_sem] at *; first | with_reducible assumption | omega) | decide, ?_⟩)
 obtain rfl := Option.some.inj h
 refine aC (cV (eZ hF [.cell 6 25, .tmp 7] rfl rfl rfl ?_))
 (try simp only [gZ, aT, go_sem]) <;> first | rfl | (simp; done)
attribute [go_sem] sC
noncomputable def fB (F : Md) (d_0 : (Bool × ((List Nat) × (Int × Unit)))) : Option Bool :=
 if (((((d_0.2).1).length) : Nat) : Int) = (0 : Int) then some ((!(d_0.1)) && (decide ((((d_0.2).2).1) = (0 : Int)))) else (aDH F ((d_0.2).1)).bind (fun v_5 => ck (((v_5 = true) → ((0 : Int) < (((((d_0.2).1).length) : Nat) : Int)))) (some (((v_5 && (decide (((((d_0.2).1).getD (0 : Nat) (0 : Nat)) &&& (1 : Nat)) = (1 : Nat)))) && (decide ((-1048576 : Int) ≤ (((d_0.2).2).1)))) && (decide ((((d_0.2).2).1) ≤ (1048576 : Int))))))
def aHK : PlR := ⟨[(0, .B [1]), (1, .A [1, 6]), (2, .A [2]), (3, .A [2])], []⟩
def aJ5 : Ty := .pair (.pair .bool (.pair (.sl (.u .u64)) (.pair (.i .i64) .unit))) .unit
noncomputable def mX (F : Md) : aG := mSpec aJ5 (.one .bool) (fun x => fB F x.1)
noncomputable def aJ6 (F : Md) : List (FuncId × aG) := [(120, (aBM F))]
theorem aN3 (F : Md) : bE Tryz.prog GL (aJ6 F) := .cons (aNU F) (by kernel_rfl) (.nil)
theorem aJ7 (F : Md) : gam (aJ6 F) 120 = some (aBM F) := rfl
attribute [go_sem] aJ5 aHK aJ7
set_option maxHeartbeats 4000000 in
theorem aDa (F : Md) : FOK Tryz.prog GL 58 (mX F) := by
 refine bH (bA (aN3 F)) mix Tryz.func58 rfl (by kernel_rfl) (by decide) aHK fun w0 S x Θ hw h hF => ?_
 obtain ⟨(d_0 : (Bool × ((List Nat) × (Int × Unit)))), u⟩ := x
 simp only [bL, go_sem]
 replace h : sat (fB F d_0) _ := h
 unfold fB at h
 refine dP h (fun hc h => ?_) fun hc h => ?_
 ·exact aI hF [.tmp 2] rfl rfl rfl (aA h) (by simp only [aT, go_sem])
 ·obtain ⟨v_5, hv, h⟩ := aM h
  try simp only [hv, go_sem]
  refine aS h fun g0 h => ?_
  exact aI hF [.tmp 2] rfl rfl rfl (aA h) (by simp only [aT, go_sem])
attribute [go_sem] mX
noncomputable def oW (F : Md) (d_0 : (Bool × ((List Nat) × (Int × Unit)))) : Option Int :=
 (fB F d_0).bind (fun v_7 => if (¬ (v_7 = true)) ∨ ((((((d_0.2).1).length) : Nat) : Int) = (0 : Int)) then some (0 : Int) else if (d_0.1) = true then some (-1 : Int) else some (1 : Int))
def aFK : PlR := ⟨[(0, .B [1]), (1, .A [1, 3]), (2, .A [2]), (3, .A [13]), (4, .A [2]), (5, .A [2])], []⟩
def aHL : Ty := .pair (.pair .bool (.pair (.sl (.u .u64)) (.pair (.i .i64) .unit))) .unit
noncomputable def pF (F : Md) : aG := mSpec aHL (.one (.i .i64)) (fun x => oW F x.1)
noncomputable def aHM (F : Md) : List (FuncId × aG) := [(58, (mX F))]
theorem aNg (F : Md) : bE Tryz.prog GL (aHM F) := .cons (aDa F) (by kernel_rfl) (.nil)
theorem aJ8 (F : Md) : gam (aHM F) 58 = some (mX F) := rfl
attribute [go_sem] aHL aFK aJ8
set_option maxHeartbeats 4000000 in
theorem aFL (F : Md) : FOK Tryz.prog GL 57 (pF F) := by
 refine bH (bA (aNg F)) mix Tryz.func57 rfl (by kernel_rfl) (by decide) aFK fun w0 S x Θ hw h hF => ?_
 obtain ⟨(d_0 : (Bool × ((List Nat) × (Int × Unit)))), u⟩ := x
 simp only [bL, go_sem]
 replace h : sat (oW F d_0) _ := h
 unfold oW at h
 obtain ⟨v_7, hv, h⟩ := aM h
 try simp only [hv, go_sem]
 refine ⟨fun hc => ?_, fun hc => ?_⟩
 ·replace h := iR (by first | exact hc | omega | (simpa using hc) | (simp at hc ⊢; omega)) h
  exact aI hF [.tmp 2] rfl rfl rfl (aA h) (by simp only [aT, go_sem])
 ·replace h := iS (by first | exact hc | omega | (simpa using hc) | (simp at hc ⊢; omega)) h
  refine aHp h (fun hc h => ?_) fun hc h => ?_
  ·exact aI hF [.tmp 2] rfl rfl rfl (aA h) (by simp only [aT, go_sem])
  ·exact aI hF [.tmp 2] rfl rfl rfl (aA h) (by simp only [aT, go_sem])
attribute [go_sem] pF
noncomputable def aAh (F : Md) (a_0 : (Bool × ((List Nat) × (Int × Unit)))) (b_1 : (Bool × ((List Nat) × (Int × Unit)))) : Option Int :=
 (yT F ((a_0.2).1)).bind (fun v_13 => ck (I64 (v_13 + (((a_0.2).2).1))) ((yT F ((b_1.2).1)).bind (fun v_14 => ck (I64 (v_14 + (((b_1.2).2).1))) (if (v_13 + (((a_0.2).2).1)) < (v_14 + (((b_1.2).2).1)) then some (-1 : Int) else if (v_14 + (((b_1.2).2).1)) < (v_13 + (((a_0.2).2).1)) then some (1 : Int) else ck (I64 ((((a_0.2).2).1) - (min (((a_0.2).2).1) (((b_1.2).2).1)))) ((jP F ((a_0.2).1) ((((a_0.2).2).1) - (min (((a_0.2).2).1) (((b_1.2).2).1)))).bind (fun v_30 => ck (I64 ((((b_1.2).2).1) - (min (((a_0.2).2).1) (((b_1.2).2).1)))) ((jP F ((b_1.2).1) ((((b_1.2).2).1) - (min (((a_0.2).2).1) (((b_1.2).2).1)))).bind (fun v_31 => (oU F v_30 v_31).bind (fun v_32 => some v_32)))))))))
def aFM : PlR := ⟨[(0, .B [2, 3]), (1, .A [2, 3, 5, 6]), (2, .A [2, 3, 5, 6, 20]), (3, .A [4]), (4, .A [2, 3, 24]), (5, .A [4]), (6, .A [2, 3, 7]), (7, .A [4])], []⟩
def aHN : Ty := .pair (.pair .bool (.pair (.sl (.u .u64)) (.pair (.i .i64) .unit))) (.pair (.pair .bool (.pair (.sl (.u .u64)) (.pair (.i .i64) .unit))) .unit)
noncomputable def xK (F : Md) : aG := mSpec aHN (.one (.i .i64)) (fun x => aAh F x.1 x.2.1)
noncomputable def aAi (F : Md) : List (FuncId × aG) := [(121, (aAc F)), (122, (lW F)), (95, (rY F))]
theorem aNh (F : Md) : bE Tryz.prog GL (aAi F) := .cons (aNa F) (by kernel_rfl) (.cons (aBN F) (by kernel_rfl) (.cons (aHC F) (by kernel_rfl) (.nil)))
theorem aIi (F : Md) : gam (aAi F) 121 = some (aAc F) := rfl
theorem aIj (F : Md) : gam (aAi F) 122 = some (lW F) := rfl
theorem aJ9 (F : Md) : gam (aAi F) 95 = some (rY F) := rfl
attribute [go_sem] aHN aFM aIi aIj aJ9
set_option maxHeartbeats 4000000 in
theorem aMd (F : Md) : FOK Tryz.prog GL 59 (xK F) := by
 refine bH (bA (aNh F)) mix Tryz.func59 rfl (by kernel_rfl) (by decide) aFM fun w0 S x Θ hw h hF => ?_
 obtain ⟨(a_0 : (Bool × ((List Nat) × (Int × Unit)))), (b_1 : (Bool × ((List Nat) × (Int × Unit)))), u⟩ := x
 simp only [bL, go_sem]
 replace h : sat (aAh F a_0 b_1) _ := h
 unfold aAh at h
 obtain ⟨v_13, hv, h⟩ := aM h
 try simp only [hv, go_sem]
 refine aS h fun g0 h => ?_
 obtain ⟨v_14, hv, h⟩ := aM h
 try simp only [hv, go_sem]
 refine aS h fun g0 h => ?_
 refine eC h (fun hc h => ?_) fun hc h => ?_
 ·exact aI hF [.tmp 4] rfl rfl rfl (aA h) (by simp only [aT, go_sem])
 ·refine eC h (fun hc h => ?_) fun hc h => ?_
  ·exact aI hF [.tmp 4] rfl rfl rfl (aA h) (by simp only [aT, go_sem])
  ·refine aS h fun g0 h => ?_
   obtain ⟨v_30, hv, h⟩ := aM h
   try simp only [hv, go_sem]
   refine aS h fun g0 h => ?_
   obtain ⟨v_31, hv, h⟩ := aM h
   try simp only [hv, go_sem]
   obtain ⟨v_32, hv, h⟩ := aM h
   try simp only [hv, go_sem]
   exact aI hF [.tmp 4] rfl rfl rfl (aA h) (by simp only [aT, go_sem])
attribute [go_sem] xK
noncomputable def uX (F : Md) (a_0 : (Bool × ((List Nat) × (Int × Unit)))) (b_1 : (Bool × ((List Nat) × (Int × Unit)))) : Option Int :=
 (oW F a_0).bind (fun v_13 => (oW F b_1).bind (fun v_14 => (fB F a_0).bind (fun v_20 => ck ((¬ (¬ (v_20 = true)) → (((fB F b_1).isSome = true)))) (if (¬ (v_20 = true)) ∨ (¬ (((fB F b_1).getD false) = true)) then some (0 : Int) else if (¬ (v_13 = v_14)) ∧ (v_13 < v_14) then some (-1 : Int) else if ¬ (v_13 = v_14) then some (1 : Int) else if v_13 = (0 : Int) then some (0 : Int) else (aAh F a_0 b_1).bind (fun v_24 => ck (I64 (v_13 * v_24)) (some (v_13 * v_24)))))))
def aHO : PlR := ⟨[(0, .B [2, 3]), (1, .A [2, 3, 5, 6]), (2, .A [2, 3, 5, 6, 11]), (3, .A [4]), (4, .A [2, 3, 5, 6, 20]), (5, .A [4]), (6, .A [2, 3, 5, 29]), (7, .A [4]), (8, .A [2, 3, 5, 33]), (9, .A [4]), (10, .A [4])], []⟩
def aKa : Ty := .pair (.pair .bool (.pair (.sl (.u .u64)) (.pair (.i .i64) .unit))) (.pair (.pair .bool (.pair (.sl (.u .u64)) (.pair (.i .i64) .unit))) .unit)
noncomputable def sD (F : Md) : aG := mSpec aKa (.one (.i .i64)) (fun x => uX F x.1 x.2.1)
noncomputable def aBS (F : Md) : List (FuncId × aG) := [(57, (pF F)), (58, (mX F)), (59, (xK F))]
theorem aN4 (F : Md) : bE Tryz.prog GL (aBS F) := .cons (aFL F) (by kernel_rfl) (.cons (aDa F) (by kernel_rfl) (.cons (aMd F) (by kernel_rfl) (.nil)))
theorem aKN (F : Md) : gam (aBS F) 57 = some (pF F) := rfl
theorem aKO (F : Md) : gam (aBS F) 58 = some (mX F) := rfl
theorem aKP (F : Md) : gam (aBS F) 59 = some (xK F) := rfl
attribute [go_sem] aKa aHO aKN aKO aKP
set_option maxHeartbeats 4000000 in
theorem aHP (F : Md) : FOK Tryz.prog GL 22 (sD F) := by
 refine bH (bA (aN4 F)) mix Tryz.func22 rfl (by kernel_rfl) (by decide) aHO fun w0 S x Θ hw h hF => ?_
 obtain ⟨(a_0 : (Bool × ((List Nat) × (Int × Unit)))), (b_1 : (Bool × ((List Nat) × (Int × Unit)))), u⟩ := x
 simp only [bL, go_sem]
 replace h : sat (uX F a_0 b_1) _ := h
 unfold uX at h
 obtain ⟨v_13, hv, h⟩ := aM h
 try simp only [hv, go_sem]
 obtain ⟨v_14, hv, h⟩ := aM h
 try simp only [hv, go_sem]
 obtain ⟨v_20, hv, h⟩ := aM h
 try simp only [hv, go_sem]
 obtain ⟨g0, h⟩ := aN h
 repeat (refine ⟨by first | with_reducible assumption | omega | (intros; first | with_reducible assumption | omega) | (simp only [go_sem] at *; first | with_reducible assumption | omega) | (intro q0; (try have e0 := g0 (by first | exact q0 | omega | (simpa using q0))); first | assumption | omega) | decide, ?_⟩)
 refine ⟨fun hc => ?_, fun hc => ?_⟩
 ·replace h := iR (by first | exact hc | omega | (simpa using hc) | (simp at hc ⊢; omega)) h
  exact aI hF [.tmp 4] rfl rfl rfl (aA h) (by simp only [aT, go_sem])
 ·replace h := iS (by first | exact hc | omega | (simpa using hc) | (simp at hc ⊢; omega)) h
  refine ⟨fun hc => ?_, fun hc => ?_⟩
  ·replace h := iR hc h
   exact aI hF [.tmp 4] rfl rfl rfl (aA h) (by simp only [aT, go_sem])
  ·replace h := iS hc h
   refine dP h (fun hc h => ?_) fun hc h => ?_
   ·exact aI hF [.tmp 4] rfl rfl rfl (aA h) (by simp only [aT, go_sem])
   ·refine dP h (fun hc h => ?_) fun hc h => ?_
    ·exact aI hF [.tmp 4] rfl rfl rfl (aA h) (by simp only [aT, go_sem])
    ·obtain ⟨v_24, hv, h⟩ := aM h
     try simp only [hv, go_sem]
     obtain ⟨g0, h⟩ := aN h
     try simp only [I64, I32] at g0
     repeat (refine ⟨by first | with_reducible assumption | omega | (intros; first | with_reducible assumption | omega) | (simp only [go_sem] at *; first | with_reducible assumption | omega) | decide, ?_⟩)
     exact aI hF [.tmp 4] rfl rfl rfl (aA h) (by simp only [aT, go_sem])
attribute [go_sem] sD
noncomputable def tC (F : Md) (n_0 : Int) (e_1 : Int) (m_3 : Nat) : Option (((Bool × ((List Nat) × (Int × Unit))) × (Int × Unit))) :=
 (yV F ([m_3] : List Nat)).bind (fun v_6 => (zE F (decide (n_0 < (0 : Int))) v_6 e_1).bind (fun v_7 => some ((v_7.1), ((v_7.2).1), ())))
noncomputable def aDI (F : Md) (n_0 : Int) (e_1 : Int) : Option ((Bool × ((List Nat) × (Int × Unit))) × (Int × Unit)) :=
 if n_0 < (0 : Int) then tC F n_0 e_1 (aNP F .u64 ((n_0 % (18446744073709551616 : Int)).toNat)) else tC F n_0 e_1 ((n_0 % (18446744073709551616 : Int)).toNat)
def aKb : PlR := ⟨[(0, .B [0, 1, 4]), (1, .A [0, 1, 4, 6]), (2, .A [0, 1, 4, 6, 10]), (3, .A [0, 1, 4, 6]), (4, .B [4, 5])], [(5, 7)]⟩
def aLA : Ty := .pair (.i .i64) (.pair (.i .i64) .unit)
noncomputable def aBT (F : Md) : aG := mSpec aLA (.tup (.pair (.pair .bool (.pair (.sl (.u .u64)) (.pair (.i .i64) .unit))) (.pair (.i .i64) .unit))) (fun x => aDI F x.1 x.2.1)
noncomputable def aGR (F : Md) : List (FuncId × aG) := [(117, (sC F)), (231, (rX F))]
theorem aPv (F : Md) : bE Tryz.prog GL (aGR F) := .cons (aHJ F) (by kernel_rfl) (.cons (aHy F) (by kernel_rfl) (.nil))
theorem aKQ (F : Md) : gam (aGR F) 117 = some (sC F) := rfl
theorem aKR (F : Md) : gam (aGR F) 231 = some (rX F) := rfl
attribute [go_sem] aLA aKb aKQ aKR
set_option maxHeartbeats 4000000 in
theorem aN5 (F : Md) : FOK Tryz.prog GL 200 (aBT F) := by
 refine bH (bA (aPv F)) mix Tryz.func200 rfl (by kernel_rfl) (by decide) aKb fun w0 S x Θ hw h hF => ?_
 obtain ⟨(n_0 : Int), (e_1 : Int), u⟩ := x
 simp only [bL, go_sem]
 replace h : sat (aDI F n_0 e_1) _ := h
 unfold aDI at h
 refine dZ hF (D := Nat) (fun d => sat (tC F n_0 e_1 d) Θ) [0, 1] (fun d => [(4, .ptr 0 []), (6, .val (.u .u64) d)]) (fun d => [.inr (.box 3 (.val (.pair .bool (.pair (.sl (.u .u64)) (.pair (.i .i64) .unit))) (false, ([] : List Nat), (0 : Int), ())))]) ?_ ?_
 ·simp only [go_sem, aJ F, aK F, aL F]
  refine eC h (fun hc h => ?_) fun hc h => ?_
  ·exact aV ((aNP F .u64 ((n_0 % (18446744073709551616 : Int)).toNat))) h rfl (by simp only [go_sem, aJ F, aK F, aL F])
  ·exact aV (((n_0 % (18446744073709551616 : Int)).toNat)) h rfl (by simp only [go_sem, aJ F, aK F, aL F])
 ·rintro m_3 h
  simp only [go_sem, aJ F, aK F, aL F]
  replace h : sat (tC F n_0 e_1 m_3) _ := h
  unfold tC at h
  obtain ⟨v_6, hv, h⟩ := aM h
  try simp only [hv, go_sem, aJ F, aK F, aL F]
  obtain ⟨v_7, hv, h⟩ := aM h
  try simp only [hv, go_sem, aJ F, aK F, aL F]
  exact aI hF [.cell 4 25, .tmp 5] rfl rfl rfl (aA h) (by simp only [aT, go_sem, aJ F, aK F, aL F])
attribute [go_sem] aBT
noncomputable def tD (F : Md) (a_0 : (Bool × ((List Nat) × (Int × Unit)))) (b_1 : (Bool × ((List Nat) × (Int × Unit)))) : Option ((Bool × ((List Nat) × (Int × Unit))) ⊕ (Int × Unit)) :=
 ck (((gH F ((a_0.2).1) ((b_1.2).1)).isSome = true)) (ck (I64 ((((a_0.2).2).1) + (((b_1.2).2).1))) (((zD F ((a_0.1) != (b_1.1)) ((gH F ((a_0.2).1) ((b_1.2).1)).getD ([] : List Nat)) ((((a_0.2).2).1) + (((b_1.2).2).1)))).bind (fun e => match e with | .inl r_7 => some (.inl r_7) | .inr p_8 => some (.inr p_8))))
noncomputable def mE (F : Md) : nL where
 D := (Bool × ((List Nat) × (Int × Unit))) × (Bool × ((List Nat) × (Int × Unit))) × ((Bool × ((List Nat) × (Int × Unit))) ⊕ (Int × Unit))
 av := fun d => [.val (.pair .bool (.pair (.sl (.u .u64)) (.pair (.i .i64) .unit))) d.1, .val (.pair .bool (.pair (.sl (.u .u64)) (.pair (.i .i64) .unit))) d.2.1]
 hp := fun d => []
 m := 0
 pre := fun d => tD F d.1 d.2.1 = some d.2.2
 out := fun d => match d.2.2 with | .inl r => .ret (.val (.pair .bool (.pair (.sl (.u .u64)) (.pair (.i .i64) .unit))) r) [] | .inr p => .pan ⟨251, (.pair (.i .i64) .unit), p⟩ []
noncomputable def aBU (F : Md) : List (FuncId × aG) := [(94, (eL F))]
theorem aFN (F : Md) : bE Tryz.prog GL (aBU F) := .cons (pD F) (by kernel_rfl) (.nil)
theorem aIk (F : Md) : gam (aBU F) 94 = some (eL F) := rfl
attribute [go_sem] aIk
set_option maxHeartbeats 4000000 in
theorem vJ (F : Md) : GOK Tryz.prog GL 239 (mE F) := by
 refine wB (bA (aFN F)) Tryz.func239 rfl (by kernel_rfl) (fun _ => Nat.le_of_ble_eq_true rfl) fun c0 w0 d hw1 hw2 h hn => ?_
 have hF : jQ ⟨Tryz.prog, EM (aBU F), GM (mE F) c0 d, w0, Tryz.f239.ntmps, []⟩ := ⟨bA (aFN F), mix⟩
 obtain ⟨(a_0 : (Bool × ((List Nat) × (Int × Unit)))), (b_1 : (Bool × ((List Nat) × (Int × Unit)))), r⟩ := d
 replace h : tD F a_0 b_1 = some r := h
 have hw1 : AV.wfL [.val (.pair .bool (.pair (.sl (.u .u64)) (.pair (.i .i64) .unit))) a_0, .val (.pair .bool (.pair (.sl (.u .u64)) (.pair (.i .i64) .unit))) b_1] := hw1
 simp only [AV.wfL, AV.wfV, Ty.wf, mM] at hw1
 show Tri _ _ _ [(0, .val (.pair .bool (.pair (.sl (.u .u64)) (.pair (.i .i64) .unit))) a_0), (1, .val (.pair .bool (.pair (.sl (.u .u64)) (.pair (.i .i64) .unit))) b_1)] []
 unfold tD at h
 refine aB (aZ hF [2, 3, 4] ?_)
 simp only [go_sem]
 obtain ⟨g0, h⟩ := aH h
 obtain ⟨g1, h⟩ := aH h
 try simp only [I64, I32] at g1
 obtain ⟨e, he1, h⟩ := bind_some h
 rcases e with r_7 | p_8
 ·try dsimp only at h
  refine aC (aB (aFs hF (dW (l := [(182, ⟨oV F, [], (((a_0.1) != (b_1.1)), ((gH F ((a_0.2).1) ((b_1.2).1)).getD ([] : List Nat)), ((((a_0.2).2).1) + (((b_1.2).2).1)), .inl r_7)⟩)]) (.cons (aAg F) (by kernel_rfl) (.nil))) 15 (by decide) [4] [] ?_))
  simp only [go_sem]
  repeat (refine ⟨by first | with_reducible assumption | omega | (intros; first | with_reducible assumption | omega) | (simp only [go_sem] at *; first | with_reducible assumption | omega) | decide, ?_⟩)
  simp only [aQu, go_sem]
  repeat (refine ⟨by first | with_reducible assumption | omega | (intros; first | with_reducible assumption | omega) | (simp only [go_sem] at *; first | with_reducible assumption | omega) | decide, ?_⟩)
  obtain rfl := Option.some.inj h
  refine aC (cV (aAY hF [.cell 4 25] [] rfl rfl rfl rfl rfl rfl rfl rfl rfl ?_))
  (try simp only [aT, aDJ, aC3, gD, oR, AV.isAgg, go_sem]) <;> first | trivial | rfl | (simp; done)
 ·try dsimp only at h
  refine aC (aB (aFs hF (dW (l := [(182, ⟨oV F, [], (((a_0.1) != (b_1.1)), ((gH F ((a_0.2).1) ((b_1.2).1)).getD ([] : List Nat)), ((((a_0.2).2).1) + (((b_1.2).2).1)), .inr p_8)⟩)]) (.cons (aAg F) (by kernel_rfl) (.nil))) 15 (by decide) [4] [] ?_))
  simp only [go_sem]
  repeat (refine ⟨by first | with_reducible assumption | omega | (intros; first | with_reducible assumption | omega) | (simp only [go_sem] at *; first | with_reducible assumption | omega) | decide, ?_⟩)
  simp only [aQu, go_sem]
  repeat (refine ⟨by first | with_reducible assumption | omega | (intros; first | with_reducible assumption | omega) | (simp only [go_sem] at *; first | with_reducible assumption | omega) | decide, ?_⟩)
  obtain rfl := Option.some.inj h
  refine nM (vD [] rfl rfl ?_)
  simp only [ren, iY, oM, posOf, gM, go_sem]
  refine sV rfl rfl rfl rfl
attribute [go_sem] mE
noncomputable def jE (F : Md) (a0_0 : (Bool × ((List Nat) × (Int × Unit)))) (a1_1 : (Bool × ((List Nat) × (Int × Unit)))) (a2_2 : Unit) : Option ((Bool × ((List Nat) × (Int × Unit))) ⊕ (Int × Unit)) :=
 ck (((fB F a0_0).isSome = true)) (if ((fB F a0_0).getD false) = true then ck (((fB F a1_1).isSome = true)) (((lY F (((fB F a0_0).getD false) && ((fB F a1_1).getD false)) (1 : Int))).bind (fun e => match e with | .inl r_12 => ((tD F a0_0 a1_1)).bind (fun e => match e with | .inl r_20 => some (.inl r_20) | .inr p_21 => some (.inr p_21)) | .inr p_13 => some (.inr p_13))) else ((lY F false (1 : Int))).bind (fun e => match e with | .inl r_14 => ((tD F a0_0 a1_1)).bind (fun e => match e with | .inl r_26 => some (.inl r_26) | .inr p_27 => some (.inr p_27)) | .inr p_15 => some (.inr p_15)))
noncomputable def fW (F : Md) : nL where
 D := (Bool × ((List Nat) × (Int × Unit))) × (Bool × ((List Nat) × (Int × Unit))) × Unit × ((Bool × ((List Nat) × (Int × Unit))) ⊕ (Int × Unit))
 av := fun d => [.val (.rp (.pair .bool (.pair (.sl (.u .u64)) (.pair (.i .i64) .unit)))) d.1, .val (.rp (.pair .bool (.pair (.sl (.u .u64)) (.pair (.i .i64) .unit)))) d.2.1, .val (.rp (.clo 239 .unit)) d.2.2.1]
 hp := fun d => []
 m := 0
 pre := fun d => jE F d.1 d.2.1 d.2.2.1 = some d.2.2.2
 out := fun d => match d.2.2.2 with | .inl r => .ret (.val (.pair .bool (.pair (.sl (.u .u64)) (.pair (.i .i64) .unit))) r) [] | .inr p => .pan ⟨251, (.pair (.i .i64) .unit), p⟩ []
noncomputable def mN (F : Md) : List (FuncId × aG) := [(58, (mX F))]
theorem sE (F : Md) : bE Tryz.prog GL (mN F) := .cons (aDa F) (by kernel_rfl) (.nil)
theorem zF (F : Md) : gam (mN F) 58 = some (mX F) := rfl
attribute [go_sem] zF
set_option maxHeartbeats 4000000 in
theorem qK (F : Md) : GOK Tryz.prog GL 256 (fW F) := by
 refine wB (bA (sE F)) Tryz.func256 rfl (by kernel_rfl) (fun _ => Nat.le_of_ble_eq_true rfl) fun c0 w0 d hw1 hw2 h hn => ?_
 have hF : jQ ⟨Tryz.prog, EM (mN F), GM (fW F) c0 d, w0, Tryz.f256.ntmps, []⟩ := ⟨bA (sE F), mix⟩
 obtain ⟨(a0_0 : (Bool × ((List Nat) × (Int × Unit)))), (a1_1 : (Bool × ((List Nat) × (Int × Unit)))), (a2_2 : Unit), r⟩ := d
 replace h : jE F a0_0 a1_1 a2_2 = some r := h
 have hw1 : AV.wfL [.val (.rp (.pair .bool (.pair (.sl (.u .u64)) (.pair (.i .i64) .unit)))) a0_0, .val (.rp (.pair .bool (.pair (.sl (.u .u64)) (.pair (.i .i64) .unit)))) a1_1, .val (.rp (.clo 239 .unit)) a2_2] := hw1
 simp only [AV.wfL, AV.wfV, Ty.wf, mM] at hw1
 show Tri _ _ _ [(0, .roa (.pair .bool (.pair (.sl (.u .u64)) (.pair (.i .i64) .unit))) a0_0), (1, .roa (.pair .bool (.pair (.sl (.u .u64)) (.pair (.i .i64) .unit))) a1_1), (2, .roa (.clo 239 .unit) a2_2)] []
 unfold jE at h
 refine aB (aZ hF [0, 1, 2, 3] ?_)
 simp only [go_sem]
 obtain ⟨g0, h⟩ := aH h
 by_cases hq : ((fB F a0_0).getD false) = true
 ·have h := hD hq h
  obtain ⟨g1, h⟩ := aH h
  obtain ⟨e, he1, h⟩ := bind_some h
  rcases e with r_12 | p_13
  ·try dsimp only at h
   refine aC (aB (bU hF (dW (l := [(233, ⟨eB F, [], ((((fB F a0_0).getD false) && ((fB F a1_1).getD false)), (1 : Int), .inl r_12)⟩)]) (.cons (gA F) (by kernel_rfl) (.nil))) [0, 1, 2, 3] [] ?_))
   simp only [go_sem]
   repeat (refine ⟨by first | with_reducible assumption | omega | (intros; first | with_reducible assumption | omega) | (simp only [go_sem] at *; first | with_reducible assumption | omega) | decide, ?_⟩)
   refine ⟨fun _ => ?_, fun hx => by first | (exfalso; omega) | (exfalso; simp_all; done)⟩
   repeat (refine ⟨by first | with_reducible assumption | omega | (intros; first | with_reducible assumption | omega) | (simp only [go_sem] at *; first | with_reducible assumption | omega) | decide, ?_⟩)
   refine ⟨fun _ => ?_, fun hx => by first | (exfalso; omega) | (exfalso; simp_all; done)⟩
   repeat (refine ⟨by first | with_reducible assumption | omega | (intros; first | with_reducible assumption | omega) | (simp only [go_sem] at *; first | with_reducible assumption | omega) | decide, ?_⟩)
   obtain ⟨e, he2, h⟩ := bind_some h
   rcases e with r_20 | p_21
   ·try dsimp only at h
    refine aC (aB (bU hF (dW (l := [(239, ⟨mE F, [], (a0_0, a1_1, .inl r_20)⟩)]) (.cons (vJ F) (by kernel_rfl) (.nil))) [3] [] ?_))
    simp only [go_sem]
    repeat (refine ⟨by first | with_reducible assumption | omega | (intros; first | with_reducible assumption | omega) | (simp only [go_sem] at *; first | with_reducible assumption | omega) | decide, ?_⟩)
    obtain rfl := Option.some.inj h
    refine aC (cV (aAY hF [.cell 3 25] [] rfl rfl rfl rfl rfl rfl rfl rfl rfl ?_))
    (try simp only [aT, aDJ, aC3, gD, oR, AV.isAgg, go_sem]) <;> first | trivial | rfl | (simp; done)
   ·try dsimp only at h
    refine aC (aB (bU hF (dW (l := [(239, ⟨mE F, [], (a0_0, a1_1, .inr p_21)⟩)]) (.cons (vJ F) (by kernel_rfl) (.nil))) [3] [] ?_))
    simp only [go_sem]
    repeat (refine ⟨by first | with_reducible assumption | omega | (intros; first | with_reducible assumption | omega) | (simp only [go_sem] at *; first | with_reducible assumption | omega) | decide, ?_⟩)
    obtain rfl := Option.some.inj h
    refine nM (vD [] rfl rfl ?_)
    simp only [ren, iY, oM, posOf, gM, go_sem]
    refine sV rfl rfl rfl rfl
  ·try dsimp only at h
   refine aC (aB (bU hF (dW (l := [(233, ⟨eB F, [], ((((fB F a0_0).getD false) && ((fB F a1_1).getD false)), (1 : Int), .inr p_13)⟩)]) (.cons (gA F) (by kernel_rfl) (.nil))) [0, 1, 2, 3] [] ?_))
   simp only [go_sem]
   repeat (refine ⟨by first | with_reducible assumption | omega | (intros; first | with_reducible assumption | omega) | (simp only [go_sem] at *; first | with_reducible assumption | omega) | decide, ?_⟩)
   refine ⟨fun _ => ?_, fun hx => by first | (exfalso; omega) | (exfalso; simp_all; done)⟩
   repeat (refine ⟨by first | with_reducible assumption | omega | (intros; first | with_reducible assumption | omega) | (simp only [go_sem] at *; first | with_reducible assumption | omega) | decide, ?_⟩)
   refine ⟨fun _ => ?_, fun hx => by first | (exfalso; omega) | (exfalso; simp_all; done)⟩
   repeat (refine ⟨by first | with_reducible assumption | omega | (intros; first | with_reducible assumption | omega) | (simp only [go_sem] at *; first | with_reducible assumption | omega) | decide, ?_⟩)
   obtain rfl := Option.some.inj h
   refine nM (vD [] rfl rfl ?_)
   simp only [ren, iY, oM, posOf, gM, go_sem]
   refine sV rfl rfl rfl rfl
 ·have h := hN hq h
  obtain ⟨e, he3, h⟩ := bind_some h
  rcases e with r_14 | p_15
  ·try dsimp only at h
   refine aC (aB (bU hF (dW (l := [(233, ⟨eB F, [], (false, (1 : Int), .inl r_14)⟩)]) (.cons (gA F) (by kernel_rfl) (.nil))) [0, 1, 2, 3] [] ?_))
   simp only [go_sem]
   repeat (refine ⟨by first | with_reducible assumption | omega | (intros; first | with_reducible assumption | omega) | (simp only [go_sem] at *; first | with_reducible assumption | omega) | decide, ?_⟩)
   first | (refine ⟨fun hx => by first | (exfalso; omega) | (exfalso; simp_all; done), fun _ => ?_⟩) | intro _
   repeat (refine ⟨by first | with_reducible assumption | omega | (intros; first | with_reducible assumption | omega) | (simp only [go_sem] at *; first | with_reducible assumption | omega) | decide, ?_⟩)
   first | (refine ⟨fun hx => by first | (exfalso; omega) | (exfalso; simp_all; done), fun _ => ?_⟩) | intro _
   repeat (refine ⟨by first | with_reducible assumption | omega | (intros; first | with_reducible assumption | omega) | (simp only [go_sem] at *; first | with_reducible assumption | omega) | decide, ?_⟩)
   obtain ⟨e, he4, h⟩ := bind_some h
   rcases e with r_26 | p_27
   ·try dsimp only at h
    refine aC (aB (bU hF (dW (l := [(239, ⟨mE F, [], (a0_0, a1_1, .inl r_26)⟩)]) (.cons (vJ F) (by kernel_rfl) (.nil))) [3] [] ?_))
    simp only [go_sem]
    repeat (refine ⟨by first | with_reducible assumption | omega | (intros; first | with_reducible assumption | omega) | (simp only [go_sem] at *; first | with_reducible assumption | omega) | decide, ?_⟩)
    obtain rfl := Option.some.inj h
    refine aC (cV (aAY hF [.cell 3 25] [] rfl rfl rfl rfl rfl rfl rfl rfl rfl ?_))
    (try simp only [aT, aDJ, aC3, gD, oR, AV.isAgg, go_sem]) <;> first | trivial | rfl | (simp; done)
   ·try dsimp only at h
    refine aC (aB (bU hF (dW (l := [(239, ⟨mE F, [], (a0_0, a1_1, .inr p_27)⟩)]) (.cons (vJ F) (by kernel_rfl) (.nil))) [3] [] ?_))
    simp only [go_sem]
    repeat (refine ⟨by first | with_reducible assumption | omega | (intros; first | with_reducible assumption | omega) | (simp only [go_sem] at *; first | with_reducible assumption | omega) | decide, ?_⟩)
    obtain rfl := Option.some.inj h
    refine nM (vD [] rfl rfl ?_)
    simp only [ren, iY, oM, posOf, gM, go_sem]
    refine sV rfl rfl rfl rfl
  ·try dsimp only at h
   refine aC (aB (bU hF (dW (l := [(233, ⟨eB F, [], (false, (1 : Int), .inr p_15)⟩)]) (.cons (gA F) (by kernel_rfl) (.nil))) [0, 1, 2, 3] [] ?_))
   simp only [go_sem]
   repeat (refine ⟨by first | with_reducible assumption | omega | (intros; first | with_reducible assumption | omega) | (simp only [go_sem] at *; first | with_reducible assumption | omega) | decide, ?_⟩)
   first | (refine ⟨fun hx => by first | (exfalso; omega) | (exfalso; simp_all; done), fun _ => ?_⟩) | intro _
   repeat (refine ⟨by first | with_reducible assumption | omega | (intros; first | with_reducible assumption | omega) | (simp only [go_sem] at *; first | with_reducible assumption | omega) | decide, ?_⟩)
   first | (refine ⟨fun hx => by first | (exfalso; omega) | (exfalso; simp_all; done), fun _ => ?_⟩) | intro _
   repeat (refine ⟨by first | with_reducible assumption | omega | (intros; first | with_reducible assumption | omega) | (simp only [go_sem] at *; first | with_reducible assumption | omega) | decide, ?_⟩)
   obtain rfl := Option.some.inj h
   refine nM (vD [] rfl rfl ?_)
   simp only [ren, iY, oM, posOf, gM, go_sem]
   refine sV rfl rfl rfl rfl
attribute [go_sem] fW
noncomputable def cO (F : Md) (c0 : (Bool × ((List Nat) × (Int × Unit)))) (c1 : (Bool × ((List Nat) × (Int × Unit)))) (c2 : Unit) : Option ((Bool × ((List Nat) × (Int × Unit))) × Int × Unit) :=
 (jE F c0 c1 c2).bind fun q => some (match q with | .inl r => (r, 0, ()) | .inr p => ((false, ([] : List Nat), (0 : Int), ()), p.1, ()))
def kU : Ty := .pair (.clo 256 (.pair (.rp (.pair .bool (.pair (.sl (.u .u64)) (.pair (.i .i64) .unit)))) (.pair (.rp (.pair .bool (.pair (.sl (.u .u64)) (.pair (.i .i64) .unit)))) (.pair (.rp (.clo 239 .unit)) .unit)))) .unit
noncomputable def dX (F : Md) : aG := mSpec kU (.tup (.pair (.pair .bool (.pair (.sl (.u .u64)) (.pair (.i .i64) .unit))) (.pair (.i .i64) .unit))) (fun x => cO F x.1.1 x.1.2.1 x.1.2.2.1)
set_option maxHeartbeats 4000000 in
theorem qL (F : Md) : FOK Tryz.prog GL 180 (dX F) := by
 refine aJJ (bA aD5) Tryz.func180 rfl (by kernel_rfl) (by decide) fun w0 S x r hw h => ?_
 have hF : jQ (fr Tryz.prog (EM []) S w0 Tryz.f180.ntmps) := ⟨bA aD5, mix⟩
 obtain ⟨⟨(c0 : (Bool × ((List Nat) × (Int × Unit)))), (c1 : (Bool × ((List Nat) × (Int × Unit)))), (c2 : Unit), u1⟩, u⟩ := x
 replace h : cO F c0 c1 c2 = some r := h
 show Tri _ _ _ [(0, .val (.clo 256 (.pair (.rp (.pair .bool (.pair (.sl (.u .u64)) (.pair (.i .i64) .unit)))) (.pair (.rp (.pair .bool (.pair (.sl (.u .u64)) (.pair (.i .i64) .unit)))) (.pair (.rp (.clo 239 .unit)) .unit)))) (c0, c1, c2, u1))] []
 unfold cO at h
 obtain ⟨q, hq, h⟩ := bind_some h
 obtain rfl := Option.some.inj h
 refine aB (aZ hF [0, 2, 3] ?_)
 simp only [go_sem]
 refine aC (aDY 2 [0, 1] rfl rfl (Nat.zero_le _) (by decide) fun roots hroots => ?_)
 have hF' : jQ { fr Tryz.prog (EM []) S w0 Tryz.f180.ntmps with M := ⟨nothing, S, 2, roots⟩, ds := [⟨.fn (.func 232) ([0, 1].map roots).toArray, #[]⟩] } := ⟨bA aD5, mix⟩
 rcases q with q | q
 ·refine aB (bU hF' (dW (l := [(256, ⟨fW F, [], (c0, c1, c2, .inl q)⟩)]) (.cons (qK F) (by kernel_rfl) .nil)) [2, 3] [] ?_)
  simp only [go_sem]
  refine ⟨hq, ?_⟩
  refine aC (cV ?_)
  refine aON (fn := Tryz.f180) (k := 2) (l2 := [0, 1]) hF' rfl rfl (by decide) rfl (aFr (by kernel_rfl)) ⟨kO, [0, 1], (q, 0)⟩ aC8 rfl [.cell 2 25, .cell 3 3] rfl ?_ ?_
  ·(simp only [kO, go_sem]) <;> first | decide | trivial
  ·(simp only [kO, aT, gZ, go_sem]) <;> first | decide | trivial
 ·refine aB (bU hF' (dW (l := [(256, ⟨fW F, [], (c0, c1, c2, .inr q)⟩)]) (.cons (qK F) (by kernel_rfl) .nil)) [2, 3] [] ?_)
  simp only [go_sem]
  refine ⟨hq, ?_⟩
  refine nM ?_
  refine aOO (fn := Tryz.f180) (k := 2) (l2 := [0, 1]) hF' rfl rfl (by decide) rfl (aFr (by kernel_rfl)) ⟨kP q, [0, 1], ((false, ([] : List Nat), (0 : Int), ()), 0)⟩ (aC9 q) rfl [.cell 2 25, .cell 3 3] rfl ?_ ?_
  ·(simp only [kP, go_sem]) <;> first | decide | trivial
  ·(simp only [kP, aT, gZ, go_sem]) <;> first | decide | trivial
attribute [go_sem] dX kU
noncomputable def lF (F : Md) (a_0 : (Bool × ((List Nat) × (Int × Unit)))) (b_1 : (Bool × ((List Nat) × (Int × Unit)))) (do_2 : Unit) : Option ((Bool × ((List Nat) × (Int × Unit))) × (Int × Unit)) :=
 ck (((cO F a_0 b_1 do_2).isSome = true)) (some ((((cO F a_0 b_1 do_2).getD ((false, ([] : List Nat), (0 : Int), ()), (0 : Int), ())).1), ((((cO F a_0 b_1 do_2).getD ((false, ([] : List Nat), (0 : Int), ()), (0 : Int), ())).2).1), ()))
def lG : Ty := .pair (.pair .bool (.pair (.sl (.u .u64)) (.pair (.i .i64) .unit))) (.pair (.pair .bool (.pair (.sl (.u .u64)) (.pair (.i .i64) .unit))) (.pair (.clo 239 .unit) .unit))
attribute [go_sem] lG
noncomputable def kC (F : Md) : aG := mSpec lG (.tup (.pair (.pair .bool (.pair (.sl (.u .u64)) (.pair (.i .i64) .unit))) (.pair (.i .i64) .unit))) (fun x => lF F x.1 x.2.1 x.2.2.1)
noncomputable def oD (F : Md) : List (FuncId × aG) := [(180, (dX F))]
theorem uJ (F : Md) : bE Tryz.prog GL (oD F) := .cons (qL F) (by kernel_rfl) (.nil)
theorem zT (F : Md) : gam (oD F) 180 = some (dX F) := rfl
attribute [go_sem] zT
set_option maxHeartbeats 4000000 in
theorem aBV (F : Md) : FOK Tryz.prog GL 238 (kC F) := by
 refine lR (bA (uJ F)) Tryz.func238 rfl (by kernel_rfl) (by decide) fun w0 S x r hw h => ?_
 have hF : jQ (fr Tryz.prog (EM (oD F)) S w0 Tryz.f238.ntmps) := ⟨bA (uJ F), mix⟩
 obtain ⟨(a_0 : (Bool × ((List Nat) × (Int × Unit)))), (b_1 : (Bool × ((List Nat) × (Int × Unit)))), (do_2 : Unit), u⟩ := x
 simp only [lG, Ty.wf, mM] at hw
 simp only [bL, lG]
 try dsimp only at h
 replace h : lF F a_0 b_1 do_2 = some r := h
 unfold lF at h
 refine aB (aZ hF [3, 4, 5, 6] ?_)
 simp only [go_sem]
 refine aC (aB (wA 0 rfl ?_))
 simp only [go_sem]
 refine wA 1 rfl ?_
 simp only [go_sem]
 refine wA 2 rfl ?_
 simp only [go_sem]
 refine aZ hF [6, 7] ?_
 simp only [go_sem]
 obtain ⟨g0, h⟩ := aH h
 repeat (refine ⟨by first | with_reducible assumption | omega | (intros; first | with_reducible assumption | omega) | (simp only [go_sem] at *; first | with_reducible assumption | omega) | decide, ?_⟩)
 obtain rfl := Option.some.inj h
 refine aC (cV (eZ hF [.cell 6 25, .tmp 7] rfl rfl rfl ?_))
 (try simp only [gZ, aT, go_sem]) <;> first | rfl | (simp; done)
attribute [go_sem] kC
noncomputable def aBW (F : Md) (a_0 : (Bool × ((List Nat) × (Int × Unit)))) (b_1 : (Bool × ((List Nat) × (Int × Unit)))) : Option ((Bool × ((List Nat) × (Int × Unit))) × (Int × Unit)) :=
 (lF F a_0 b_1 ()).bind (fun v_4 => some ((v_4.1), ((v_4.2).1), ()))
def aHQ : PlR := ⟨[(0, .B [2, 3, 4]), (1, .B [4, 5])], []⟩
def aKc : Ty := .pair (.pair .bool (.pair (.sl (.u .u64)) (.pair (.i .i64) .unit))) (.pair (.pair .bool (.pair (.sl (.u .u64)) (.pair (.i .i64) .unit))) .unit)
noncomputable def aAj (F : Md) : aG := mSpec aKc (.tup (.pair (.pair .bool (.pair (.sl (.u .u64)) (.pair (.i .i64) .unit))) (.pair (.i .i64) .unit))) (fun x => aBW F x.1 x.2.1)
noncomputable def aKd (F : Md) : List (FuncId × aG) := [(238, (kC F))]
theorem aN6 (F : Md) : bE Tryz.prog GL (aKd F) := .cons (aBV F) (by kernel_rfl) (.nil)
theorem aKe (F : Md) : gam (aKd F) 238 = some (kC F) := rfl
attribute [go_sem] aKc aHQ aKe
set_option maxHeartbeats 4000000 in
theorem aNi (F : Md) : FOK Tryz.prog GL 201 (aAj F) := by
 refine bH (bA (aN6 F)) mix Tryz.func201 rfl (by kernel_rfl) (by decide) aHQ fun w0 S x Θ hw h hF => ?_
 obtain ⟨(a_0 : (Bool × ((List Nat) × (Int × Unit)))), (b_1 : (Bool × ((List Nat) × (Int × Unit)))), u⟩ := x
 simp only [bL, go_sem]
 replace h : sat (aBW F a_0 b_1) _ := h
 unfold aBW at h
 obtain ⟨v_4, hv, h⟩ := aM h
 try simp only [hv, go_sem]
 exact aI hF [.cell 4 25, .tmp 5] rfl rfl rfl (aA h) (by simp only [aT, go_sem])
attribute [go_sem] aAj
end Nu
end Go.Proofs
