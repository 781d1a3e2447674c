import Derived.Test.YtkihplehmkbfaaaGreatDoorZL6
import Derived.Test.YtkihplehmkbfaaaGreatDoorProg
import Derived.KernelRfl
import Derived.Laws.Externs
set_option linter.unusedVariables false
set_option linter.unusedSimpArgs false
namespace Go.Proofs
open Go.Vc
set_option maxRecDepth 20000
namespace Nu
def aQO : List Nat := [0, 1, 56, 2, 57, 49, 28, 3, 61, 58, 42, 50, 38, 29, 17, 4, 62, 47, 59, 36, 45, 43, 51, 22, 53, 39, 33, 30, 24, 18, 12, 5, 63, 55, 48, 27, 60, 41, 37, 16, 46, 35, 44, 21, 52, 32, 23, 11, 54, 26, 40, 15, 34, 20, 31, 10, 25, 14, 19, 9, 13, 8, 7, 6]
theorem aRC : aQO = [0, 1, 56, 2, 57, 49, 28, 3, 61, 58, 42, 50, 38, 29, 17, 4, 62, 47, 59, 36, 45, 43, 51, 22, 53, 39, 33, 30, 24, 18, 12, 5, 63, 55, 48, 27, 60, 41, 37, 16, 46, 35, 44, 21, 52, 32, 23, 11, 54, 26, 40, 15, 34, 20, 31, 10, 25, 14, 19, 9, 13, 8, 7, 6] := rfl
def p10 : List Nat := [1, 10, 100, 1000, 10000, 100000, 1000000, 10000000, 100000000, 1000000000, 10000000000, 100000000000, 1000000000000, 10000000000000, 100000000000000, 1000000000000000, 10000000000000000, 100000000000000000, 1000000000000000000, 10000000000000000000]
theorem aSb : p10 = [1, 10, 100, 1000, 10000, 100000, 1000000, 10000000, 100000000, 1000000000, 10000000000, 100000000000, 1000000000000, 10000000000000, 100000000000000, 1000000000000000, 10000000000000000, 100000000000000000, 1000000000000000000, 10000000000000000000] := rfl
noncomputable def GL : Nat → AV
 | 0 => .roa (.arr 64 (.u .u8)) aQO
 | 1 => .roa (.arr 20 (.u .u64)) p10
 | _ => .junk
theorem GL0 : GL 0 = .roa (.arr 64 (.u .u8)) aQO := rfl
theorem GL3 : GL 1 = .roa (.arr 20 (.u .u64)) p10 := rfl
attribute [go_sem] GL0 GL3 mSpec
def tab : List (TypeId × Ty) := [(258, .clo 239 .unit), (2, .i .i64), (3, .i .i64), (4, .bool), (5, .u .u8), (9, .str), (21, .i .i32), (22, .sl (.pair (.i .i64) (.pair (.i .i64) (.pair (.i .i64) (.pair (.pair .bool (.pair (.sl (.u .u64)) (.pair (.i .i64) .unit))) (.pair (.pair .bool (.pair (.sl (.u .u64)) (.pair (.i .i64) .unit))) (.pair (.sl (.sl (.pair (.pair .bool (.pair (.sl (.u .u64)) (.pair (.i .i64) .unit))) (.pair (.pair .bool (.pair (.sl (.u .u64)) (.pair (.i .i64) .unit))) .unit)))) (.pair (.sl (.sl (.pair (.sl (.pair .bool (.pair (.sl (.u .u64)) (.pair (.i .i64) .unit)))) (.pair (.sl (.pair (.pair .bool (.pair (.sl (.u .u64)) (.pair (.i .i64) .unit))) (.pair (.pair .bool (.pair (.sl (.u .u64)) (.pair (.i .i64) .unit))) .unit))) .unit)))) .unit)))))))), (23, .sl (.u .u64)), (25, .pair .bool (.pair (.sl (.u .u64)) (.pair (.i .i64) .unit))), (27, .pair (.pair .bool (.pair (.sl (.u .u64)) (.pair (.i .i64) .unit))) (.pair (.pair .bool (.pair (.sl (.u .u64)) (.pair (.i .i64) .unit))) .unit)), (30, .sl (.sl (.pair (.pair .bool (.pair (.sl (.u .u64)) (.pair (.i .i64) .unit))) (.pair (.pair .bool (.pair (.sl (.u .u64)) (.pair (.i .i64) .unit))) .unit)))), (31, .sl (.sl (.pair (.sl (.pair .bool (.pair (.sl (.u .u64)) (.pair (.i .i64) .unit)))) (.pair (.sl (.pair (.pair .bool (.pair (.sl (.u .u64)) (.pair (.i .i64) .unit))) (.pair (.pair .bool (.pair (.sl (.u .u64)) (.pair (.i .i64) .unit))) .unit))) .unit)))), (33, .pair (.i .i64) (.pair (.i .i64) (.pair (.i .i64) (.pair (.pair .bool (.pair (.sl (.u .u64)) (.pair (.i .i64) .unit))) (.pair (.pair .bool (.pair (.sl (.u .u64)) (.pair (.i .i64) .unit))) (.pair (.sl (.sl (.pair (.pair .bool (.pair (.sl (.u .u64)) (.pair (.i .i64) .unit))) (.pair (.pair .bool (.pair (.sl (.u .u64)) (.pair (.i .i64) .unit))) .unit)))) (.pair (.sl (.sl (.pair (.sl (.pair .bool (.pair (.sl (.u .u64)) (.pair (.i .i64) .unit)))) (.pair (.sl (.pair (.pair .bool (.pair (.sl (.u .u64)) (.pair (.i .i64) .unit))) (.pair (.pair .bool (.pair (.sl (.u .u64)) (.pair (.i .i64) .unit))) .unit))) .unit)))) .unit))))))), (39, .u .u64), (45, .sl .expr), (47, .expr), (48, .sl .str), (51, .sl (.pair .str (.pair (.sl (.pair .str (.pair (.pair .str (.pair .str .unit)) (.pair .expr .unit)))) (.pair (.sl (.pair .str (.pair (.pair .str (.pair .str .unit)) .unit))) (.pair (.sl .str) (.pair (.sl (.pair .str (.pair .expr .unit))) .unit)))))), (52, .sl (.pair .str (.pair .str (.pair .str (.pair .str .unit))))), (54, .pair (.i .i64) (.pair (.i .i64) (.pair (.i .i64) (.pair (.i .i64) (.pair .str (.pair .str (.pair .str (.pair .str (.pair (.sl (.pair .str (.pair (.sl (.pair .str (.pair (.pair .str (.pair .str .unit)) (.pair .expr .unit)))) (.pair (.sl (.pair .str (.pair (.pair .str (.pair .str .unit)) .unit))) (.pair (.sl .str) (.pair (.sl (.pair .str (.pair .expr .unit))) .unit)))))) (.pair (.sl (.pair .str (.pair .str (.pair .str (.pair .str .unit))))) .unit)))))))))), (56, .sl (.pair .str (.pair (.pair .str (.pair .str .unit)) (.pair .expr .unit)))), (57, .sl (.pair .str (.pair (.pair .str (.pair .str .unit)) .unit))), (58, .sl (.pair .str (.pair .expr .unit))), (60, .pair .str (.pair (.sl (.pair .str (.pair (.pair .str (.pair .str .unit)) (.pair .expr .unit)))) (.pair (.sl (.pair .str (.pair (.pair .str (.pair .str .unit)) .unit))) (.pair (.sl .str) (.pair (.sl (.pair .str (.pair .expr .unit))) .unit))))), (62, .pair .str (.pair .str .unit)), (64, .pair .str (.pair (.pair .str (.pair .str .unit)) (.pair .expr .unit))), (68, .pair .str (.pair .str (.pair .str (.pair .str .unit)))), (71, .pair .str (.pair (.pair .str (.pair .str .unit)) .unit)), (73, .pair .str (.pair .expr .unit)), (81, .sl (.i .i64)), (83, .u .u64), (85, .sl (.pair (.pair .bool (.pair (.sl (.u .u64)) (.pair (.i .i64) .unit))) (.pair (.pair .bool (.pair (.sl (.u .u64)) (.pair (.i .i64) .unit))) .unit))), (86, .sl (.pair (.sl (.pair .bool (.pair (.sl (.u .u64)) (.pair (.i .i64) .unit)))) (.pair (.sl (.pair (.pair .bool (.pair (.sl (.u .u64)) (.pair (.i .i64) .unit))) (.pair (.pair .bool (.pair (.sl (.u .u64)) (.pair (.i .i64) .unit))) .unit))) .unit))), (88, .sl (.pair .bool (.pair (.sl (.u .u64)) (.pair (.i .i64) .unit)))), (90, .pair (.sl (.pair .bool (.pair (.sl (.u .u64)) (.pair (.i .i64) .unit)))) (.pair (.sl (.pair (.pair .bool (.pair (.sl (.u .u64)) (.pair (.i .i64) .unit))) (.pair (.pair .bool (.pair (.sl (.u .u64)) (.pair (.i .i64) .unit))) .unit))) .unit)), (91, .nilf), (98, .nilp), (99, .sl (.u .u8)), (101, .pair .nilp (.pair (.sl (.u .u8)) .unit)), (103, .nili), (140, .sl (.u .u32)), (146, .u .u32), (174, .arr 256 (.bool)), (202, .pair .bool (.pair (.sl (.u .u32)) (.pair (.i .i64) .unit))), (221, .nilf), (226, .sl (.sl .str)), (238, .arr 24 (.u .u8)), (242, .arr 64 (.u .u8)), (251, .pair (.i .i64) .unit), (254, .pair (.i .i64) .unit), (264, .arr 20 (.u .u64)), (265, .arr 65 (.u .u8)), (268, .arr 256 (.u .u8)), (270, .pair (.u .u8) (.pair (.u .u8) .unit)), (271, .arr 16 (.pair (.u .u8) (.pair (.u .u8) .unit))), (278, .i .i64), (284, .arr 32 (.u .u8)), (294, .pair .str .unit)]
def elT : TypeId → TypeId
 | 22 => 33
 | 23 => 83
 | 30 => 85
 | 31 => 86
 | 45 => 47
 | 48 => 9
 | 51 => 60
 | 52 => 68
 | 56 => 64
 | 57 => 71
 | 58 => 73
 | 81 => 3
 | 85 => 27
 | 86 => 90
 | 88 => 25
 | 99 => 5
 | 140 => 146
 | 226 => 48
 | _ => 0
def mpT : TypeId → Option (TypeId × TypeId)
 | 96 => some (3, 9)
 | 171 => some (9, 4)
 | _ => none
theorem aM1 : gO Tryz.prog (aDT tab) := aPz (by kernel_rfl)
theorem aSj : ∀ t ct, aDT tab t = some (.sl ct) → Tryz.prog.underlying t = some (.slice (elT t)) := aRh (by kernel_rfl)
theorem aSk : ∀ t k e, mpT t = some (k, e) → Tryz.prog.underlying t = some (.map k e) := by
 intro t k e h
 unfold mpT at h
 split at h
 ·cases h; rfl
 ·cases h; rfl
 ·cases h
def TM : Tab := aDT tab
noncomputable def EM (l : List (FuncId × aG)) : Env := ⟨TM, GL, fun f _ => gam l f, elT, mpT, fun _ => none, fun _ => false⟩
def dmT : TypeId → Option Mk
 | 48 => some .no
 | 51 => some (.pair .no (.pair (.sl 64 .no) (.pair (.sl 71 .no) (.pair (.sl 9 .no) (.pair (.sl 73 .no) .no)))))
 | 52 => some .no
 | 56 => some .no
 | 57 => some .no
 | 58 => some .no
 | _ => none
def dzT : TypeId → Bool
 | 54 => true
 | 60 => true
 | _ => false
noncomputable def EX (l : List (FuncId × aG)) : Env := ⟨TM, GL, fun f _ => gam l f, elT, mpT, dmT, dzT⟩
theorem aSz (l : List (FuncId × aG)) (t : TypeId) : (EM l).T t = TM t := rfl
theorem aSA (l : List (FuncId × aG)) (t : Nat) : (EM l).G t = GL t := rfl
theorem aSB (l : List (FuncId × aG)) (f : FuncId) (vs : List AV) : (EM l).Γ f vs = gam l f := rfl
theorem aSl (l : List (FuncId × aG)) (t : TypeId) : (EM l).el t = elT t := rfl
theorem aSm (l : List (FuncId × aG)) (t : TypeId) : (EM l).mp t = mpT t := rfl
theorem bD {l : List (FuncId × aG)} (h : bI Tryz.prog GL l) : eQ Tryz.prog (EM l) := aMP aM1 aSj aSk h
theorem mix : Tryz.prog.follows .mixedOrders = true := by kernel_rfl
theorem aSn (l : List (FuncId × aG)) (t : TypeId) : (EM l).dm t = none := rfl
theorem aSo (l : List (FuncId × aG)) (t : TypeId) : (EM l).dz t = false := rfl
theorem aSC (l : List (FuncId × aG)) (t : TypeId) : (EX l).T t = TM t := rfl
theorem aSD (l : List (FuncId × aG)) (t : Nat) : (EX l).G t = GL t := rfl
theorem aSE (l : List (FuncId × aG)) (f : FuncId) (vs : List AV) : (EX l).Γ f vs = gam l f := rfl
theorem aSp (l : List (FuncId × aG)) (t : TypeId) : (EX l).el t = elT t := rfl
theorem aSq (l : List (FuncId × aG)) (t : TypeId) : (EX l).mp t = mpT t := rfl
theorem aSr (l : List (FuncId × aG)) (t : TypeId) : (EX l).dm t = dmT t := rfl
theorem aSs (l : List (FuncId × aG)) (t : TypeId) : (EX l).dz t = dzT t := rfl
theorem aLx {l : List (FuncId × aG)} (h : bI Tryz.prog GL l) : eQ Tryz.prog (EX l) := aMP aM1 aSj aSk h
attribute [go_sem] aSn aSo aSC aSD aSE aSp aSq aSr aSs dmT dzT
theorem T2 : TM 2 = some (.i .i64) := rfl
theorem T3 : TM 3 = some (.i .i64) := rfl
theorem T4 : TM 4 = some (.bool) := rfl
theorem T5 : TM 5 = some (.u .u8) := rfl
theorem T9 : TM 9 = some (.str) := rfl
theorem T21 : TM 21 = some (.i .i32) := rfl
theorem T22 : TM 22 = some (.sl (.pair (.i .i64) (.pair (.i .i64) (.pair (.i .i64) (.pair (.pair .bool (.pair (.sl (.u .u64)) (.pair (.i .i64) .unit))) (.pair (.pair .bool (.pair (.sl (.u .u64)) (.pair (.i .i64) .unit))) (.pair (.sl (.sl (.pair (.pair .bool (.pair (.sl (.u .u64)) (.pair (.i .i64) .unit))) (.pair (.pair .bool (.pair (.sl (.u .u64)) (.pair (.i .i64) .unit))) .unit)))) (.pair (.sl (.sl (.pair (.sl (.pair .bool (.pair (.sl (.u .u64)) (.pair (.i .i64) .unit)))) (.pair (.sl (.pair (.pair .bool (.pair (.sl (.u .u64)) (.pair (.i .i64) .unit))) (.pair (.pair .bool (.pair (.sl (.u .u64)) (.pair (.i .i64) .unit))) .unit))) .unit)))) .unit)))))))) := rfl
theorem T23 : TM 23 = some (.sl (.u .u64)) := rfl
theorem T25 : TM 25 = some (.pair .bool (.pair (.sl (.u .u64)) (.pair (.i .i64) .unit))) := rfl
theorem T27 : TM 27 = some (.pair (.pair .bool (.pair (.sl (.u .u64)) (.pair (.i .i64) .unit))) (.pair (.pair .bool (.pair (.sl (.u .u64)) (.pair (.i .i64) .unit))) .unit)) := rfl
theorem T30 : TM 30 = some (.sl (.sl (.pair (.pair .bool (.pair (.sl (.u .u64)) (.pair (.i .i64) .unit))) (.pair (.pair .bool (.pair (.sl (.u .u64)) (.pair (.i .i64) .unit))) .unit)))) := rfl
theorem T31 : TM 31 = some (.sl (.sl (.pair (.sl (.pair .bool (.pair (.sl (.u .u64)) (.pair (.i .i64) .unit)))) (.pair (.sl (.pair (.pair .bool (.pair (.sl (.u .u64)) (.pair (.i .i64) .unit))) (.pair (.pair .bool (.pair (.sl (.u .u64)) (.pair (.i .i64) .unit))) .unit))) .unit)))) := rfl
theorem T33 : TM 33 = some (.pair (.i .i64) (.pair (.i .i64) (.pair (.i .i64) (.pair (.pair .bool (.pair (.sl (.u .u64)) (.pair (.i .i64) .unit))) (.pair (.pair .bool (.pair (.sl (.u .u64)) (.pair (.i .i64) .unit))) (.pair (.sl (.sl (.pair (.pair .bool (.pair (.sl (.u .u64)) (.pair (.i .i64) .unit))) (.pair (.pair .bool (.pair (.sl (.u .u64)) (.pair (.i .i64) .unit))) .unit)))) (.pair (.sl (.sl (.pair (.sl (.pair .bool (.pair (.sl (.u .u64)) (.pair (.i .i64) .unit)))) (.pair (.sl (.pair (.pair .bool (.pair (.sl (.u .u64)) (.pair (.i .i64) .unit))) (.pair (.pair .bool (.pair (.sl (.u .u64)) (.pair (.i .i64) .unit))) .unit))) .unit)))) .unit))))))) := rfl
theorem T39 : TM 39 = some (.u .u64) := rfl
theorem T45 : TM 45 = some (.sl .expr) := rfl
theorem T47 : TM 47 = some (.expr) := rfl
theorem T48 : TM 48 = some (.sl .str) := rfl
theorem T51 : TM 51 = some (.sl (.pair .str (.pair (.sl (.pair .str (.pair (.pair .str (.pair .str .unit)) (.pair .expr .unit)))) (.pair (.sl (.pair .str (.pair (.pair .str (.pair .str .unit)) .unit))) (.pair (.sl .str) (.pair (.sl (.pair .str (.pair .expr .unit))) .unit)))))) := rfl
theorem T52 : TM 52 = some (.sl (.pair .str (.pair .str (.pair .str (.pair .str .unit))))) := rfl
theorem T54 : TM 54 = some (.pair (.i .i64) (.pair (.i .i64) (.pair (.i .i64) (.pair (.i .i64) (.pair .str (.pair .str (.pair .str (.pair .str (.pair (.sl (.pair .str (.pair (.sl (.pair .str (.pair (.pair .str (.pair .str .unit)) (.pair .expr .unit)))) (.pair (.sl (.pair .str (.pair (.pair .str (.pair .str .unit)) .unit))) (.pair (.sl .str) (.pair (.sl (.pair .str (.pair .expr .unit))) .unit)))))) (.pair (.sl (.pair .str (.pair .str (.pair .str (.pair .str .unit))))) .unit)))))))))) := rfl
theorem T56 : TM 56 = some (.sl (.pair .str (.pair (.pair .str (.pair .str .unit)) (.pair .expr .unit)))) := rfl
theorem T57 : TM 57 = some (.sl (.pair .str (.pair (.pair .str (.pair .str .unit)) .unit))) := rfl
theorem T58 : TM 58 = some (.sl (.pair .str (.pair .expr .unit))) := rfl
theorem T60 : TM 60 = some (.pair .str (.pair (.sl (.pair .str (.pair (.pair .str (.pair .str .unit)) (.pair .expr .unit)))) (.pair (.sl (.pair .str (.pair (.pair .str (.pair .str .unit)) .unit))) (.pair (.sl .str) (.pair (.sl (.pair .str (.pair .expr .unit))) .unit))))) := rfl
theorem T62 : TM 62 = some (.pair .str (.pair .str .unit)) := rfl
theorem T64 : TM 64 = some (.pair .str (.pair (.pair .str (.pair .str .unit)) (.pair .expr .unit))) := rfl
theorem T68 : TM 68 = some (.pair .str (.pair .str (.pair .str (.pair .str .unit)))) := rfl
theorem T71 : TM 71 = some (.pair .str (.pair (.pair .str (.pair .str .unit)) .unit)) := rfl
theorem T73 : TM 73 = some (.pair .str (.pair .expr .unit)) := rfl
theorem T81 : TM 81 = some (.sl (.i .i64)) := rfl
theorem T83 : TM 83 = some (.u .u64) := rfl
theorem T85 : TM 85 = some (.sl (.pair (.pair .bool (.pair (.sl (.u .u64)) (.pair (.i .i64) .unit))) (.pair (.pair .bool (.pair (.sl (.u .u64)) (.pair (.i .i64) .unit))) .unit))) := rfl
theorem T86 : TM 86 = some (.sl (.pair (.sl (.pair .bool (.pair (.sl (.u .u64)) (.pair (.i .i64) .unit)))) (.pair (.sl (.pair (.pair .bool (.pair (.sl (.u .u64)) (.pair (.i .i64) .unit))) (.pair (.pair .bool (.pair (.sl (.u .u64)) (.pair (.i .i64) .unit))) .unit))) .unit))) := rfl
theorem T88 : TM 88 = some (.sl (.pair .bool (.pair (.sl (.u .u64)) (.pair (.i .i64) .unit)))) := rfl
theorem T90 : TM 90 = some (.pair (.sl (.pair .bool (.pair (.sl (.u .u64)) (.pair (.i .i64) .unit)))) (.pair (.sl (.pair (.pair .bool (.pair (.sl (.u .u64)) (.pair (.i .i64) .unit))) (.pair (.pair .bool (.pair (.sl (.u .u64)) (.pair (.i .i64) .unit))) .unit))) .unit)) := rfl
theorem T91 : TM 91 = some (.nilf) := rfl
theorem T98 : TM 98 = some (.nilp) := rfl
theorem T99 : TM 99 = some (.sl (.u .u8)) := rfl
theorem aSF : TM 101 = some (.pair .nilp (.pair (.sl (.u .u8)) .unit)) := rfl
theorem aSG : TM 103 = some (.nili) := rfl
theorem aSH : TM 140 = some (.sl (.u .u32)) := rfl
theorem aSI : TM 146 = some (.u .u32) := rfl
theorem aSJ : TM 174 = some (.arr 256 (.bool)) := rfl
theorem aSK : TM 202 = some (.pair .bool (.pair (.sl (.u .u32)) (.pair (.i .i64) .unit))) := rfl
theorem aSL : TM 221 = some (.nilf) := rfl
theorem aSM : TM 226 = some (.sl (.sl .str)) := rfl
theorem aSN : TM 238 = some (.arr 24 (.u .u8)) := rfl
theorem aSO : TM 242 = some (.arr 64 (.u .u8)) := rfl
theorem aSP : TM 251 = some (.pair (.i .i64) .unit) := rfl
theorem aSQ : TM 254 = some (.pair (.i .i64) .unit) := rfl
theorem aSR : TM 264 = some (.arr 20 (.u .u64)) := rfl
theorem aSS : TM 265 = some (.arr 65 (.u .u8)) := rfl
theorem aST : TM 268 = some (.arr 256 (.u .u8)) := rfl
theorem aSU : TM 270 = some (.pair (.u .u8) (.pair (.u .u8) .unit)) := rfl
theorem aSV : TM 271 = some (.arr 16 (.pair (.u .u8) (.pair (.u .u8) .unit))) := rfl
theorem aSW : TM 278 = some (.i .i64) := rfl
theorem aSX : TM 284 = some (.arr 32 (.u .u8)) := rfl
theorem aSY : TM 294 = some (.pair .str .unit) := rfl
theorem aSZ : TM 258 = some (.clo 239 .unit) := rfl
attribute [go_sem] aSz aSA aSB aSl aSm elT mpT aSZ T2 T3 T4 T5 T9 T21 T22 T23 T25 T27 T30 T31 T33 T39 T45 T47 T48 T51 T52 T54 T56 T57 T58 T60 T62 T64 T68 T71 T73 T81 T83 T85 T86 T88 T90 T91 T98 T99 aSF aSG aSH aSI aSJ aSK aSL aSM aSN aSO aSP aSQ aSR aSS aST aSU aSV aSW aSX aSY
end Nu
end Go.Proofs
namespace Go.Proofs
open Go.Vc
set_option maxRecDepth 20000
namespace Nu
def iE (x y c : Nat) : Nat × Nat × Unit := ((x + y + c) % 18446744073709551616, (x + y + c) / 18446744073709551616, ())
def aC3 (x y c : Nat) : Nat × Nat × Unit := ((x + 18446744073709551616 - y - c) % 18446744073709551616, (if x < y + c then 1 else 0), ())
abbrev yR (x y c : Nat) : Prop := c ≤ 1
def aFv : Ty := .pair (.u .u64) (.pair (.u .u64) (.pair (.u .u64) .unit))
noncomputable def kR : aG := ⟨aFv, .tup (.pair (.u .u64) (.pair (.u .u64) .unit)), fun x => yR x.1 x.2.1 x.2.2.1, fun x => iE x.1 x.2.1 x.2.2.1⟩
attribute [go_sem] kR aFv
def aFw : Ty := .pair (.u .u64) (.pair (.u .u64) (.pair (.u .u64) .unit))
noncomputable def vF : aG := ⟨aFw, .tup (.pair (.u .u64) (.pair (.u .u64) .unit)), fun x => yR x.1 x.2.1 x.2.2.1, fun x => aC3 x.1 x.2.1 x.2.2.1⟩
attribute [go_sem] vF aFw
theorem aL2 {w : World} {S : Nat → Prop} {x : Nat} {v : Value} (h : cQ w S (.u .u64) x v) : v = .int .u64 (x : Int) := by
 unfold cQ at h
 rw [if_neg (by simp [Ty.isAgg])] at h
 simp only [aT, List.cons.injEq, and_true] at h
 exact h.1
theorem aJL {w : World} {S : Nat → Prop} {vs : List Value} {x : Nat × Nat × Nat × Unit} (h : lV w S (.pair (.u .u64) (.pair (.u .u64) (.pair (.u .u64) .unit))) x vs) : vs = [.int .u64 (x.1 : Int), .int .u64 (x.2.1 : Int), .int .u64 (x.2.2.1 : Int)] := by
 obtain ⟨v1, r1, rfl, h1, v2, r2, rfl, h2, v3, r3, rfl, h3, h4⟩ := h
 rw [aL2 h1, aL2 h2, aL2 h3]
 have h4 : r3 = [] := h4
 rw [h4]
theorem aQP {w : World} {S : Nat → Prop} {x : Nat} (h : x < 18446744073709551616) : cQ w S (.u .u64) x (.int .u64 (x : Int)) := by
 unfold cQ
 rw [if_neg (by simp [Ty.isAgg])]
 refine ⟨rfl, rfl, ?_⟩
 simp [IntKind.max, IntKind.signed, IntKind.bits]; omega
theorem aM2 {w : World} {S : Nat → Prop} {x y : Nat} (hx : x < 18446744073709551616) (hy : y < 18446744073709551616) : lV w S (.pair (.u .u64) (.pair (.u .u64) .unit)) (x, y, ()) [.int .u64 (x : Int), .int .u64 (y : Int)] :=
 ⟨_, _, rfl, aQP hx, _, _, rfl, aQP hy, rfl⟩
theorem wf_u64 {x : Nat} (h : (Ty.u .u64).wf x) : x < 18446744073709551616 := by
 simp only [Ty.wf, IntKind.max, IntKind.signed, IntKind.bits] at h
 simp at h; omega
def aJM : Array Value → Sem Value := fun args => do
 let (x, y, b) ← Extern.MathBitsCarry.three "Sub64" args
 pure (Extern.MathBitsCarry.pair ((x + Extern.MathBitsCarry.m64 - y - b) % Extern.MathBitsCarry.m64) (if x < y + b then 1 else 0))
theorem aPn {P : Program} (x y b : Nat) (hb : b ≤ 1) (w : World) :
  (aJM #[.int .u64 x, .int .u64 y, .int .u64 b]).run P w =
   .ok (.tuple #[.int .u64 (((x + 18446744073709551616 - y - b) % 18446744073709551616 : Nat) : Int), .int .u64 ((if x < y + b then 1 else 0 : Nat) : Int)]) w := by
 have : b = 0 ∨ b = 1 := by omega
 rcases this with rfl | rfl <;> rfl
theorem aAA : NOK Tryz.prog GL 162 kR := by
 refine aP9 fun w S vs x ha hp => ?_
 have hp : x.2.2.1 ≤ 1 := hp
 have hw := aDE _ _ _ ha
 obtain ⟨h1, h2, h3, _⟩ := hw
 have h1 := wf_u64 h1
 have h2 := wf_u64 h2
 rw [aJL ha]
 refine ⟨[.int .u64 (((x.1 + x.2.1 + x.2.2.1) % 18446744073709551616 : Nat) : Int), .int .u64 (((x.1 + x.2.1 + x.2.2.1) / 18446744073709551616 : Nat) : Int)], ?_, aM2 (by omega) (by omega)⟩
 rw [run_callFunc_extern Tryz.func162 (by kernel_rfl) (by kernel_rfl) (by kernel_rfl) (e := add64Entry) (by kernel_rfl), run_add64 x.1 x.2.1 x.2.2.1 (by omega) (by omega) (by omega) (by omega)]
 simp only [Result.andThen]
 congr 5 <;> omega
theorem aKH : NOK Tryz.prog GL 253 vF := by
 refine aP9 fun w S vs x ha hp => ?_
 have hp : x.2.2.1 ≤ 1 := hp
 have hw := aDE _ _ _ ha
 obtain ⟨h1, h2, h3, _⟩ := hw
 have h1 := wf_u64 h1
 have h2 := wf_u64 h2
 rw [aJL ha]
 refine ⟨[.int .u64 (((x.1 + 18446744073709551616 - x.2.1 - x.2.2.1) % 18446744073709551616 : Nat) : Int), .int .u64 ((if x.1 < x.2.1 + x.2.2.1 then 1 else 0 : Nat) : Int)], ?_, aM2 (by omega) (by split <;> omega)⟩
 rw [run_callFunc_extern Tryz.func253 (by kernel_rfl) (by kernel_rfl) (by kernel_rfl) (e := aJM) (by kernel_rfl), aPn x.1 x.2.1 x.2.2.1 hp]
 rfl
abbrev aQQ (s : List Nat) : Prop := s.length * 8 ≤ 140737488355328
def oF : Ty := .pair (.sl (.u .u64)) .unit
noncomputable def cF : aG := ⟨oF, .own 83 (.u .u64), fun x => aQQ x.1, fun x => id x.1⟩
attribute [go_sem] cF oF
noncomputable def uG (F : Md) : List (FuncId × aG) := []
theorem uH (F : Md) : bI Tryz.prog GL (uG F) := .nil
theorem kE : FOK Tryz.prog GL 165 cF := by
 refine aNC (bD (uH none)) Tryz.func165 rfl (by kernel_rfl) (by decide) fun w0 S x hw hp => ?_
 have hF : kB (fr Tryz.prog (EM (uG none)) S w0 Tryz.f165.ntmps) := ⟨bD (uH none), mix⟩
 obtain ⟨(s : (List Nat)), u⟩ := x
 have hp : s.length * 8 ≤ 140737488355328 := hp
 simp only [bP, oF, cF]
 refine aB (aD hF [0, 2] ?_)
 simp only [go_sem]
 refine aC (aB (aB (aLv hF rfl rfl rfl fun b hb => ?_)))
 refine aC (bG rfl (fun hc => ?_) (fun hc => ?_))
 ·have hs := hb hc
  refine aB (aD hF [2] ?_)
  simp only [go_sem]
  refine aC (cY (dF (fG hF [.tmp 2] rfl rfl rfl ?_)))
  simp only [iB, aV, go_sem, hs]
  try trivial
 ·refine cS (aC (aB (aN hF [2] ?_)))
  simp only [go_sem]
  refine ⟨by omega, ?_⟩
  refine aC (cY (fG hF [.tmp 2] rfl rfl rfl ?_))
  simp only [iB, aV, go_sem]
  try trivial
end Nu
end Go.Proofs
namespace Go.Proofs
open Go.Vc
set_option maxRecDepth 20000
namespace Nu
def aBJ : ByteArray := ⟨⟨0 :: 1 :: 2 :: 2 :: 3 :: 3 :: 3 :: 3 :: 4 :: 4 :: 4 :: 4 :: 4 :: 4 :: 4 :: 4 :: 5 :: 5 :: 5 :: 5 :: 5 :: 5 :: 5 :: 5 :: 5 :: 5 :: 5 :: 5 :: 5 :: 5 :: 5 :: 5 :: 6 :: 6 :: 6 :: 6 :: 6 :: 6 :: 6 :: 6 :: 6 :: 6 :: 6 :: 6 :: 6 :: 6 :: 6 :: 6 :: 6 :: 6 :: 6 :: 6 :: 6 :: 6 :: 6 :: 6 :: 6 :: 6 :: 6 :: 6 :: 6 :: 6 :: 6 :: 6 :: 7 :: 7 :: 7 :: 7 :: 7 :: 7 :: 7 :: 7 :: 7 :: 7 :: 7 :: 7 :: 7 :: 7 :: 7 :: 7 :: 7 :: 7 :: 7 :: 7 :: 7 :: 7 :: 7 :: 7 :: 7 :: 7 :: 7 :: 7 :: 7 :: 7 :: 7 :: 7 :: 7 :: 7 :: 7 :: 7 :: 7 :: 7 :: 7 :: 7 :: 7 :: 7 :: 7 :: 7 :: 7 :: 7 :: 7 :: 7 :: 7 :: 7 :: 7 :: 7 :: 7 :: 7 :: 7 :: 7 :: 7 :: 7 :: 7 :: 7 :: 7 :: 7 :: 7 :: 7 :: 8 :: 8 :: 8 :: 8 :: 8 :: 8 :: 8 :: 8 :: 8 :: 8 :: 8 :: 8 :: 8 :: 8 :: 8 :: 8 :: 8 :: 8 :: 8 :: 8 :: 8 :: 8 :: 8 :: 8 :: 8 :: 8 :: 8 :: 8 :: 8 :: 8 :: 8 :: 8 :: 8 :: 8 :: 8 :: 8 :: 8 :: 8 :: 8 :: 8 :: 8 :: 8 :: 8 :: 8 :: 8 :: 8 :: 8 :: 8 :: 8 :: 8 :: 8 :: 8 :: 8 :: 8 :: 8 :: 8 :: 8 :: 8 :: 8 :: 8 :: 8 :: 8 :: 8 :: 8 :: 8 :: 8 :: 8 :: 8 :: 8 :: 8 :: 8 :: 8 :: 8 :: 8 :: 8 :: 8 :: 8 :: 8 :: 8 :: 8 :: 8 :: 8 :: 8 :: 8 :: 8 :: 8 :: 8 :: 8 :: 8 :: 8 :: 8 :: 8 :: 8 :: 8 :: 8 :: 8 :: 8 :: 8 :: 8 :: 8 :: 8 :: 8 :: 8 :: 8 :: 8 :: 8 :: 8 :: 8 :: 8 :: 8 :: 8 :: 8 :: 8 :: 8 :: 8 :: 8 :: 8 :: 8 :: 8 :: 8 :: 8 :: 8 :: 8 :: 8 :: 8 :: 8 :: 8 :: 8 :: []⟩⟩
theorem aKI : (⟨⟨0 :: 1 :: 2 :: 2 :: 3 :: 3 :: 3 :: 3 :: 4 :: 4 :: 4 :: 4 :: 4 :: 4 :: 4 :: 4 :: 5 :: 5 :: 5 :: 5 :: 5 :: 5 :: 5 :: 5 :: 5 :: 5 :: 5 :: 5 :: 5 :: 5 :: 5 :: 5 :: 6 :: 6 :: 6 :: 6 :: 6 :: 6 :: 6 :: 6 :: 6 :: 6 :: 6 :: 6 :: 6 :: 6 :: 6 :: 6 :: 6 :: 6 :: 6 :: 6 :: 6 :: 6 :: 6 :: 6 :: 6 :: 6 :: 6 :: 6 :: 6 :: 6 :: 6 :: 6 :: 7 :: 7 :: 7 :: 7 :: 7 :: 7 :: 7 :: 7 :: 7 :: 7 :: 7 :: 7 :: 7 :: 7 :: 7 :: 7 :: 7 :: 7 :: 7 :: 7 :: 7 :: 7 :: 7 :: 7 :: 7 :: 7 :: 7 :: 7 :: 7 :: 7 :: 7 :: 7 :: 7 :: 7 :: 7 :: 7 :: 7 :: 7 :: 7 :: 7 :: 7 :: 7 :: 7 :: 7 :: 7 :: 7 :: 7 :: 7 :: 7 :: 7 :: 7 :: 7 :: 7 :: 7 :: 7 :: 7 :: 7 :: 7 :: 7 :: 7 :: 7 :: 7 :: 7 :: 7 :: 8 :: 8 :: 8 :: 8 :: 8 :: 8 :: 8 :: 8 :: 8 :: 8 :: 8 :: 8 :: 8 :: 8 :: 8 :: 8 :: 8 :: 8 :: 8 :: 8 :: 8 :: 8 :: 8 :: 8 :: 8 :: 8 :: 8 :: 8 :: 8 :: 8 :: 8 :: 8 :: 8 :: 8 :: 8 :: 8 :: 8 :: 8 :: 8 :: 8 :: 8 :: 8 :: 8 :: 8 :: 8 :: 8 :: 8 :: 8 :: 8 :: 8 :: 8 :: 8 :: 8 :: 8 :: 8 :: 8 :: 8 :: 8 :: 8 :: 8 :: 8 :: 8 :: 8 :: 8 :: 8 :: 8 :: 8 :: 8 :: 8 :: 8 :: 8 :: 8 :: 8 :: 8 :: 8 :: 8 :: 8 :: 8 :: 8 :: 8 :: 8 :: 8 :: 8 :: 8 :: 8 :: 8 :: 8 :: 8 :: 8 :: 8 :: 8 :: 8 :: 8 :: 8 :: 8 :: 8 :: 8 :: 8 :: 8 :: 8 :: 8 :: 8 :: 8 :: 8 :: 8 :: 8 :: 8 :: 8 :: 8 :: 8 :: 8 :: 8 :: 8 :: 8 :: 8 :: 8 :: 8 :: 8 :: 8 :: 8 :: 8 :: 8 :: 8 :: 8 :: 8 :: 8 :: 8 :: 8 :: []⟩⟩ : ByteArray) = aBJ := rfl
attribute [go_sem] aKI
noncomputable def nP (F : Md) (x_6 : Nat) (n_7 : Int) : Option (Int) :=
 ck (0 ≤ (((x_6 % 256) : Nat) : Int) ∧ (((x_6 % 256) : Nat) : Int) < ((((aY aBJ).length) : Nat) : Int)) (ck (I64 (n_7 + ((((aY aBJ).getD (x_6 % 256) (0 : Nat)) : Nat) : Int))) (some (n_7 + ((((aY aBJ).getD (x_6 % 256) (0 : Nat)) : Nat) : Int))))
noncomputable def nQ (F : Md) (x_4 : Nat) (n_5 : Int) : Option (Int) :=
 if (256 : Nat) ≤ x_4 then ck (I64 (n_5 + (8 : Int))) (nP F (x_4 / (256 : Nat)) (n_5 + (8 : Int))) else nP F x_4 n_5
noncomputable def nR (F : Md) (x_2 : Nat) (n_3 : Int) : Option (Int) :=
 if (65536 : Nat) ≤ x_2 then ck (I64 (n_3 + (16 : Int))) (nQ F (x_2 / (65536 : Nat)) (n_3 + (16 : Int))) else nQ F x_2 n_3
noncomputable def xF (F : Md) (x_0 : Nat) : Option Int :=
 if (4294967296 : Nat) ≤ x_0 then nR F (x_0 / (4294967296 : Nat)) (32 : Int) else nR F x_0 (0 : Int)
def aDY : PlR := ⟨[(0, .A [0, 2]), (1, .A [0, 2, 4]), (2, .A [0]), (3, .A [0, 2]), (4, .A [0, 2, 8]), (5, .A [0, 2]), (6, .A [0, 2]), (7, .A [0, 2, 14]), (8, .A [0, 2]), (9, .A [0, 2]), (10, .A [2])], [(4, 7), (7, 10), (10, 13)]⟩
def aFx : Ty := .pair (.u .u64) .unit
noncomputable def vG (F : Md) : aG := mSpec aFx (.one (.i .i64)) (fun x => xF F x.1)
noncomputable def aL3 (F : Md) : List (FuncId × aG) := []
theorem aL4 (F : Md) : bI Tryz.prog GL (aL3 F) := .nil
attribute [go_sem] aFx aDY
set_option maxHeartbeats 4000000 in
theorem aKJ (F : Md) : FOK Tryz.prog GL 235 (vG F) := by
 refine bK (bD (aL4 F)) mix Tryz.func235 rfl (by kernel_rfl) (by decide) aDY fun w0 S x Θ hw h hF => ?_
 obtain ⟨(x_0 : Nat), u⟩ := x
 simp only [bP, go_sem]
 replace h : sat (xF F x_0) _ := h
 unfold xF at h
 refine eE hF (D := Nat × Int) (fun d => sat (nR F d.1 d.2) Θ) [] (fun d => [(0, .val (.u .u64) d.1), (2, .val (.i .i64) d.2)]) (fun d => []) ?_ ?_
 ·simp only [go_sem]
  refine dU h (fun hc h => ?_) fun hc h => ?_
  ·exact aQ (((x_0 / (4294967296 : Nat)), (32 : Int))) h rfl (by simp only [go_sem])
  ·exact aQ ((x_0, (0 : Int))) h rfl (by simp only [go_sem])
 ·rintro ⟨x_2, n_3⟩ h
  simp only [go_sem]
  replace h : sat (nR F x_2 n_3) _ := h
  unfold nR at h
  refine eE hF (D := Nat × Int) (fun d => sat (nQ F d.1 d.2) Θ) [] (fun d => [(0, .val (.u .u64) d.1), (2, .val (.i .i64) d.2)]) (fun d => []) ?_ ?_
  ·simp only [go_sem]
   refine dU h (fun hc h => ?_) fun hc h => ?_
   ·refine aU h fun g0 h => ?_
    exact aQ (((x_2 / (65536 : Nat)), (n_3 + (16 : Int)))) h rfl (by simp only [go_sem])
   ·exact aQ ((x_2, n_3)) h rfl (by simp only [go_sem])
  ·rintro ⟨x_4, n_5⟩ h
   simp only [go_sem]
   replace h : sat (nQ F x_4 n_5) _ := h
   unfold nQ at h
   refine eE hF (D := Nat × Int) (fun d => sat (nP F d.1 d.2) Θ) [] (fun d => [(0, .val (.u .u64) d.1), (2, .val (.i .i64) d.2)]) (fun d => []) ?_ ?_
   ·simp only [go_sem]
    refine dU h (fun hc h => ?_) fun hc h => ?_
    ·refine aU h fun g0 h => ?_
     exact aQ (((x_4 / (256 : Nat)), (n_5 + (8 : Int)))) h rfl (by simp only [go_sem])
    ·exact aQ ((x_4, n_5)) h rfl (by simp only [go_sem])
   ·rintro ⟨x_6, n_7⟩ h
    simp only [go_sem]
    replace h : sat (nP F x_6 n_7) _ := h
    unfold nP at h
    refine aU h fun g0 h => aU h fun g1 h => ?_
    exact aH hF [.tmp 2] rfl rfl rfl (aA h) (by simp only [aV, go_sem])
attribute [go_sem] vG
noncomputable def bQ (F : Md) (x_0 : Nat) : Option Int :=
 (xF F x_0).bind (fun v_5 => ck (I64 ((64 : Int) - v_5)) (some ((64 : Int) - v_5)))
def sY : PlR := ⟨[(0, .A [0]), (1, .A [2])], []⟩
def uI : Ty := .pair (.u .u64) .unit
noncomputable def dQ (F : Md) : aG := mSpec uI (.one (.i .i64)) (fun x => bQ F x.1)
noncomputable def uJ (F : Md) : List (FuncId × aG) := [(235, (vG F))]
theorem aCv (F : Md) : bI Tryz.prog GL (uJ F) := .cons (aKJ F) (by kernel_rfl) (.nil)
theorem zS (F : Md) : gam (uJ F) 235 = some (vG F) := rfl
attribute [go_sem] uI sY zS
set_option maxHeartbeats 4000000 in
theorem nD (F : Md) : FOK Tryz.prog GL 188 (dQ F) := by
 refine bK (bD (aCv F)) mix Tryz.func188 rfl (by kernel_rfl) (by decide) sY fun w0 S x Θ hw h hF => ?_
 obtain ⟨(x_0 : Nat), u⟩ := x
 simp only [bP, go_sem]
 replace h : sat (bQ F x_0) _ := h
 unfold bQ at h
 obtain ⟨v_5, hv, h⟩ := aL h
 try simp only [hv, go_sem]
 refine aU h fun g0 h => ?_
 exact aH hF [.tmp 2] rfl rfl rfl (aA h) (by simp only [aV, go_sem])
attribute [go_sem] dQ
noncomputable def kF (F : Md) (x_0 : Nat) : Option Int :=
 if x_0 = (0 : Nat) then some (64 : Int) else ck (0 ≤ ((((mulM F .u64 (x_0 &&& (aNK F .u64 x_0)) (285870213051353865 : Nat)) / (288230376151711744 : Nat)) : Nat) : Int) ∧ ((((mulM F .u64 (x_0 &&& (aNK F .u64 x_0)) (285870213051353865 : Nat)) / (288230376151711744 : Nat)) : Nat) : Int) < (64 : Int)) (some (((aQO.getD ((mulM F .u64 (x_0 &&& (aNK F .u64 x_0)) (285870213051353865 : Nat)) / (288230376151711744 : Nat)) (0 : Nat)) : Nat) : Int))
def rY : PlR := ⟨[(0, .A [0]), (1, .A [0, 4]), (2, .A [2]), (3, .A [2])], []⟩
def sZ : Ty := .pair (.u .u64) .unit
noncomputable def jH (F : Md) : aG := mSpec sZ (.one (.i .i64)) (fun x => kF F x.1)
noncomputable def aBK (F : Md) : List (FuncId × aG) := []
theorem aBL (F : Md) : bI Tryz.prog GL (aBK F) := .nil
attribute [go_sem] sZ rY
set_option maxHeartbeats 4000000 in
theorem aA0 (F : Md) : FOK Tryz.prog GL 164 (jH F) := by
 refine bK (bD (aBL F)) mix Tryz.func164 rfl (by kernel_rfl) (by decide) rY fun w0 S x Θ hw h hF => ?_
 obtain ⟨(x_0 : Nat), u⟩ := x
 simp only [bP, go_sem]
 replace h : sat (kF F x_0) _ := h
 unfold kF at h
 refine dU h (fun hc h => ?_) fun hc h => ?_
 ·exact aH hF [.tmp 2] rfl rfl rfl (aA h) (by simp only [aV, go_sem, aI F, aJ F, aK F])
 ·obtain ⟨g0, h⟩ := aM h
  repeat (refine ⟨by first | with_reducible assumption | omega | (intros; first | with_reducible assumption | omega) | (simp only [go_sem, aI F, aJ F, aK F] at *; first | assumption | omega) | decide, ?_⟩)
  exact aH hF [.tmp 2] rfl rfl rfl (aA h) (by (simp only [aV, go_sem, aI F, aJ F, aK F]) <;> first | rfl | (simp; done))
attribute [go_sem] jH
noncomputable def cG (F : Md) (x_0 : Nat) (y_1 : Nat) : Option (Nat × (Nat × Unit)) :=
 some ((((((mulM F .u64 (x_0 / (4294967296 : Nat)) (y_1 / (4294967296 : Nat))) + ((((mulM F .u64 (x_0 / (4294967296 : Nat)) (y_1 &&& (4294967295 : Nat))) + ((mulM F .u64 (x_0 &&& (4294967295 : Nat)) (y_1 &&& (4294967295 : Nat))) / (4294967296 : Nat))) % 18446744073709551616) / (4294967296 : Nat))) % 18446744073709551616) + (((((((mulM F .u64 (x_0 / (4294967296 : Nat)) (y_1 &&& (4294967295 : Nat))) + ((mulM F .u64 (x_0 &&& (4294967295 : Nat)) (y_1 &&& (4294967295 : Nat))) / (4294967296 : Nat))) % 18446744073709551616) &&& (4294967295 : Nat)) + (mulM F .u64 (x_0 &&& (4294967295 : Nat)) (y_1 / (4294967296 : Nat)))) % 18446744073709551616) / (4294967296 : Nat))) % 18446744073709551616), (mulM F .u64 x_0 y_1), ())
def aDZ : PlR := ⟨[(0, .A [0, 1]), (1, .A [0, 1, 6]), (2, .A [0, 1, 6, 7]), (3, .A [0, 1, 6, 7, 8]), (4, .A [0, 1, 6, 7, 8, 9]), (5, .A [0, 1, 6, 7, 8, 9, 10]), (6, .A [0, 1, 6, 7, 9, 11]), (7, .A [0, 1, 6, 7, 9, 11, 12]), (8, .A [0, 1, 6, 7, 9, 12, 13]), (9, .A [0, 1, 7, 9, 12, 13]), (10, .A [0, 1, 4]), (11, .A [4, 5])], []⟩
def aFy : Ty := .pair (.u .u64) (.pair (.u .u64) .unit)
noncomputable def nY (F : Md) : aG := mSpec aFy (.tup (.pair (.u .u64) (.pair (.u .u64) .unit))) (fun x => cG F x.1 x.2.1)
noncomputable def aL5 (F : Md) : List (FuncId × aG) := []
theorem aL6 (F : Md) : bI Tryz.prog GL (aL5 F) := .nil
attribute [go_sem] aFy aDZ
set_option maxHeartbeats 4000000 in
theorem aD0 (F : Md) : FOK Tryz.prog GL 161 (nY F) := by
 refine bK (bD (aL6 F)) mix Tryz.func161 rfl (by kernel_rfl) (by decide) aDZ fun w0 S x Θ hw h hF => ?_
 obtain ⟨(x_0 : Nat), (y_1 : Nat), u⟩ := x
 simp only [bP, go_sem]
 replace h : sat (cG F x_0 y_1) _ := h
 unfold cG at h
 exact aH hF [.tmp 4, .tmp 5] rfl rfl rfl (aA h) (by simp only [aV, go_sem, aI F, aJ F, aK F])
attribute [go_sem] nY
noncomputable def rE (F : Md) (x15_12 : Nat) (hi_0 : Nat) (v_7 : Int) (lo_1 : Nat) (y_2 : Nat) (x18_17 : Nat) : Option ((Nat × (Nat × Unit))) :=
 some ((((mulM F .u64 x15_12 (4294967296 : Nat)) + x18_17) % 18446744073709551616), ((sX F .u64 (((mulM F .u64 (sX F .u64 (((mulM F .u64 (((hi_0 * (2 ^ ((v_7 % (18446744073709551616 : Int)).toNat))) % 18446744073709551616) ||| (lo_1 / (2 ^ (sX F .u64 (64 : Nat) ((v_7 % (18446744073709551616 : Int)).toNat))))) (4294967296 : Nat)) + (((lo_1 * (2 ^ ((v_7 % (18446744073709551616 : Int)).toNat))) % 18446744073709551616) / (4294967296 : Nat))) % 18446744073709551616) (mulM F .u64 x15_12 ((y_2 * (2 ^ ((v_7 % (18446744073709551616 : Int)).toNat))) % 18446744073709551616))) (4294967296 : Nat)) + (((lo_1 * (2 ^ ((v_7 % (18446744073709551616 : Int)).toNat))) % 18446744073709551616) &&& (4294967295 : Nat))) % 18446744073709551616) (mulM F .u64 x18_17 ((y_2 * (2 ^ ((v_7 % (18446744073709551616 : Int)).toNat))) % 18446744073709551616))) / (2 ^ ((v_7 % (18446744073709551616 : Int)).toNat))), ())
noncomputable def uW (F : Md) (lo_1 : Nat) (v_7 : Int) (y_2 : Nat) (rhat_18 : Nat) (x18_19 : Nat) : Option ((Nat × Nat) ⊕ ((Nat))) :=
 if ((4294967296 : Nat) ≤ x18_19) ∨ ((((mulM F .u64 (4294967296 : Nat) rhat_18) + (((lo_1 * (2 ^ ((v_7 % (18446744073709551616 : Int)).toNat))) % 18446744073709551616) &&& (4294967295 : Nat))) % 18446744073709551616) < (mulM F .u64 x18_19 (((y_2 * (2 ^ ((v_7 % (18446744073709551616 : Int)).toNat))) % 18446744073709551616) &&& (4294967295 : Nat)))) then if (4294967296 : Nat) ≤ ((rhat_18 + (((y_2 * (2 ^ ((v_7 % (18446744073709551616 : Int)).toNat))) % 18446744073709551616) / (4294967296 : Nat))) % 18446744073709551616) then some (.inr (sX F .u64 x18_19 (1 : Nat))) else some (.inl (((rhat_18 + (((y_2 * (2 ^ ((v_7 % (18446744073709551616 : Int)).toNat))) % 18446744073709551616) / (4294967296 : Nat))) % 18446744073709551616), (sX F .u64 x18_19 (1 : Nat)))) else some (.inr x18_19)
noncomputable def rF (F : Md) (y_2 : Nat) (v_7 : Int) (lo_1 : Nat) (hi_0 : Nat) (x15_12 : Nat) : Option ((Nat × (Nat × Unit))) :=
 ck ((((y_2 * (2 ^ ((v_7 % (18446744073709551616 : Int)).toNat))) % 18446744073709551616) / (4294967296 : Nat)) ≠ 0) ((dJ F (fun d : Nat × Nat => uW F lo_1 v_7 y_2 d.1 d.2) ((sX F .u64 (sX F .u64 (((mulM F .u64 (((hi_0 * (2 ^ ((v_7 % (18446744073709551616 : Int)).toNat))) % 18446744073709551616) ||| (lo_1 / (2 ^ (sX F .u64 (64 : Nat) ((v_7 % (18446744073709551616 : Int)).toNat))))) (4294967296 : Nat)) + (((lo_1 * (2 ^ ((v_7 % (18446744073709551616 : Int)).toNat))) % 18446744073709551616) / (4294967296 : Nat))) % 18446744073709551616) (mulM F .u64 x15_12 ((y_2 * (2 ^ ((v_7 % (18446744073709551616 : Int)).toNat))) % 18446744073709551616))) (mulM F .u64 ((sX F .u64 (((mulM F .u64 (((hi_0 * (2 ^ ((v_7 % (18446744073709551616 : Int)).toNat))) % 18446744073709551616) ||| (lo_1 / (2 ^ (sX F .u64 (64 : Nat) ((v_7 % (18446744073709551616 : Int)).toNat))))) (4294967296 : Nat)) + (((lo_1 * (2 ^ ((v_7 % (18446744073709551616 : Int)).toNat))) % 18446744073709551616) / (4294967296 : Nat))) % 18446744073709551616) (mulM F .u64 x15_12 ((y_2 * (2 ^ ((v_7 % (18446744073709551616 : Int)).toNat))) % 18446744073709551616))) / (((y_2 * (2 ^ ((v_7 % (18446744073709551616 : Int)).toNat))) % 18446744073709551616) / (4294967296 : Nat))) (((y_2 * (2 ^ ((v_7 % (18446744073709551616 : Int)).toNat))) % 18446744073709551616) / (4294967296 : Nat)))), ((sX F .u64 (((mulM F .u64 (((hi_0 * (2 ^ ((v_7 % (18446744073709551616 : Int)).toNat))) % 18446744073709551616) ||| (lo_1 / (2 ^ (sX F .u64 (64 : Nat) ((v_7 % (18446744073709551616 : Int)).toNat))))) (4294967296 : Nat)) + (((lo_1 * (2 ^ ((v_7 % (18446744073709551616 : Int)).toNat))) % 18446744073709551616) / (4294967296 : Nat))) % 18446744073709551616) (mulM F .u64 x15_12 ((y_2 * (2 ^ ((v_7 % (18446744073709551616 : Int)).toNat))) % 18446744073709551616))) / (((y_2 * (2 ^ ((v_7 % (18446744073709551616 : Int)).toNat))) % 18446744073709551616) / (4294967296 : Nat))))).bind (fun e => rE F x15_12 hi_0 v_7 lo_1 y_2 e))
noncomputable def uX (F : Md) (lo_1 : Nat) (v_7 : Int) (y_2 : Nat) (x15_23 : Nat) (rhat_24 : Nat) : Option ((Nat × Nat) ⊕ ((Nat))) :=
 if ((4294967296 : Nat) ≤ x15_23) ∨ ((((mulM F .u64 (4294967296 : Nat) rhat_24) + (((lo_1 * (2 ^ ((v_7 % (18446744073709551616 : Int)).toNat))) % 18446744073709551616) / (4294967296 : Nat))) % 18446744073709551616) < (mulM F .u64 x15_23 (((y_2 * (2 ^ ((v_7 % (18446744073709551616 : Int)).toNat))) % 18446744073709551616) &&& (4294967295 : Nat)))) then if (4294967296 : Nat) ≤ ((rhat_24 + (((y_2 * (2 ^ ((v_7 % (18446744073709551616 : Int)).toNat))) % 18446744073709551616) / (4294967296 : Nat))) % 18446744073709551616) then some (.inr (sX F .u64 x15_23 (1 : Nat))) else some (.inl ((sX F .u64 x15_23 (1 : Nat)), ((rhat_24 + (((y_2 * (2 ^ ((v_7 % (18446744073709551616 : Int)).toNat))) % 18446744073709551616) / (4294967296 : Nat))) % 18446744073709551616))) else some (.inr x15_23)
noncomputable def kG (F : Md) (hi_0 : Nat) (lo_1 : Nat) (y_2 : Nat) : Option (Nat × (Nat × Unit)) :=
 if y_2 = (0 : Nat) then none else if y_2 ≤ hi_0 then none else if hi_0 = (0 : Nat) then ck (y_2 ≠ 0) (ck (y_2 ≠ 0) (some ((lo_1 / y_2), (lo_1 % y_2), ()))) else (bQ F y_2).bind (fun v_7 => ck ((((y_2 * (2 ^ ((v_7 % (18446744073709551616 : Int)).toNat))) % 18446744073709551616) / (4294967296 : Nat)) ≠ 0) ((dJ F (fun d : Nat × Nat => uX F lo_1 v_7 y_2 d.1 d.2) (((((hi_0 * (2 ^ ((v_7 % (18446744073709551616 : Int)).toNat))) % 18446744073709551616) ||| (lo_1 / (2 ^ (sX F .u64 (64 : Nat) ((v_7 % (18446744073709551616 : Int)).toNat))))) / (((y_2 * (2 ^ ((v_7 % (18446744073709551616 : Int)).toNat))) % 18446744073709551616) / (4294967296 : Nat))), (sX F .u64 (((hi_0 * (2 ^ ((v_7 % (18446744073709551616 : Int)).toNat))) % 18446744073709551616) ||| (lo_1 / (2 ^ (sX F .u64 (64 : Nat) ((v_7 % (18446744073709551616 : Int)).toNat))))) (mulM F .u64 ((((hi_0 * (2 ^ ((v_7 % (18446744073709551616 : Int)).toNat))) % 18446744073709551616) ||| (lo_1 / (2 ^ (sX F .u64 (64 : Nat) ((v_7 % (18446744073709551616 : Int)).toNat))))) / (((y_2 * (2 ^ ((v_7 % (18446744073709551616 : Int)).toNat))) % 18446744073709551616) / (4294967296 : Nat))) (((y_2 * (2 ^ ((v_7 % (18446744073709551616 : Int)).toNat))) % 18446744073709551616) / (4294967296 : Nat)))))).bind (fun e => rF F y_2 v_7 lo_1 hi_0 e)))
def aD1 : PlR := ⟨[(0, .A [0, 1, 2]), (1, .A [0, 1, 2, 20]), (2, .stop), (3, .A [0, 1, 2, 24]), (4, .stop), (5, .A [0, 1, 2, 27]), (6, .A [6, 7]), (7, .A [0, 1, 2, 8]), (8, .A [0, 1, 2, 8]), (9, .A [0, 1, 2, 8, 9]), (10, .A [0, 1, 2, 8, 9, 10]), (11, .A [1, 2, 8, 9, 10, 11]), (12, .A [2, 8, 9, 10, 11, 12]), (13, .A [2, 8, 9, 10, 11, 12, 13]), (14, .A [2, 8, 9, 10, 11, 13, 14]), (15, .A [2, 8, 9, 10, 11, 13, 14, 15]), (16, .A [2, 8, 9, 10, 11, 13, 14, 15, 16]), (17, .A [2, 8, 9, 10, 11, 13, 14, 15, 16, 78]), (18, .A [2, 8, 9, 10, 11, 13, 14, 15, 16]), (19, .A [2, 8, 9, 10, 11, 13, 14, 15, 16]), (20, .A [2, 8, 9, 10, 11, 13, 14, 15, 16, 85]), (21, .A [2, 8, 9, 10, 14, 15, 17]), (22, .A [2, 8, 9, 10, 14, 15, 17, 18]), (23, .A [2, 8, 9, 10, 14, 15, 16, 17, 18]), (24, .A [2, 8, 9, 10, 14, 15, 16, 17, 18, 113]), (25, .A [2, 8, 9, 10, 14, 15, 16, 17, 18]), (26, .A [2, 8, 9, 10, 14, 15, 16, 17, 18]), (27, .A [2, 8, 9, 10, 14, 15, 16, 17, 18, 120]), (28, .A [6, 7])], [(20, 24), (27, 31)]⟩
def aFz : Ty := .pair (.u .u64) (.pair (.u .u64) (.pair (.u .u64) .unit))
noncomputable def nZ (F : Md) : aG := mSpec aFz (.tup (.pair (.u .u64) (.pair (.u .u64) .unit))) (fun x => kG F x.1 x.2.1 x.2.2.1)
noncomputable def aFA (F : Md) : List (FuncId × aG) := [(188, (dQ F))]
theorem aL7 (F : Md) : bI Tryz.prog GL (aFA F) := .cons (nD F) (by kernel_rfl) (.nil)
theorem aGL (F : Md) : gam (aFA F) 188 = some (dQ F) := rfl
attribute [go_sem] aFz aD1 aGL
set_option maxHeartbeats 4000000 in
theorem aD2 (F : Md) : FOK Tryz.prog GL 252 (nZ F) := by
 refine bK (bD (aL7 F)) mix Tryz.func252 rfl (by kernel_rfl) (by decide) aD1 fun w0 S x Θ hw h hF => ?_
 obtain ⟨(hi_0 : Nat), (lo_1 : Nat), (y_2 : Nat), u⟩ := x
 simp only [bP, go_sem]
 replace h : sat (kG F hi_0 lo_1 y_2) _ := h
 unfold kG at h
 refine dU h (fun hc h => ?_) fun hc h => ?_
 ·exact aAZ h
 ·refine dU h (fun hc h => ?_) fun hc h => ?_
  ·exact aAZ h
  ·refine dU h (fun hc h => ?_) fun hc h => ?_
   ·refine aU h fun g0 h => aU h fun g1 h => ?_
    exact aH hF [.tmp 6, .tmp 7] rfl rfl rfl (aA h) (by simp only [aV, go_sem, aI F, aJ F, aK F])
   ·obtain ⟨v_7, hv, h⟩ := aL h
    try simp only [hv, go_sem, aI F, aJ F, aK F]
    refine aU h fun g0 h => ?_
    refine eE hF (D := Nat) (fun d => sat (rF F y_2 v_7 lo_1 hi_0 d) Θ) [2, 8, 9, 10, 11, 13, 14] (fun d => [(15, .val (.u .u64) d)]) (fun d => []) ?_ ?_
    ·simp only [go_sem, aI F, aJ F, aK F]
     refine bW hF (D := Nat × Nat) [2, 8, 9, 10, 11, 13, 14] (fun d => [(15, .val (.u .u64) d.1), (16, .val (.u .u64) d.2)]) (fun d => []) h rfl (by simp only [go_sem, aI F, aJ F, aK F]) ?_
     rintro ⟨x15_23, rhat_24⟩ A17 T17 hA17 hE17 h
     simp only [go_sem, aI F, aJ F, aK F]
     replace h : sat (uX F lo_1 v_7 y_2 x15_23 rhat_24) _ := h
     unfold uX at h
     refine ⟨fun hc => ?_, fun hc => ?_⟩
     ·replace h := iV hc h
      refine dU h (fun hc h => ?_) fun hc h => ?_
      ·replace h := hE17 _ (aA h)
       try dsimp only at h
       exact aQ ((sX F .u64 x15_23 (1 : Nat))) h rfl (by simp only [go_sem, aI F, aJ F, aK F])
      ·replace h := hA17 _ (aA h)
       exact aQ _ h rfl (by simp only [go_sem, aI F, aJ F, aK F])
     ·replace h := iW hc h
      replace h := hE17 _ (aA h)
      try dsimp only at h
      exact aQ (x15_23) h rfl (by simp only [go_sem, aI F, aJ F, aK F])
    ·rintro x15_12 h
     simp only [go_sem, aI F, aJ F, aK F]
     replace h : sat (rF F y_2 v_7 lo_1 hi_0 x15_12) _ := h
     unfold rF at h
     refine aU h fun g0 h => ?_
     refine eE hF (D := Nat) (fun d => sat (rE F x15_12 hi_0 v_7 lo_1 y_2 d) Θ) [2, 8, 14, 15, 17] (fun d => [(18, .val (.u .u64) d)]) (fun d => []) ?_ ?_
     ·simp only [go_sem, aI F, aJ F, aK F]
      refine bW hF (D := Nat × Nat) [2, 8, 9, 10, 14, 15, 17] (fun d => [(16, .val (.u .u64) d.1), (18, .val (.u .u64) d.2)]) (fun d => []) h rfl (by simp only [go_sem, aI F, aJ F, aK F]) ?_
      rintro ⟨rhat_18, x18_19⟩ A24 T24 hA24 hE24 h
      simp only [go_sem, aI F, aJ F, aK F]
      replace h : sat (uW F lo_1 v_7 y_2 rhat_18 x18_19) _ := h
      unfold uW at h
      refine ⟨fun hc => ?_, fun hc => ?_⟩
      ·replace h := iV hc h
       refine dU h (fun hc h => ?_) fun hc h => ?_
       ·replace h := hE24 _ (aA h)
        try dsimp only at h
        exact aQ ((sX F .u64 x18_19 (1 : Nat))) h rfl (by simp only [go_sem, aI F, aJ F, aK F])
       ·replace h := hA24 _ (aA h)
        exact aQ _ h rfl (by simp only [go_sem, aI F, aJ F, aK F])
      ·replace h := iW hc h
       replace h := hE24 _ (aA h)
       try dsimp only at h
       exact aQ (x18_19) h rfl (by simp only [go_sem, aI F, aJ F, aK F])
     ·rintro x18_17 h
      simp only [go_sem, aI F, aJ F, aK F]
      replace h : sat (rE F x15_12 hi_0 v_7 lo_1 y_2 x18_17) _ := h
      unfold rE at h
      exact aH hF [.tmp 6, .tmp 7] rfl rfl rfl (aA h) (by simp only [aV, go_sem, aI F, aJ F, aK F])
attribute [go_sem] nZ
noncomputable def aDG (F : Md) (a_0 : (List Nat)) : Option Bool :=
 ck ((¬ ((((a_0.length) : Nat) : Int) = (0 : Int)) → ((((a_0.length) : Nat) : Int) ≤ (64 : Int)) → (I64 ((((a_0.length) : Nat) : Int) - (1 : Int))))) (ck ((¬ ((((a_0.length) : Nat) : Int) = (0 : Int)) → ((((a_0.length) : Nat) : Int) ≤ (64 : Int)) → (0 ≤ ((((a_0.length) : Nat) : Int) - (1 : Int)) ∧ ((((a_0.length) : Nat) : Int) - (1 : Int)) < (((a_0.length) : Nat) : Int)))) (some ((decide ((((a_0.length) : Nat) : Int) = (0 : Int))) || ((decide ((((a_0.length) : Nat) : Int) ≤ (64 : Int))) && (!(decide ((a_0.getD (((((a_0.length) : Nat) : Int) - (1 : Int)).toNat) (0 : Nat)) = (0 : Nat))))))))
def aJN : PlR := ⟨[(0, .A [0]), (1, .A [2])], []⟩
def aLy : Ty := .pair (.sl (.u .u64)) .unit
noncomputable def aBM (F : Md) : aG := mSpec aLy (.one .bool) (fun x => aDG F x.1)
noncomputable def aPo (F : Md) : List (FuncId × aG) := []
theorem aPp (F : Md) : bI Tryz.prog GL (aPo F) := .nil
attribute [go_sem] aLy aJN
set_option maxHeartbeats 4000000 in
theorem aNP (F : Md) : FOK Tryz.prog GL 120 (aBM F) := by
 refine bK (bD (aPp F)) mix Tryz.func120 rfl (by kernel_rfl) (by decide) aJN fun w0 S x Θ hw h hF => ?_
 obtain ⟨(a_0 : (List Nat)), u⟩ := x
 simp only [bP, go_sem]
 replace h : sat (aDG F a_0) _ := h
 unfold aDG at h
 obtain ⟨g0, h⟩ := aM h
 obtain ⟨g1, h⟩ := aM h
 try simp only [I64, I32] at g0
 repeat (refine ⟨by first | with_reducible assumption | omega | (intros; first | with_reducible assumption | omega) | (simp only [go_sem] at *; first | with_reducible assumption | omega) | (intro q0 q1; (try have e0 := g0 (by first | exact q0 | omega | (simpa using q0)) (by first | exact q1 | omega | (simpa using q1))); (try have e1 := g1 (by first | exact q0 | omega | (simpa using q0)) (by first | exact q1 | omega | (simpa using q1))); first | assumption | omega) | (rintro ⟨q0, q1⟩; (try have e0 := g0 (by first | exact q0 | omega | (simpa using q0)) (by first | exact q1 | omega | (simpa using q1))); (try have e1 := g1 (by first | exact q0 | omega | (simpa using q0)) (by first | exact q1 | omega | (simpa using q1))); first | assumption | omega) | decide, ?_⟩)
 exact aH hF [.tmp 2] rfl rfl rfl (aA h) (by simp only [aV, go_sem])
attribute [go_sem] aBM
noncomputable def aAB (F : Md) (a_4 : (List Nat)) : Option (((List Nat)) ⊕ (((List Nat)))) :=
 ck ((((0 : Int) < (((a_4.length) : Nat) : Int)) → (I64 ((((a_4.length) : Nat) : Int) - (1 : Int))))) (ck ((((0 : Int) < (((a_4.length) : Nat) : Int)) → (0 ≤ ((((a_4.length) : Nat) : Int) - (1 : Int)) ∧ ((((a_4.length) : Nat) : Int) - (1 : Int)) < (((a_4.length) : Nat) : Int)))) (if ((0 : Int) < (((a_4.length) : Nat) : Int)) ∧ ((a_4.getD (((((a_4.length) : Nat) : Int) - (1 : Int)).toNat) (0 : Nat)) = (0 : Nat)) then ck (I64 ((((a_4.length) : Nat) : Int) - (1 : Int))) (ck (0 ≤ ((((a_4.length) : Nat) : Int) - (1 : Int)) ∧ ((((a_4.length) : Nat) : Int) - (1 : Int)) ≤ (((a_4.length) : Nat) : Int)) (some (.inl (List.take (((((a_4.length) : Nat) : Int) - (1 : Int)).toNat) a_4)))) else some (.inr a_4)))
noncomputable def gM (F : Md) (a_0 : (List Nat)) : Option (List Nat) :=
 (dJ F (fun d : (List Nat) => aAB F d) a_0).bind (fun e => some e)
def aHs : PlR := ⟨[(0, .A [0]), (1, .A [0, 14]), (2, .A [0]), (3, .A [2])], []⟩
def aJO : Ty := .pair (.sl (.u .u64)) .unit
noncomputable def eL (F : Md) : aG := mSpec aJO (.one (.sl (.u .u64))) (fun x => gM F x.1)
noncomputable def aNQ (F : Md) : List (FuncId × aG) := []
theorem aNR (F : Md) : bI Tryz.prog GL (aNQ F) := .nil
attribute [go_sem] aJO aHs
set_option maxHeartbeats 4000000 in
theorem oU (F : Md) : FOK Tryz.prog GL 163 (eL F) := by
 refine bK (bD (aNR F)) mix Tryz.func163 rfl (by kernel_rfl) (by decide) aHs fun w0 S x Θ hw h hF => ?_
 obtain ⟨(a_0 : (List Nat)), u⟩ := x
 simp only [bP, go_sem]
 replace h : sat (gM F a_0) _ := h
 unfold gM at h
 refine bW hF (D := (List Nat)) [] (fun d => [(0, .val (.sl (.u .u64)) d)]) (fun d => []) h rfl (by simp only [go_sem]) ?_
 rintro a_4 A1 T1 hA1 hE1 h
 simp only [go_sem]
 replace h : sat (aAB F a_4) _ := h
 unfold aAB at h
 refine aU h fun g0 h => aU h fun g1 h => ?_
 refine ⟨fun hc => ?_, fun hc => ?_⟩
 ·replace h := iV hc h
  refine aU h fun g0 h => aU h fun g1 h => ?_
  replace h := hA1 _ (aA h)
  exact aQ _ h rfl (by simp only [go_sem])
 ·replace h := iW hc h
  replace h := hE1 _ (aA h)
  try dsimp only at h
  exact aH hF [.tmp 2] rfl rfl rfl (aA h) (by simp only [aV, go_sem])
attribute [go_sem] eL
noncomputable def yS (F : Md) (less_0 : Bool) : Option Int :=
 if less_0 = true then some (-1 : Int) else some (1 : Int)
def aHt : PlR := ⟨[(0, .A [0]), (1, .A [3]), (2, .A [2]), (3, .A [2])], []⟩
def aJP : Ty := .pair .bool .unit
noncomputable def aAc (F : Md) : aG := mSpec aJP (.one (.i .i64)) (fun x => yS F x.1)
noncomputable def aNS (F : Md) : List (FuncId × aG) := []
theorem aNT (F : Md) : bI Tryz.prog GL (aNS F) := .nil
attribute [go_sem] aJP aHt
set_option maxHeartbeats 4000000 in
theorem aM3 (F : Md) : FOK Tryz.prog GL 189 (aAc F) := by
 refine bK (bD (aNT F)) mix Tryz.func189 rfl (by kernel_rfl) (by decide) aHt fun w0 S x Θ hw h hF => ?_
 obtain ⟨(less_0 : Bool), u⟩ := x
 simp only [bP, go_sem]
 replace h : sat (yS F less_0) _ := h
 unfold yS at h
 refine aHr h (fun hc h => ?_) fun hc h => ?_
 ·exact aH hF [.tmp 2] rfl rfl rfl (aA h) (by simp only [aV, go_sem])
 ·exact aH hF [.tmp 2] rfl rfl rfl (aA h) (by simp only [aV, go_sem])
attribute [go_sem] aAc
noncomputable def yT (F : Md) (a_0 : (List Nat)) (b_1 : (List Nat)) (i_20 : Int) : Option ((Int) ⊕ ((Unit) ⊕ Int)) :=
 if (0 : Int) ≤ i_20 then ck (0 ≤ i_20 ∧ i_20 < (((a_0.length) : Nat) : Int)) (ck (0 ≤ i_20 ∧ i_20 < (((b_1.length) : Nat) : Int)) (if ¬ ((a_0.getD (i_20.toNat) (0 : Nat)) = (b_1.getD (i_20.toNat) (0 : Nat))) then ck (0 ≤ i_20 ∧ i_20 < (((a_0.length) : Nat) : Int)) (ck (0 ≤ i_20 ∧ i_20 < (((b_1.length) : Nat) : Int)) ((yS F (decide ((a_0.getD (i_20.toNat) (0 : Nat)) < (b_1.getD (i_20.toNat) (0 : Nat))))).bind (fun v_33 => some (.inr (.inr v_33))))) else ck (I64 (i_20 - (1 : Int))) (some (.inl (i_20 - (1 : Int)))))) else some (.inr (.inl ()))
noncomputable def oV (F : Md) (a_0 : (List Nat)) (b_1 : (List Nat)) : Option Int :=
 if ¬ ((((a_0.length) : Nat) : Int) = (((b_1.length) : Nat) : Int)) then (yS F (decide ((((a_0.length) : Nat) : Int) < (((b_1.length) : Nat) : Int)))).bind (fun v_8 => some v_8) else ck (I64 ((((a_0.length) : Nat) : Int) - (1 : Int))) ((dJ F (fun d : Int => yT F a_0 b_1 d) ((((a_0.length) : Nat) : Int) - (1 : Int))).bind (fun e => match e with | (.inl e) => some (0 : Int) | (.inr e) => some e))
def aFB : PlR := ⟨[(0, .A [0, 1]), (1, .A [0, 1, 10]), (2, .A [4]), (3, .A [0, 1, 5]), (4, .A [0, 1, 5, 21]), (5, .A [0, 1, 5]), (6, .A [0, 1, 5, 32]), (7, .A [4]), (8, .A [4])], []⟩
def aHu : Ty := .pair (.sl (.u .u64)) (.pair (.sl (.u .u64)) .unit)
noncomputable def lX (F : Md) : aG := mSpec aHu (.one (.i .i64)) (fun x => oV F x.1 x.2.1)
noncomputable def aHv (F : Md) : List (FuncId × aG) := [(189, (aAc F))]
theorem aM4 (F : Md) : bI Tryz.prog GL (aHv F) := .cons (aM3 F) (by kernel_rfl) (.nil)
theorem aH5 (F : Md) : gam (aHv F) 189 = some (aAc F) := rfl
attribute [go_sem] aHu aFB aH5
set_option maxHeartbeats 4000000 in
theorem aBN (F : Md) : FOK Tryz.prog GL 122 (lX F) := by
 refine bK (bD (aM4 F)) mix Tryz.func122 rfl (by kernel_rfl) (by decide) aFB fun w0 S x Θ hw h hF => ?_
 obtain ⟨(a_0 : (List Nat)), (b_1 : (List Nat)), u⟩ := x
 simp only [bP, go_sem]
 replace h : sat (oV F a_0 b_1) _ := h
 unfold oV at h
 refine dU h (fun hc h => ?_) fun hc h => ?_
 ·obtain ⟨v_8, hv, h⟩ := aL h
  try simp only [hv, go_sem]
  exact aH hF [.tmp 4] rfl rfl rfl (aA h) (by simp only [aV, go_sem])
 ·refine aU h fun g0 h => ?_
  refine bW hF (D := Int) [0, 1] (fun d => [(5, .val (.i .i64) d)]) (fun d => []) h rfl (by simp only [go_sem]) ?_
  rintro i_20 A4 T4 hA4 hE4 h
  simp only [go_sem]
  replace h : sat (yT F a_0 b_1 i_20) _ := h
  unfold yT at h
  refine aNN h (fun hc h => ?_) fun hc h => ?_
  ·refine aU h fun g0 h => aU h fun g1 h => ?_
   refine dU h (fun hc h => ?_) fun hc h => ?_
   ·refine aU h fun g0 h => aU h fun g1 h => ?_
    obtain ⟨v_33, hv, h⟩ := aL h
    try simp only [hv, go_sem]
    replace h := hE4 _ (aA h)
    try dsimp only at h
    exact aH hF [.tmp 4] rfl rfl rfl (aA h) (by simp only [aV, go_sem])
   ·refine aU h fun g0 h => ?_
    replace h := hA4 _ (aA h)
    exact aQ _ h rfl (by simp only [go_sem])
  ·replace h := hE4 _ (aA h)
   try dsimp only at h
   exact aH hF [.tmp 4] rfl rfl rfl (aA h) (by simp only [aV, go_sem])
attribute [go_sem] lX
noncomputable def yU (F : Md) (a_0 : (List Nat)) : Option Int :=
 if (((a_0.length) : Nat) : Int) = (0 : Int) then some (0 : Int) else ck (I64 ((64 : Int) * (((a_0.length) : Nat) : Int))) (ck (I64 ((((a_0.length) : Nat) : Int) - (1 : Int))) (ck (0 ≤ ((((a_0.length) : Nat) : Int) - (1 : Int)) ∧ ((((a_0.length) : Nat) : Int) - (1 : Int)) < (((a_0.length) : Nat) : Int)) ((bQ F (a_0.getD (((((a_0.length) : Nat) : Int) - (1 : Int)).toNat) (0 : Nat))).bind (fun v_5 => ck (I64 (((64 : Int) * (((a_0.length) : Nat) : Int)) - v_5)) (some (((64 : Int) * (((a_0.length) : Nat) : Int)) - v_5))))))
def aHw : PlR := ⟨[(0, .A [0]), (1, .A [0, 5]), (2, .A [2]), (3, .A [2])], []⟩
def aJQ : Ty := .pair (.sl (.u .u64)) .unit
noncomputable def aAd (F : Md) : aG := mSpec aJQ (.one (.i .i64)) (fun x => yU F x.1)
noncomputable def aJR (F : Md) : List (FuncId × aG) := [(188, (dQ F))]
theorem aNU (F : Md) : bI Tryz.prog GL (aJR F) := .cons (nD F) (by kernel_rfl) (.nil)
theorem aJS (F : Md) : gam (aJR F) 188 = some (dQ F) := rfl
attribute [go_sem] aJQ aHw aJS
set_option maxHeartbeats 4000000 in
theorem aM5 (F : Md) : FOK Tryz.prog GL 121 (aAd F) := by
 refine bK (bD (aNU F)) mix Tryz.func121 rfl (by kernel_rfl) (by decide) aHw fun w0 S x Θ hw h hF => ?_
 obtain ⟨(a_0 : (List Nat)), u⟩ := x
 simp only [bP, go_sem]
 replace h : sat (yU F a_0) _ := h
 unfold yU at h
 refine dU h (fun hc h => ?_) fun hc h => ?_
 ·exact aH hF [.tmp 2] rfl rfl rfl (aA h) (by simp only [aV, go_sem])
 ·refine aU h fun g0 h => aU h fun g1 h => aU h fun g2 h => ?_
  obtain ⟨v_5, hv, h⟩ := aL h
  try simp only [hv, go_sem]
  refine aU h fun g0 h => ?_
  exact aH hF [.tmp 2] rfl rfl rfl (aA h) (by simp only [aV, go_sem])
attribute [go_sem] aAd
noncomputable def yV (F : Md) (a_0 : (List Nat)) (x7_10 : Int) : Option ((Int) ⊕ ((Unit) ⊕ Int)) :=
 if x7_10 < (((a_0.length) : Nat) : Int) then ck (0 ≤ x7_10 ∧ x7_10 < (((a_0.length) : Nat) : Int)) (if ¬ ((a_0.getD (x7_10.toNat) (0 : Nat)) = (0 : Nat)) then ck (I64 ((64 : Int) * x7_10)) ((kF F (a_0.getD (x7_10.toNat) (0 : Nat))).bind (fun v_19 => ck (I64 (((64 : Int) * x7_10) + v_19)) (some (.inr (.inr (((64 : Int) * x7_10) + v_19)))))) else ck (I64 (x7_10 + (1 : Int))) (some (.inl (x7_10 + (1 : Int))))) else some (.inr (.inl ()))
noncomputable def dR (F : Md) (a_0 : (List Nat)) : Option Int :=
 (dJ F (fun d : Int => yV F a_0 d) (0 : Int)).bind (fun e => match e with | (.inl e) => some (-1 : Int) | (.inr e) => some e)
def aFC : PlR := ⟨[(0, .A [0]), (1, .A [5, 6, 7]), (2, .A [5, 6, 7, 8]), (3, .A [3, 4, 5, 6, 7]), (4, .A [3, 4, 5, 6, 7, 13]), (5, .A [2]), (6, .A [5, 6, 7]), (7, .A [2])], []⟩
def aHx : Ty := .pair (.sl (.u .u64)) .unit
noncomputable def xG (F : Md) : aG := mSpec aHx (.one (.i .i64)) (fun x => dR F x.1)
noncomputable def aHy (F : Md) : List (FuncId × aG) := [(164, (jH F))]
theorem aM6 (F : Md) : bI Tryz.prog GL (aHy F) := .cons (aA0 F) (by kernel_rfl) (.nil)
theorem aH6 (F : Md) : gam (aHy F) 164 = some (jH F) := rfl
attribute [go_sem] aHx aFC aH6
set_option maxHeartbeats 4000000 in
theorem aL8 (F : Md) : FOK Tryz.prog GL 98 (xG F) := by
 refine bK (bD (aM6 F)) mix Tryz.func98 rfl (by kernel_rfl) (by decide) aFC fun w0 S x Θ hw h hF => ?_
 obtain ⟨(a_0 : (List Nat)), u⟩ := x
 simp only [bP, go_sem]
 replace h : sat (dR F a_0) _ := h
 unfold dR at h
 refine bW hF (D := Int) [5, 6] (fun d => [(7, .val (.i .i64) d)]) (fun d => []) h rfl (by simp only [go_sem]) ?_
 rintro x7_10 A2 T2 hA2 hE2 h
 simp only [go_sem]
 replace h : sat (yV F a_0 x7_10) _ := h
 unfold yV at h
 refine eI h (fun hc h => ?_) fun hc h => ?_
 ·refine aU h fun g0 h => ?_
  refine dU h (fun hc h => ?_) fun hc h => ?_
  ·refine aU h fun g0 h => ?_
   obtain ⟨v_19, hv, h⟩ := aL h
   try simp only [hv, go_sem]
   refine aU h fun g0 h => ?_
   replace h := hE2 _ (aA h)
   try dsimp only at h
   exact aH hF [.tmp 2] rfl rfl rfl (aA h) (by simp only [aV, go_sem])
  ·refine aU h fun g0 h => ?_
   replace h := hA2 _ (aA h)
   exact aQ _ h rfl (by simp only [go_sem])
 ·replace h := hE2 _ (aA h)
  try dsimp only at h
  exact aH hF [.tmp 2] rfl rfl rfl (aA h) (by simp only [aV, go_sem])
attribute [go_sem] xG
noncomputable def yW (F : Md) (a_0 : (List Nat)) : Option (List Nat) :=
 (gM F a_0).bind (fun v_3 => ck ((aQQ v_3)) (some (id v_3)))
def aHz : PlR := ⟨[(0, .A [0]), (1, .B [2])], []⟩
def aJT : Ty := .pair (.sl (.u .u64)) .unit
noncomputable def rZ (F : Md) : aG := mSpec aJT (.one (.sl (.u .u64))) (fun x => yW F x.1)
noncomputable def aEC (F : Md) : List (FuncId × aG) := [(163, (eL F)), (165, cF)]
theorem aNV (F : Md) : bI Tryz.prog GL (aEC F) := .cons (oU F) (by kernel_rfl) (.cons kE (by kernel_rfl) (.nil))
theorem aJU (F : Md) : gam (aEC F) 163 = some (eL F) := rfl
theorem aJV (F : Md) : gam (aEC F) 165 = some cF := rfl
attribute [go_sem] aJT aHz aJU aJV
set_option maxHeartbeats 4000000 in
theorem aHA (F : Md) : FOK Tryz.prog GL 231 (rZ F) := by
 refine bK (bD (aNV F)) mix Tryz.func231 rfl (by kernel_rfl) (by decide) aHz fun w0 S x Θ hw h hF => ?_
 obtain ⟨(a_0 : (List Nat)), u⟩ := x
 simp only [bP, go_sem]
 replace h : sat (yW F a_0) _ := h
 unfold yW at h
 obtain ⟨v_3, hv, h⟩ := aL h
 try simp only [hv, go_sem]
 refine aU h fun g0 h => ?_
 exact aH hF [.tmp 2] rfl rfl rfl (aA h) (by simp only [aV, go_sem])
attribute [go_sem] rZ
noncomputable def qL (F : Md) (x22_13 : Int) (out_14 : (List Nat)) (carry_12 : Nat) (x_21 : Nat) : Option ((Nat × Int × (List Nat)) ⊕ (((List Nat)))) :=
 ck (0 ≤ x22_13 ∧ x22_13 < (((out_14.length) : Nat) : Int)) (ck ((yR (out_14.getD (x22_13.toNat) (0 : Nat)) x_21 carry_12)) (ck (0 ≤ x22_13 ∧ x22_13 < (((out_14.length) : Nat) : Int)) (ck (I64 (x22_13 + (1 : Int))) (some (.inl ((((iE (out_14.getD (x22_13.toNat) (0 : Nat)) x_21 carry_12).2).1), (x22_13 + (1 : Int)), (out_14.set (x22_13.toNat) ((iE (out_14.getD (x22_13.toNat) (0 : Nat)) x_21 carry_12).1))))))))
noncomputable def aAC (F : Md) (a_3 : (List Nat)) (b_4 : (List Nat)) (carry_12 : Nat) (x22_13 : Int) (out_14 : (List Nat)) : Option ((Nat × Int × (List Nat)) ⊕ (((List Nat)))) :=
 if x22_13 < (((((id a_3) ++ ([0] : List Nat)).length) : Nat) : Int) then if x22_13 < (((b_4.length) : Nat) : Int) then ck (0 ≤ x22_13 ∧ x22_13 < (((b_4.length) : Nat) : Int)) (qL F x22_13 out_14 carry_12 (b_4.getD (x22_13.toNat) (0 : Nat))) else if carry_12 = (0 : Nat) then some (.inr out_14) else qL F x22_13 out_14 carry_12 (0 : Nat) else some (.inr out_14)
noncomputable def qM (F : Md) (a_3 : (List Nat)) (b_4 : (List Nat)) : Option ((List Nat)) :=
 ck ((aQQ a_3)) (ck ((((id a_3).length) + (1 : Nat)) * 8 ≤ 140737488355328) ((dJ F (fun d : Nat × Int × (List Nat) => aAC F a_3 b_4 d.1 d.2.1 d.2.2) ((0 : Nat), (0 : Int), ((id a_3) ++ ([0] : List Nat)))).bind (fun e => (gM F e).bind (fun v_27 => some v_27))))
noncomputable def aBO (F : Md) (a_0 : (List Nat)) (b_1 : (List Nat)) : Option (List Nat) :=
 if (((a_0.length) : Nat) : Int) < (((b_1.length) : Nat) : Int) then qM F b_1 a_0 else qM F a_0 b_1
def aHB : PlR := ⟨[(0, .A [0, 1]), (1, .A [0, 1, 13]), (2, .A [0, 1]), (3, .B [1, 5]), (4, .A [1, 5, 6]), (5, .A [1, 5, 6, 21, 22]), (6, .A [1, 5, 6, 21, 22, 23]), (7, .A [1, 5, 6, 7, 21, 22]), (8, .A [1, 5, 6, 7, 8, 21, 22]), (9, .A [1, 5, 6, 7, 8, 21, 22, 25]), (10, .A [1, 5, 6, 7, 8, 21, 22]), (11, .A [1, 5, 6, 7, 8, 21, 22, 34]), (12, .B [1, 5, 6, 21, 22]), (13, .A [1, 5, 6, 21, 22]), (14, .B [4])], [(4, 6), (12, 15)]⟩
def aJW : Ty := .pair (.sl (.u .u64)) (.pair (.sl (.u .u64)) .unit)
noncomputable def aAe (F : Md) : aG := mSpec aJW (.one (.sl (.u .u64))) (fun x => aBO F x.1 x.2.1)
noncomputable def aBP (F : Md) : List (FuncId × aG) := [(162, kR), (163, (eL F)), (165, cF)]
theorem aNW (F : Md) : bI Tryz.prog GL (aBP F) := .nat aAA (.cons (oU F) (by kernel_rfl) (.cons kE (by kernel_rfl) (.nil)))
theorem aJX (F : Md) : gam (aBP F) 162 = some kR := rfl
theorem aJY (F : Md) : gam (aBP F) 163 = some (eL F) := rfl
theorem aJZ (F : Md) : gam (aBP F) 165 = some cF := rfl
attribute [go_sem] aJW aHB aJX aJY aJZ
set_option maxHeartbeats 4000000 in
theorem aM7 (F : Md) : FOK Tryz.prog GL 99 (aAe F) := by
 refine bK (bD (aNW F)) mix Tryz.func99 rfl (by kernel_rfl) (by decide) aHB fun w0 S x Θ hw h hF => ?_
 obtain ⟨(a_0 : (List Nat)), (b_1 : (List Nat)), u⟩ := x
 simp only [bP, go_sem]
 replace h : sat (aBO F a_0 b_1) _ := h
 unfold aBO at h
 refine eE hF (D := (List Nat) × (List Nat)) (fun d => sat (qM F d.1 d.2) Θ) [] (fun d => [(0, .val (.sl (.u .u64)) d.1), (1, .val (.sl (.u .u64)) d.2)]) (fun d => []) ?_ ?_
 ·simp only [go_sem]
  refine eI h (fun hc h => ?_) fun hc h => ?_
  ·exact aQ ((b_1, a_0)) h rfl (by simp only [go_sem])
  ·exact aQ ((a_0, b_1)) h rfl (by simp only [go_sem])
 ·rintro ⟨a_3, b_4⟩ h
  simp only [go_sem]
  replace h : sat (qM F a_3 b_4) _ := h
  unfold qM at h
  refine aU h fun g0 h => ?_
  obtain ⟨g0, h⟩ := aM h
  repeat (refine ⟨by omega, ?_⟩)
  refine aDF [1] rfl rfl ?_
  simp only [go_sem]
  refine bW hF (D := Nat × Int × (List Nat)) [1, 21] (fun d => [(5, .own 0), (6, .val (.u .u64) d.1), (22, .val (.i .i64) d.2.1)]) (fun d => [.inr (.row 83 (.u .u64) d.2.2)]) h rfl (by simp only [go_sem]) ?_
  rintro ⟨carry_12, x22_13, out_14⟩ A6 T6 hA6 hE6 h
  simp only [go_sem]
  replace h : sat (aAC F a_3 b_4 carry_12 x22_13 out_14) _ := h
  unfold aAC at h
  refine eI h (fun hc h => ?_) fun hc h => ?_
  ·refine eE hF (D := Nat) (fun d => sat (qL F x22_13 out_14 carry_12 d) T6) [1, 6, 7, 21, 22] (fun d => [(5, .own 0), (8, .val (.u .u64) d)]) (fun d => [.inr (.row 83 (.u .u64) out_14)]) ?_ ?_
   ·simp only [go_sem]
    refine eI h (fun hc h => ?_) fun hc h => ?_
    ·obtain ⟨g0, h⟩ := aM h
     repeat (refine ⟨by omega, ?_⟩)
     exact aQ ((b_4.getD (x22_13.toNat) (0 : Nat))) h rfl (by simp only [go_sem])
    ·refine dU h (fun hc h => ?_) fun hc h => ?_
     ·replace h := hE6 _ (aA h)
      try dsimp only at h
      obtain ⟨v_23, hv, h⟩ := aL h
      try simp only [hv, go_sem]
      exact aH hF [.tmp 4] rfl rfl rfl (aA h) (by simp only [aV, go_sem])
     ·exact aQ ((0 : Nat)) h rfl (by simp only [go_sem])
   ·rintro x_21 h
    simp only [go_sem]
    replace h : sat (qL F x22_13 out_14 carry_12 x_21) _ := h
    unfold qL at h
    obtain ⟨g0, h⟩ := aM h
    repeat (refine ⟨by omega, ?_⟩)
    obtain ⟨g0, h⟩ := aM h
    repeat (refine ⟨by omega, ?_⟩)
    obtain ⟨g0, h⟩ := aM h
    repeat (refine ⟨by omega, ?_⟩)
    refine aU h fun g0 h => ?_
    replace h := hA6 _ (aA h)
    exact aQ _ h rfl (by simp only [go_sem])
  ·replace h := hE6 _ (aA h)
   try dsimp only at h
   obtain ⟨v_25, hv, h⟩ := aL h
   try simp only [hv, go_sem]
   exact aH hF [.tmp 4] rfl rfl rfl (aA h) (by simp only [aV, go_sem])
attribute [go_sem] aAe
noncomputable def tA (F : Md) (x22_46 : Int) (b_1 : (List Nat)) (carry_86 : Nat) (out_87 : (List Nat)) : Option ((Int × (List Nat)) ⊕ (((List Nat)))) :=
 ck (I64 (x22_46 + (((b_1.length) : Nat) : Int))) (ck (0 ≤ (x22_46 + (((b_1.length) : Nat) : Int)) ∧ (x22_46 + (((b_1.length) : Nat) : Int)) < (((out_87.length) : Nat) : Int)) (ck (I64 (x22_46 + (1 : Int))) (some (.inl ((x22_46 + (1 : Int)), (out_87.set ((x22_46 + (((b_1.length) : Nat) : Int)).toNat) carry_86))))))
noncomputable def yX (F : Md) (b_1 : (List Nat)) (a_0 : (List Nat)) (x22_46 : Int) (carry_90 : Nat) (x29_91 : Int) (out_92 : (List Nat)) : Option ((Nat × Int × (List Nat)) ⊕ ((Nat × (List Nat)))) :=
 if x29_91 < (((b_1.length) : Nat) : Int) then ck (0 ≤ x29_91 ∧ x29_91 < (((b_1.length) : Nat) : Int)) ((cG F (a_0.getD (x22_46.toNat) (0 : Nat)) (b_1.getD (x29_91.toNat) (0 : Nat))).bind (fun v_105 => ck ((yR ((v_105.2).1) carry_90 (0 : Nat))) (ck (I64 (x22_46 + x29_91)) (ck (I64 (x22_46 + x29_91)) (ck (0 ≤ (x22_46 + x29_91) ∧ (x22_46 + x29_91) < (((out_92.length) : Nat) : Int)) (ck ((yR (out_92.getD ((x22_46 + x29_91).toNat) (0 : Nat)) ((iE ((v_105.2).1) carry_90 (0 : Nat)).1) (0 : Nat))) (ck (0 ≤ (x22_46 + x29_91) ∧ (x22_46 + x29_91) < (((out_92.length) : Nat) : Int)) (ck (I64 (x29_91 + (1 : Int))) (some (.inl ((((((v_105.1) + (((iE ((v_105.2).1) carry_90 (0 : Nat)).2).1)) % 18446744073709551616) + (((iE (out_92.getD ((x22_46 + x29_91).toNat) (0 : Nat)) ((iE ((v_105.2).1) carry_90 (0 : Nat)).1) (0 : Nat)).2).1)) % 18446744073709551616), (x29_91 + (1 : Int)), (out_92.set ((x22_46 + x29_91).toNat) ((iE (out_92.getD ((x22_46 + x29_91).toNat) (0 : Nat)) ((iE ((v_105.2).1) carry_90 (0 : Nat)).1) (0 : Nat)).1))))))))))))) else some (.inr (carry_90, out_92))
noncomputable def yY (F : Md) (a_0 : (List Nat)) (b_1 : (List Nat)) (x22_46 : Int) (out_47 : (List Nat)) : Option ((Int × (List Nat)) ⊕ (((List Nat)))) :=
 if x22_46 < (((a_0.length) : Nat) : Int) then ck (0 ≤ x22_46 ∧ x22_46 < (((a_0.length) : Nat) : Int)) ((dJ F (fun d : Nat × Int × (List Nat) => yX F b_1 a_0 x22_46 d.1 d.2.1 d.2.2) ((0 : Nat), (0 : Int), out_47)).bind (fun e => tA F x22_46 b_1 e.1 e.2)) else some (.inr out_47)
noncomputable def gP (F : Md) (a_0 : (List Nat)) (b_1 : (List Nat)) : Option (List Nat) :=
 ck (I64 ((((a_0.length) : Nat) : Int) + (((b_1.length) : Nat) : Int))) (ck (0 ≤ ((((a_0.length) : Nat) : Int) + (((b_1.length) : Nat) : Int))) (ck ((8 : Int) * ((((a_0.length) : Nat) : Int) + (((b_1.length) : Nat) : Int)) ≤ 281474976710656) ((dJ F (fun d : Int × (List Nat) => yY F a_0 b_1 d.1 d.2) ((0 : Int), (List.replicate (((((a_0.length) : Nat) : Int) + (((b_1.length) : Nat) : Int)).toNat) (0 : Nat)))).bind (fun e => (gM F e).bind (fun v_109 => some v_109)))))
def aFD : PlR := ⟨[(0, .A [0, 1]), (1, .B [0, 1, 5]), (2, .A [1, 5, 20, 21, 22]), (3, .A [1, 5, 20, 21, 22, 23]), (4, .A [1, 5, 6, 7, 20, 21, 22]), (5, .A [1, 5, 6, 7, 8, 20, 21, 22]), (6, .A [1, 5, 6, 7, 8, 20, 21, 22, 27, 28, 29]), (7, .A [1, 5, 6, 7, 8, 20, 21, 22, 27, 28, 29, 30]), (8, .A [1, 5, 6, 7, 8, 9, 10, 20, 21, 22, 27, 28, 29]), (9, .A [1, 5, 6, 7, 8, 9, 11, 12, 20, 21, 22, 27, 28, 29]), (10, .A [1, 5, 6, 7, 8, 9, 11, 12, 20, 21, 22, 27, 28, 29]), (11, .A [1, 5, 6, 7, 9, 11, 12, 13, 20, 21, 22, 27, 28, 29]), (12, .A [1, 5, 6, 7, 9, 11, 12, 20, 21, 22, 27, 28, 29]), (13, .B [1, 5, 6, 7, 11, 13, 20, 21, 22, 27, 28, 29]), (14, .A [1, 5, 6, 7, 8, 20, 21, 22, 27, 28, 29]), (15, .A [1, 5, 6, 7, 8, 20, 21, 22, 27, 28, 29]), (16, .B [1, 5, 20, 21, 22]), (17, .A [1, 5, 20, 21, 22]), (18, .B [4])], [(9, 19)]⟩
def aHC : Ty := .pair (.sl (.u .u64)) (.pair (.sl (.u .u64)) .unit)
noncomputable def eS (F : Md) : aG := mSpec aHC (.one (.sl (.u .u64))) (fun x => gP F x.1 x.2.1)
noncomputable def aAf (F : Md) : List (FuncId × aG) := [(161, (nY F)), (162, kR), (163, (eL F))]
theorem aM8 (F : Md) : bI Tryz.prog GL (aAf F) := .cons (aD0 F) (by kernel_rfl) (.nat aAA (.cons (oU F) (by kernel_rfl) (.nil)))
theorem aH7 (F : Md) : gam (aAf F) 161 = some (nY F) := rfl
theorem aH8 (F : Md) : gam (aAf F) 162 = some kR := rfl
theorem aH9 (F : Md) : gam (aAf F) 163 = some (eL F) := rfl
attribute [go_sem] aHC aFD aH7 aH8 aH9
set_option maxHeartbeats 4000000 in
theorem pG (F : Md) : FOK Tryz.prog GL 94 (eS F) := by
 refine bK (bD (aM8 F)) mix Tryz.func94 rfl (by kernel_rfl) (by decide) aFD fun w0 S x Θ hw h hF => ?_
 obtain ⟨(a_0 : (List Nat)), (b_1 : (List Nat)), u⟩ := x
 simp only [bP, go_sem]
 replace h : sat (gP F a_0 b_1) _ := h
 unfold gP at h
 obtain ⟨g0, h⟩ := aM h
 repeat (refine ⟨by omega, ?_⟩)
 obtain ⟨g0, h⟩ := aM h
 obtain ⟨g1, h⟩ := aM h
 repeat (refine ⟨by omega, ?_⟩)
 refine bW hF (D := Int × (List Nat)) [1, 20, 21] (fun d => [(5, .own 0), (22, .val (.i .i64) d.1)]) (fun d => [.inr (.row 83 (.u .u64) d.2)]) h rfl (by simp only [go_sem]) ?_
 rintro ⟨x22_46, out_47⟩ A3 T3 hA3 hE3 h
 simp only [go_sem]
 replace h : sat (yY F a_0 b_1 x22_46 out_47) _ := h
 unfold yY at h
 refine eI h (fun hc h => ?_) fun hc h => ?_
 ·obtain ⟨g0, h⟩ := aM h
  repeat (refine ⟨by omega, ?_⟩)
  refine eE hF (D := Nat × (List Nat)) (fun d => sat (tA F x22_46 b_1 d.1 d.2) T3) [1, 6, 20, 21, 22] (fun d => [(5, .own 0), (8, .val (.u .u64) d.1)]) (fun d => [.inr (.row 83 (.u .u64) d.2)]) ?_ ?_
  ·simp only [go_sem]
   refine bW hF (D := Nat × Int × (List Nat)) [1, 6, 7, 20, 21, 22, 27, 28] (fun d => [(5, .own 0), (8, .val (.u .u64) d.1), (29, .val (.i .i64) d.2.1)]) (fun d => [.inr (.row 83 (.u .u64) d.2.2)]) h rfl (by simp only [go_sem]) ?_
   rintro ⟨carry_90, x29_91, out_92⟩ A7 T7 hA7 hE7 h
   simp only [go_sem]
   replace h : sat (yX F b_1 a_0 x22_46 carry_90 x29_91 out_92) _ := h
   unfold yX at h
   refine eI h (fun hc h => ?_) fun hc h => ?_
   ·obtain ⟨g0, h⟩ := aM h
    repeat (refine ⟨by omega, ?_⟩)
    obtain ⟨v_105, hv, h⟩ := aL h
    try simp only [hv, go_sem]
    obtain ⟨g0, h⟩ := aM h
    repeat (refine ⟨by omega, ?_⟩)
    obtain ⟨g0, h⟩ := aM h
    repeat (refine ⟨by omega, ?_⟩)
    obtain ⟨g0, h⟩ := aM h
    repeat (refine ⟨by omega, ?_⟩)
    obtain ⟨g0, h⟩ := aM h
    repeat (refine ⟨by omega, ?_⟩)
    obtain ⟨g0, h⟩ := aM h
    repeat (refine ⟨by omega, ?_⟩)
    obtain ⟨g0, h⟩ := aM h
    repeat (refine ⟨by omega, ?_⟩)
    obtain ⟨g0, h⟩ := aM h
    repeat (refine ⟨by omega, ?_⟩)
    replace h := hA7 _ (aA h)
    exact aQ _ h rfl (by simp only [go_sem])
   ·replace h := hE7 _ (aA h)
    try dsimp only at h
    exact aQ ((carry_90, out_92)) h rfl (by simp only [go_sem])
  ·rintro ⟨carry_86, out_87⟩ h
   simp only [go_sem]
   replace h : sat (tA F x22_46 b_1 carry_86 out_87) _ := h
   unfold tA at h
   obtain ⟨g0, h⟩ := aM h
   repeat (refine ⟨by omega, ?_⟩)
   obtain ⟨g0, h⟩ := aM h
   repeat (refine ⟨by omega, ?_⟩)
   obtain ⟨g0, h⟩ := aM h
   try simp only [I64, I32] at g0
   repeat (refine ⟨by first | with_reducible assumption | omega | (intros; first | with_reducible assumption | omega) | (simp only [go_sem] at *; first | with_reducible assumption | omega) | decide, ?_⟩)
   replace h := hA3 _ (aA h)
   exact aQ _ h rfl (by simp only [go_sem])
 ·replace h := hE3 _ (aA h)
  try dsimp only at h
  obtain ⟨v_107, hv, h⟩ := aL h
  try simp only [hv, go_sem]
  exact aH hF [.tmp 4] rfl rfl rfl (aA h) (by simp only [aV, go_sem])
attribute [go_sem] eS
noncomputable def aAD (F : Md) (a_0 : (List Nat)) (n_1 : Int) (x20_7 : Int) (out_8 : (List Nat)) : Option ((Int × (List Nat)) ⊕ (((List Nat)))) :=
 if x20_7 < (((a_0.length) : Nat) : Int) then ck (0 ≤ x20_7 ∧ x20_7 < (((a_0.length) : Nat) : Int)) (ck (I64 (Int.tdiv n_1 (64 : Int))) (ck (I64 ((Int.tdiv n_1 (64 : Int)) + x20_7)) (ck (0 ≤ ((Int.tdiv n_1 (64 : Int)) + x20_7) ∧ ((Int.tdiv n_1 (64 : Int)) + x20_7) < (((out_8.length) : Nat) : Int)) (ck (0 ≤ ((Int.tdiv n_1 (64 : Int)) + x20_7) ∧ ((Int.tdiv n_1 (64 : Int)) + x20_7) < (((out_8.length) : Nat) : Int)) (ck (I64 (Int.tdiv n_1 (64 : Int))) (ck (I64 ((Int.tdiv n_1 (64 : Int)) + x20_7)) (ck (I64 (((Int.tdiv n_1 (64 : Int)) + x20_7) + (1 : Int))) (ck (0 ≤ (((Int.tdiv n_1 (64 : Int)) + x20_7) + (1 : Int)) ∧ (((Int.tdiv n_1 (64 : Int)) + x20_7) + (1 : Int)) < ((((out_8.set (((Int.tdiv n_1 (64 : Int)) + x20_7).toNat) ((out_8.getD (((Int.tdiv n_1 (64 : Int)) + x20_7).toNat) (0 : Nat)) ||| (((a_0.getD (x20_7.toNat) (0 : Nat)) * (2 ^ (((Int.tmod n_1 (64 : Int)) % (18446744073709551616 : Int)).toNat))) % 18446744073709551616))).length) : Nat) : Int)) (ck (I64 ((63 : Int) - (Int.tmod n_1 (64 : Int)))) (ck (0 ≤ (((Int.tdiv n_1 (64 : Int)) + x20_7) + (1 : Int)) ∧ (((Int.tdiv n_1 (64 : Int)) + x20_7) + (1 : Int)) < ((((out_8.set (((Int.tdiv n_1 (64 : Int)) + x20_7).toNat) ((out_8.getD (((Int.tdiv n_1 (64 : Int)) + x20_7).toNat) (0 : Nat)) ||| (((a_0.getD (x20_7.toNat) (0 : Nat)) * (2 ^ (((Int.tmod n_1 (64 : Int)) % (18446744073709551616 : Int)).toNat))) % 18446744073709551616))).length) : Nat) : Int)) (ck (I64 (x20_7 + (1 : Int))) (some (.inl ((x20_7 + (1 : Int)), ((out_8.set (((Int.tdiv n_1 (64 : Int)) + x20_7).toNat) ((out_8.getD (((Int.tdiv n_1 (64 : Int)) + x20_7).toNat) (0 : Nat)) ||| (((a_0.getD (x20_7.toNat) (0 : Nat)) * (2 ^ (((Int.tmod n_1 (64 : Int)) % (18446744073709551616 : Int)).toNat))) % 18446744073709551616))).set ((((Int.tdiv n_1 (64 : Int)) + x20_7) + (1 : Int)).toNat) (((out_8.set (((Int.tdiv n_1 (64 : Int)) + x20_7).toNat) ((out_8.getD (((Int.tdiv n_1 (64 : Int)) + x20_7).toNat) (0 : Nat)) ||| (((a_0.getD (x20_7.toNat) (0 : Nat)) * (2 ^ (((Int.tmod n_1 (64 : Int)) % (18446744073709551616 : Int)).toNat))) % 18446744073709551616))).getD ((((Int.tdiv n_1 (64 : Int)) + x20_7) + (1 : Int)).toNat) (0 : Nat)) ||| (((a_0.getD (x20_7.toNat) (0 : Nat)) / (2 : Nat)) / (2 ^ ((((63 : Int) - (Int.tmod n_1 (64 : Int))) % (18446744073709551616 : Int)).toNat))))))))))))))))))) else some (.inr out_8)
noncomputable def jS (F : Md) (a_0 : (List Nat)) (n_1 : Int) : Option (List Nat) :=
 if (((a_0.length) : Nat) : Int) = (0 : Int) then some ([] : List Nat) else ck (I64 (Int.tdiv n_1 (64 : Int))) (ck (I64 ((Int.tdiv n_1 (64 : Int)) + (((a_0.length) : Nat) : Int))) (ck (I64 (((Int.tdiv n_1 (64 : Int)) + (((a_0.length) : Nat) : Int)) + (1 : Int))) (ck (0 ≤ (((Int.tdiv n_1 (64 : Int)) + (((a_0.length) : Nat) : Int)) + (1 : Int))) (ck ((8 : Int) * (((Int.tdiv n_1 (64 : Int)) + (((a_0.length) : Nat) : Int)) + (1 : Int)) ≤ 281474976710656) ((dJ F (fun d : Int × (List Nat) => aAD F a_0 n_1 d.1 d.2) ((0 : Int), (List.replicate ((((Int.tdiv n_1 (64 : Int)) + (((a_0.length) : Nat) : Int)) + (1 : Int)).toNat) (0 : Nat)))).bind (fun e => (gM F e).bind (fun v_15 => some v_15)))))))
def aHD : PlR := ⟨[(0, .A [0, 1]), (1, .A [0, 1, 10]), (2, .A [4]), (3, .B [0, 1, 5]), (4, .A [1, 5, 18, 19, 20]), (5, .A [1, 5, 18, 19, 20, 21]), (6, .A [1, 5, 6, 7, 18, 19, 20]), (7, .B [1, 5, 6, 7, 18, 19, 20]), (8, .B [1, 5, 18, 19, 20]), (9, .A [1, 5, 18, 19, 20]), (10, .B [4])], []⟩
def aJ0 : Ty := .pair (.sl (.u .u64)) (.pair (.i .i64) .unit)
noncomputable def sA (F : Md) : aG := mSpec aJ0 (.one (.sl (.u .u64))) (fun x => jS F x.1 x.2.1)
noncomputable def aJ1 (F : Md) : List (FuncId × aG) := [(163, (eL F))]
theorem aNX (F : Md) : bI Tryz.prog GL (aJ1 F) := .cons (oU F) (by kernel_rfl) (.nil)
theorem aJ2 (F : Md) : gam (aJ1 F) 163 = some (eL F) := rfl
attribute [go_sem] aJ0 aHD aJ2
set_option maxHeartbeats 4000000 in
theorem aHE (F : Md) : FOK Tryz.prog GL 95 (sA F) := by
 refine bK (bD (aNX F)) mix Tryz.func95 rfl (by kernel_rfl) (by decide) aHD fun w0 S x Θ hw h hF => ?_
 obtain ⟨(a_0 : (List Nat)), (n_1 : Int), u⟩ := x
 simp only [bP, go_sem]
 replace h : sat (jS F a_0 n_1) _ := h
 unfold jS at h
 refine dU h (fun hc h => ?_) fun hc h => ?_
 ·exact aH hF [.tmp 4] rfl rfl rfl (aA h) (by simp only [aV, go_sem])
 ·obtain ⟨g0, h⟩ := aM h
  try simp only [I64, I32] at g0
  repeat (refine ⟨by first | with_reducible assumption | omega | (intros; first | with_reducible assumption | omega) | (simp only [go_sem] at *; first | with_reducible assumption | omega) | decide, ?_⟩)
  obtain ⟨g0, h⟩ := aM h
  try simp only [I64, I32] at g0
  repeat (refine ⟨by first | with_reducible assumption | omega | (intros; first | with_reducible assumption | omega) | (simp only [go_sem] at *; first | with_reducible assumption | omega) | decide, ?_⟩)
  obtain ⟨g0, h⟩ := aM h
  try simp only [I64, I32] at g0
  repeat (refine ⟨by first | with_reducible assumption | omega | (intros; first | with_reducible assumption | omega) | (simp only [go_sem] at *; first | with_reducible assumption | omega) | decide, ?_⟩)
  obtain ⟨g0, h⟩ := aM h
  obtain ⟨g1, h⟩ := aM h
  repeat (refine ⟨by first | with_reducible assumption | omega | (intros; first | with_reducible assumption | omega) | (simp only [go_sem] at *; first | with_reducible assumption | omega) | decide, ?_⟩)
  refine bW hF (D := Int × (List Nat)) [1, 18, 19] (fun d => [(5, .own 0), (20, .val (.i .i64) d.1)]) (fun d => [.inr (.row 83 (.u .u64) d.2)]) h rfl (by simp only [go_sem]) ?_
  rintro ⟨x20_7, out_8⟩ A5 T5 hA5 hE5 h
  simp only [go_sem]
  replace h : sat (aAD F a_0 n_1 x20_7 out_8) _ := h
  unfold aAD at h
  refine eI h (fun hc h => ?_) fun hc h => ?_
  ·obtain ⟨g0, h⟩ := aM h
   repeat (refine ⟨by first | with_reducible assumption | omega | (intros; first | with_reducible assumption | omega) | (simp only [go_sem] at *; first | with_reducible assumption | omega) | decide, ?_⟩)
   obtain ⟨g0, h⟩ := aM h
   try simp only [I64, I32] at g0
   repeat (refine ⟨by first | with_reducible assumption | omega | (intros; first | with_reducible assumption | omega) | (simp only [go_sem] at *; first | with_reducible assumption | omega) | decide, ?_⟩)
   obtain ⟨g0, h⟩ := aM h
   try simp only [I64, I32] at g0
   repeat (refine ⟨by first | with_reducible assumption | omega | (intros; first | with_reducible assumption | omega) | (simp only [go_sem] at *; first | with_reducible assumption | omega) | decide, ?_⟩)
   obtain ⟨g0, h⟩ := aM h
   repeat (refine ⟨by first | with_reducible assumption | omega | (intros; first | with_reducible assumption | omega) | (simp only [go_sem] at *; first | with_reducible assumption | omega) | decide, ?_⟩)
   obtain ⟨g0, h⟩ := aM h
   repeat (refine ⟨by first | with_reducible assumption | omega | (intros; first | with_reducible assumption | omega) | (simp only [go_sem] at *; first | with_reducible assumption | omega) | decide, ?_⟩)
   obtain ⟨g0, h⟩ := aM h
   try simp only [I64, I32] at g0
   repeat (refine ⟨by first | with_reducible assumption | omega | (intros; first | with_reducible assumption | omega) | (simp only [go_sem] at *; first | with_reducible assumption | omega) | decide, ?_⟩)
   obtain ⟨g0, h⟩ := aM h
   try simp only [I64, I32] at g0
   repeat (refine ⟨by first | with_reducible assumption | omega | (intros; first | with_reducible assumption | omega) | (simp only [go_sem] at *; first | with_reducible assumption | omega) | decide, ?_⟩)
   obtain ⟨g0, h⟩ := aM h
   try simp only [I64, I32] at g0
   repeat (refine ⟨by first | with_reducible assumption | omega | (intros; first | with_reducible assumption | omega) | (simp only [go_sem] at *; first | with_reducible assumption | omega) | decide, ?_⟩)
   obtain ⟨g0, h⟩ := aM h
   repeat (refine ⟨by first | with_reducible assumption | omega | (intros; first | with_reducible assumption | omega) | (simp only [go_sem] at *; first | with_reducible assumption | omega) | decide, ?_⟩)
   obtain ⟨g0, h⟩ := aM h
   try simp only [I64, I32] at g0
   repeat (refine ⟨by first | with_reducible assumption | omega | (intros; first | with_reducible assumption | omega) | (simp only [go_sem] at *; first | with_reducible assumption | omega) | decide, ?_⟩)
   obtain ⟨g0, h⟩ := aM h
   repeat (refine ⟨by first | with_reducible assumption | omega | (intros; first | with_reducible assumption | omega) | (simp only [go_sem] at *; first | with_reducible assumption | omega) | decide, ?_⟩)
   obtain ⟨g0, h⟩ := aM h
   try simp only [I64, I32] at g0
   repeat (refine ⟨by first | with_reducible assumption | omega | (intros; first | with_reducible assumption | omega) | (simp only [go_sem] at *; first | with_reducible assumption | omega) | decide, ?_⟩)
   replace h := hA5 _ (aA h)
   exact aQ _ h rfl (by (try simp only [fZ, eG, true_or, and_self, go_sem]) <;> (repeat' apply And.intro) <;> first | rfl | (left; rfl) | (right; rfl) | (left; simp only [go_sem]; done) | (right; simp only [go_sem]; done) | (simp; done) | (simp only [*]; done) | omega)
  ·replace h := hE5 _ (aA h)
   try dsimp only at h
   obtain ⟨v_13, hv, h⟩ := aL h
   try simp only [hv, go_sem]
   exact aH hF [.tmp 4] rfl rfl rfl (aA h) (by simp only [aV, go_sem])
attribute [go_sem] sA
noncomputable def yZ (F : Md) (n_1 : Int) (a_0 : (List Nat)) (x22_10 : Int) (out_11 : (List Nat)) : Option ((Int × (List Nat)) ⊕ (((List Nat)))) :=
 if x22_10 < ((((List.drop ((Int.tdiv n_1 (64 : Int)).toNat) a_0).length) : Nat) : Int) then ck (0 ≤ x22_10 ∧ x22_10 < ((((List.drop ((Int.tdiv n_1 (64 : Int)).toNat) a_0).length) : Nat) : Int)) (ck (0 ≤ x22_10 ∧ x22_10 < (((out_11.length) : Nat) : Int)) (ck (I64 (x22_10 + (1 : Int))) (if (x22_10 + (1 : Int)) < ((((List.drop ((Int.tdiv n_1 (64 : Int)).toNat) a_0).length) : Nat) : Int) then ck (0 ≤ x22_10 ∧ x22_10 < ((((out_11.set (x22_10.toNat) (((List.drop ((Int.tdiv n_1 (64 : Int)).toNat) a_0).getD (x22_10.toNat) (0 : Nat)) / (2 ^ (((Int.tmod n_1 (64 : Int)) % (18446744073709551616 : Int)).toNat)))).length) : Nat) : Int)) (ck (I64 (x22_10 + (1 : Int))) (ck (0 ≤ (x22_10 + (1 : Int)) ∧ (x22_10 + (1 : Int)) < ((((List.drop ((Int.tdiv n_1 (64 : Int)).toNat) a_0).length) : Nat) : Int)) (ck (I64 ((63 : Int) - (Int.tmod n_1 (64 : Int)))) (ck (0 ≤ x22_10 ∧ x22_10 < ((((out_11.set (x22_10.toNat) (((List.drop ((Int.tdiv n_1 (64 : Int)).toNat) a_0).getD (x22_10.toNat) (0 : Nat)) / (2 ^ (((Int.tmod n_1 (64 : Int)) % (18446744073709551616 : Int)).toNat)))).length) : Nat) : Int)) (ck (I64 (x22_10 + (1 : Int))) (some (.inl ((x22_10 + (1 : Int)), ((out_11.set (x22_10.toNat) (((List.drop ((Int.tdiv n_1 (64 : Int)).toNat) a_0).getD (x22_10.toNat) (0 : Nat)) / (2 ^ (((Int.tmod n_1 (64 : Int)) % (18446744073709551616 : Int)).toNat)))).set (x22_10.toNat) (((out_11.set (x22_10.toNat) (((List.drop ((Int.tdiv n_1 (64 : Int)).toNat) a_0).getD (x22_10.toNat) (0 : Nat)) / (2 ^ (((Int.tmod n_1 (64 : Int)) % (18446744073709551616 : Int)).toNat)))).getD (x22_10.toNat) (0 : Nat)) ||| ((((((List.drop ((Int.tdiv n_1 (64 : Int)).toNat) a_0).getD ((x22_10 + (1 : Int)).toNat) (0 : Nat)) * (2 : Nat)) % 18446744073709551616) * (2 ^ ((((63 : Int) - (Int.tmod n_1 (64 : Int))) % (18446744073709551616 : Int)).toNat))) % 18446744073709551616))))))))))) else ck (I64 (x22_10 + (1 : Int))) (some (.inl ((x22_10 + (1 : Int)), (out_11.set (x22_10.toNat) (((List.drop ((Int.tdiv n_1 (64 : Int)).toNat) a_0).getD (x22_10.toNat) (0 : Nat)) / (2 ^ (((Int.tmod n_1 (64 : Int)) % (18446744073709551616 : Int)).toNat)))))))))) else some (.inr out_11)
noncomputable def kS (F : Md) (a_0 : (List Nat)) (n_1 : Int) : Option (List Nat) :=
 ck (I64 (Int.tdiv n_1 (64 : Int))) (if (((a_0.length) : Nat) : Int) ≤ (Int.tdiv n_1 (64 : Int)) then some ([] : List Nat) else ck (I64 (Int.tdiv n_1 (64 : Int))) (ck (0 ≤ (Int.tdiv n_1 (64 : Int)) ∧ (Int.tdiv n_1 (64 : Int)) ≤ (((a_0.length) : Nat) : Int)) (ck (0 ≤ ((((List.drop ((Int.tdiv n_1 (64 : Int)).toNat) a_0).length) : Nat) : Int)) (ck ((8 : Int) * ((((List.drop ((Int.tdiv n_1 (64 : Int)).toNat) a_0).length) : Nat) : Int) ≤ 281474976710656) ((dJ F (fun d : Int × (List Nat) => yZ F n_1 a_0 d.1 d.2) ((0 : Int), (List.replicate ((List.drop ((Int.tdiv n_1 (64 : Int)).toNat) a_0).length) (0 : Nat)))).bind (fun e => (gM F e).bind (fun v_19 => some v_19)))))))
def aFE : PlR := ⟨[(0, .A [0, 1]), (1, .A [0, 1, 12]), (2, .A [4]), (3, .A [0, 1]), (4, .B [0, 1, 5]), (5, .A [0, 1, 5, 20, 21, 22]), (6, .A [0, 1, 5, 20, 21, 22, 23]), (7, .A [0, 1, 5, 6, 7, 20, 21, 22]), (8, .B [0, 1, 5, 6, 20, 21, 22]), (9, .A [0, 1, 5, 6, 20, 21, 22, 39]), (10, .C 17 [0, 1, 5, 20, 21, 22]), (11, .A [0, 1, 5, 20, 21, 22]), (12, .B [4])], []⟩
def aHF : Ty := .pair (.sl (.u .u64)) (.pair (.i .i64) .unit)
noncomputable def pH (F : Md) : aG := mSpec aHF (.one (.sl (.u .u64))) (fun x => kS F x.1 x.2.1)
noncomputable def aHG (F : Md) : List (FuncId × aG) := [(163, (eL F))]
theorem aM9 (F : Md) : bI Tryz.prog GL (aHG F) := .cons (oU F) (by kernel_rfl) (.nil)
theorem aIa (F : Md) : gam (aHG F) 163 = some (eL F) := rfl
attribute [go_sem] aHF aFE aIa
set_option maxHeartbeats 4000000 in
theorem aFF (F : Md) : FOK Tryz.prog GL 97 (pH F) := by
 refine bK (bD (aM9 F)) mix Tryz.func97 rfl (by kernel_rfl) (by decide) aFE fun w0 S x Θ hw h hF => ?_
 obtain ⟨(a_0 : (List Nat)), (n_1 : Int), u⟩ := x
 simp only [bP, go_sem]
 replace h : sat (kS F a_0 n_1) _ := h
 unfold kS at h
 obtain ⟨g0, h⟩ := aM h
 try simp only [I64, I32] at g0
 repeat (refine ⟨by first | with_reducible assumption | omega | (intros; first | with_reducible assumption | omega) | (simp only [go_sem] at *; first | with_reducible assumption | omega) | decide, ?_⟩)
 refine aNN h (fun hc h => ?_) fun hc h => ?_
 ·exact aH hF [.tmp 4] rfl rfl rfl (aA h) (by simp only [aV, go_sem])
 ·obtain ⟨g0, h⟩ := aM h
  obtain ⟨g1, h⟩ := aM h
  try simp only [I64, I32] at g0
  repeat (refine ⟨by first | with_reducible assumption | omega | (intros; first | with_reducible assumption | omega) | (simp only [go_sem] at *; first | with_reducible assumption | omega) | decide, ?_⟩)
  obtain ⟨g0, h⟩ := aM h
  obtain ⟨g1, h⟩ := aM h
  repeat (refine ⟨by first | with_reducible assumption | omega | (intros; first | with_reducible assumption | omega) | (simp only [go_sem] at *; first | with_reducible assumption | omega) | decide, ?_⟩)
  refine bW hF (D := Int × (List Nat)) [0, 1, 20, 21] (fun d => [(5, .own 0), (22, .val (.i .i64) d.1)]) (fun d => [.inr (.row 83 (.u .u64) d.2)]) h rfl (by simp only [go_sem]) ?_
  rintro ⟨x22_10, out_11⟩ A6 T6 hA6 hE6 h
  simp only [go_sem]
  replace h : sat (yZ F n_1 a_0 x22_10 out_11) _ := h
  unfold yZ at h
  refine eI h (fun hc h => ?_) fun hc h => ?_
  ·obtain ⟨g0, h⟩ := aM h
   repeat (refine ⟨by first | with_reducible assumption | omega | (intros; first | with_reducible assumption | omega) | (simp only [go_sem] at *; first | with_reducible assumption | omega) | decide, ?_⟩)
   obtain ⟨g0, h⟩ := aM h
   repeat (refine ⟨by first | with_reducible assumption | omega | (intros; first | with_reducible assumption | omega) | (simp only [go_sem] at *; first | with_reducible assumption | omega) | decide, ?_⟩)
   obtain ⟨g0, h⟩ := aM h
   try simp only [I64, I32] at g0
   repeat (refine ⟨by first | with_reducible assumption | omega | (intros; first | with_reducible assumption | omega) | (simp only [go_sem] at *; first | with_reducible assumption | omega) | decide, ?_⟩)
   refine ⟨fun hc => ?_, fun hc => ?_⟩
   ·replace h := iV hc h
    obtain ⟨g0, h⟩ := aM h
    obtain ⟨g1, h⟩ := aM h
    obtain ⟨g2, h⟩ := aM h
    obtain ⟨g3, h⟩ := aM h
    obtain ⟨g4, h⟩ := aM h
    try simp only [I64, I32] at g1
    try simp only [I64, I32] at g3
    repeat (refine ⟨by first | with_reducible assumption | omega | (intros; first | with_reducible assumption | omega) | (simp only [go_sem] at *; first | with_reducible assumption | omega) | decide, ?_⟩)
    obtain ⟨g0, h⟩ := aM h
    try simp only [I64, I32] at g0
    repeat (refine ⟨by first | with_reducible assumption | omega | (intros; first | with_reducible assumption | omega) | (simp only [go_sem] at *; first | with_reducible assumption | omega) | decide, ?_⟩)
    replace h := hA6 _ (aA h)
    exact aQ _ h rfl (by (try simp only [fZ, eG, true_or, and_self, go_sem]) <;> (repeat' apply And.intro) <;> first | rfl | (left; rfl) | (right; rfl) | (left; simp only [go_sem]; done) | (right; simp only [go_sem]; done) | (simp; done) | (simp only [*]; done) | omega)
   ·replace h := iW (by first | exact hc | omega) h
    obtain ⟨g0, h⟩ := aM h
    try simp only [I64, I32] at g0
    repeat (refine ⟨by first | with_reducible assumption | omega | (intros; first | with_reducible assumption | omega) | (simp only [go_sem] at *; first | with_reducible assumption | omega) | decide, ?_⟩)
    replace h := hA6 _ (aA h)
    exact aQ _ h rfl (by simp only [go_sem])
  ·replace h := hE6 _ (aA h)
   try dsimp only at h
   obtain ⟨v_17, hv, h⟩ := aL h
   try simp only [hv, go_sem]
   exact aH hF [.tmp 4] rfl rfl rfl (aA h) (by simp only [aV, go_sem])
attribute [go_sem] pH
noncomputable def tB (F : Md) (rest_11 : Nat) (q_12 : (List Nat)) : Option (((List Nat) × ((List Nat) × Unit))) :=
 (gM F q_12).bind (fun v_15 => (gM F ([rest_11] : List Nat)).bind (fun v_16 => some (v_15, v_16, ())))
noncomputable def zA (F : Md) (a_0 : (List Nat)) (b_1 : Nat) (rest_18 : Nat) (i_19 : Int) (q_20 : (List Nat)) : Option ((Nat × Int × (List Nat)) ⊕ ((Nat × (List Nat)))) :=
 if (0 : Int) ≤ i_19 then ck (0 ≤ i_19 ∧ i_19 < (((a_0.length) : Nat) : Int)) ((kG F rest_18 (a_0.getD (i_19.toNat) (0 : Nat)) b_1).bind (fun v_28 => ck (0 ≤ i_19 ∧ i_19 < (((q_20.length) : Nat) : Int)) (ck (I64 (i_19 - (1 : Int))) (some (.inl (((v_28.2).1), (i_19 - (1 : Int)), (q_20.set (i_19.toNat) (v_28.1)))))))) else some (.inr (rest_18, q_20))
noncomputable def sB (F : Md) (a_0 : (List Nat)) (b_1 : Nat) : Option ((List Nat) × ((List Nat) × Unit)) :=
 ck (0 ≤ (((a_0.length) : Nat) : Int)) (ck ((8 : Int) * (((a_0.length) : Nat) : Int) ≤ 281474976710656) (ck (I64 ((((a_0.length) : Nat) : Int) - (1 : Int))) ((dJ F (fun d : Nat × Int × (List Nat) => zA F a_0 b_1 d.1 d.2.1 d.2.2) ((0 : Nat), ((((a_0.length) : Nat) : Int) - (1 : Int)), (List.replicate (a_0.length) (0 : Nat)))).bind (fun e => tB F e.1 e.2))))
def aFG : PlR := ⟨[(0, .A [0, 1]), (1, .B [0, 1, 6]), (2, .A [0, 1, 6, 7]), (3, .A [0, 1, 6, 7, 8]), (4, .A [0, 1, 6, 7, 8, 16]), (5, .A [0, 1, 6, 7, 8]), (6, .B [0, 1, 6, 7, 8]), (7, .B [4, 5])], [(6, 10)]⟩
def aHH : Ty := .pair (.sl (.u .u64)) (.pair (.u .u64) .unit)
noncomputable def xH (F : Md) : aG := mSpec aHH (.tup (.pair (.sl (.u .u64)) (.pair (.sl (.u .u64)) .unit))) (fun x => sB F x.1 x.2.1)
noncomputable def aC4 (F : Md) : List (FuncId × aG) := [(163, (eL F)), (252, (nZ F))]
theorem aNa (F : Md) : bI Tryz.prog GL (aC4 F) := .cons (oU F) (by kernel_rfl) (.cons (aD2 F) (by kernel_rfl) (.nil))
theorem aIb (F : Md) : gam (aC4 F) 163 = some (eL F) := rfl
theorem aIc (F : Md) : gam (aC4 F) 252 = some (nZ F) := rfl
attribute [go_sem] aHH aFG aIb aIc
set_option maxHeartbeats 4000000 in
theorem aL9 (F : Md) : FOK Tryz.prog GL 219 (xH F) := by
 refine bK (bD (aNa F)) mix Tryz.func219 rfl (by kernel_rfl) (by decide) aFG fun w0 S x Θ hw h hF => ?_
 obtain ⟨(a_0 : (List Nat)), (b_1 : Nat), u⟩ := x
 simp only [bP, go_sem]
 replace h : sat (sB F a_0 b_1) _ := h
 unfold sB at h
 obtain ⟨g0, h⟩ := aM h
 obtain ⟨g1, h⟩ := aM h
 repeat (refine ⟨by omega, ?_⟩)
 refine eE hF (D := Nat × (List Nat)) (fun d => sat (tB F d.1 d.2) Θ) [] (fun d => [(6, .own 0), (7, .val (.u .u64) d.1)]) (fun d => [.inr (.row 83 (.u .u64) d.2)]) ?_ ?_
 ·simp only [go_sem]
  obtain ⟨g0, h⟩ := aM h
  repeat (refine ⟨by omega, ?_⟩)
  refine bW hF (D := Nat × Int × (List Nat)) [0, 1] (fun d => [(6, .own 0), (7, .val (.u .u64) d.1), (8, .val (.i .i64) d.2.1)]) (fun d => [.inr (.row 83 (.u .u64) d.2.2)]) h rfl (by simp only [go_sem]) ?_
  rintro ⟨rest_18, i_19, q_20⟩ A4 T4 hA4 hE4 h
  simp only [go_sem]
  replace h : sat (zA F a_0 b_1 rest_18 i_19 q_20) _ := h
  unfold zA at h
  refine aNN h (fun hc h => ?_) fun hc h => ?_
  ·obtain ⟨g0, h⟩ := aM h
   repeat (refine ⟨by omega, ?_⟩)
   obtain ⟨v_28, hv, h⟩ := aL h
   try simp only [hv, go_sem]
   obtain ⟨g0, h⟩ := aM h
   repeat (refine ⟨by omega, ?_⟩)
   obtain ⟨g0, h⟩ := aM h
   repeat (refine ⟨by omega, ?_⟩)
   replace h := hA4 _ (aA h)
   exact aQ _ h rfl (by simp only [go_sem])
  ·replace h := hE4 _ (aA h)
   try dsimp only at h
   exact aQ ((rest_18, q_20)) h rfl (by simp only [go_sem])
 ·rintro ⟨rest_11, q_12⟩ h
  simp only [go_sem]
  replace h : sat (tB F rest_11 q_12) _ := h
  unfold tB at h
  obtain ⟨v_15, hv, h⟩ := aL h
  try simp only [hv, go_sem]
  obtain ⟨v_16, hv, h⟩ := aL h
  try simp only [hv, go_sem]
  exact aH hF [.tmp 4, .tmp 5] rfl rfl rfl (aA h) (by simp only [aV, go_sem])
attribute [go_sem] xH
noncomputable def lY (F : Md) (a_0 : (List Nat)) (n_1 : Int) : Option (List Nat) :=
 ck ((aQQ a_0)) (ck (I64 (n_1 - (((a_0.length) : Nat) : Int))) (ck (0 ≤ (n_1 - (((a_0.length) : Nat) : Int))) (ck ((((id a_0).length) + ((n_1 - (((a_0.length) : Nat) : Int)).toNat)) * 8 ≤ 140737488355328) (some ((id a_0) ++ (List.replicate ((n_1 - (((a_0.length) : Nat) : Int)).toNat) (0 : Nat)))))))
def aD3 : PlR := ⟨[(0, .A [0, 1]), (1, .B [4])], []⟩
def aFH : Ty := .pair (.sl (.u .u64)) (.pair (.i .i64) .unit)
noncomputable def vH (F : Md) : aG := mSpec aFH (.own 83 (.u .u64)) (fun x => lY F x.1 x.2.1)
noncomputable def aFI (F : Md) : List (FuncId × aG) := [(165, cF)]
theorem aMa (F : Md) : bI Tryz.prog GL (aFI F) := .cons kE (by kernel_rfl) (.nil)
theorem aGM (F : Md) : gam (aFI F) 165 = some cF := rfl
attribute [go_sem] aFH aD3 aGM
set_option maxHeartbeats 4000000 in
theorem aKK (F : Md) : FOK Tryz.prog GL 220 (vH F) := by
 refine bK (bD (aMa F)) mix Tryz.func220 rfl (by kernel_rfl) (by decide) aD3 fun w0 S x Θ hw h hF => ?_
 obtain ⟨(a_0 : (List Nat)), (n_1 : Int), u⟩ := x
 simp only [bP, go_sem]
 replace h : sat (lY F a_0 n_1) _ := h
 unfold lY at h
 refine aU h fun g0 h => ?_
 refine aU h fun g0 h => ?_
 obtain ⟨g0, h⟩ := aM h
 obtain ⟨g1, h⟩ := aM h
 repeat (refine ⟨by omega, ?_⟩)
 exact aH hF [.tmp 4] rfl rfl rfl (aA h) (by simp only [aV, go_sem])
attribute [go_sem] vH
noncomputable def zB (F : Md) (v_1 : (List Nat)) (un_0 : Nat) (uo_0 : Nat) (x_13 : Nat) (carry_31 : Nat) (u_32 : (List Nat)) : Option (((Nat × (List Nat)))) :=
 ck (0 ≤ (((v_1.length) : Nat) : Int) ∧ (((v_1.length) : Nat) : Int) < ((un_0 : Nat) : Int)) (ck (uo_0 + (v_1.length) < (u_32.length)) (ck (0 ≤ (((v_1.length) : Nat) : Int) ∧ (((v_1.length) : Nat) : Int) < ((un_0 : Nat) : Int)) (ck (uo_0 + (v_1.length) < (u_32.length)) (some ((sX F .u64 x_13 (1 : Nat)), (u_32.set (uo_0 + (v_1.length)) (((u_32.getD (uo_0 + (v_1.length)) (0 : Nat)) + carry_31) % 18446744073709551616)))))))
noncomputable def aCe (F : Md) (v_1 : (List Nat)) (un_0 : Nat) (uo_0 : Nat) (carry_33 : Nat) (x159_34 : Int) (u_35 : (List Nat)) : Option ((Nat × Int × (List Nat)) ⊕ ((Nat × (List Nat)))) :=
 if x159_34 < (((v_1.length) : Nat) : Int) then ck (0 ≤ x159_34 ∧ x159_34 < (((v_1.length) : Nat) : Int)) (ck (0 ≤ x159_34 ∧ x159_34 < ((un_0 : Nat) : Int)) (ck (uo_0 + (x159_34.toNat) < (u_35.length)) (ck ((yR (u_35.getD (uo_0 + (x159_34.toNat)) (0 : Nat)) (v_1.getD (x159_34.toNat) (0 : Nat)) carry_33)) (ck (0 ≤ x159_34 ∧ x159_34 < ((un_0 : Nat) : Int)) (ck (uo_0 + (x159_34.toNat) < (u_35.length)) (ck (I64 (x159_34 + (1 : Int))) (some (.inl ((((iE (u_35.getD (uo_0 + (x159_34.toNat)) (0 : Nat)) (v_1.getD (x159_34.toNat) (0 : Nat)) carry_33).2).1), (x159_34 + (1 : Int)), (u_35.set (uo_0 + (x159_34.toNat)) ((iE (u_35.getD (uo_0 + (x159_34.toNat)) (0 : Nat)) (v_1.getD (x159_34.toNat) (0 : Nat)) carry_33).1))))))))))) else some (.inr (carry_33, u_35))
noncomputable def zC (F : Md) (v_1 : (List Nat)) (un_0 : Nat) (uo_0 : Nat) (x_13 : Nat) (carry_22 : Nat) (borrow_23 : Nat) (u_24 : (List Nat)) : Option (((Nat × (List Nat)))) :=
 ck (0 ≤ (((v_1.length) : Nat) : Int) ∧ (((v_1.length) : Nat) : Int) < ((un_0 : Nat) : Int)) (ck (uo_0 + (v_1.length) < (u_24.length)) (ck ((yR (u_24.getD (uo_0 + (v_1.length)) (0 : Nat)) carry_22 borrow_23)) (ck (0 ≤ (((v_1.length) : Nat) : Int) ∧ (((v_1.length) : Nat) : Int) < ((un_0 : Nat) : Int)) (ck (uo_0 + (v_1.length) < (u_24.length)) (if (((aC3 (u_24.getD (uo_0 + (v_1.length)) (0 : Nat)) carry_22 borrow_23).2).1) = (0 : Nat) then some (x_13, (u_24.set (uo_0 + (v_1.length)) ((aC3 (u_24.getD (uo_0 + (v_1.length)) (0 : Nat)) carry_22 borrow_23).1))) else (dJ F (fun d : Nat × Int × (List Nat) => aCe F v_1 un_0 uo_0 d.1 d.2.1 d.2.2) ((0 : Nat), (0 : Int), (u_24.set (uo_0 + (v_1.length)) ((aC3 (u_24.getD (uo_0 + (v_1.length)) (0 : Nat)) carry_22 borrow_23).1)))).bind (fun e => zB F v_1 un_0 uo_0 x_13 e.1 e.2))))))
noncomputable def aCf (F : Md) (v_1 : (List Nat)) (x_13 : Nat) (un_0 : Nat) (uo_0 : Nat) (carry_41 : Nat) (borrow_42 : Nat) (x107_43 : Int) (u_44 : (List Nat)) : Option ((Nat × Nat × Int × (List Nat)) ⊕ ((Nat × Nat × (List Nat)))) :=
 if x107_43 < (((v_1.length) : Nat) : Int) then ck (0 ≤ x107_43 ∧ x107_43 < (((v_1.length) : Nat) : Int)) (ck (((cG F x_13 (v_1.getD (x107_43.toNat) (0 : Nat))).isSome = true)) (ck ((yR ((((cG F x_13 (v_1.getD (x107_43.toNat) (0 : Nat))).getD ((0 : Nat), (0 : Nat), ())).2).1) carry_41 (0 : Nat))) (ck (0 ≤ x107_43 ∧ x107_43 < ((un_0 : Nat) : Int)) (ck (uo_0 + (x107_43.toNat) < (u_44.length)) (ck ((yR (u_44.getD (uo_0 + (x107_43.toNat)) (0 : Nat)) ((iE ((((cG F x_13 (v_1.getD (x107_43.toNat) (0 : Nat))).getD ((0 : Nat), (0 : Nat), ())).2).1) carry_41 (0 : Nat)).1) borrow_42)) (ck (0 ≤ x107_43 ∧ x107_43 < ((un_0 : Nat) : Int)) (ck (uo_0 + (x107_43.toNat) < (u_44.length)) (ck (I64 (x107_43 + (1 : Int))) (some (.inl ((((((cG F x_13 (v_1.getD (x107_43.toNat) (0 : Nat))).getD ((0 : Nat), (0 : Nat), ())).1) + (((iE ((((cG F x_13 (v_1.getD (x107_43.toNat) (0 : Nat))).getD ((0 : Nat), (0 : Nat), ())).2).1) carry_41 (0 : Nat)).2).1)) % 18446744073709551616), (((aC3 (u_44.getD (uo_0 + (x107_43.toNat)) (0 : Nat)) ((iE ((((cG F x_13 (v_1.getD (x107_43.toNat) (0 : Nat))).getD ((0 : Nat), (0 : Nat), ())).2).1) carry_41 (0 : Nat)).1) borrow_42).2).1), (x107_43 + (1 : Int)), (u_44.set (uo_0 + (x107_43.toNat)) ((aC3 (u_44.getD (uo_0 + (x107_43.toNat)) (0 : Nat)) ((iE ((((cG F x_13 (v_1.getD (x107_43.toNat) (0 : Nat))).getD ((0 : Nat), (0 : Nat), ())).2).1) carry_41 (0 : Nat)).1) borrow_42).1))))))))))))) else some (.inr (carry_41, borrow_42, u_44))
noncomputable def zD (F : Md) (v_1 : (List Nat)) (un_0 : Nat) (uo_0 : Nat) (o0_2 : (List Nat)) (x_13 : Nat) : Option (((Nat × (List Nat)))) :=
 (dJ F (fun d : Nat × Nat × Int × (List Nat) => aCf F v_1 x_13 un_0 uo_0 d.1 d.2.1 d.2.2.1 d.2.2.2) ((0 : Nat), (0 : Nat), (0 : Int), o0_2)).bind (fun e => zC F v_1 un_0 uo_0 x_13 e.1 e.2.1 e.2.2)
noncomputable def aC5 (F : Md) (v_1 : (List Nat)) (un_0 : Nat) (uo_0 : Nat) (o0_2 : (List Nat)) (x_52 : Nat) (rest_53 : Nat) (over_54 : Nat) : Option ((Nat × Nat × Nat) ⊕ ((Nat))) :=
 if over_54 = (0 : Nat) then ck (I64 ((((v_1.length) : Nat) : Int) - (2 : Int))) (ck (0 ≤ ((((v_1.length) : Nat) : Int) - (2 : Int)) ∧ ((((v_1.length) : Nat) : Int) - (2 : Int)) < (((v_1.length) : Nat) : Int)) (ck (((cG F x_52 (v_1.getD (((((v_1.length) : Nat) : Int) - (2 : Int)).toNat) (0 : Nat))).isSome = true)) (ck ((¬ ((((cG F x_52 (v_1.getD (((((v_1.length) : Nat) : Int) - (2 : Int)).toNat) (0 : Nat))).getD ((0 : Nat), (0 : Nat), ())).1) < rest_53) → ((((cG F x_52 (v_1.getD (((((v_1.length) : Nat) : Int) - (2 : Int)).toNat) (0 : Nat))).getD ((0 : Nat), (0 : Nat), ())).1) = rest_53) → (I64 ((((v_1.length) : Nat) : Int) - (2 : Int))))) (ck ((¬ ((((cG F x_52 (v_1.getD (((((v_1.length) : Nat) : Int) - (2 : Int)).toNat) (0 : Nat))).getD ((0 : Nat), (0 : Nat), ())).1) < rest_53) → ((((cG F x_52 (v_1.getD (((((v_1.length) : Nat) : Int) - (2 : Int)).toNat) (0 : Nat))).getD ((0 : Nat), (0 : Nat), ())).1) = rest_53) → (0 ≤ ((((v_1.length) : Nat) : Int) - (2 : Int)) ∧ ((((v_1.length) : Nat) : Int) - (2 : Int)) < ((un_0 : Nat) : Int) ∧ uo_0 + (((((v_1.length) : Nat) : Int) - (2 : Int)).toNat) < (o0_2.length)))) (if ((((cG F x_52 (v_1.getD (((((v_1.length) : Nat) : Int) - (2 : Int)).toNat) (0 : Nat))).getD ((0 : Nat), (0 : Nat), ())).1) < rest_53) ∨ (((((cG F x_52 (v_1.getD (((((v_1.length) : Nat) : Int) - (2 : Int)).toNat) (0 : Nat))).getD ((0 : Nat), (0 : Nat), ())).1) = rest_53) ∧ (((((cG F x_52 (v_1.getD (((((v_1.length) : Nat) : Int) - (2 : Int)).toNat) (0 : Nat))).getD ((0 : Nat), (0 : Nat), ())).2).1) ≤ (o0_2.getD (uo_0 + (((((v_1.length) : Nat) : Int) - (2 : Int)).toNat)) (0 : Nat)))) then some (.inr x_52) else ck (I64 ((((v_1.length) : Nat) : Int) - (1 : Int))) (ck (0 ≤ ((((v_1.length) : Nat) : Int) - (1 : Int)) ∧ ((((v_1.length) : Nat) : Int) - (1 : Int)) < (((v_1.length) : Nat) : Int)) (ck ((yR rest_53 (v_1.getD (((((v_1.length) : Nat) : Int) - (1 : Int)).toNat) (0 : Nat)) (0 : Nat))) (some (.inl ((sX F .u64 x_52 (1 : Nat)), ((iE rest_53 (v_1.getD (((((v_1.length) : Nat) : Int) - (1 : Int)).toNat) (0 : Nat)) (0 : Nat)).1), (((iE rest_53 (v_1.getD (((((v_1.length) : Nat) : Int) - (1 : Int)).toNat) (0 : Nat)) (0 : Nat)).2).1))))))))))) else some (.inr x_52)
noncomputable def tC (F : Md) (v_1 : (List Nat)) (un_0 : Nat) (uo_0 : Nat) (o0_2 : (List Nat)) (x_4 : Nat) (rest_5 : Nat) (over_6 : Nat) : Option (((Nat × (List Nat)))) :=
 (dJ F (fun d : Nat × Nat × Nat => aC5 F v_1 un_0 uo_0 o0_2 d.1 d.2.1 d.2.2) (x_4, rest_5, over_6)).bind (fun e => zD F v_1 un_0 uo_0 o0_2 e)
noncomputable def aAg (F : Md) (uo_0 : Nat) (un_0 : Nat) (v_1 : (List Nat)) (o0_2 : (List Nat)) : Option ((Nat × (List Nat))) :=
 ck (0 ≤ (((v_1.length) : Nat) : Int) ∧ (((v_1.length) : Nat) : Int) < ((un_0 : Nat) : Int)) (ck (uo_0 + (v_1.length) < (o0_2.length)) (ck (I64 ((((v_1.length) : Nat) : Int) - (1 : Int))) (ck (0 ≤ ((((v_1.length) : Nat) : Int) - (1 : Int)) ∧ ((((v_1.length) : Nat) : Int) - (1 : Int)) < (((v_1.length) : Nat) : Int)) (if (o0_2.getD (uo_0 + (v_1.length)) (0 : Nat)) < (v_1.getD (((((v_1.length) : Nat) : Int) - (1 : Int)).toNat) (0 : Nat)) then ck (0 ≤ (((v_1.length) : Nat) : Int) ∧ (((v_1.length) : Nat) : Int) < ((un_0 : Nat) : Int)) (ck (uo_0 + (v_1.length) < (o0_2.length)) (ck (I64 ((((v_1.length) : Nat) : Int) - (1 : Int))) (ck (0 ≤ ((((v_1.length) : Nat) : Int) - (1 : Int)) ∧ ((((v_1.length) : Nat) : Int) - (1 : Int)) < ((un_0 : Nat) : Int)) (ck (uo_0 + (((((v_1.length) : Nat) : Int) - (1 : Int)).toNat) < (o0_2.length)) (ck (I64 ((((v_1.length) : Nat) : Int) - (1 : Int))) (ck (0 ≤ ((((v_1.length) : Nat) : Int) - (1 : Int)) ∧ ((((v_1.length) : Nat) : Int) - (1 : Int)) < (((v_1.length) : Nat) : Int)) (ck (((kG F (o0_2.getD (uo_0 + (v_1.length)) (0 : Nat)) (o0_2.getD (uo_0 + (((((v_1.length) : Nat) : Int) - (1 : Int)).toNat)) (0 : Nat)) (v_1.getD (((((v_1.length) : Nat) : Int) - (1 : Int)).toNat) (0 : Nat))).isSome = true)) (tC F v_1 un_0 uo_0 o0_2 (((kG F (o0_2.getD (uo_0 + (v_1.length)) (0 : Nat)) (o0_2.getD (uo_0 + (((((v_1.length) : Nat) : Int) - (1 : Int)).toNat)) (0 : Nat)) (v_1.getD (((((v_1.length) : Nat) : Int) - (1 : Int)).toNat) (0 : Nat))).getD ((0 : Nat), (0 : Nat), ())).1) ((((kG F (o0_2.getD (uo_0 + (v_1.length)) (0 : Nat)) (o0_2.getD (uo_0 + (((((v_1.length) : Nat) : Int) - (1 : Int)).toNat)) (0 : Nat)) (v_1.getD (((((v_1.length) : Nat) : Int) - (1 : Int)).toNat) (0 : Nat))).getD ((0 : Nat), (0 : Nat), ())).2).1) (0 : Nat))))))))) else ck (I64 ((((v_1.length) : Nat) : Int) - (1 : Int))) (ck (0 ≤ ((((v_1.length) : Nat) : Int) - (1 : Int)) ∧ ((((v_1.length) : Nat) : Int) - (1 : Int)) < ((un_0 : Nat) : Int)) (ck (uo_0 + (((((v_1.length) : Nat) : Int) - (1 : Int)).toNat) < (o0_2.length)) (ck (I64 ((((v_1.length) : Nat) : Int) - (1 : Int))) (ck (0 ≤ ((((v_1.length) : Nat) : Int) - (1 : Int)) ∧ ((((v_1.length) : Nat) : Int) - (1 : Int)) < (((v_1.length) : Nat) : Int)) (ck ((yR (o0_2.getD (uo_0 + (((((v_1.length) : Nat) : Int) - (1 : Int)).toNat)) (0 : Nat)) (v_1.getD (((((v_1.length) : Nat) : Int) - (1 : Int)).toNat) (0 : Nat)) (0 : Nat))) (tC F v_1 un_0 uo_0 o0_2 (18446744073709551615 : Nat) ((iE (o0_2.getD (uo_0 + (((((v_1.length) : Nat) : Int) - (1 : Int)).toNat)) (0 : Nat)) (v_1.getD (((((v_1.length) : Nat) : Int) - (1 : Int)).toNat) (0 : Nat)) (0 : Nat)).1) (((iE (o0_2.getD (uo_0 + (((((v_1.length) : Nat) : Int) - (1 : Int)).toNat)) (0 : Nat)) (v_1.getD (((((v_1.length) : Nat) : Int) - (1 : Int)).toNat) (0 : Nat)) (0 : Nat)).2).1)))))))))))
noncomputable def xI (F : Md) : nN where
 D := Nat × Nat × (List Nat) × (List Nat) × ((Nat × (List Nat)))
 av := fun d => [.sub 0 1 d.1 d.2.1, .val (.sl (.u .u64)) d.2.2.1]
 hp := fun d => [.row 83 (.u .u64) d.2.2.2.1]
 m := 1
 pre := fun d => aAg F d.1 d.2.1 d.2.2.1 d.2.2.2.1 = some d.2.2.2.2
 out := fun d => (fun r : (Nat × (List Nat)) => .ret (.val (.u .u64) r.1) [.row 83 (.u .u64) (r.2)]) d.2.2.2.2
noncomputable def sC (F : Md) : List (FuncId × aG) := [(161, (nY F)), (162, kR), (252, (nZ F)), (253, vF)]
theorem aHI (F : Md) : bI Tryz.prog GL (sC F) := .cons (aD0 F) (by kernel_rfl) (.nat aAA (.cons (aD2 F) (by kernel_rfl) (.nat aKH (.nil))))
theorem aId (F : Md) : gam (sC F) 161 = some (nY F) := rfl
attribute [go_sem] aId
theorem aIe (F : Md) : gam (sC F) 162 = some kR := rfl
attribute [go_sem] aIe
theorem aIf (F : Md) : gam (sC F) 252 = some (nZ F) := rfl
attribute [go_sem] aIf
theorem aIg (F : Md) : gam (sC F) 253 = some vF := rfl
attribute [go_sem] aIg
set_option maxHeartbeats 4000000 in
theorem aMb (F : Md) : GOK Tryz.prog GL 221 (xI F) := by
 refine wC (bD (aHI F)) Tryz.func221 rfl (by kernel_rfl) (fun _ => Nat.le_of_ble_eq_true rfl) fun c0 w0 d hw1 hw2 h hn => ?_
 have hF : kB ⟨Tryz.prog, EM (sC F), GM (xI F) c0 d, w0, Tryz.f221.ntmps, []⟩ := ⟨bD (aHI F), mix⟩
 obtain ⟨(uo_0 : Nat), (un_0 : Nat), (v_1 : (List Nat)), (o0_2 : (List Nat)), r⟩ := d
 replace h : aAg F uo_0 un_0 v_1 o0_2 = some r := h
 have hw1 : AV.wfL [.sub 0 1 uo_0 un_0, .val (.sl (.u .u64)) v_1] := hw1
 simp only [AV.wfL, AV.wfV, Ty.wf, mP] at hw1
 show Tri _ _ _ [(0, .sub 0 1 uo_0 un_0), (1, .val (.sl (.u .u64)) v_1)] [.row 83 (.u .u64) o0_2]
 unfold aAg at h
 refine aB (aD hF [0, 1] ?_)
 simp only [go_sem, aI F, aJ F, aK F]
 refine aC (aB (aD hF [0, 1, 5] ?_))
 simp only [go_sem, aI F, aJ F, aK F]
 refine aC (aB (aD hF [0, 1, 5, 6, 8] ?_))
 simp only [go_sem, aI F, aJ F, aK F]
 refine aC (kV (D := Nat × Nat × Nat) (fun d => tC F v_1 un_0 uo_0 o0_2 d.1 d.2.1 d.2.2 = some r) [1, 5] (fun d => [(0, .sub 0 1 uo_0 un_0), (6, .val (.u .u64) d.1), (7, .val (.u .u64) d.2.1), (8, .val (.u .u64) d.2.2)]) (fun d => [.inr (.row 83 (.u .u64) o0_2)]) ?_ ?_)
 ·refine aB (aD hF [0, 1, 5, 6, 8, 31] ?_)
  simp only [go_sem, aI F, aJ F, aK F]
  obtain ⟨g0, h⟩ := aF h
  obtain ⟨g1, h⟩ := aF h
  obtain ⟨g2, h⟩ := aF h
  obtain ⟨g3, h⟩ := aF h
  try simp only [I64, I32] at g2
  repeat (refine ⟨by first | with_reducible assumption | omega | (intros; first | with_reducible assumption | omega) | (simp only [go_sem, aI F, aJ F, aK F] at *; first | assumption | omega) | decide, ?_⟩)
  refine aC (bG rfl (fun hc => ?_) (fun hc => ?_))
  ·try simp only [go_sem, aI F, aJ F, aK F] at hc
   have h := eC (by first | exact hc | omega | (simpa using hc) | (simp at hc ⊢; omega)) h
   refine aD hF [0, 1, 5, 6, 7, 8] ?_
   simp only [go_sem, aI F, aJ F, aK F]
   obtain ⟨g0, h⟩ := aF h
   obtain ⟨g1, h⟩ := aF h
   obtain ⟨g2, h⟩ := aF h
   obtain ⟨g3, h⟩ := aF h
   obtain ⟨g4, h⟩ := aF h
   obtain ⟨g5, h⟩ := aF h
   obtain ⟨g6, h⟩ := aF h
   obtain ⟨g7, h⟩ := aF h
   try simp only [I64, I32] at g2
   try simp only [I64, I32] at g5
   repeat (refine ⟨by first | with_reducible assumption | omega | (intros; first | with_reducible assumption | omega) | (simp only [go_sem, aI F, aJ F, aK F] at *; first | assumption | omega) | decide, ?_⟩)
   refine aS (aQ (((((kG F (o0_2.getD (uo_0 + (v_1.length)) (0 : Nat)) (o0_2.getD (uo_0 + (((((v_1.length) : Nat) : Int) - (1 : Int)).toNat)) (0 : Nat)) (v_1.getD (((((v_1.length) : Nat) : Int) - (1 : Int)).toNat) (0 : Nat))).getD ((0 : Nat), (0 : Nat), ())).1), ((((kG F (o0_2.getD (uo_0 + (v_1.length)) (0 : Nat)) (o0_2.getD (uo_0 + (((((v_1.length) : Nat) : Int) - (1 : Int)).toNat)) (0 : Nat)) (v_1.getD (((((v_1.length) : Nat) : Int) - (1 : Int)).toNat) (0 : Nat))).getD ((0 : Nat), (0 : Nat), ())).2).1), (0 : Nat))) h rfl ?_)
   ·(try simp only [fZ, eG, true_or, and_self, go_sem, aI F, aJ F, aK F]) <;> (repeat' apply And.intro) <;> first | rfl | (left; rfl) | (right; rfl) | (left; simp only [go_sem, aI F, aJ F, aK F]; done) | (right; simp only [go_sem, aI F, aJ F, aK F]; done) | (simp; done) | (simp only [*]; done) | omega
  ·try simp only [go_sem, aI F, aJ F, aK F] at hc
   have h := eD (by first | exact hc | omega | (simpa using hc) | (simp at hc ⊢; omega)) h
   refine aD hF [0, 1, 5, 6, 7, 8] ?_
   simp only [go_sem, aI F, aJ F, aK F]
   obtain ⟨g0, h⟩ := aF h
   obtain ⟨g1, h⟩ := aF h
   obtain ⟨g2, h⟩ := aF h
   obtain ⟨g3, h⟩ := aF h
   obtain ⟨g4, h⟩ := aF h
   obtain ⟨g5, h⟩ := aF h
   try simp only [I64, I32] at g0
   try simp only [I64, I32] at g3
   repeat (refine ⟨by first | with_reducible assumption | omega | (intros; first | with_reducible assumption | omega) | (simp only [go_sem, aI F, aJ F, aK F] at *; first | assumption | omega) | decide, ?_⟩)
   refine aS (aQ (((18446744073709551615 : Nat), ((iE (o0_2.getD (uo_0 + (((((v_1.length) : Nat) : Int) - (1 : Int)).toNat)) (0 : Nat)) (v_1.getD (((((v_1.length) : Nat) : Int) - (1 : Int)).toNat) (0 : Nat)) (0 : Nat)).1), (((iE (o0_2.getD (uo_0 + (((((v_1.length) : Nat) : Int) - (1 : Int)).toNat)) (0 : Nat)) (v_1.getD (((((v_1.length) : Nat) : Int) - (1 : Int)).toNat) (0 : Nat)) (0 : Nat)).2).1))) h rfl ?_)
   ·(try simp only [fZ, eG, true_or, and_self, go_sem, aI F, aJ F, aK F]) <;> (repeat' apply And.intro) <;> first | rfl | (left; rfl) | (right; rfl) | (left; simp only [go_sem, aI F, aJ F, aK F]; done) | (right; simp only [go_sem, aI F, aJ F, aK F]; done) | (simp; done) | (simp only [*]; done) | omega
 ·rintro ⟨x_4, rest_5, over_6⟩ h
  try dsimp only at h
  simp only [go_sem, aI F, aJ F, aK F]
  unfold tC at h
  refine kV (D := Nat) (fun d => zD F v_1 un_0 uo_0 o0_2 d = some r) [1, 5] (fun d => [(0, .sub 0 1 uo_0 un_0), (6, .val (.u .u64) d)]) (fun d => [.inr (.row 83 (.u .u64) o0_2)]) ?_ ?_
  ·refine dT (nX (D := Nat × Nat × Nat) [1, 5] (fun d => [(0, .sub 0 1 uo_0 un_0), (6, .val (.u .u64) d.1), (7, .val (.u .u64) d.2.1), (8, .val (.u .u64) d.2.2)]) (fun d => [.inr (.row 83 (.u .u64) o0_2)]) h ?_ ?_ ?_)
   ·first | rfl | (simp only [go_sem, aI F, aJ F, aK F]; done)
   ·(try simp only [fZ, eG, true_or, and_self, go_sem, aI F, aJ F, aK F]) <;> (repeat' apply And.intro) <;> first | rfl | (left; rfl) | (right; rfl) | (left; simp only [go_sem, aI F, aJ F, aK F]; done) | (right; simp only [go_sem, aI F, aJ F, aK F]; done) | (simp; done) | (simp only [*]; done) | omega
   rintro ⟨x_52, rest_53, over_54⟩ s6 h hs6
   simp only [go_sem, aI F, aJ F, aK F]
   try dsimp only at h
   unfold aC5 at h
   refine aB (aB (aD hF [0, 1, 5, 6, 7, 65] ?_))
   simp only [go_sem, aI F, aJ F, aK F]
   refine aC (bG rfl (fun hc => ?_) (fun hc => ?_))
   ·try simp only [go_sem, aI F, aJ F, aK F] at hc
    have h := eC (by first | exact hc | omega | (simpa using hc) | (simp at hc ⊢; omega)) h
    refine cS (aC (dT (aB (aD hF [0, 1, 5, 6, 7, 9, 10] ?_))))
    simp only [go_sem, aI F, aJ F, aK F]
    obtain ⟨g0, h⟩ := aF h
    obtain ⟨g1, h⟩ := aF h
    obtain ⟨g2, h⟩ := aF h
    try simp only [I64, I32] at g0
    repeat (refine ⟨by first | with_reducible assumption | omega | (intros; first | with_reducible assumption | omega) | (simp only [go_sem, aI F, aJ F, aK F] at *; first | assumption | omega) | decide, ?_⟩)
    refine aC (aB (aB (aD hF [0, 1, 5, 6, 7, 92] ?_)))
    simp only [go_sem, aI F, aJ F, aK F]
    obtain ⟨g0, h⟩ := aF h
    obtain ⟨g1, h⟩ := aF h
    try simp only [I64, I32] at g0
    repeat (refine ⟨by first | with_reducible assumption | omega | (intros; first | with_reducible assumption | omega) | (simp only [go_sem, aI F, aJ F, aK F] at *; first | assumption | omega) | (intro q0 q1; (try have e0 := g0 (by first | exact q0 | omega | (simpa using q0)) (by first | exact q1 | omega | (simpa using q1))); (try have e1 := g1 (by first | exact q0 | omega | (simpa using q0)) (by first | exact q1 | omega | (simpa using q1))); first | assumption | omega) | (rintro ⟨q0, q1⟩; (try have e0 := g0 (by first | exact q0 | omega | (simpa using q0)) (by first | exact q1 | omega | (simpa using q1))); (try have e1 := g1 (by first | exact q0 | omega | (simpa using q0)) (by first | exact q1 | omega | (simpa using q1))); first | assumption | omega) | decide, ?_⟩)
    refine aC (bG rfl (fun hc => ?_) (fun hc => ?_))
    ·try simp only [go_sem, aI F, aJ F, aK F] at hc
     have h := eC (by first | exact hc | omega | (simpa using hc) | (simp at hc ⊢; omega)) h
     obtain rfl := Option.some.inj h
     dsimp only [mZ] at hs6
     have h := hs6
     try dsimp only at h
     refine nM (cP (yN (by decide) (cP (eK (aS (aQ (x_52) h rfl ?_))))))
     ·(try simp only [fZ, eG, true_or, and_self, go_sem, aI F, aJ F, aK F]) <;> (repeat' apply And.intro) <;> first | rfl | (left; rfl) | (right; rfl) | (left; simp only [go_sem, aI F, aJ F, aK F]; done) | (right; simp only [go_sem, aI F, aJ F, aK F]; done) | (simp; done) | (simp only [*]; done) | omega
    ·try simp only [go_sem, aI F, aJ F, aK F] at hc
     have h := eD (by first | exact hc | omega | (simpa using hc) | (simp at hc ⊢; omega)) h
     refine cS (aC (aB (aD hF [0, 1, 5, 6, 7] ?_)))
     simp only [go_sem, aI F, aJ F, aK F]
     refine aC (aD hF [0, 1, 5, 6, 7, 8] ?_)
     simp only [go_sem, aI F, aJ F, aK F]
     obtain ⟨g0, h⟩ := aF h
     obtain ⟨g1, h⟩ := aF h
     obtain ⟨g2, h⟩ := aF h
     try simp only [I64, I32] at g0
     repeat (refine ⟨by first | with_reducible assumption | omega | (intros; first | with_reducible assumption | omega) | (simp only [go_sem, aI F, aJ F, aK F] at *; first | assumption | omega) | decide, ?_⟩)
     obtain rfl := Option.some.inj h
     dsimp only [mZ] at hs6
     refine bN (aS (aQ (((sX F .u64 x_52 (1 : Nat)), ((iE rest_53 (v_1.getD (((((v_1.length) : Nat) : Int) - (1 : Int)).toNat) (0 : Nat)) (0 : Nat)).1), (((iE rest_53 (v_1.getD (((((v_1.length) : Nat) : Int) - (1 : Int)).toNat) (0 : Nat)) (0 : Nat)).2).1))) hs6 rfl ?_))
     ·(try simp only [fZ, eG, true_or, and_self, go_sem, aI F, aJ F, aK F]) <;> (repeat' apply And.intro) <;> first | rfl | (left; rfl) | (right; rfl) | (left; simp only [go_sem, aI F, aJ F, aK F]; done) | (right; simp only [go_sem, aI F, aJ F, aK F]; done) | (simp; done) | (simp only [*]; done) | omega
   ·try simp only [go_sem, aI F, aJ F, aK F] at hc
    have h := eD (by first | exact hc | omega | (simpa using hc) | (simp at hc ⊢; omega)) h
    obtain rfl := Option.some.inj h
    dsimp only [mZ] at hs6
    have h := hs6
    try dsimp only at h
    refine nM (cP (cP (eK (aS (aQ (x_52) h rfl ?_)))))
    ·(try simp only [fZ, eG, true_or, and_self, go_sem, aI F, aJ F, aK F]) <;> (repeat' apply And.intro) <;> first | rfl | (left; rfl) | (right; rfl) | (left; simp only [go_sem, aI F, aJ F, aK F]; done) | (right; simp only [go_sem, aI F, aJ F, aK F]; done) | (simp; done) | (simp only [*]; done) | omega
  ·rintro x_13 h
   try dsimp only at h
   simp only [go_sem, aI F, aJ F, aK F]
   unfold zD at h
   refine aB (aD hF [0, 1, 5, 6, 11, 12] ?_)
   simp only [go_sem, aI F, aJ F, aK F]
   refine aC (kV (D := Nat × Nat × (List Nat)) (fun d => zC F v_1 un_0 uo_0 x_13 d.1 d.2.1 d.2.2 = some r) [1, 5, 6] (fun d => [(0, .sub 0 1 uo_0 un_0), (11, .val (.u .u64) d.1), (12, .val (.u .u64) d.2.1)]) (fun d => [.inr (.row 83 (.u .u64) d.2.2)]) ?_ ?_)
   ·refine aB (aD hF [0, 1, 5, 6, 11, 12, 105, 106, 107] ?_)
    simp only [go_sem, aI F, aJ F, aK F]
    refine aC (dT (nX (D := Nat × Nat × Int × (List Nat)) [1, 5, 6, 105, 106] (fun d => [(0, .sub 0 1 uo_0 un_0), (11, .val (.u .u64) d.1), (12, .val (.u .u64) d.2.1), (107, .val (.i .i64) d.2.2.1)]) (fun d => [.inr (.row 83 (.u .u64) d.2.2.2)]) h ?_ ?_ ?_))
    ·first | rfl | (simp only [go_sem, aI F, aJ F, aK F]; done)
    ·(try simp only [fZ, eG, true_or, and_self, go_sem, aI F, aJ F, aK F]) <;> (repeat' apply And.intro) <;> first | rfl | (left; rfl) | (right; rfl) | (left; simp only [go_sem, aI F, aJ F, aK F]; done) | (right; simp only [go_sem, aI F, aJ F, aK F]; done) | (simp; done) | (simp only [*]; done) | omega
    rintro ⟨carry_41, borrow_42, x107_43, u_44⟩ s13 h hs13
    simp only [go_sem, aI F, aJ F, aK F]
    try dsimp only at h
    unfold aCf at h
    refine aB (aD hF [0, 1, 5, 6, 11, 12, 105, 106, 107, 108] ?_)
    simp only [go_sem, aI F, aJ F, aK F]
    refine aC (aB (bG rfl (fun hc => ?_) (fun hc => ?_)))
    ·try simp only [go_sem, aI F, aJ F, aK F] at hc
     have h := eC (by first | exact hc | omega | (simpa using hc) | (simp at hc ⊢; omega)) h
     refine cS (aC (aB (dT (aB (aD hF [0, 1, 5, 6, 11, 12, 13, 14, 105, 106, 107] ?_)))))
     simp only [go_sem, aI F, aJ F, aK F]
     obtain ⟨g0, h⟩ := aF h
     repeat (refine ⟨by first | with_reducible assumption | omega | (intros; first | with_reducible assumption | omega) | (simp only [go_sem, aI F, aJ F, aK F] at *; first | assumption | omega) | decide, ?_⟩)
     refine aC (aB (aD hF [0, 1, 5, 6, 11, 12, 13, 15, 16, 105, 106, 107] ?_))
     simp only [go_sem, aI F, aJ F, aK F]
     obtain ⟨g0, h⟩ := aF h
     repeat (refine ⟨by first | with_reducible assumption | omega | (intros; first | with_reducible assumption | omega) | (simp only [go_sem, aI F, aJ F, aK F] at *; first | assumption | omega) | decide, ?_⟩)
     refine aC (aB (aD hF [0, 1, 5, 6, 11, 12, 13, 15, 16, 105, 106, 107] ?_))
     simp only [go_sem, aI F, aJ F, aK F]
     refine aC (aB (aD hF [0, 1, 5, 6, 12, 13, 15, 16, 17, 105, 106, 107] ?_))
     simp only [go_sem, aI F, aJ F, aK F]
     obtain ⟨g0, h⟩ := aF h
     repeat (refine ⟨by first | with_reducible assumption | omega | (intros; first | with_reducible assumption | omega) | (simp only [go_sem, aI F, aJ F, aK F] at *; first | assumption | omega) | decide, ?_⟩)
     refine aC (aB (aD hF [0, 1, 5, 6, 11, 12, 13, 16, 105, 106, 107] ?_))
     simp only [go_sem, aI F, aJ F, aK F]
     refine aC (aN hF [0, 1, 5, 6, 11, 12, 105, 106, 107] ?_)
     simp only [go_sem, aI F, aJ F, aK F]
     obtain ⟨g0, h⟩ := aF h
     obtain ⟨g1, h⟩ := aF h
     repeat (refine ⟨by first | with_reducible assumption | omega | (intros; first | with_reducible assumption | omega) | (simp only [go_sem, aI F, aJ F, aK F] at *; first | assumption | omega) | decide, ?_⟩)
     obtain ⟨g0, h⟩ := aF h
     repeat (refine ⟨by first | with_reducible assumption | omega | (intros; first | with_reducible assumption | omega) | (simp only [go_sem, aI F, aJ F, aK F] at *; first | assumption | omega) | decide, ?_⟩)
     obtain ⟨g0, h⟩ := aF h
     obtain ⟨g1, h⟩ := aF h
     repeat (refine ⟨by first | with_reducible assumption | omega | (intros; first | with_reducible assumption | omega) | (simp only [go_sem, aI F, aJ F, aK F] at *; first | assumption | omega) | decide, ?_⟩)
     refine bN (aC (aD hF [0, 1, 5, 6, 11, 12, 105, 106, 107] ?_))
     simp only [go_sem, aI F, aJ F, aK F]
     obtain ⟨g0, h⟩ := aF h
     try simp only [I64, I32] at g0
     repeat (refine ⟨by first | with_reducible assumption | omega | (intros; first | with_reducible assumption | omega) | (simp only [go_sem, aI F, aJ F, aK F] at *; first | assumption | omega) | decide, ?_⟩)
     obtain rfl := Option.some.inj h
     dsimp only [mZ] at hs13
     refine aS (aQ (((((((cG F x_13 (v_1.getD (x107_43.toNat) (0 : Nat))).getD ((0 : Nat), (0 : Nat), ())).1) + (((iE ((((cG F x_13 (v_1.getD (x107_43.toNat) (0 : Nat))).getD ((0 : Nat), (0 : Nat), ())).2).1) carry_41 (0 : Nat)).2).1)) % 18446744073709551616), (((aC3 (u_44.getD (uo_0 + (x107_43.toNat)) (0 : Nat)) ((iE ((((cG F x_13 (v_1.getD (x107_43.toNat) (0 : Nat))).getD ((0 : Nat), (0 : Nat), ())).2).1) carry_41 (0 : Nat)).1) borrow_42).2).1), (x107_43 + (1 : Int)), (u_44.set (uo_0 + (x107_43.toNat)) ((aC3 (u_44.getD (uo_0 + (x107_43.toNat)) (0 : Nat)) ((iE ((((cG F x_13 (v_1.getD (x107_43.toNat) (0 : Nat))).getD ((0 : Nat), (0 : Nat), ())).2).1) carry_41 (0 : Nat)).1) borrow_42).1)))) hs13 rfl ?_)
     ·(try simp only [fZ, eG, true_or, and_self, go_sem, aI F, aJ F, aK F]) <;> (repeat' apply And.intro) <;> first | rfl | (left; rfl) | (right; rfl) | (left; simp only [go_sem, aI F, aJ F, aK F]; done) | (right; simp only [go_sem, aI F, aJ F, aK F]; done) | (simp; done) | (simp only [*]; done) | omega
    ·try simp only [go_sem, aI F, aJ F, aK F] at hc
     have h := eD (by first | exact hc | omega | (simpa using hc) | (simp at hc ⊢; omega)) h
     obtain rfl := Option.some.inj h
     dsimp only [mZ] at hs13
     have h := hs13
     try dsimp only at h
     refine nM (cP (cP (eK (aS (aQ ((carry_41, borrow_42, u_44)) h rfl ?_)))))
     ·(try simp only [fZ, eG, true_or, and_self, go_sem, aI F, aJ F, aK F]) <;> (repeat' apply And.intro) <;> first | rfl | (left; rfl) | (right; rfl) | (left; simp only [go_sem, aI F, aJ F, aK F]; done) | (right; simp only [go_sem, aI F, aJ F, aK F]; done) | (simp; done) | (simp only [*]; done) | omega
   ·rintro ⟨carry_22, borrow_23, u_24⟩ h
    try dsimp only at h
    simp only [go_sem, aI F, aJ F, aK F]
    unfold zC at h
    refine aB (aB (aN hF [0, 1, 5, 6, 12] ?_))
    simp only [go_sem, aI F, aJ F, aK F]
    obtain ⟨g0, h⟩ := aF h
    obtain ⟨g1, h⟩ := aF h
    repeat (refine ⟨by first | with_reducible assumption | omega | (intros; first | with_reducible assumption | omega) | (simp only [go_sem, aI F, aJ F, aK F] at *; first | assumption | omega) | decide, ?_⟩)
    obtain ⟨g0, h⟩ := aF h
    repeat (refine ⟨by first | with_reducible assumption | omega | (intros; first | with_reducible assumption | omega) | (simp only [go_sem, aI F, aJ F, aK F] at *; first | assumption | omega) | decide, ?_⟩)
    obtain ⟨g0, h⟩ := aF h
    obtain ⟨g1, h⟩ := aF h
    repeat (refine ⟨by first | with_reducible assumption | omega | (intros; first | with_reducible assumption | omega) | (simp only [go_sem, aI F, aJ F, aK F] at *; first | assumption | omega) | decide, ?_⟩)
    refine aC (aB (aD hF [0, 1, 5, 6, 155] ?_))
    simp only [go_sem, aI F, aJ F, aK F]
    refine aC (bG rfl (fun hc => ?_) (fun hc => ?_))
    ·try simp only [go_sem, aI F, aJ F, aK F] at hc
     have h := eC (by first | exact hc | omega | (simpa using hc) | (simp at hc ⊢; omega)) h
     refine aB (aD hF [4] ?_)
     simp only [go_sem, aI F, aJ F, aK F]
     obtain rfl := Option.some.inj h
     refine aC (cY (dF (aBG hF [.tmp 4] rfl rfl rfl rfl rfl rfl ?_)))
     (try simp only [aV, aDI, aC0, eG, oS, AV.isAgg, go_sem, aI F, aJ F, aK F]) <;> first | trivial | rfl | (simp; done)
    ·try simp only [go_sem, aI F, aJ F, aK F] at hc
     have h := eD (by first | exact hc | omega | (simpa using hc) | (simp at hc ⊢; omega)) h
     refine cS (aC (aB (aD hF [0, 1, 5, 6, 11] ?_)))
     simp only [go_sem, aI F, aJ F, aK F]
     refine aC (kV (D := Nat × (List Nat)) (fun d => zB F v_1 un_0 uo_0 x_13 d.1 d.2 = some r) [5, 6] (fun d => [(0, .sub 0 1 uo_0 un_0), (11, .val (.u .u64) d.1)]) (fun d => [.inr (.row 83 (.u .u64) d.2)]) ?_ ?_)
     ·refine aB (aD hF [0, 5, 6, 11, 157, 158, 159] ?_)
      simp only [go_sem, aI F, aJ F, aK F]
      refine aC (dT (nX (D := Nat × Int × (List Nat)) [5, 6, 157, 158] (fun d => [(0, .sub 0 1 uo_0 un_0), (11, .val (.u .u64) d.1), (159, .val (.i .i64) d.2.1)]) (fun d => [.inr (.row 83 (.u .u64) d.2.2)]) h ?_ ?_ ?_))
      ·first | rfl | (simp only [go_sem, aI F, aJ F, aK F]; done)
      ·(try simp only [fZ, eG, true_or, and_self, go_sem, aI F, aJ F, aK F]) <;> (repeat' apply And.intro) <;> first | rfl | (left; rfl) | (right; rfl) | (left; simp only [go_sem, aI F, aJ F, aK F]; done) | (right; simp only [go_sem, aI F, aJ F, aK F]; done) | (simp; done) | (simp only [*]; done) | omega
      rintro ⟨carry_33, x159_34, u_35⟩ s26 h hs26
      simp only [go_sem, aI F, aJ F, aK F]
      try dsimp only at h
      unfold aCe at h
      refine aB (aD hF [0, 5, 6, 11, 157, 158, 159, 160] ?_)
      simp only [go_sem, aI F, aJ F, aK F]
      refine aC (aB (bG rfl (fun hc => ?_) (fun hc => ?_)))
      ·try simp only [go_sem, aI F, aJ F, aK F] at hc
       have h := eC (by first | exact hc | omega | (simpa using hc) | (simp at hc ⊢; omega)) h
       refine cS (aC (aB (dT (aB (aD hF [0, 5, 6, 11, 18, 19, 157, 158, 159] ?_)))))
       simp only [go_sem, aI F, aJ F, aK F]
       obtain ⟨g0, h⟩ := aF h
       repeat (refine ⟨by first | with_reducible assumption | omega | (intros; first | with_reducible assumption | omega) | (simp only [go_sem, aI F, aJ F, aK F] at *; first | assumption | omega) | decide, ?_⟩)
       refine aC (aN hF [0, 5, 6, 11, 157, 158, 159] ?_)
       simp only [go_sem, aI F, aJ F, aK F]
       obtain ⟨g0, h⟩ := aF h
       obtain ⟨g1, h⟩ := aF h
       repeat (refine ⟨by first | with_reducible assumption | omega | (intros; first | with_reducible assumption | omega) | (simp only [go_sem, aI F, aJ F, aK F] at *; first | assumption | omega) | decide, ?_⟩)
       obtain ⟨g0, h⟩ := aF h
       repeat (refine ⟨by first | with_reducible assumption | omega | (intros; first | with_reducible assumption | omega) | (simp only [go_sem, aI F, aJ F, aK F] at *; first | assumption | omega) | decide, ?_⟩)
       obtain ⟨g0, h⟩ := aF h
       obtain ⟨g1, h⟩ := aF h
       repeat (refine ⟨by first | with_reducible assumption | omega | (intros; first | with_reducible assumption | omega) | (simp only [go_sem, aI F, aJ F, aK F] at *; first | assumption | omega) | decide, ?_⟩)
       refine bN (aC (aD hF [0, 5, 6, 11, 157, 158, 159] ?_))
       simp only [go_sem, aI F, aJ F, aK F]
       obtain ⟨g0, h⟩ := aF h
       try simp only [I64, I32] at g0
       repeat (refine ⟨by first | with_reducible assumption | omega | (intros; first | with_reducible assumption | omega) | (simp only [go_sem, aI F, aJ F, aK F] at *; first | assumption | omega) | decide, ?_⟩)
       obtain rfl := Option.some.inj h
       dsimp only [mZ] at hs26
       refine aS (aQ (((((iE (u_35.getD (uo_0 + (x159_34.toNat)) (0 : Nat)) (v_1.getD (x159_34.toNat) (0 : Nat)) carry_33).2).1), (x159_34 + (1 : Int)), (u_35.set (uo_0 + (x159_34.toNat)) ((iE (u_35.getD (uo_0 + (x159_34.toNat)) (0 : Nat)) (v_1.getD (x159_34.toNat) (0 : Nat)) carry_33).1)))) hs26 rfl ?_)
       ·(try simp only [fZ, eG, true_or, and_self, go_sem, aI F, aJ F, aK F]) <;> (repeat' apply And.intro) <;> first | rfl | (left; rfl) | (right; rfl) | (left; simp only [go_sem, aI F, aJ F, aK F]; done) | (right; simp only [go_sem, aI F, aJ F, aK F]; done) | (simp; done) | (simp only [*]; done) | omega
      ·try simp only [go_sem, aI F, aJ F, aK F] at hc
       have h := eD (by first | exact hc | omega | (simpa using hc) | (simp at hc ⊢; omega)) h
       obtain rfl := Option.some.inj h
       dsimp only [mZ] at hs26
       have h := hs26
       try dsimp only at h
       refine nM (cP (cP (eK (aS (aQ ((carry_33, u_35)) h rfl ?_)))))
       ·(try simp only [fZ, eG, true_or, and_self, go_sem, aI F, aJ F, aK F]) <;> (repeat' apply And.intro) <;> first | rfl | (left; rfl) | (right; rfl) | (left; simp only [go_sem, aI F, aJ F, aK F]; done) | (right; simp only [go_sem, aI F, aJ F, aK F]; done) | (simp; done) | (simp only [*]; done) | omega
     ·rintro ⟨carry_31, u_32⟩ h
      try dsimp only at h
      simp only [go_sem, aI F, aJ F, aK F]
      unfold zB at h
      refine aB (aN hF [6] ?_)
      simp only [go_sem, aI F, aJ F, aK F]
      obtain ⟨g0, h⟩ := aF h
      obtain ⟨g1, h⟩ := aF h
      repeat (refine ⟨by first | with_reducible assumption | omega | (intros; first | with_reducible assumption | omega) | (simp only [go_sem, aI F, aJ F, aK F] at *; first | assumption | omega) | decide, ?_⟩)
      obtain ⟨g0, h⟩ := aF h
      obtain ⟨g1, h⟩ := aF h
      repeat (refine ⟨by first | with_reducible assumption | omega | (intros; first | with_reducible assumption | omega) | (simp only [go_sem, aI F, aJ F, aK F] at *; first | assumption | omega) | decide, ?_⟩)
      refine aC (aB (aD hF [4] ?_))
      simp only [go_sem, aI F, aJ F, aK F]
      obtain rfl := Option.some.inj h
      refine aC (cY (aBG hF [.tmp 4] rfl rfl rfl rfl rfl rfl ?_))
      (try simp only [aV, aDI, aC0, eG, oS, AV.isAgg, go_sem, aI F, aJ F, aK F]) <;> first | trivial | rfl | (simp; done)
attribute [go_sem] xI
noncomputable def wK (F : Md) (b_1 : (List Nat)) (u_11 : (List Nat)) (q_12 : (List Nat)) : Option (((List Nat) × ((List Nat) × Unit))) :=
 ck (((gM F q_12).isSome = true)) (ck (0 ≤ (((b_1.length) : Nat) : Int) ∧ (((b_1.length) : Nat) : Int) ≤ (((u_11.length) : Nat) : Int)) (ck (((gM F (List.take (b_1.length) u_11)).isSome = true)) (ck (((kS F ((gM F (List.take (b_1.length) u_11)).getD ([] : List Nat)) ((bQ F (b_1.getD (((((b_1.length) : Nat) : Int) - (1 : Int)).toNat) (0 : Nat))).getD (0 : Int))).isSome = true)) (some (((gM F q_12).getD ([] : List Nat)), ((kS F ((gM F (List.take (b_1.length) u_11)).getD ([] : List Nat)) ((bQ F (b_1.getD (((((b_1.length) : Nat) : Int) - (1 : Int)).toNat) (0 : Nat))).getD (0 : Int))).getD ([] : List Nat)), ())))))
noncomputable def aCg (F : Md) (b_1 : (List Nat)) (j_14 : Int) (u_15 : (List Nat)) (q_16 : (List Nat)) : Option ((Int × (List Nat) × (List Nat)) ⊕ (((List Nat) × (List Nat)))) :=
 if (0 : Int) ≤ j_14 then ck (I64 (j_14 + (((b_1.length) : Nat) : Int))) (ck (I64 ((j_14 + (((b_1.length) : Nat) : Int)) + (1 : Int))) (ck (0 ≤ j_14 ∧ j_14 < ((j_14 + (((b_1.length) : Nat) : Int)) + (1 : Int)) ∧ ((j_14 + (((b_1.length) : Nat) : Int)) + (1 : Int)) ≤ (((u_15.length) : Nat) : Int)) (((aAg F (j_14.toNat) ((((j_14 + (((b_1.length) : Nat) : Int)) + (1 : Int)) - j_14).toNat) ((lY F ((jS F b_1 ((bQ F (b_1.getD (((((b_1.length) : Nat) : Int) - (1 : Int)).toNat) (0 : Nat))).getD (0 : Int))).getD ([] : List Nat)) (((b_1.length) : Nat) : Int)).getD ([] : List Nat)) u_15)).bind (fun r_24 => ck (0 ≤ j_14 ∧ j_14 < (((q_16.length) : Nat) : Int)) (ck (I64 (j_14 - (1 : Int))) (some (.inl ((j_14 - (1 : Int)), (r_24.2), (q_16.set (j_14.toNat) (r_24.1)))))))))) else some (.inr (u_15, q_16))
noncomputable def xJ (F : Md) (a_0 : (List Nat)) (b_1 : (List Nat)) : Option ((List Nat) × ((List Nat) × Unit)) :=
 ck (((oV F a_0 b_1).isSome = true)) (if ((oV F a_0 b_1).getD (0 : Int)) < (0 : Int) then ck ((aQQ a_0)) (some (([] : List Nat), (id a_0), ())) else if (((b_1.length) : Nat) : Int) = (1 : Int) then ck ((0 : Int) < (((b_1.length) : Nat) : Int)) (ck (((sB F a_0 (b_1.getD (0 : Nat) (0 : Nat))).isSome = true)) (some ((((sB F a_0 (b_1.getD (0 : Nat) (0 : Nat))).getD (([] : List Nat), ([] : List Nat), ())).1), ((((sB F a_0 (b_1.getD (0 : Nat) (0 : Nat))).getD (([] : List Nat), ([] : List Nat), ())).2).1), ()))) else ck (I64 ((((b_1.length) : Nat) : Int) - (1 : Int))) (ck (0 ≤ ((((b_1.length) : Nat) : Int) - (1 : Int)) ∧ ((((b_1.length) : Nat) : Int) - (1 : Int)) < (((b_1.length) : Nat) : Int)) (ck (((bQ F (b_1.getD (((((b_1.length) : Nat) : Int) - (1 : Int)).toNat) (0 : Nat))).isSome = true)) (ck (((jS F b_1 ((bQ F (b_1.getD (((((b_1.length) : Nat) : Int) - (1 : Int)).toNat) (0 : Nat))).getD (0 : Int))).isSome = true)) (ck (((lY F ((jS F b_1 ((bQ F (b_1.getD (((((b_1.length) : Nat) : Int) - (1 : Int)).toNat) (0 : Nat))).getD (0 : Int))).getD ([] : List Nat)) (((b_1.length) : Nat) : Int)).isSome = true)) (ck (((jS F a_0 ((bQ F (b_1.getD (((((b_1.length) : Nat) : Int) - (1 : Int)).toNat) (0 : Nat))).getD (0 : Int))).isSome = true)) (ck (I64 ((((a_0.length) : Nat) : Int) + (1 : Int))) (ck (((lY F ((jS F a_0 ((bQ F (b_1.getD (((((b_1.length) : Nat) : Int) - (1 : Int)).toNat) (0 : Nat))).getD (0 : Int))).getD ([] : List Nat)) ((((a_0.length) : Nat) : Int) + (1 : Int))).isSome = true)) (ck (I64 ((((a_0.length) : Nat) : Int) - (((b_1.length) : Nat) : Int))) (ck (I64 (((((a_0.length) : Nat) : Int) - (((b_1.length) : Nat) : Int)) + (1 : Int))) (ck (0 ≤ (((((a_0.length) : Nat) : Int) - (((b_1.length) : Nat) : Int)) + (1 : Int))) (ck ((8 : Int) * (((((a_0.length) : Nat) : Int) - (((b_1.length) : Nat) : Int)) + (1 : Int)) ≤ 281474976710656) (ck (I64 ((((a_0.length) : Nat) : Int) - (((b_1.length) : Nat) : Int))) ((dJ F (fun d : Int × (List Nat) × (List Nat) => aCg F b_1 d.1 d.2.1 d.2.2) (((((a_0.length) : Nat) : Int) - (((b_1.length) : Nat) : Int)), ((lY F ((jS F a_0 ((bQ F (b_1.getD (((((b_1.length) : Nat) : Int) - (1 : Int)).toNat) (0 : Nat))).getD (0 : Int))).getD ([] : List Nat)) ((((a_0.length) : Nat) : Int) + (1 : Int))).getD ([] : List Nat)), (List.replicate ((((((a_0.length) : Nat) : Int) - (((b_1.length) : Nat) : Int)) + (1 : Int)).toNat) (0 : Nat)))).bind (fun e => wK F b_1 e.1 e.2)))))))))))))))
def xK : Ty := .pair (.sl (.u .u64)) (.pair (.sl (.u .u64)) .unit)
attribute [go_sem] xK
noncomputable def vI (F : Md) : aG := mSpec xK (.tup (.pair (.sl (.u .u64)) (.pair (.sl (.u .u64)) .unit))) (fun x => xJ F x.1 x.2.1)
noncomputable def iL (F : Md) : List (FuncId × aG) := [(122, (lX F)), (163, (eL F)), (165, cF), (188, (dQ F)), (219, (xH F)), (220, (vH F)), (95, (sA F)), (97, (pH F))]
theorem aFJ (F : Md) : bI Tryz.prog GL (iL F) := .cons (aBN F) (by kernel_rfl) (.cons (oU F) (by kernel_rfl) (.cons kE (by kernel_rfl) (.cons (nD F) (by kernel_rfl) (.cons (aL9 F) (by kernel_rfl) (.cons (aKK F) (by kernel_rfl) (.cons (aHE F) (by kernel_rfl) (.cons (aFF F) (by kernel_rfl) (.nil))))))))
theorem aGN (F : Md) : gam (iL F) 122 = some (lX F) := rfl
attribute [go_sem] aGN
theorem aGO (F : Md) : gam (iL F) 163 = some (eL F) := rfl
attribute [go_sem] aGO
theorem aGP (F : Md) : gam (iL F) 165 = some cF := rfl
attribute [go_sem] aGP
theorem aGQ (F : Md) : gam (iL F) 188 = some (dQ F) := rfl
attribute [go_sem] aGQ
theorem aGR (F : Md) : gam (iL F) 219 = some (xH F) := rfl
attribute [go_sem] aGR
theorem aGS (F : Md) : gam (iL F) 220 = some (vH F) := rfl
attribute [go_sem] aGS
theorem aIh (F : Md) : gam (iL F) 95 = some (sA F) := rfl
attribute [go_sem] aIh
theorem aIi (F : Md) : gam (iL F) 97 = some (pH F) := rfl
attribute [go_sem] aIi
set_option maxHeartbeats 4000000 in
theorem aKL (F : Md) : FOK Tryz.prog GL 166 (vI F) := by
 refine lS (bD (aFJ F)) Tryz.func166 rfl (by kernel_rfl) (by decide) fun w0 S x r hw h => ?_
 have hF : kB (fr Tryz.prog (EM (iL F)) S w0 Tryz.f166.ntmps) := ⟨bD (aFJ F), mix⟩
 obtain ⟨(a_0 : (List Nat)), (b_1 : (List Nat)), u⟩ := x
 simp only [xK, Ty.wf, mP] at hw
 simp only [bP, xK]
 try dsimp only at h
 replace h : xJ F a_0 b_1 = some r := h
 unfold xJ at h
 refine aB (aD hF [0, 1] ?_)
 simp only [go_sem]
 refine aC (aB (aB (aD hF [0, 1, 15] ?_)))
 simp only [go_sem]
 obtain ⟨g0, h⟩ := aF h
 repeat (refine ⟨by first | with_reducible assumption | omega | (intros; first | with_reducible assumption | omega) | (simp only [go_sem] at *; first | with_reducible assumption | omega) | decide, ?_⟩)
 refine aC (bG rfl (fun hc => ?_) (fun hc => ?_))
 ·try simp only [go_sem] at hc
  have h := eC (by first | exact hc | omega | (simpa using hc) | (simp at hc ⊢; omega)) h
  refine aB (aN hF [4, 5] ?_)
  simp only [go_sem]
  obtain ⟨g0, h⟩ := aF h
  repeat (refine ⟨by first | with_reducible assumption | omega | (intros; first | with_reducible assumption | omega) | (simp only [go_sem] at *; first | with_reducible assumption | omega) | decide, ?_⟩)
  obtain rfl := Option.some.inj h
  refine aC (cY (dF (fG hF [.tmp 4, .tmp 5] rfl rfl rfl ?_)))
  (try simp only [iB, aV, go_sem]) <;> first | rfl | (simp; done)
 ·try simp only [go_sem] at hc
  have h := eD (by first | exact hc | omega | (simpa using hc) | (simp at hc ⊢; omega)) h
  refine cS (aC (aB (aB (aD hF [0, 1, 20] ?_))))
  simp only [go_sem]
  refine aC (bG rfl (fun hc => ?_) (fun hc => ?_))
  ·try simp only [go_sem] at hc
   have h := eC (by first | exact hc | omega | (simpa using hc) | (simp at hc ⊢; omega)) h
   refine aB (aD hF [4, 5] ?_)
   simp only [go_sem]
   obtain ⟨g0, h⟩ := aF h
   obtain ⟨g1, h⟩ := aF h
   repeat (refine ⟨by first | with_reducible assumption | omega | (intros; first | with_reducible assumption | omega) | (simp only [go_sem] at *; first | with_reducible assumption | omega) | decide, ?_⟩)
   obtain rfl := Option.some.inj h
   refine aC (cY (dF (fG hF [.tmp 4, .tmp 5] rfl rfl rfl ?_)))
   (try simp only [iB, aV, go_sem]) <;> first | rfl | (simp; done)
  ·try simp only [go_sem] at hc
   have h := eD (by first | exact hc | omega | (simpa using hc) | (simp at hc ⊢; omega)) h
   refine cS (aC (aB (aD hF [0, 1, 6, 7] ?_)))
   simp only [go_sem]
   obtain ⟨g0, h⟩ := aF h
   obtain ⟨g1, h⟩ := aF h
   obtain ⟨g2, h⟩ := aF h
   try simp only [I64, I32] at g0
   repeat (refine ⟨by first | with_reducible assumption | omega | (intros; first | with_reducible assumption | omega) | (simp only [go_sem] at *; first | with_reducible assumption | omega) | decide, ?_⟩)
   refine aC (aB (aN hF [0, 6, 7, 8, 9] ?_))
   simp only [go_sem]
   obtain ⟨g0, h⟩ := aF h
   repeat (refine ⟨by first | with_reducible assumption | omega | (intros; first | with_reducible assumption | omega) | (simp only [go_sem] at *; first | with_reducible assumption | omega) | decide, ?_⟩)
   obtain ⟨g0, h⟩ := aF h
   repeat (refine ⟨by first | with_reducible assumption | omega | (intros; first | with_reducible assumption | omega) | (simp only [go_sem] at *; first | with_reducible assumption | omega) | decide, ?_⟩)
   obtain ⟨g0, h⟩ := aF h
   repeat (refine ⟨by first | with_reducible assumption | omega | (intros; first | with_reducible assumption | omega) | (simp only [go_sem] at *; first | with_reducible assumption | omega) | decide, ?_⟩)
   obtain ⟨g0, h⟩ := aF h
   try simp only [I64, I32] at g0
   repeat (refine ⟨by first | with_reducible assumption | omega | (intros; first | with_reducible assumption | omega) | (simp only [go_sem] at *; first | with_reducible assumption | omega) | decide, ?_⟩)
   obtain ⟨g0, h⟩ := aF h
   repeat (refine ⟨by first | with_reducible assumption | omega | (intros; first | with_reducible assumption | omega) | (simp only [go_sem] at *; first | with_reducible assumption | omega) | decide, ?_⟩)
   refine aC (aB (aN hF [0, 6, 7, 8, 9, 10] ?_))
   simp only [go_sem]
   obtain ⟨g0, h⟩ := aF h
   try simp only [I64, I32] at g0
   repeat (refine ⟨by first | with_reducible assumption | omega | (intros; first | with_reducible assumption | omega) | (simp only [go_sem] at *; first | with_reducible assumption | omega) | decide, ?_⟩)
   obtain ⟨g0, h⟩ := aF h
   try simp only [I64, I32] at g0
   repeat (refine ⟨by first | with_reducible assumption | omega | (intros; first | with_reducible assumption | omega) | (simp only [go_sem] at *; first | with_reducible assumption | omega) | decide, ?_⟩)
   obtain ⟨g0, h⟩ := aF h
   obtain ⟨g1, h⟩ := aF h
   repeat (refine ⟨by first | with_reducible assumption | omega | (intros; first | with_reducible assumption | omega) | (simp only [go_sem] at *; first | with_reducible assumption | omega) | decide, ?_⟩)
   refine aC (kV (D := (List Nat) × (List Nat)) (fun d => wK F b_1 d.1 d.2 = some r) [6, 7] (fun d => [(9, .own 0), (10, .own 1)]) (fun d => [.inr (.row 83 (.u .u64) d.1), .inr (.row 83 (.u .u64) d.2)]) ?_ ?_)
   ·refine aB (aD hF [6, 7, 8, 9, 10, 11] ?_)
    simp only [go_sem]
    obtain ⟨g0, h⟩ := aF h
    try simp only [I64, I32] at g0
    repeat (refine ⟨by first | with_reducible assumption | omega | (intros; first | with_reducible assumption | omega) | (simp only [go_sem] at *; first | with_reducible assumption | omega) | decide, ?_⟩)
    refine aC (dT (aEw 0 ?_))
    simp only [go_sem]
    refine aDF [1, 2] rfl rfl ?_
    simp only [ren, fY, jC, posOf, dL, go_sem]
    refine nX (D := Int × (List Nat) × (List Nat)) [6, 7, 8] (fun d => [(9, .own 0), (10, .own 1), (11, .val (.i .i64) d.1)]) (fun d => [.inr (.row 83 (.u .u64) d.2.1), .inr (.row 83 (.u .u64) d.2.2)]) h ?_ ?_ ?_
    ·first | rfl | (simp only [go_sem]; done)
    ·(try simp only [fZ, eG, true_or, and_self, go_sem]) <;> (repeat' apply And.intro) <;> first | rfl | (left; rfl) | (right; rfl) | (left; simp only [go_sem]; done) | (right; simp only [go_sem]; done) | (simp; done) | (simp only [*]; done) | omega
    rintro ⟨j_14, u_15, q_16⟩ s9 h hs9
    simp only [go_sem]
    try dsimp only at h
    unfold aCg at h
    refine aB (aB (aD hF [6, 7, 8, 9, 10, 11, 60] ?_))
    simp only [go_sem]
    refine aC (bG rfl (fun hc => ?_) (fun hc => ?_))
    ·try simp only [go_sem] at hc
     have h := eC (by first | exact hc | omega | (simpa using hc) | (simp at hc ⊢; omega)) h
     obtain ⟨g0, h⟩ := aF h
     try simp only [I64, I32] at g0
     obtain ⟨g1, h⟩ := aF h
     try simp only [I64, I32] at g1
     obtain ⟨g2, h⟩ := aF h
     obtain ⟨r_24, he1, h⟩ := bind_some h
     try dsimp only at h
     obtain ⟨g3, h⟩ := aF h
     refine cS (aC (aB (dT (bY hF (eA (l := [(221, ⟨xI F, [0], ((j_14.toNat), ((((j_14 + (((b_1.length) : Nat) : Int)) + (1 : Int)) - j_14).toNat), ((lY F ((jS F b_1 ((bQ F (b_1.getD (((((b_1.length) : Nat) : Int) - (1 : Int)).toNat) (0 : Nat))).getD (0 : Int))).getD ([] : List Nat)) (((b_1.length) : Nat) : Int)).getD ([] : List Nat)), u_15, r_24)⟩)]) (.cons (aMb F) (by kernel_rfl) (.nil))) [6, 7, 8, 9, 10, 11] [71] ?_))))
     simp only [go_sem]
     repeat (refine ⟨by first | with_reducible assumption | omega | (intros; first | with_reducible assumption | omega) | (simp only [go_sem] at *; first | with_reducible assumption | omega) | decide, ?_⟩)
     refine bN (aC (aD hF [6, 7, 8, 9, 10, 11] ?_))
     simp only [go_sem]
     obtain ⟨g0, h⟩ := aF h
     try simp only [I64, I32] at g0
     repeat (refine ⟨by first | with_reducible assumption | omega | (intros; first | with_reducible assumption | omega) | (simp only [go_sem] at *; first | with_reducible assumption | omega) | decide, ?_⟩)
     obtain rfl := Option.some.inj h
     dsimp only [mZ] at hs9
     refine aS (aQ (((j_14 - (1 : Int)), (r_24.2), (q_16.set (j_14.toNat) (r_24.1)))) hs9 rfl ?_)
     ·(try simp only [fZ, eG, true_or, and_self, go_sem]) <;> (repeat' apply And.intro) <;> first | rfl | (left; rfl) | (right; rfl) | (left; simp only [go_sem]; done) | (right; simp only [go_sem]; done) | (simp; done) | (simp only [*]; done) | omega
    ·try simp only [go_sem] at hc
     have h := eD (by first | exact hc | omega | (simpa using hc) | (simp at hc ⊢; omega)) h
     obtain rfl := Option.some.inj h
     dsimp only [mZ] at hs9
     have h := hs9
     try dsimp only at h
     refine nM (cP (cP (eK (aS (aQ ((u_15, q_16)) h rfl ?_)))))
     ·(try simp only [fZ, eG, true_or, and_self, go_sem]) <;> (repeat' apply And.intro) <;> first | rfl | (left; rfl) | (right; rfl) | (left; simp only [go_sem]; done) | (right; simp only [go_sem]; done) | (simp; done) | (simp only [*]; done) | omega
   ·rintro ⟨u_11, q_12⟩ h
    try dsimp only at h
    simp only [go_sem]
    unfold wK at h
    refine aB (aEw 1 ?_)
    simp only [go_sem]
    refine aEw 0 ?_
    simp only [go_sem]
    refine aD hF [4, 5] ?_
    simp only [go_sem]
    obtain ⟨g0, h⟩ := aF h
    obtain ⟨g1, h⟩ := aF h
    obtain ⟨g2, h⟩ := aF h
    obtain ⟨g3, h⟩ := aF h
    repeat (refine ⟨by first | with_reducible assumption | omega | (intros; first | with_reducible assumption | omega) | (simp only [go_sem] at *; first | with_reducible assumption | omega) | decide, ?_⟩)
    obtain rfl := Option.some.inj h
    refine aC (cY (fG hF [.tmp 4, .tmp 5] rfl rfl rfl ?_))
    (try simp only [iB, aV, go_sem]) <;> first | rfl | (simp; done)
attribute [go_sem] vI
end Nu
end Go.Proofs
namespace Go.Proofs
open Go.Vc
set_option maxRecDepth 20000
namespace Nu
theorem aD4 : bI Tryz.prog GL [] := .nil
noncomputable def lZ (F : Md) (is_0 : Bool) (e_1 : Int) : Option (Unit ⊕ (Int × Unit)) :=
 if ¬ (is_0 = true) then some (.inr (e_1, ())) else some (.inl ())
noncomputable def eH (F : Md) : nN where
 D := Bool × Int × (Unit ⊕ (Int × Unit))
 av := fun d => [.val .bool d.1, .val (.i .i64) d.2.1]
 hp := fun d => []
 m := 0
 pre := fun d => lZ F d.1 d.2.1 = some d.2.2
 out := fun d => match d.2.2 with | .inl r => .ret (.tup []) [] | .inr p => .pan ⟨251, (.pair (.i .i64) .unit), p⟩ []
noncomputable def aHJ (F : Md) : List (FuncId × aG) := []
theorem aHK (F : Md) : bI Tryz.prog GL (aHJ F) := .nil
set_option maxHeartbeats 4000000 in
theorem gK (F : Md) : GOK Tryz.prog GL 233 (eH F) := by
 refine wC (bD (aHK F)) Tryz.func233 rfl (by kernel_rfl) (fun _ => Nat.le_of_ble_eq_true rfl) fun c0 w0 d hw1 hw2 h hn => ?_
 have hF : kB ⟨Tryz.prog, EM (aHJ F), GM (eH F) c0 d, w0, Tryz.f233.ntmps, []⟩ := ⟨bD (aHK F), mix⟩
 obtain ⟨(is_0 : Bool), (e_1 : Int), r⟩ := d
 replace h : lZ F is_0 e_1 = some r := h
 have hw1 : AV.wfL [.val .bool is_0, .val (.i .i64) e_1] := hw1
 simp only [AV.wfL, AV.wfV, Ty.wf, mP] at hw1
 show Tri _ _ _ [(0, .val .bool is_0), (1, .val (.i .i64) e_1)] []
 unfold lZ at h
 refine aB (aD hF [1, 5] ?_)
 simp only [go_sem]
 refine aC (bG rfl (fun hc => ?_) (fun hc => ?_))
 ·try simp only [go_sem] at hc
  have h := eC (by first | exact hc | omega | (simpa using hc) | (simp at hc ⊢; omega)) h
  refine bY hF (eA (l := []) (.nil)) [] [] ?_
  simp only [go_sem]
  repeat (refine ⟨by first | with_reducible assumption | omega | (intros; first | with_reducible assumption | omega) | (simp only [go_sem] at *; first | with_reducible assumption | omega) | decide, ?_⟩)
  obtain rfl := Option.some.inj h
  refine sW rfl rfl rfl rfl
 ·try simp only [go_sem] at hc
  have h := eD (by first | exact hc | omega | (simpa using hc) | (simp at hc ⊢; omega)) h
  obtain rfl := Option.some.inj h
  refine cS (aIX (aBG hF [] rfl rfl rfl rfl rfl rfl ?_))
  (try simp only [aV, aDI, aC0, eG, oS, AV.isAgg, go_sem]) <;> first | trivial | rfl | (simp; done)
attribute [go_sem] eH
noncomputable def vJ (F : Md) (e_2 : Int) (m_1 : (List Nat)) (neg_0 : Bool) : Option (((Bool × ((List Nat) × (Int × Unit))) ⊕ (Int × Unit))) :=
 ck (I64 (e_2 + ((dR F m_1).getD (0 : Int)))) (((lZ F (decide ((e_2 + ((dR F m_1).getD (0 : Int))) ≤ (1048576 : Int))) (3 : Int))).bind (fun e => match e with | .inl r_22 => ck (I64 (e_2 + ((dR F m_1).getD (0 : Int)))) (some (.inl (neg_0, ((kS F m_1 ((dR F m_1).getD (0 : Int))).getD ([] : List Nat)), (e_2 + ((dR F m_1).getD (0 : Int))), ()))) | .inr p_23 => some (.inr p_23)))
noncomputable def zE (F : Md) (neg_0 : Bool) (m_1 : (List Nat)) (e_2 : Int) : Option ((Bool × ((List Nat) × (Int × Unit))) ⊕ (Int × Unit)) :=
 if (((m_1.length) : Nat) : Int) = (0 : Int) then some (.inl (false, ([] : List Nat), (0 : Int), ())) else ck (((dR F m_1).isSome = true)) (ck (((kS F m_1 ((dR F m_1).getD (0 : Int))).isSome = true)) (((lZ F (decide ((((((kS F m_1 ((dR F m_1).getD (0 : Int))).getD ([] : List Nat)).length) : Nat) : Int) ≤ (64 : Int))) (2 : Int))).bind (fun e => match e with | .inl r_8 => if e_2 ≤ (1048576 : Int) then ck (I64 ((-1048576 : Int) - ((dR F m_1).getD (0 : Int)))) (((lZ F ((decide (e_2 ≤ (1048576 : Int))) && (decide (((-1048576 : Int) - ((dR F m_1).getD (0 : Int))) ≤ e_2))) (3 : Int))).bind (fun e => match e with | .inl r_24 => vJ F e_2 m_1 neg_0 | .inr p_25 => some (.inr p_25))) else ((lZ F false (3 : Int))).bind (fun e => match e with | .inl r_26 => vJ F e_2 m_1 neg_0 | .inr p_27 => some (.inr p_27)) | .inr p_9 => some (.inr p_9))))
noncomputable def oW (F : Md) : nN where
 D := Bool × (List Nat) × Int × ((Bool × ((List Nat) × (Int × Unit))) ⊕ (Int × Unit))
 av := fun d => [.val .bool d.1, .val (.sl (.u .u64)) d.2.1, .val (.i .i64) d.2.2.1]
 hp := fun d => []
 m := 0
 pre := fun d => zE F d.1 d.2.1 d.2.2.1 = some d.2.2.2
 out := fun d => match d.2.2.2 with | .inl r => .ret (.val (.pair .bool (.pair (.sl (.u .u64)) (.pair (.i .i64) .unit))) r) [] | .inr p => .pan ⟨251, (.pair (.i .i64) .unit), p⟩ []
noncomputable def aBQ (F : Md) : List (FuncId × aG) := [(97, (pH F)), (98, (xG F))]
theorem aJ3 (F : Md) : bI Tryz.prog GL (aBQ F) := .cons (aFF F) (by kernel_rfl) (.cons (aL8 F) (by kernel_rfl) (.nil))
theorem aKM (F : Md) : gam (aBQ F) 97 = some (pH F) := rfl
attribute [go_sem] aKM
theorem aKN (F : Md) : gam (aBQ F) 98 = some (xG F) := rfl
attribute [go_sem] aKN
set_option maxHeartbeats 4000000 in
theorem aAh (F : Md) : GOK Tryz.prog GL 182 (oW F) := by
 refine wC (bD (aJ3 F)) Tryz.func182 rfl (by kernel_rfl) (fun _ => Nat.le_of_ble_eq_true rfl) fun c0 w0 d hw1 hw2 h hn => ?_
 have hF : kB ⟨Tryz.prog, EM (aBQ F), GM (oW F) c0 d, w0, Tryz.f182.ntmps, []⟩ := ⟨bD (aJ3 F), mix⟩
 obtain ⟨(neg_0 : Bool), (m_1 : (List Nat)), (e_2 : Int), r⟩ := d
 replace h : zE F neg_0 m_1 e_2 = some r := h
 have hw1 : AV.wfL [.val .bool neg_0, .val (.sl (.u .u64)) m_1, .val (.i .i64) e_2] := hw1
 simp only [AV.wfL, AV.wfV, Ty.wf, mP] at hw1
 show Tri _ _ _ [(0, .val .bool neg_0), (1, .val (.sl (.u .u64)) m_1), (2, .val (.i .i64) e_2)] []
 unfold zE at h
 refine aB (aN hF [0, 1, 2, 6] ?_)
 simp only [go_sem]
 refine aC (aB (aB (aD hF [0, 1, 2, 6, 10] ?_)))
 simp only [go_sem]
 refine aC (bG rfl (fun hc => ?_) (fun hc => ?_))
 ·try simp only [go_sem] at hc
  have h := eC (by first | exact hc | omega | (simpa using hc) | (simp at hc ⊢; omega)) h
  refine aB (aN hF [6] ?_)
  simp only [go_sem]
  obtain rfl := Option.some.inj h
  refine aC (cY (dF (aAY hF [.cell 6 25] [] rfl rfl rfl rfl rfl rfl rfl rfl rfl ?_)))
  (try simp only [aV, aDI, aC0, eG, oS, AV.isAgg, go_sem]) <;> first | trivial | rfl | (simp; done)
 ·try simp only [go_sem] at hc
  have h := eD (by first | exact hc | omega | (simpa using hc) | (simp at hc ⊢; omega)) h
  refine cS (aC (aB (aD hF [0, 1, 2, 6, 7] ?_)))
  simp only [go_sem]
  obtain ⟨g0, h⟩ := aF h
  repeat (refine ⟨by first | with_reducible assumption | omega | (intros; first | with_reducible assumption | omega) | (simp only [go_sem] at *; first | with_reducible assumption | omega) | decide, ?_⟩)
  refine aC (aB (aD hF [0, 1, 2, 6, 7] ?_))
  simp only [go_sem]
  obtain ⟨g0, h⟩ := aF h
  repeat (refine ⟨by first | with_reducible assumption | omega | (intros; first | with_reducible assumption | omega) | (simp only [go_sem] at *; first | with_reducible assumption | omega) | decide, ?_⟩)
  obtain ⟨e, he1, h⟩ := bind_some h
  rcases e with r_8 | p_9
  ·try dsimp only at h
   refine aC (aB (bY hF (eA (l := [(233, ⟨eH F, [], ((decide ((((((kS F m_1 ((dR F m_1).getD (0 : Int))).getD ([] : List Nat)).length) : Nat) : Int) ≤ (64 : Int))), (2 : Int), .inl r_8)⟩)]) (.cons (gK F) (by kernel_rfl) (.nil))) [0, 1, 2, 6, 7] [] ?_))
   simp only [go_sem]
   repeat (refine ⟨by first | with_reducible assumption | omega | (intros; first | with_reducible assumption | omega) | (simp only [go_sem] at *; first | with_reducible assumption | omega) | decide, ?_⟩)
   refine aC (kV (D := Unit) (fun d => vJ F e_2 m_1 neg_0 = some r) [0, 1, 2, 7] (fun d => [(6, .ptr 0 [])]) (fun d => [.inr (.box 3 (.val (.pair .bool (.pair (.sl (.u .u64)) (.pair (.i .i64) .unit))) (false, ([] : List Nat), (0 : Int), ())))]) ?_ ?_)
   ·by_cases hq : e_2 ≤ (1048576 : Int)
    ·have h := eC hq h
     obtain ⟨g0, h⟩ := aF h
     try simp only [I64, I32] at g0
     obtain ⟨e, he3, h⟩ := bind_some h
     rcases e with r_24 | p_25
     ·try dsimp only at h
      refine bY hF (eA (l := [(233, ⟨eH F, [], (((decide (e_2 ≤ (1048576 : Int))) && (decide (((-1048576 : Int) - ((dR F m_1).getD (0 : Int))) ≤ e_2))), (3 : Int), .inl r_24)⟩)]) (.cons (gK F) (by kernel_rfl) (.nil))) [0, 1, 2, 6, 7] [] ?_
      simp only [go_sem]
      repeat (refine ⟨by first | with_reducible assumption | omega | (intros; first | with_reducible assumption | omega) | (simp only [go_sem] at *; first | with_reducible assumption | omega) | decide, ?_⟩)
      refine ⟨fun _ => ?_, fun hx => by first | (exfalso; omega) | (exfalso; simp_all; done)⟩
      repeat (refine ⟨by first | with_reducible assumption | omega | (intros; first | with_reducible assumption | omega) | (simp only [go_sem] at *; first | with_reducible assumption | omega) | decide, ?_⟩)
      refine ⟨fun _ => ?_, fun hx => by first | (exfalso; omega) | (exfalso; simp_all; done)⟩
      repeat (refine ⟨by first | with_reducible assumption | omega | (intros; first | with_reducible assumption | omega) | (simp only [go_sem] at *; first | with_reducible assumption | omega) | decide, ?_⟩)
      refine ⟨fun _ => ?_, fun hx => by first | (exfalso; omega) | (exfalso; simp_all; done)⟩
      repeat (refine ⟨by first | with_reducible assumption | omega | (intros; first | with_reducible assumption | omega) | (simp only [go_sem] at *; first | with_reducible assumption | omega) | decide, ?_⟩)
      refine ⟨fun _ => ?_, fun hx => by first | (exfalso; omega) | (exfalso; simp_all; done)⟩
      repeat (refine ⟨by first | with_reducible assumption | omega | (intros; first | with_reducible assumption | omega) | (simp only [go_sem] at *; first | with_reducible assumption | omega) | decide, ?_⟩)
      refine aS (aQ (()) h rfl ?_)
      ·(try simp only [fZ, eG, true_or, and_self, go_sem]) <;> (repeat' apply And.intro) <;> first | rfl | (left; rfl) | (right; rfl) | (left; simp only [go_sem]; done) | (right; simp only [go_sem]; done) | (simp; done) | (simp only [*]; done) | omega
     ·try dsimp only at h
      refine bY hF (eA (l := [(233, ⟨eH F, [], (((decide (e_2 ≤ (1048576 : Int))) && (decide (((-1048576 : Int) - ((dR F m_1).getD (0 : Int))) ≤ e_2))), (3 : Int), .inr p_25)⟩)]) (.cons (gK F) (by kernel_rfl) (.nil))) [0, 1, 2, 6, 7] [] ?_
      simp only [go_sem]
      repeat (refine ⟨by first | with_reducible assumption | omega | (intros; first | with_reducible assumption | omega) | (simp only [go_sem] at *; first | with_reducible assumption | omega) | decide, ?_⟩)
      refine ⟨fun _ => ?_, fun hx => by first | (exfalso; omega) | (exfalso; simp_all; done)⟩
      repeat (refine ⟨by first | with_reducible assumption | omega | (intros; first | with_reducible assumption | omega) | (simp only [go_sem] at *; first | with_reducible assumption | omega) | decide, ?_⟩)
      refine ⟨fun _ => ?_, fun hx => by first | (exfalso; omega) | (exfalso; simp_all; done)⟩
      repeat (refine ⟨by first | with_reducible assumption | omega | (intros; first | with_reducible assumption | omega) | (simp only [go_sem] at *; first | with_reducible assumption | omega) | decide, ?_⟩)
      refine ⟨fun _ => ?_, fun hx => by first | (exfalso; omega) | (exfalso; simp_all; done)⟩
      repeat (refine ⟨by first | with_reducible assumption | omega | (intros; first | with_reducible assumption | omega) | (simp only [go_sem] at *; first | with_reducible assumption | omega) | decide, ?_⟩)
      refine ⟨fun _ => ?_, fun hx => by first | (exfalso; omega) | (exfalso; simp_all; done)⟩
      repeat (refine ⟨by first | with_reducible assumption | omega | (intros; first | with_reducible assumption | omega) | (simp only [go_sem] at *; first | with_reducible assumption | omega) | decide, ?_⟩)
      obtain rfl := Option.some.inj h
      refine nO (vE [] rfl rfl ?_)
      simp only [ren, fY, jC, posOf, dL, go_sem]
      refine sW rfl rfl rfl rfl
    ·have h := eD hq h
     obtain ⟨e, he4, h⟩ := bind_some h
     rcases e with r_26 | p_27
     ·try dsimp only at h
      refine bY hF (eA (l := [(233, ⟨eH F, [], (false, (3 : Int), .inl r_26)⟩)]) (.cons (gK F) (by kernel_rfl) (.nil))) [0, 1, 2, 6, 7] [] ?_
      simp only [go_sem]
      repeat (refine ⟨by first | with_reducible assumption | omega | (intros; first | with_reducible assumption | omega) | (simp only [go_sem] at *; first | with_reducible assumption | omega) | decide, ?_⟩)
      first | (refine ⟨fun hx => by first | (exfalso; omega) | (exfalso; simp_all; done), fun _ => ?_⟩) | intro _
      repeat (refine ⟨by first | with_reducible assumption | omega | (intros; first | with_reducible assumption | omega) | (simp only [go_sem] at *; first | with_reducible assumption | omega) | decide, ?_⟩)
      first | (refine ⟨fun hx => by first | (exfalso; omega) | (exfalso; simp_all; done), fun _ => ?_⟩) | intro _
      repeat (refine ⟨by first | with_reducible assumption | omega | (intros; first | with_reducible assumption | omega) | (simp only [go_sem] at *; first | with_reducible assumption | omega) | decide, ?_⟩)
      first | (refine ⟨fun hx => by first | (exfalso; omega) | (exfalso; simp_all; done), fun _ => ?_⟩) | intro _
      repeat (refine ⟨by first | with_reducible assumption | omega | (intros; first | with_reducible assumption | omega) | (simp only [go_sem] at *; first | with_reducible assumption | omega) | decide, ?_⟩)
      first | (refine ⟨fun hx => by first | (exfalso; omega) | (exfalso; simp_all; done), fun _ => ?_⟩) | intro _
      repeat (refine ⟨by first | with_reducible assumption | omega | (intros; first | with_reducible assumption | omega) | (simp only [go_sem] at *; first | with_reducible assumption | omega) | decide, ?_⟩)
      refine aS (aQ (()) h rfl ?_)
      ·(try simp only [fZ, eG, true_or, and_self, go_sem]) <;> (repeat' apply And.intro) <;> first | rfl | (left; rfl) | (right; rfl) | (left; simp only [go_sem]; done) | (right; simp only [go_sem]; done) | (simp; done) | (simp only [*]; done) | omega
     ·try dsimp only at h
      refine bY hF (eA (l := [(233, ⟨eH F, [], (false, (3 : Int), .inr p_27)⟩)]) (.cons (gK F) (by kernel_rfl) (.nil))) [0, 1, 2, 6, 7] [] ?_
      simp only [go_sem]
      repeat (refine ⟨by first | with_reducible assumption | omega | (intros; first | with_reducible assumption | omega) | (simp only [go_sem] at *; first | with_reducible assumption | omega) | decide, ?_⟩)
      first | (refine ⟨fun hx => by first | (exfalso; omega) | (exfalso; simp_all; done), fun _ => ?_⟩) | intro _
      repeat (refine ⟨by first | with_reducible assumption | omega | (intros; first | with_reducible assumption | omega) | (simp only [go_sem] at *; first | with_reducible assumption | omega) | decide, ?_⟩)
      first | (refine ⟨fun hx => by first | (exfalso; omega) | (exfalso; simp_all; done), fun _ => ?_⟩) | intro _
      repeat (refine ⟨by first | with_reducible assumption | omega | (intros; first | with_reducible assumption | omega) | (simp only [go_sem] at *; first | with_reducible assumption | omega) | decide, ?_⟩)
      first | (refine ⟨fun hx => by first | (exfalso; omega) | (exfalso; simp_all; done), fun _ => ?_⟩) | intro _
      repeat (refine ⟨by first | with_reducible assumption | omega | (intros; first | with_reducible assumption | omega) | (simp only [go_sem] at *; first | with_reducible assumption | omega) | decide, ?_⟩)
      first | (refine ⟨fun hx => by first | (exfalso; omega) | (exfalso; simp_all; done), fun _ => ?_⟩) | intro _
      repeat (refine ⟨by first | with_reducible assumption | omega | (intros; first | with_reducible assumption | omega) | (simp only [go_sem] at *; first | with_reducible assumption | omega) | decide, ?_⟩)
      obtain rfl := Option.some.inj h
      refine nO (vE [] rfl rfl ?_)
      simp only [ren, fY, jC, posOf, dL, go_sem]
      refine sW rfl rfl rfl rfl
   ·rintro u h
    try dsimp only at h
    simp only [go_sem]
    unfold vJ at h
    obtain ⟨g0, h⟩ := aF h
    try simp only [I64, I32] at g0
    obtain ⟨e, he2, h⟩ := bind_some h
    rcases e with r_22 | p_23
    ·try dsimp only at h
     refine aB (bY hF (eA (l := [(233, ⟨eH F, [], ((decide ((e_2 + ((dR F m_1).getD (0 : Int))) ≤ (1048576 : Int))), (3 : Int), .inl r_22)⟩)]) (.cons (gK F) (by kernel_rfl) (.nil))) [0, 1, 2, 6, 7] [] ?_)
     simp only [go_sem]
     repeat (refine ⟨by first | with_reducible assumption | omega | (intros; first | with_reducible assumption | omega) | (simp only [go_sem] at *; first | with_reducible assumption | omega) | decide, ?_⟩)
     refine aC (aB (aN hF [6] ?_))
     simp only [go_sem]
     obtain ⟨g0, h⟩ := aF h
     try simp only [I64, I32] at g0
     repeat (refine ⟨by first | with_reducible assumption | omega | (intros; first | with_reducible assumption | omega) | (simp only [go_sem] at *; first | with_reducible assumption | omega) | decide, ?_⟩)
     obtain rfl := Option.some.inj h
     refine aC (cY (aAY hF [.cell 6 25] [] rfl rfl rfl rfl rfl rfl rfl rfl rfl ?_))
     (try simp only [aV, aDI, aC0, eG, oS, AV.isAgg, go_sem]) <;> first | trivial | rfl | (simp; done)
    ·try dsimp only at h
     refine aB (bY hF (eA (l := [(233, ⟨eH F, [], ((decide ((e_2 + ((dR F m_1).getD (0 : Int))) ≤ (1048576 : Int))), (3 : Int), .inr p_23)⟩)]) (.cons (gK F) (by kernel_rfl) (.nil))) [0, 1, 2, 6, 7] [] ?_)
     simp only [go_sem]
     repeat (refine ⟨by first | with_reducible assumption | omega | (intros; first | with_reducible assumption | omega) | (simp only [go_sem] at *; first | with_reducible assumption | omega) | decide, ?_⟩)
     obtain rfl := Option.some.inj h
     refine nO (vE [] rfl rfl ?_)
     simp only [ren, fY, jC, posOf, dL, go_sem]
     refine sW rfl rfl rfl rfl
  ·try dsimp only at h
   refine aC (aB (bY hF (eA (l := [(233, ⟨eH F, [], ((decide ((((((kS F m_1 ((dR F m_1).getD (0 : Int))).getD ([] : List Nat)).length) : Nat) : Int) ≤ (64 : Int))), (2 : Int), .inr p_9)⟩)]) (.cons (gK F) (by kernel_rfl) (.nil))) [0, 1, 2, 6, 7] [] ?_))
   simp only [go_sem]
   repeat (refine ⟨by first | with_reducible assumption | omega | (intros; first | with_reducible assumption | omega) | (simp only [go_sem] at *; first | with_reducible assumption | omega) | decide, ?_⟩)
   obtain rfl := Option.some.inj h
   refine nO (vE [] rfl rfl ?_)
   simp only [ren, fY, jC, posOf, dL, go_sem]
   refine sW rfl rfl rfl rfl
attribute [go_sem] oW
noncomputable def xL (F : Md) (a0_0 : Bool) (a1_1 : (List Nat)) (a2_2 : Int) : Option ((Bool × ((List Nat) × (Int × Unit))) ⊕ (Int × Unit)) :=
 ((zE F a0_0 a1_1 a2_2)).bind (fun e => match e with | .inl r_8 => some (.inl r_8) | .inr p_9 => some (.inr p_9))
noncomputable def qN (F : Md) : nN where
 D := Bool × (List Nat) × Int × ((Bool × ((List Nat) × (Int × Unit))) ⊕ (Int × Unit))
 av := fun d => [.val (.rp .bool) d.1, .val (.rp (.sl (.u .u64))) d.2.1, .val (.rp (.i .i64)) d.2.2.1]
 hp := fun d => []
 m := 0
 pre := fun d => xL F d.1 d.2.1 d.2.2.1 = some d.2.2.2
 out := fun d => match d.2.2.2 with | .inl r => .ret (.val (.pair .bool (.pair (.sl (.u .u64)) (.pair (.i .i64) .unit))) r) [] | .inr p => .pan ⟨251, (.pair (.i .i64) .unit), p⟩ []
noncomputable def aFK (F : Md) : List (FuncId × aG) := []
theorem aFL (F : Md) : bI Tryz.prog GL (aFK F) := .nil
set_option maxHeartbeats 4000000 in
theorem aD5 (F : Md) : GOK Tryz.prog GL 181 (qN F) := by
 refine wC (bD (aFL F)) Tryz.func181 rfl (by kernel_rfl) (fun _ => Nat.le_of_ble_eq_true rfl) fun c0 w0 d hw1 hw2 h hn => ?_
 have hF : kB ⟨Tryz.prog, EM (aFK F), GM (qN F) c0 d, w0, Tryz.f181.ntmps, []⟩ := ⟨bD (aFL F), mix⟩
 obtain ⟨(a0_0 : Bool), (a1_1 : (List Nat)), (a2_2 : Int), r⟩ := d
 replace h : xL F a0_0 a1_1 a2_2 = some r := h
 have hw1 : AV.wfL [.val (.rp .bool) a0_0, .val (.rp (.sl (.u .u64))) a1_1, .val (.rp (.i .i64)) a2_2] := hw1
 simp only [AV.wfL, AV.wfV, Ty.wf, mP] at hw1
 show Tri _ _ _ [(0, .roa .bool a0_0), (1, .roa (.sl (.u .u64)) a1_1), (2, .roa (.i .i64) a2_2)] []
 unfold xL at h
 refine aB (aN hF [0, 1, 2, 3] ?_)
 simp only [go_sem]
 obtain ⟨e, he1, h⟩ := bind_some h
 rcases e with r_8 | p_9
 ·try dsimp only at h
  refine aC (aB (bY hF (eA (l := [(182, ⟨oW F, [], (a0_0, a1_1, a2_2, .inl r_8)⟩)]) (.cons (aAh F) (by kernel_rfl) (.nil))) [3] [] ?_))
  simp only [go_sem]
  repeat (refine ⟨by first | with_reducible assumption | omega | (intros; first | with_reducible assumption | omega) | (simp only [go_sem] at *; first | with_reducible assumption | omega) | decide, ?_⟩)
  obtain rfl := Option.some.inj h
  refine aC (cY (aAY hF [.cell 3 25] [] rfl rfl rfl rfl rfl rfl rfl rfl rfl ?_))
  (try simp only [aV, aDI, aC0, eG, oS, AV.isAgg, go_sem]) <;> first | trivial | rfl | (simp; done)
 ·try dsimp only at h
  refine aC (aB (bY hF (eA (l := [(182, ⟨oW F, [], (a0_0, a1_1, a2_2, .inr p_9)⟩)]) (.cons (aAh F) (by kernel_rfl) (.nil))) [3] [] ?_))
  simp only [go_sem]
  repeat (refine ⟨by first | with_reducible assumption | omega | (intros; first | with_reducible assumption | omega) | (simp only [go_sem] at *; first | with_reducible assumption | omega) | decide, ?_⟩)
  obtain rfl := Option.some.inj h
  refine nO (vE [] rfl rfl ?_)
  simp only [ren, fY, jC, posOf, dL, go_sem]
  refine sW rfl rfl rfl rfl
attribute [go_sem] qN
def kT : nN where
 D := (Bool × ((List Nat) × (Int × Unit))) × Int
 av := fun _ => [.ptr 0 [], .ptr 1 []]
 hp := fun d => [.box 3 (.val (.pair .bool (.pair (.sl (.u .u64)) (.pair (.i .i64) .unit))) d.1), .box 1 (.val (.i .i64) d.2)]
 m := 2
 pre := fun _ => True
 out := fun d => .ret (.tup []) [.box 3 (.val (.pair .bool (.pair (.sl (.u .u64)) (.pair (.i .i64) .unit))) d.1), .box 1 (.val (.i .i64) d.2)]
def kU (x : (Int × Unit)) : nN where
 D := (Bool × ((List Nat) × (Int × Unit))) × Int
 av := fun _ => [.ptr 0 [], .ptr 1 []]
 hp := fun d => [.box 3 (.val (.pair .bool (.pair (.sl (.u .u64)) (.pair (.i .i64) .unit))) d.1), .box 1 (.val (.i .i64) d.2)]
 m := 2
 pre := fun _ => True
 out := fun d => .ret (.tup []) [.box 3 (.val (.pair .bool (.pair (.sl (.u .u64)) (.pair (.i .i64) .unit))) (false, ([] : List Nat), (0 : Int), ())), .box 1 (.val (.i .i64) x.1)]
theorem aC6 : DOK Tryz.prog GL 232 none kT := by
 refine aQp (bD aD4) Tryz.func232 rfl (by kernel_rfl) (fun _ => Nat.le_of_ble_eq_true rfl) rfl fun c w d hw1 hw2 hp hn => ?_
 have hF : kB ⟨Tryz.prog, EM [], GM kT c d, w, Tryz.f232.ntmps, []⟩ := ⟨bD aD4, mix⟩
 obtain ⟨d, e⟩ := d
 show pE _ _ _ [(5, .val .nili ()), (0, .ptr 0 []), (1, .ptr 1 [])] [.box 3 (.val (.pair .bool (.pair (.sl (.u .u64)) (.pair (.i .i64) .unit))) d), .box 1 (.val (.i .i64) e)] _
 simp only [go_sem]
 refine aB (aD hF [0, 1, 2, 9] ?_)
 simp only [go_sem]
 refine aC (bG rfl (fun hc => absurd hc (by decide)) (fun hc => ?_))
 refine cS ?_
 refine fH [0, 1] rfl rfl ?_
 simp only [ren, fY, jC, posOf, dL, go_sem]
 refine aIX (aBG hF [] rfl rfl rfl rfl rfl rfl ?_)
 simp only [aV, aDI, aC0, go_sem]
 try decide
theorem aC7 (x : (Int × Unit)) : DOK Tryz.prog GL 232 (some ⟨251, (.pair (.i .i64) .unit), x⟩) (kU x) := by
 refine aQp (bD aD4) Tryz.func232 rfl (by kernel_rfl) (fun _ => Nat.le_of_ble_eq_true rfl) rfl fun c w d hw1 hw2 hp hn => ?_
 have hF : kB ⟨Tryz.prog, EM [], GM (kU x) c d, w, Tryz.f232.ntmps, []⟩ := ⟨bD aD4, mix⟩
 obtain ⟨d, e⟩ := d
 show pE _ _ _ [(5, .val (.ifc 251 (.pair (.i .i64) .unit)) x), (0, .ptr 0 []), (1, .ptr 1 [])] [.box 3 (.val (.pair .bool (.pair (.sl (.u .u64)) (.pair (.i .i64) .unit))) d), .box 1 (.val (.i .i64) e)] _
 simp only [go_sem]
 refine aB (aD hF [0, 1, 2, 9] ?_)
 simp only [go_sem]
 refine aC (bG rfl (fun hc => ?_) (fun hc => absurd hc (by decide)))
 refine aC1 hF [] [] [.box 3 (.val (.pair .bool (.pair (.sl (.u .u64)) (.pair (.i .i64) .unit))) (false, ([] : List Nat), (0 : Int), ())), .box 1 (.val (.i .i64) x.1), .box 1 (.val (.pair (.i .i64) .unit) x)] (by decide) ?_ ?_
 ·simp only [go_sem]
  unfold anyS
  intro i hi
  have hi : i = 0 ∨ i = 1 := by revert hi; revert i; decide
  rcases hi with rfl | rfl
  ·simp only [go_sem]
   skip
   unfold anyS
   intro i hi
   have hi : i = 1 ∨ i = 3 := by revert hi; revert i; decide
   rcases hi with rfl | rfl
   ·simp only [go_sem]
    skip
    unfold anyS
    intro i hi
    have hi : i = 2 ∨ i = 3 := by revert hi; revert i; decide
    rcases hi with rfl | rfl
    ·simp only [go_sem]
     skip
     unfold anyS
     intro i hi
     have hi : i = 3 := by revert hi; revert i; decide
     subst hi
     simp only [go_sem]
     skip
     unfold anyS
     intro i hi
     have hi : i = 4 := by revert hi; revert i; decide
     subst hi
     simp only [go_sem]
     skip
     (simp only [anyS, go_sem]) <;> first | exact ⟨rfl, rfl⟩ | trivial
    ·simp only [go_sem]
     skip
     unfold anyS
     intro i hi
     have hi : i = 2 := by revert hi; revert i; decide
     subst hi
     simp only [go_sem]
     skip
     unfold anyS
     intro i hi
     have hi : i = 4 := by revert hi; revert i; decide
     subst hi
     simp only [go_sem]
     skip
     (simp only [anyS, go_sem]) <;> first | exact ⟨rfl, rfl⟩ | trivial
   ·simp only [go_sem]
    skip
    unfold anyS
    intro i hi
    have hi : i = 1 := by revert hi; revert i; decide
    subst hi
    simp only [go_sem]
    skip
    unfold anyS
    intro i hi
    have hi : i = 2 := by revert hi; revert i; decide
    subst hi
    simp only [go_sem]
    skip
    unfold anyS
    intro i hi
    have hi : i = 4 := by revert hi; revert i; decide
    subst hi
    simp only [go_sem]
    skip
    (simp only [anyS, go_sem]) <;> first | exact ⟨rfl, rfl⟩ | trivial
  ·simp only [go_sem]
   skip
   unfold anyS
   intro i hi
   have hi : i = 0 ∨ i = 2 := by revert hi; revert i; decide
   rcases hi with rfl | rfl
   ·simp only [go_sem]
    skip
    unfold anyS
    intro i hi
    have hi : i = 2 ∨ i = 3 := by revert hi; revert i; decide
    rcases hi with rfl | rfl
    ·simp only [go_sem]
     skip
     unfold anyS
     intro i hi
     have hi : i = 3 := by revert hi; revert i; decide
     subst hi
     simp only [go_sem]
     skip
     unfold anyS
     intro i hi
     have hi : i = 4 := by revert hi; revert i; decide
     subst hi
     simp only [go_sem]
     skip
     (simp only [anyS, go_sem]) <;> first | exact ⟨rfl, rfl⟩ | trivial
    ·simp only [go_sem]
     skip
     unfold anyS
     intro i hi
     have hi : i = 2 := by revert hi; revert i; decide
     subst hi
     simp only [go_sem]
     skip
     unfold anyS
     intro i hi
     have hi : i = 4 := by revert hi; revert i; decide
     subst hi
     simp only [go_sem]
     skip
     (simp only [anyS, go_sem]) <;> first | exact ⟨rfl, rfl⟩ | trivial
   ·simp only [go_sem]
    skip
    unfold anyS
    intro i hi
    have hi : i = 0 := by revert hi; revert i; decide
    subst hi
    simp only [go_sem]
    skip
    unfold anyS
    intro i hi
    have hi : i = 3 := by revert hi; revert i; decide
    subst hi
    simp only [go_sem]
    skip
    unfold anyS
    intro i hi
    have hi : i = 4 := by revert hi; revert i; decide
    subst hi
    simp only [go_sem]
    skip
    (simp only [anyS, go_sem]) <;> first | exact ⟨rfl, rfl⟩ | trivial
 refine fH [0, 1] rfl rfl ?_
 simp only [ren, fY, jC, posOf, dL, go_sem]
 refine aIX (aBG hF [] rfl rfl rfl rfl rfl rfl ?_)
 simp only [aV, aDI, aC0, go_sem]
 try decide
noncomputable def fD (F : Md) (c0 : Bool) (c1 : (List Nat)) (c2 : Int) : Option ((Bool × ((List Nat) × (Int × Unit))) × Int × Unit) :=
 (xL F c0 c1 c2).bind fun q => some (match q with | .inl r => (r, 0, ()) | .inr p => ((false, ([] : List Nat), (0 : Int), ()), p.1, ()))
def sD : Ty := .pair (.clo 181 (.pair (.rp .bool) (.pair (.rp (.sl (.u .u64))) (.pair (.rp (.i .i64)) .unit)))) .unit
noncomputable def iM (F : Md) : aG := mSpec sD (.tup (.pair (.pair .bool (.pair (.sl (.u .u64)) (.pair (.i .i64) .unit))) (.pair (.i .i64) .unit))) (fun x => fD F x.1.1 x.1.2.1 x.1.2.2.1)
set_option maxHeartbeats 4000000 in
theorem aAE (F : Md) : FOK Tryz.prog GL 180 (iM F) := by
 refine aJK (bD aD4) Tryz.func180 rfl (by kernel_rfl) (by decide) fun w0 S x r hw h => ?_
 have hF : kB (fr Tryz.prog (EM []) S w0 Tryz.f180.ntmps) := ⟨bD aD4, mix⟩
 obtain ⟨⟨(c0 : Bool), (c1 : (List Nat)), (c2 : Int), u1⟩, u⟩ := x
 replace h : fD F c0 c1 c2 = some r := h
 show Tri _ _ _ [(0, .val (.clo 181 (.pair (.rp .bool) (.pair (.rp (.sl (.u .u64))) (.pair (.rp (.i .i64)) .unit)))) (c0, c1, c2, u1))] []
 unfold fD at h
 obtain ⟨q, hq, h⟩ := bind_some h
 obtain rfl := Option.some.inj h
 refine aB (aN hF [0, 2, 3] ?_)
 simp only [go_sem]
 refine aC (aDX 2 [0, 1] rfl rfl (Nat.zero_le _) (by decide) fun roots hroots => ?_)
 have hF' : kB { fr Tryz.prog (EM []) S w0 Tryz.f180.ntmps with M := ⟨nothing, S, 2, roots⟩, ds := [⟨.fn (.func 232) ([0, 1].map roots).toArray, #[]⟩] } := ⟨bD aD4, mix⟩
 rcases q with q | q
 ·refine aB (bY hF' (eA (l := [(181, ⟨qN F, [], (c0, c1, c2, .inl q)⟩)]) (.cons (aD5 F) (by kernel_rfl) .nil)) [2, 3] [] ?_)
  simp only [go_sem]
  refine ⟨hq, ?_⟩
  refine aC (cY ?_)
  refine aOI (fn := Tryz.f180) (k := 2) (l2 := [0, 1]) hF' rfl rfl (by decide) rfl (aFt (by kernel_rfl)) ⟨kT, [0, 1], (q, 0)⟩ aC6 rfl [.cell 2 25, .cell 3 3] rfl ?_ ?_
  ·(simp only [kT, go_sem]) <;> first | decide | trivial
  ·(simp only [kT, aV, iB, go_sem]) <;> first | decide | trivial
 ·refine aB (bY hF' (eA (l := [(181, ⟨qN F, [], (c0, c1, c2, .inr q)⟩)]) (.cons (aD5 F) (by kernel_rfl) .nil)) [2, 3] [] ?_)
  simp only [go_sem]
  refine ⟨hq, ?_⟩
  refine nO ?_
  refine aOJ (fn := Tryz.f180) (k := 2) (l2 := [0, 1]) hF' rfl rfl (by decide) rfl (aFt (by kernel_rfl)) ⟨kU q, [0, 1], ((false, ([] : List Nat), (0 : Int), ()), 0)⟩ (aC7 q) rfl [.cell 2 25, .cell 3 3] rfl ?_ ?_
  ·(simp only [kU, go_sem]) <;> first | decide | trivial
  ·(simp only [kU, aV, iB, go_sem]) <;> first | decide | trivial
attribute [go_sem] iM sD
noncomputable def zF (F : Md) (neg_0 : Bool) (m_1 : (List Nat)) (e_2 : Int) : Option ((Bool × ((List Nat) × (Int × Unit))) × (Int × Unit)) :=
 ck (((fD F neg_0 m_1 e_2).isSome = true)) (some ((((fD F neg_0 m_1 e_2).getD ((false, ([] : List Nat), (0 : Int), ()), (0 : Int), ())).1), ((((fD F neg_0 m_1 e_2).getD ((false, ([] : List Nat), (0 : Int), ()), (0 : Int), ())).2).1), ()))
def aBR : Ty := .pair .bool (.pair (.sl (.u .u64)) (.pair (.i .i64) .unit))
attribute [go_sem] aBR
noncomputable def sE (F : Md) : aG := mSpec aBR (.tup (.pair (.pair .bool (.pair (.sl (.u .u64)) (.pair (.i .i64) .unit))) (.pair (.i .i64) .unit))) (fun x => zF F x.1 x.2.1 x.2.2.1)
noncomputable def aED (F : Md) : List (FuncId × aG) := [(180, (iM F))]
theorem aJ4 (F : Md) : bI Tryz.prog GL (aED F) := .cons (aAE F) (by kernel_rfl) (.nil)
theorem aJ5 (F : Md) : gam (aED F) 180 = some (iM F) := rfl
attribute [go_sem] aJ5
set_option maxHeartbeats 4000000 in
theorem aHL (F : Md) : FOK Tryz.prog GL 117 (sE F) := by
 refine lS (bD (aJ4 F)) Tryz.func117 rfl (by kernel_rfl) (by decide) fun w0 S x r hw h => ?_
 have hF : kB (fr Tryz.prog (EM (aED F)) S w0 Tryz.f117.ntmps) := ⟨bD (aJ4 F), mix⟩
 obtain ⟨(neg_0 : Bool), (m_1 : (List Nat)), (e_2 : Int), u⟩ := x
 simp only [aBR, Ty.wf, mP] at hw
 simp only [bP, aBR]
 try dsimp only at h
 replace h : zF F neg_0 m_1 e_2 = some r := h
 unfold zF at h
 refine aB (aN hF [3, 4, 5, 6] ?_)
 simp only [go_sem]
 refine aC (aB (wB 0 rfl ?_))
 simp only [go_sem]
 refine wB 1 rfl ?_
 simp only [go_sem]
 refine wB 2 rfl ?_
 simp only [go_sem]
 refine aN hF [6, 7] ?_
 simp only [go_sem]
 obtain ⟨g0, h⟩ := aF h
 repeat (refine ⟨by first | with_reducible assumption | omega | (intros; first | with_reducible assumption | omega) | (simp only [go_sem] at *; first | with_reducible assumption | omega) | decide, ?_⟩)
 obtain rfl := Option.some.inj h
 refine aC (cY (fG hF [.cell 6 25, .tmp 7] rfl rfl rfl ?_))
 (try simp only [iB, aV, go_sem]) <;> first | rfl | (simp; done)
attribute [go_sem] sE
noncomputable def fI (F : Md) (d_0 : (Bool × ((List Nat) × (Int × Unit)))) : Option Bool :=
 if (((((d_0.2).1).length) : Nat) : Int) = (0 : Int) then some ((!(d_0.1)) && (decide ((((d_0.2).2).1) = (0 : Int)))) else (aDG F ((d_0.2).1)).bind (fun v_5 => ck (((v_5 = true) → ((0 : Int) < (((((d_0.2).1).length) : Nat) : Int)))) (some (((v_5 && (decide (((((d_0.2).1).getD (0 : Nat) (0 : Nat)) &&& (1 : Nat)) = (1 : Nat)))) && (decide ((-1048576 : Int) ≤ (((d_0.2).2).1)))) && (decide ((((d_0.2).2).1) ≤ (1048576 : Int))))))
def aHM : PlR := ⟨[(0, .B [1]), (1, .A [1, 6]), (2, .A [2]), (3, .A [2])], []⟩
def aJ6 : Ty := .pair (.pair .bool (.pair (.sl (.u .u64)) (.pair (.i .i64) .unit))) .unit
noncomputable def nA (F : Md) : aG := mSpec aJ6 (.one .bool) (fun x => fI F x.1)
noncomputable def aJ7 (F : Md) : List (FuncId × aG) := [(120, (aBM F))]
theorem aNY (F : Md) : bI Tryz.prog GL (aJ7 F) := .cons (aNP F) (by kernel_rfl) (.nil)
theorem aJ8 (F : Md) : gam (aJ7 F) 120 = some (aBM F) := rfl
attribute [go_sem] aJ6 aHM aJ8
set_option maxHeartbeats 4000000 in
theorem aC8 (F : Md) : FOK Tryz.prog GL 58 (nA F) := by
 refine bK (bD (aNY F)) mix Tryz.func58 rfl (by kernel_rfl) (by decide) aHM fun w0 S x Θ hw h hF => ?_
 obtain ⟨(d_0 : (Bool × ((List Nat) × (Int × Unit)))), u⟩ := x
 simp only [bP, go_sem]
 replace h : sat (fI F d_0) _ := h
 unfold fI at h
 refine dU h (fun hc h => ?_) fun hc h => ?_
 ·exact aH hF [.tmp 2] rfl rfl rfl (aA h) (by simp only [aV, go_sem])
 ·obtain ⟨v_5, hv, h⟩ := aL h
  try simp only [hv, go_sem]
  refine aU h fun g0 h => ?_
  exact aH hF [.tmp 2] rfl rfl rfl (aA h) (by simp only [aV, go_sem])
attribute [go_sem] nA
noncomputable def oX (F : Md) (d_0 : (Bool × ((List Nat) × (Int × Unit)))) : Option Int :=
 (fI F d_0).bind (fun v_7 => if (¬ (v_7 = true)) ∨ ((((((d_0.2).1).length) : Nat) : Int) = (0 : Int)) then some (0 : Int) else if (d_0.1) = true then some (-1 : Int) else some (1 : Int))
def aFM : PlR := ⟨[(0, .B [1]), (1, .A [1, 3]), (2, .A [2]), (3, .A [13]), (4, .A [2]), (5, .A [2])], []⟩
def aHN : Ty := .pair (.pair .bool (.pair (.sl (.u .u64)) (.pair (.i .i64) .unit))) .unit
noncomputable def pI (F : Md) : aG := mSpec aHN (.one (.i .i64)) (fun x => oX F x.1)
noncomputable def aHO (F : Md) : List (FuncId × aG) := [(58, (nA F))]
theorem aNb (F : Md) : bI Tryz.prog GL (aHO F) := .cons (aC8 F) (by kernel_rfl) (.nil)
theorem aJ9 (F : Md) : gam (aHO F) 58 = some (nA F) := rfl
attribute [go_sem] aHN aFM aJ9
set_option maxHeartbeats 4000000 in
theorem aFN (F : Md) : FOK Tryz.prog GL 57 (pI F) := by
 refine bK (bD (aNb F)) mix Tryz.func57 rfl (by kernel_rfl) (by decide) aFM fun w0 S x Θ hw h hF => ?_
 obtain ⟨(d_0 : (Bool × ((List Nat) × (Int × Unit)))), u⟩ := x
 simp only [bP, go_sem]
 replace h : sat (oX F d_0) _ := h
 unfold oX at h
 obtain ⟨v_7, hv, h⟩ := aL h
 try simp only [hv, go_sem]
 refine ⟨fun hc => ?_, fun hc => ?_⟩
 ·replace h := iV (by first | exact hc | omega | (simpa using hc) | (simp at hc ⊢; omega)) h
  exact aH hF [.tmp 2] rfl rfl rfl (aA h) (by simp only [aV, go_sem])
 ·replace h := iW (by first | exact hc | omega | (simpa using hc) | (simp at hc ⊢; omega)) h
  refine aHr h (fun hc h => ?_) fun hc h => ?_
  ·exact aH hF [.tmp 2] rfl rfl rfl (aA h) (by simp only [aV, go_sem])
  ·exact aH hF [.tmp 2] rfl rfl rfl (aA h) (by simp only [aV, go_sem])
attribute [go_sem] pI
noncomputable def aAi (F : Md) (a_0 : (Bool × ((List Nat) × (Int × Unit)))) (b_1 : (Bool × ((List Nat) × (Int × Unit)))) : Option Int :=
 (yU F ((a_0.2).1)).bind (fun v_13 => ck (I64 (v_13 + (((a_0.2).2).1))) ((yU F ((b_1.2).1)).bind (fun v_14 => ck (I64 (v_14 + (((b_1.2).2).1))) (if (v_13 + (((a_0.2).2).1)) < (v_14 + (((b_1.2).2).1)) then some (-1 : Int) else if (v_14 + (((b_1.2).2).1)) < (v_13 + (((a_0.2).2).1)) then some (1 : Int) else ck (I64 ((((a_0.2).2).1) - (min (((a_0.2).2).1) (((b_1.2).2).1)))) ((jS F ((a_0.2).1) ((((a_0.2).2).1) - (min (((a_0.2).2).1) (((b_1.2).2).1)))).bind (fun v_30 => ck (I64 ((((b_1.2).2).1) - (min (((a_0.2).2).1) (((b_1.2).2).1)))) ((jS F ((b_1.2).1) ((((b_1.2).2).1) - (min (((a_0.2).2).1) (((b_1.2).2).1)))).bind (fun v_31 => (oV F v_30 v_31).bind (fun v_32 => some v_32)))))))))
def aFO : PlR := ⟨[(0, .B [2, 3]), (1, .A [2, 3, 5, 6]), (2, .A [2, 3, 5, 6, 20]), (3, .A [4]), (4, .A [2, 3, 24]), (5, .A [4]), (6, .A [2, 3, 7]), (7, .A [4])], []⟩
def aHP : Ty := .pair (.pair .bool (.pair (.sl (.u .u64)) (.pair (.i .i64) .unit))) (.pair (.pair .bool (.pair (.sl (.u .u64)) (.pair (.i .i64) .unit))) .unit)
noncomputable def xM (F : Md) : aG := mSpec aHP (.one (.i .i64)) (fun x => aAi F x.1 x.2.1)
noncomputable def aAj (F : Md) : List (FuncId × aG) := [(121, (aAd F)), (122, (lX F)), (95, (sA F))]
theorem aNc (F : Md) : bI Tryz.prog GL (aAj F) := .cons (aM5 F) (by kernel_rfl) (.cons (aBN F) (by kernel_rfl) (.cons (aHE F) (by kernel_rfl) (.nil)))
theorem aIj (F : Md) : gam (aAj F) 121 = some (aAd F) := rfl
theorem aIk (F : Md) : gam (aAj F) 122 = some (lX F) := rfl
theorem aKa (F : Md) : gam (aAj F) 95 = some (sA F) := rfl
attribute [go_sem] aHP aFO aIj aIk aKa
set_option maxHeartbeats 4000000 in
theorem aMc (F : Md) : FOK Tryz.prog GL 59 (xM F) := by
 refine bK (bD (aNc F)) mix Tryz.func59 rfl (by kernel_rfl) (by decide) aFO fun w0 S x Θ hw h hF => ?_
 obtain ⟨(a_0 : (Bool × ((List Nat) × (Int × Unit)))), (b_1 : (Bool × ((List Nat) × (Int × Unit)))), u⟩ := x
 simp only [bP, go_sem]
 replace h : sat (aAi F a_0 b_1) _ := h
 unfold aAi at h
 obtain ⟨v_13, hv, h⟩ := aL h
 try simp only [hv, go_sem]
 refine aU h fun g0 h => ?_
 obtain ⟨v_14, hv, h⟩ := aL h
 try simp only [hv, go_sem]
 refine aU h fun g0 h => ?_
 refine eI h (fun hc h => ?_) fun hc h => ?_
 ·exact aH hF [.tmp 4] rfl rfl rfl (aA h) (by simp only [aV, go_sem])
 ·refine eI h (fun hc h => ?_) fun hc h => ?_
  ·exact aH hF [.tmp 4] rfl rfl rfl (aA h) (by simp only [aV, go_sem])
  ·refine aU h fun g0 h => ?_
   obtain ⟨v_30, hv, h⟩ := aL h
   try simp only [hv, go_sem]
   refine aU h fun g0 h => ?_
   obtain ⟨v_31, hv, h⟩ := aL h
   try simp only [hv, go_sem]
   obtain ⟨v_32, hv, h⟩ := aL h
   try simp only [hv, go_sem]
   exact aH hF [.tmp 4] rfl rfl rfl (aA h) (by simp only [aV, go_sem])
attribute [go_sem] xM
noncomputable def uY (F : Md) (a_0 : (Bool × ((List Nat) × (Int × Unit)))) (b_1 : (Bool × ((List Nat) × (Int × Unit)))) : Option Int :=
 (oX F a_0).bind (fun v_13 => (oX F b_1).bind (fun v_14 => (fI F a_0).bind (fun v_20 => ck ((¬ (¬ (v_20 = true)) → (((fI F b_1).isSome = true)))) (if (¬ (v_20 = true)) ∨ (¬ (((fI F b_1).getD false) = true)) then some (0 : Int) else if (¬ (v_13 = v_14)) ∧ (v_13 < v_14) then some (-1 : Int) else if ¬ (v_13 = v_14) then some (1 : Int) else if v_13 = (0 : Int) then some (0 : Int) else (aAi F a_0 b_1).bind (fun v_24 => ck (I64 (v_13 * v_24)) (some (v_13 * v_24)))))))
def aHQ : PlR := ⟨[(0, .B [2, 3]), (1, .A [2, 3, 5, 6]), (2, .A [2, 3, 5, 6, 11]), (3, .A [4]), (4, .A [2, 3, 5, 6, 20]), (5, .A [4]), (6, .A [2, 3, 5, 29]), (7, .A [4]), (8, .A [2, 3, 5, 33]), (9, .A [4]), (10, .A [4])], []⟩
def aKb : Ty := .pair (.pair .bool (.pair (.sl (.u .u64)) (.pair (.i .i64) .unit))) (.pair (.pair .bool (.pair (.sl (.u .u64)) (.pair (.i .i64) .unit))) .unit)
noncomputable def sF (F : Md) : aG := mSpec aKb (.one (.i .i64)) (fun x => uY F x.1 x.2.1)
noncomputable def aBS (F : Md) : List (FuncId × aG) := [(57, (pI F)), (58, (nA F)), (59, (xM F))]
theorem aNZ (F : Md) : bI Tryz.prog GL (aBS F) := .cons (aFN F) (by kernel_rfl) (.cons (aC8 F) (by kernel_rfl) (.cons (aMc F) (by kernel_rfl) (.nil)))
theorem aKO (F : Md) : gam (aBS F) 57 = some (pI F) := rfl
theorem aKP (F : Md) : gam (aBS F) 58 = some (nA F) := rfl
theorem aKQ (F : Md) : gam (aBS F) 59 = some (xM F) := rfl
attribute [go_sem] aKb aHQ aKO aKP aKQ
set_option maxHeartbeats 4000000 in
theorem aHR (F : Md) : FOK Tryz.prog GL 22 (sF F) := by
 refine bK (bD (aNZ F)) mix Tryz.func22 rfl (by kernel_rfl) (by decide) aHQ fun w0 S x Θ hw h hF => ?_
 obtain ⟨(a_0 : (Bool × ((List Nat) × (Int × Unit)))), (b_1 : (Bool × ((List Nat) × (Int × Unit)))), u⟩ := x
 simp only [bP, go_sem]
 replace h : sat (uY F a_0 b_1) _ := h
 unfold uY at h
 obtain ⟨v_13, hv, h⟩ := aL h
 try simp only [hv, go_sem]
 obtain ⟨v_14, hv, h⟩ := aL h
 try simp only [hv, go_sem]
 obtain ⟨v_20, hv, h⟩ := aL h
 try simp only [hv, go_sem]
 obtain ⟨g0, h⟩ := aM h
 repeat (refine ⟨by first | with_reducible assumption | omega | (intros; first | with_reducible assumption | omega) | (simp only [go_sem] at *; first | with_reducible assumption | omega) | (intro q0; (try have e0 := g0 (by first | exact q0 | omega | (simpa using q0))); first | assumption | omega) | decide, ?_⟩)
 refine ⟨fun hc => ?_, fun hc => ?_⟩
 ·replace h := iV (by first | exact hc | omega | (simpa using hc) | (simp at hc ⊢; omega)) h
  exact aH hF [.tmp 4] rfl rfl rfl (aA h) (by simp only [aV, go_sem])
 ·replace h := iW (by first | exact hc | omega | (simpa using hc) | (simp at hc ⊢; omega)) h
  refine ⟨fun hc => ?_, fun hc => ?_⟩
  ·replace h := iV hc h
   exact aH hF [.tmp 4] rfl rfl rfl (aA h) (by simp only [aV, go_sem])
  ·replace h := iW hc h
   refine dU h (fun hc h => ?_) fun hc h => ?_
   ·exact aH hF [.tmp 4] rfl rfl rfl (aA h) (by simp only [aV, go_sem])
   ·refine dU h (fun hc h => ?_) fun hc h => ?_
    ·exact aH hF [.tmp 4] rfl rfl rfl (aA h) (by simp only [aV, go_sem])
    ·obtain ⟨v_24, hv, h⟩ := aL h
     try simp only [hv, go_sem]
     obtain ⟨g0, h⟩ := aM h
     try simp only [I64, I32] at g0
     repeat (refine ⟨by first | with_reducible assumption | omega | (intros; first | with_reducible assumption | omega) | (simp only [go_sem] at *; first | with_reducible assumption | omega) | decide, ?_⟩)
     exact aH hF [.tmp 4] rfl rfl rfl (aA h) (by simp only [aV, go_sem])
attribute [go_sem] sF
noncomputable def tD (F : Md) (n_0 : Int) (e_1 : Int) (m_3 : Nat) : Option (((Bool × ((List Nat) × (Int × Unit))) × (Int × Unit))) :=
 (yW F ([m_3] : List Nat)).bind (fun v_6 => (zF F (decide (n_0 < (0 : Int))) v_6 e_1).bind (fun v_7 => some ((v_7.1), ((v_7.2).1), ())))
noncomputable def aDH (F : Md) (n_0 : Int) (e_1 : Int) : Option ((Bool × ((List Nat) × (Int × Unit))) × (Int × Unit)) :=
 if n_0 < (0 : Int) then tD F n_0 e_1 (aNK F .u64 ((n_0 % (18446744073709551616 : Int)).toNat)) else tD F n_0 e_1 ((n_0 % (18446744073709551616 : Int)).toNat)
def aKc : PlR := ⟨[(0, .B [0, 1, 4]), (1, .A [0, 1, 4, 6]), (2, .A [0, 1, 4, 6, 10]), (3, .A [0, 1, 4, 6]), (4, .B [4, 5])], [(5, 7)]⟩
def aLz : Ty := .pair (.i .i64) (.pair (.i .i64) .unit)
noncomputable def aBT (F : Md) : aG := mSpec aLz (.tup (.pair (.pair .bool (.pair (.sl (.u .u64)) (.pair (.i .i64) .unit))) (.pair (.i .i64) .unit))) (fun x => aDH F x.1 x.2.1)
noncomputable def aGT (F : Md) : List (FuncId × aG) := [(117, (sE F)), (231, (rZ F))]
theorem aPq (F : Md) : bI Tryz.prog GL (aGT F) := .cons (aHL F) (by kernel_rfl) (.cons (aHA F) (by kernel_rfl) (.nil))
theorem aKR (F : Md) : gam (aGT F) 117 = some (sE F) := rfl
theorem aKS (F : Md) : gam (aGT F) 231 = some (rZ F) := rfl
attribute [go_sem] aLz aKc aKR aKS
set_option maxHeartbeats 4000000 in
theorem aN0 (F : Md) : FOK Tryz.prog GL 200 (aBT F) := by
 refine bK (bD (aPq F)) mix Tryz.func200 rfl (by kernel_rfl) (by decide) aKc fun w0 S x Θ hw h hF => ?_
 obtain ⟨(n_0 : Int), (e_1 : Int), u⟩ := x
 simp only [bP, go_sem]
 replace h : sat (aDH F n_0 e_1) _ := h
 unfold aDH at h
 refine eE hF (D := Nat) (fun d => sat (tD F n_0 e_1 d) Θ) [0, 1] (fun d => [(4, .ptr 0 []), (6, .val (.u .u64) d)]) (fun d => [.inr (.box 3 (.val (.pair .bool (.pair (.sl (.u .u64)) (.pair (.i .i64) .unit))) (false, ([] : List Nat), (0 : Int), ())))]) ?_ ?_
 ·simp only [go_sem, aI F, aJ F, aK F]
  refine eI h (fun hc h => ?_) fun hc h => ?_
  ·exact aQ ((aNK F .u64 ((n_0 % (18446744073709551616 : Int)).toNat))) h rfl (by simp only [go_sem, aI F, aJ F, aK F])
  ·exact aQ (((n_0 % (18446744073709551616 : Int)).toNat)) h rfl (by simp only [go_sem, aI F, aJ F, aK F])
 ·rintro m_3 h
  simp only [go_sem, aI F, aJ F, aK F]
  replace h : sat (tD F n_0 e_1 m_3) _ := h
  unfold tD at h
  obtain ⟨v_6, hv, h⟩ := aL h
  try simp only [hv, go_sem, aI F, aJ F, aK F]
  obtain ⟨v_7, hv, h⟩ := aL h
  try simp only [hv, go_sem, aI F, aJ F, aK F]
  exact aH hF [.cell 4 25, .tmp 5] rfl rfl rfl (aA h) (by simp only [aV, go_sem, aI F, aJ F, aK F])
attribute [go_sem] aBT
noncomputable def tE (F : Md) (a_0 : (Bool × ((List Nat) × (Int × Unit)))) (b_1 : (Bool × ((List Nat) × (Int × Unit)))) : Option ((Bool × ((List Nat) × (Int × Unit))) ⊕ (Int × Unit)) :=
 ck (((gP F ((a_0.2).1) ((b_1.2).1)).isSome = true)) (ck (I64 ((((a_0.2).2).1) + (((b_1.2).2).1))) (((zE F ((a_0.1) != (b_1.1)) ((gP F ((a_0.2).1) ((b_1.2).1)).getD ([] : List Nat)) ((((a_0.2).2).1) + (((b_1.2).2).1)))).bind (fun e => match e with | .inl r_7 => some (.inl r_7) | .inr p_8 => some (.inr p_8))))
noncomputable def mE (F : Md) : nN where
 D := (Bool × ((List Nat) × (Int × Unit))) × (Bool × ((List Nat) × (Int × Unit))) × ((Bool × ((List Nat) × (Int × Unit))) ⊕ (Int × Unit))
 av := fun d => [.val (.pair .bool (.pair (.sl (.u .u64)) (.pair (.i .i64) .unit))) d.1, .val (.pair .bool (.pair (.sl (.u .u64)) (.pair (.i .i64) .unit))) d.2.1]
 hp := fun d => []
 m := 0
 pre := fun d => tE F d.1 d.2.1 = some d.2.2
 out := fun d => match d.2.2 with | .inl r => .ret (.val (.pair .bool (.pair (.sl (.u .u64)) (.pair (.i .i64) .unit))) r) [] | .inr p => .pan ⟨251, (.pair (.i .i64) .unit), p⟩ []
noncomputable def aBU (F : Md) : List (FuncId × aG) := [(94, (eS F))]
theorem aFP (F : Md) : bI Tryz.prog GL (aBU F) := .cons (pG F) (by kernel_rfl) (.nil)
theorem aIl (F : Md) : gam (aBU F) 94 = some (eS F) := rfl
attribute [go_sem] aIl
set_option maxHeartbeats 4000000 in
theorem vK (F : Md) : GOK Tryz.prog GL 239 (mE F) := by
 refine wC (bD (aFP F)) Tryz.func239 rfl (by kernel_rfl) (fun _ => Nat.le_of_ble_eq_true rfl) fun c0 w0 d hw1 hw2 h hn => ?_
 have hF : kB ⟨Tryz.prog, EM (aBU F), GM (mE F) c0 d, w0, Tryz.f239.ntmps, []⟩ := ⟨bD (aFP F), mix⟩
 obtain ⟨(a_0 : (Bool × ((List Nat) × (Int × Unit)))), (b_1 : (Bool × ((List Nat) × (Int × Unit)))), r⟩ := d
 replace h : tE F a_0 b_1 = some r := h
 have hw1 : AV.wfL [.val (.pair .bool (.pair (.sl (.u .u64)) (.pair (.i .i64) .unit))) a_0, .val (.pair .bool (.pair (.sl (.u .u64)) (.pair (.i .i64) .unit))) b_1] := hw1
 simp only [AV.wfL, AV.wfV, Ty.wf, mP] at hw1
 show Tri _ _ _ [(0, .val (.pair .bool (.pair (.sl (.u .u64)) (.pair (.i .i64) .unit))) a_0), (1, .val (.pair .bool (.pair (.sl (.u .u64)) (.pair (.i .i64) .unit))) b_1)] []
 unfold tE at h
 refine aB (aN hF [2, 3, 4] ?_)
 simp only [go_sem]
 obtain ⟨g0, h⟩ := aF h
 obtain ⟨g1, h⟩ := aF h
 try simp only [I64, I32] at g1
 obtain ⟨e, he1, h⟩ := bind_some h
 rcases e with r_7 | p_8
 ·try dsimp only at h
  refine aC (aB (aFu hF (eA (l := [(182, ⟨oW F, [], (((a_0.1) != (b_1.1)), ((gP F ((a_0.2).1) ((b_1.2).1)).getD ([] : List Nat)), ((((a_0.2).2).1) + (((b_1.2).2).1)), .inl r_7)⟩)]) (.cons (aAh F) (by kernel_rfl) (.nil))) 15 (by decide) [4] [] ?_))
  simp only [go_sem]
  repeat (refine ⟨by first | with_reducible assumption | omega | (intros; first | with_reducible assumption | omega) | (simp only [go_sem] at *; first | with_reducible assumption | omega) | decide, ?_⟩)
  simp only [aQr, go_sem]
  repeat (refine ⟨by first | with_reducible assumption | omega | (intros; first | with_reducible assumption | omega) | (simp only [go_sem] at *; first | with_reducible assumption | omega) | decide, ?_⟩)
  obtain rfl := Option.some.inj h
  refine aC (cY (aAY hF [.cell 4 25] [] rfl rfl rfl rfl rfl rfl rfl rfl rfl ?_))
  (try simp only [aV, aDI, aC0, eG, oS, AV.isAgg, go_sem]) <;> first | trivial | rfl | (simp; done)
 ·try dsimp only at h
  refine aC (aB (aFu hF (eA (l := [(182, ⟨oW F, [], (((a_0.1) != (b_1.1)), ((gP F ((a_0.2).1) ((b_1.2).1)).getD ([] : List Nat)), ((((a_0.2).2).1) + (((b_1.2).2).1)), .inr p_8)⟩)]) (.cons (aAh F) (by kernel_rfl) (.nil))) 15 (by decide) [4] [] ?_))
  simp only [go_sem]
  repeat (refine ⟨by first | with_reducible assumption | omega | (intros; first | with_reducible assumption | omega) | (simp only [go_sem] at *; first | with_reducible assumption | omega) | decide, ?_⟩)
  simp only [aQr, go_sem]
  repeat (refine ⟨by first | with_reducible assumption | omega | (intros; first | with_reducible assumption | omega) | (simp only [go_sem] at *; first | with_reducible assumption | omega) | decide, ?_⟩)
  obtain rfl := Option.some.inj h
  refine nO (vE [] rfl rfl ?_)
  simp only [ren, fY, jC, posOf, dL, go_sem]
  refine sW rfl rfl rfl rfl
attribute [go_sem] mE
noncomputable def jI (F : Md) (a0_0 : (Bool × ((List Nat) × (Int × Unit)))) (a1_1 : (Bool × ((List Nat) × (Int × Unit)))) (a2_2 : Unit) : Option ((Bool × ((List Nat) × (Int × Unit))) ⊕ (Int × Unit)) :=
 ck (((fI F a0_0).isSome = true)) (if ((fI F a0_0).getD false) = true then ck (((fI F a1_1).isSome = true)) (((lZ F (((fI F a0_0).getD false) && ((fI F a1_1).getD false)) (1 : Int))).bind (fun e => match e with | .inl r_12 => ((tE F a0_0 a1_1)).bind (fun e => match e with | .inl r_20 => some (.inl r_20) | .inr p_21 => some (.inr p_21)) | .inr p_13 => some (.inr p_13))) else ((lZ F false (1 : Int))).bind (fun e => match e with | .inl r_14 => ((tE F a0_0 a1_1)).bind (fun e => match e with | .inl r_26 => some (.inl r_26) | .inr p_27 => some (.inr p_27)) | .inr p_15 => some (.inr p_15)))
noncomputable def gF (F : Md) : nN where
 D := (Bool × ((List Nat) × (Int × Unit))) × (Bool × ((List Nat) × (Int × Unit))) × Unit × ((Bool × ((List Nat) × (Int × Unit))) ⊕ (Int × Unit))
 av := fun d => [.val (.rp (.pair .bool (.pair (.sl (.u .u64)) (.pair (.i .i64) .unit)))) d.1, .val (.rp (.pair .bool (.pair (.sl (.u .u64)) (.pair (.i .i64) .unit)))) d.2.1, .val (.rp (.clo 239 .unit)) d.2.2.1]
 hp := fun d => []
 m := 0
 pre := fun d => jI F d.1 d.2.1 d.2.2.1 = some d.2.2.2
 out := fun d => match d.2.2.2 with | .inl r => .ret (.val (.pair .bool (.pair (.sl (.u .u64)) (.pair (.i .i64) .unit))) r) [] | .inr p => .pan ⟨251, (.pair (.i .i64) .unit), p⟩ []
noncomputable def mQ (F : Md) : List (FuncId × aG) := [(58, (nA F))]
theorem sG (F : Md) : bI Tryz.prog GL (mQ F) := .cons (aC8 F) (by kernel_rfl) (.nil)
theorem zG (F : Md) : gam (mQ F) 58 = some (nA F) := rfl
attribute [go_sem] zG
set_option maxHeartbeats 4000000 in
theorem qO (F : Md) : GOK Tryz.prog GL 256 (gF F) := by
 refine wC (bD (sG F)) Tryz.func256 rfl (by kernel_rfl) (fun _ => Nat.le_of_ble_eq_true rfl) fun c0 w0 d hw1 hw2 h hn => ?_
 have hF : kB ⟨Tryz.prog, EM (mQ F), GM (gF F) c0 d, w0, Tryz.f256.ntmps, []⟩ := ⟨bD (sG F), mix⟩
 obtain ⟨(a0_0 : (Bool × ((List Nat) × (Int × Unit)))), (a1_1 : (Bool × ((List Nat) × (Int × Unit)))), (a2_2 : Unit), r⟩ := d
 replace h : jI F a0_0 a1_1 a2_2 = some r := h
 have hw1 : AV.wfL [.val (.rp (.pair .bool (.pair (.sl (.u .u64)) (.pair (.i .i64) .unit)))) a0_0, .val (.rp (.pair .bool (.pair (.sl (.u .u64)) (.pair (.i .i64) .unit)))) a1_1, .val (.rp (.clo 239 .unit)) a2_2] := hw1
 simp only [AV.wfL, AV.wfV, Ty.wf, mP] at hw1
 show Tri _ _ _ [(0, .roa (.pair .bool (.pair (.sl (.u .u64)) (.pair (.i .i64) .unit))) a0_0), (1, .roa (.pair .bool (.pair (.sl (.u .u64)) (.pair (.i .i64) .unit))) a1_1), (2, .roa (.clo 239 .unit) a2_2)] []
 unfold jI at h
 refine aB (aN hF [0, 1, 2, 3] ?_)
 simp only [go_sem]
 obtain ⟨g0, h⟩ := aF h
 by_cases hq : ((fI F a0_0).getD false) = true
 ·have h := eC hq h
  obtain ⟨g1, h⟩ := aF h
  obtain ⟨e, he1, h⟩ := bind_some h
  rcases e with r_12 | p_13
  ·try dsimp only at h
   refine aC (aB (bY hF (eA (l := [(233, ⟨eH F, [], ((((fI F a0_0).getD false) && ((fI F a1_1).getD false)), (1 : Int), .inl r_12)⟩)]) (.cons (gK F) (by kernel_rfl) (.nil))) [0, 1, 2, 3] [] ?_))
   simp only [go_sem]
   repeat (refine ⟨by first | with_reducible assumption | omega | (intros; first | with_reducible assumption | omega) | (simp only [go_sem] at *; first | with_reducible assumption | omega) | decide, ?_⟩)
   refine ⟨fun _ => ?_, fun hx => by first | (exfalso; omega) | (exfalso; simp_all; done)⟩
   repeat (refine ⟨by first | with_reducible assumption | omega | (intros; first | with_reducible assumption | omega) | (simp only [go_sem] at *; first | with_reducible assumption | omega) | decide, ?_⟩)
   refine ⟨fun _ => ?_, fun hx => by first | (exfalso; omega) | (exfalso; simp_all; done)⟩
   repeat (refine ⟨by first | with_reducible assumption | omega | (intros; first | with_reducible assumption | omega) | (simp only [go_sem] at *; first | with_reducible assumption | omega) | decide, ?_⟩)
   obtain ⟨e, he2, h⟩ := bind_some h
   rcases e with r_20 | p_21
   ·try dsimp only at h
    refine aC (aB (bY hF (eA (l := [(239, ⟨mE F, [], (a0_0, a1_1, .inl r_20)⟩)]) (.cons (vK F) (by kernel_rfl) (.nil))) [3] [] ?_))
    simp only [go_sem]
    repeat (refine ⟨by first | with_reducible assumption | omega | (intros; first | with_reducible assumption | omega) | (simp only [go_sem] at *; first | with_reducible assumption | omega) | decide, ?_⟩)
    obtain rfl := Option.some.inj h
    refine aC (cY (aAY hF [.cell 3 25] [] rfl rfl rfl rfl rfl rfl rfl rfl rfl ?_))
    (try simp only [aV, aDI, aC0, eG, oS, AV.isAgg, go_sem]) <;> first | trivial | rfl | (simp; done)
   ·try dsimp only at h
    refine aC (aB (bY hF (eA (l := [(239, ⟨mE F, [], (a0_0, a1_1, .inr p_21)⟩)]) (.cons (vK F) (by kernel_rfl) (.nil))) [3] [] ?_))
    simp only [go_sem]
    repeat (refine ⟨by first | with_reducible assumption | omega | (intros; first | with_reducible assumption | omega) | (simp only [go_sem] at *; first | with_reducible assumption | omega) | decide, ?_⟩)
    obtain rfl := Option.some.inj h
    refine nO (vE [] rfl rfl ?_)
    simp only [ren, fY, jC, posOf, dL, go_sem]
    refine sW rfl rfl rfl rfl
  ·try dsimp only at h
   refine aC (aB (bY hF (eA (l := [(233, ⟨eH F, [], ((((fI F a0_0).getD false) && ((fI F a1_1).getD false)), (1 : Int), .inr p_13)⟩)]) (.cons (gK F) (by kernel_rfl) (.nil))) [0, 1, 2, 3] [] ?_))
   simp only [go_sem]
   repeat (refine ⟨by first | with_reducible assumption | omega | (intros; first | with_reducible assumption | omega) | (simp only [go_sem] at *; first | with_reducible assumption | omega) | decide, ?_⟩)
   refine ⟨fun _ => ?_, fun hx => by first | (exfalso; omega) | (exfalso; simp_all; done)⟩
   repeat (refine ⟨by first | with_reducible assumption | omega | (intros; first | with_reducible assumption | omega) | (simp only [go_sem] at *; first | with_reducible assumption | omega) | decide, ?_⟩)
   refine ⟨fun _ => ?_, fun hx => by first | (exfalso; omega) | (exfalso; simp_all; done)⟩
   repeat (refine ⟨by first | with_reducible assumption | omega | (intros; first | with_reducible assumption | omega) | (simp only [go_sem] at *; first | with_reducible assumption | omega) | decide, ?_⟩)
   obtain rfl := Option.some.inj h
   refine nO (vE [] rfl rfl ?_)
   simp only [ren, fY, jC, posOf, dL, go_sem]
   refine sW rfl rfl rfl rfl
 ·have h := eD hq h
  obtain ⟨e, he3, h⟩ := bind_some h
  rcases e with r_14 | p_15
  ·try dsimp only at h
   refine aC (aB (bY hF (eA (l := [(233, ⟨eH F, [], (false, (1 : Int), .inl r_14)⟩)]) (.cons (gK F) (by kernel_rfl) (.nil))) [0, 1, 2, 3] [] ?_))
   simp only [go_sem]
   repeat (refine ⟨by first | with_reducible assumption | omega | (intros; first | with_reducible assumption | omega) | (simp only [go_sem] at *; first | with_reducible assumption | omega) | decide, ?_⟩)
   first | (refine ⟨fun hx => by first | (exfalso; omega) | (exfalso; simp_all; done), fun _ => ?_⟩) | intro _
   repeat (refine ⟨by first | with_reducible assumption | omega | (intros; first | with_reducible assumption | omega) | (simp only [go_sem] at *; first | with_reducible assumption | omega) | decide, ?_⟩)
   first | (refine ⟨fun hx => by first | (exfalso; omega) | (exfalso; simp_all; done), fun _ => ?_⟩) | intro _
   repeat (refine ⟨by first | with_reducible assumption | omega | (intros; first | with_reducible assumption | omega) | (simp only [go_sem] at *; first | with_reducible assumption | omega) | decide, ?_⟩)
   obtain ⟨e, he4, h⟩ := bind_some h
   rcases e with r_26 | p_27
   ·try dsimp only at h
    refine aC (aB (bY hF (eA (l := [(239, ⟨mE F, [], (a0_0, a1_1, .inl r_26)⟩)]) (.cons (vK F) (by kernel_rfl) (.nil))) [3] [] ?_))
    simp only [go_sem]
    repeat (refine ⟨by first | with_reducible assumption | omega | (intros; first | with_reducible assumption | omega) | (simp only [go_sem] at *; first | with_reducible assumption | omega) | decide, ?_⟩)
    obtain rfl := Option.some.inj h
    refine aC (cY (aAY hF [.cell 3 25] [] rfl rfl rfl rfl rfl rfl rfl rfl rfl ?_))
    (try simp only [aV, aDI, aC0, eG, oS, AV.isAgg, go_sem]) <;> first | trivial | rfl | (simp; done)
   ·try dsimp only at h
    refine aC (aB (bY hF (eA (l := [(239, ⟨mE F, [], (a0_0, a1_1, .inr p_27)⟩)]) (.cons (vK F) (by kernel_rfl) (.nil))) [3] [] ?_))
    simp only [go_sem]
    repeat (refine ⟨by first | with_reducible assumption | omega | (intros; first | with_reducible assumption | omega) | (simp only [go_sem] at *; first | with_reducible assumption | omega) | decide, ?_⟩)
    obtain rfl := Option.some.inj h
    refine nO (vE [] rfl rfl ?_)
    simp only [ren, fY, jC, posOf, dL, go_sem]
    refine sW rfl rfl rfl rfl
  ·try dsimp only at h
   refine aC (aB (bY hF (eA (l := [(233, ⟨eH F, [], (false, (1 : Int), .inr p_15)⟩)]) (.cons (gK F) (by kernel_rfl) (.nil))) [0, 1, 2, 3] [] ?_))
   simp only [go_sem]
   repeat (refine ⟨by first | with_reducible assumption | omega | (intros; first | with_reducible assumption | omega) | (simp only [go_sem] at *; first | with_reducible assumption | omega) | decide, ?_⟩)
   first | (refine ⟨fun hx => by first | (exfalso; omega) | (exfalso; simp_all; done), fun _ => ?_⟩) | intro _
   repeat (refine ⟨by first | with_reducible assumption | omega | (intros; first | with_reducible assumption | omega) | (simp only [go_sem] at *; first | with_reducible assumption | omega) | decide, ?_⟩)
   first | (refine ⟨fun hx => by first | (exfalso; omega) | (exfalso; simp_all; done), fun _ => ?_⟩) | intro _
   repeat (refine ⟨by first | with_reducible assumption | omega | (intros; first | with_reducible assumption | omega) | (simp only [go_sem] at *; first | with_reducible assumption | omega) | decide, ?_⟩)
   obtain rfl := Option.some.inj h
   refine nO (vE [] rfl rfl ?_)
   simp only [ren, fY, jC, posOf, dL, go_sem]
   refine sW rfl rfl rfl rfl
attribute [go_sem] gF
noncomputable def cR (F : Md) (c0 : (Bool × ((List Nat) × (Int × Unit)))) (c1 : (Bool × ((List Nat) × (Int × Unit)))) (c2 : Unit) : Option ((Bool × ((List Nat) × (Int × Unit))) × Int × Unit) :=
 (jI F c0 c1 c2).bind fun q => some (match q with | .inl r => (r, 0, ()) | .inr p => ((false, ([] : List Nat), (0 : Int), ()), p.1, ()))
def kZ : Ty := .pair (.clo 256 (.pair (.rp (.pair .bool (.pair (.sl (.u .u64)) (.pair (.i .i64) .unit)))) (.pair (.rp (.pair .bool (.pair (.sl (.u .u64)) (.pair (.i .i64) .unit)))) (.pair (.rp (.clo 239 .unit)) .unit)))) .unit
noncomputable def eB (F : Md) : aG := mSpec kZ (.tup (.pair (.pair .bool (.pair (.sl (.u .u64)) (.pair (.i .i64) .unit))) (.pair (.i .i64) .unit))) (fun x => cR F x.1.1 x.1.2.1 x.1.2.2.1)
set_option maxHeartbeats 4000000 in
theorem qP (F : Md) : FOK Tryz.prog GL 180 (eB F) := by
 refine aJK (bD aD4) Tryz.func180 rfl (by kernel_rfl) (by decide) fun w0 S x r hw h => ?_
 have hF : kB (fr Tryz.prog (EM []) S w0 Tryz.f180.ntmps) := ⟨bD aD4, mix⟩
 obtain ⟨⟨(c0 : (Bool × ((List Nat) × (Int × Unit)))), (c1 : (Bool × ((List Nat) × (Int × Unit)))), (c2 : Unit), u1⟩, u⟩ := x
 replace h : cR F c0 c1 c2 = some r := h
 show Tri _ _ _ [(0, .val (.clo 256 (.pair (.rp (.pair .bool (.pair (.sl (.u .u64)) (.pair (.i .i64) .unit)))) (.pair (.rp (.pair .bool (.pair (.sl (.u .u64)) (.pair (.i .i64) .unit)))) (.pair (.rp (.clo 239 .unit)) .unit)))) (c0, c1, c2, u1))] []
 unfold cR at h
 obtain ⟨q, hq, h⟩ := bind_some h
 obtain rfl := Option.some.inj h
 refine aB (aN hF [0, 2, 3] ?_)
 simp only [go_sem]
 refine aC (aDX 2 [0, 1] rfl rfl (Nat.zero_le _) (by decide) fun roots hroots => ?_)
 have hF' : kB { fr Tryz.prog (EM []) S w0 Tryz.f180.ntmps with M := ⟨nothing, S, 2, roots⟩, ds := [⟨.fn (.func 232) ([0, 1].map roots).toArray, #[]⟩] } := ⟨bD aD4, mix⟩
 rcases q with q | q
 ·refine aB (bY hF' (eA (l := [(256, ⟨gF F, [], (c0, c1, c2, .inl q)⟩)]) (.cons (qO F) (by kernel_rfl) .nil)) [2, 3] [] ?_)
  simp only [go_sem]
  refine ⟨hq, ?_⟩
  refine aC (cY ?_)
  refine aOI (fn := Tryz.f180) (k := 2) (l2 := [0, 1]) hF' rfl rfl (by decide) rfl (aFt (by kernel_rfl)) ⟨kT, [0, 1], (q, 0)⟩ aC6 rfl [.cell 2 25, .cell 3 3] rfl ?_ ?_
  ·(simp only [kT, go_sem]) <;> first | decide | trivial
  ·(simp only [kT, aV, iB, go_sem]) <;> first | decide | trivial
 ·refine aB (bY hF' (eA (l := [(256, ⟨gF F, [], (c0, c1, c2, .inr q)⟩)]) (.cons (qO F) (by kernel_rfl) .nil)) [2, 3] [] ?_)
  simp only [go_sem]
  refine ⟨hq, ?_⟩
  refine nO ?_
  refine aOJ (fn := Tryz.f180) (k := 2) (l2 := [0, 1]) hF' rfl rfl (by decide) rfl (aFt (by kernel_rfl)) ⟨kU q, [0, 1], ((false, ([] : List Nat), (0 : Int), ()), 0)⟩ (aC7 q) rfl [.cell 2 25, .cell 3 3] rfl ?_ ?_
  ·(simp only [kU, go_sem]) <;> first | decide | trivial
  ·(simp only [kU, aV, iB, go_sem]) <;> first | decide | trivial
attribute [go_sem] eB kZ
noncomputable def lH (F : Md) (a_0 : (Bool × ((List Nat) × (Int × Unit)))) (b_1 : (Bool × ((List Nat) × (Int × Unit)))) (do_2 : Unit) : Option ((Bool × ((List Nat) × (Int × Unit))) × (Int × Unit)) :=
 ck (((cR F a_0 b_1 do_2).isSome = true)) (some ((((cR F a_0 b_1 do_2).getD ((false, ([] : List Nat), (0 : Int), ()), (0 : Int), ())).1), ((((cR F a_0 b_1 do_2).getD ((false, ([] : List Nat), (0 : Int), ()), (0 : Int), ())).2).1), ()))
def lI : Ty := .pair (.pair .bool (.pair (.sl (.u .u64)) (.pair (.i .i64) .unit))) (.pair (.pair .bool (.pair (.sl (.u .u64)) (.pair (.i .i64) .unit))) (.pair (.clo 239 .unit) .unit))
attribute [go_sem] lI
noncomputable def kH (F : Md) : aG := mSpec lI (.tup (.pair (.pair .bool (.pair (.sl (.u .u64)) (.pair (.i .i64) .unit))) (.pair (.i .i64) .unit))) (fun x => lH F x.1 x.2.1 x.2.2.1)
noncomputable def oG (F : Md) : List (FuncId × aG) := [(180, (eB F))]
theorem uK (F : Md) : bI Tryz.prog GL (oG F) := .cons (qP F) (by kernel_rfl) (.nil)
theorem zT (F : Md) : gam (oG F) 180 = some (eB F) := rfl
attribute [go_sem] zT
set_option maxHeartbeats 4000000 in
theorem aBV (F : Md) : FOK Tryz.prog GL 238 (kH F) := by
 refine lS (bD (uK F)) Tryz.func238 rfl (by kernel_rfl) (by decide) fun w0 S x r hw h => ?_
 have hF : kB (fr Tryz.prog (EM (oG F)) S w0 Tryz.f238.ntmps) := ⟨bD (uK F), mix⟩
 obtain ⟨(a_0 : (Bool × ((List Nat) × (Int × Unit)))), (b_1 : (Bool × ((List Nat) × (Int × Unit)))), (do_2 : Unit), u⟩ := x
 simp only [lI, Ty.wf, mP] at hw
 simp only [bP, lI]
 try dsimp only at h
 replace h : lH F a_0 b_1 do_2 = some r := h
 unfold lH at h
 refine aB (aN hF [3, 4, 5, 6] ?_)
 simp only [go_sem]
 refine aC (aB (wB 0 rfl ?_))
 simp only [go_sem]
 refine wB 1 rfl ?_
 simp only [go_sem]
 refine wB 2 rfl ?_
 simp only [go_sem]
 refine aN hF [6, 7] ?_
 simp only [go_sem]
 obtain ⟨g0, h⟩ := aF h
 repeat (refine ⟨by first | with_reducible assumption | omega | (intros; first | with_reducible assumption | omega) | (simp only [go_sem] at *; first | with_reducible assumption | omega) | decide, ?_⟩)
 obtain rfl := Option.some.inj h
 refine aC (cY (fG hF [.cell 6 25, .tmp 7] rfl rfl rfl ?_))
 (try simp only [iB, aV, go_sem]) <;> first | rfl | (simp; done)
attribute [go_sem] kH
noncomputable def aBW (F : Md) (a_0 : (Bool × ((List Nat) × (Int × Unit)))) (b_1 : (Bool × ((List Nat) × (Int × Unit)))) : Option ((Bool × ((List Nat) × (Int × Unit))) × (Int × Unit)) :=
 (lH F a_0 b_1 ()).bind (fun v_4 => some ((v_4.1), ((v_4.2).1), ()))
def aHS : PlR := ⟨[(0, .B [2, 3, 4]), (1, .B [4, 5])], []⟩
def aKd : Ty := .pair (.pair .bool (.pair (.sl (.u .u64)) (.pair (.i .i64) .unit))) (.pair (.pair .bool (.pair (.sl (.u .u64)) (.pair (.i .i64) .unit))) .unit)
noncomputable def aAk (F : Md) : aG := mSpec aKd (.tup (.pair (.pair .bool (.pair (.sl (.u .u64)) (.pair (.i .i64) .unit))) (.pair (.i .i64) .unit))) (fun x => aBW F x.1 x.2.1)
noncomputable def aKe (F : Md) : List (FuncId × aG) := [(238, (kH F))]
theorem aN1 (F : Md) : bI Tryz.prog GL (aKe F) := .cons (aBV F) (by kernel_rfl) (.nil)
theorem aKf (F : Md) : gam (aKe F) 238 = some (kH F) := rfl
attribute [go_sem] aKd aHS aKf
set_option maxHeartbeats 4000000 in
theorem aNd (F : Md) : FOK Tryz.prog GL 201 (aAk F) := by
 refine bK (bD (aN1 F)) mix Tryz.func201 rfl (by kernel_rfl) (by decide) aHS fun w0 S x Θ hw h hF => ?_
 obtain ⟨(a_0 : (Bool × ((List Nat) × (Int × Unit)))), (b_1 : (Bool × ((List Nat) × (Int × Unit)))), u⟩ := x
 simp only [bP, go_sem]
 replace h : sat (aBW F a_0 b_1) _ := h
 unfold aBW at h
 obtain ⟨v_4, hv, h⟩ := aL h
 try simp only [hv, go_sem]
 exact aH hF [.cell 4 25, .tmp 5] rfl rfl rfl (aA h) (by simp only [aV, go_sem])
attribute [go_sem] aAk
end Nu
end Go.Proofs
